/- Joined. -/
import Derived.Test.YtggionfjlgfihaaGreatDoorI0
import Derived.Test.YtggionfjlgfihaaGreatDoorI9
import Derived.Test.YtggionfjlgfihaaGreatDoorI12
import Derived.Test.YtggionfjlgfihaaGreatDoorI7
import Derived.Test.YtggionfjlgfihaaGreatDoorI14
import Derived.Test.YtggionfjlgfihaaGreatDoorI8
import Derived.Test.YtggionfjlgfihaaGreatDoorI1
set_option linter.unusedVariables false
set_option linter.unusedSimpArgs false
set_option maxHeartbeats 16000000
namespace Go.Proofs.YtggionfjlgfihaaGreatDoor
open Go Go.Proofs Sy
def Xa.can (a:Xa):Xa:=a.re ⟨none,a.to.n,0⟩ ⟨none,a.wraps.n,0⟩
def Xd.can (c:Xd):Xd:={ c with acts:=⟨none,c.acts.n,0⟩,keys:=⟨none,c.keys.n,0⟩,actsL:=c.actsL.map Xa.can }
def actorB:ByteArray:=⟨#[97,99,116,111,114]⟩
def idC (i:Nat):Xd:={ Xd.zero with id:=idA21 i }
def draftB (i:Nat):Xa:={ draftV (idC i) 0 0 with text:=actorB,n:=(keyA i).p }
def actB (i:Nat):Xa:=actSignV (keyA i) (draftB i)
def beginC (i:Nat):Xd:={ idC i with acts:=⟨none,1,0⟩,keys:=⟨none,1,0⟩,prev:=digV (actB i),actsL:=[(actB i).can] }
section
variable {N:Nat} {av bor:List Nat} {w0:World} {E:Env} {loc:List Xk} {X:World→Prop}
end
structure BegI where
 k:Nat
 hk:k≤4
 L:List Xd
 hL:L.map Xd.can=(List.range k).map beginC
 xs:List Value
 hxs:xs=(L.map Xd.cells).flatten
 hb:∀ c∈L,Xt c.actsL∧c.actsL.length≤1
 A:Option Addr
 c:Nat
structure WishD where
 by_:Int
 do_:Int
 who:Int
 what:Int
 text:ByteArray
 time:Int
theorem tf (a:Xa):digV a.can=digV a:=gB rfl rfl
theorem fm (l:List Xa) (i:Nat):(l.map Xa.can).getD i Xa.zero=(l.getD i Xa.zero).can:=by
 rw [List.getD_eq_getElem?_getD,List.getD_eq_getElem?_getD,List.getElem?_map]
 cases l[i]?<;>rfl
theorem pN (l:List Xa) (d:ByteArray):idxV (l.map Xa.can) d=idxV l d:=by
 rw [idxV,idxV,List.findIdx?_map]
 exact congrArg (fun p=>l.findIdx? p) (funext fun a=>by
  show seqB (digV a.can) d=_
  rw [tf])
theorem uP (c:Xd) (a:Xa) (o:Option Nat):fitsV c.can a o=fitsV c a o:=by
 have h:∀ p,atK c.can o p=atK c o p:=fun p=>by
  cases o with
  | none=>rfl
  | some j =>
   show p ((c.actsL.map Xa.can).getD j Xa.zero).kind=p (c.actsL.getD j Xa.zero).kind
   rw [fm]
   rfl
 rw [fitsV,fitsV,h,h]
 rfl
theorem xI (c:Xd) (a:Xa) (o:Option Nat) {s1 s2:Xj} (h1:s1.n=a.to.n) (h2:s2.n=a.wraps.n):fitsV c (a.re s1 s2) o=fitsV c a o:=by
 rw [fitsV,fitsV,ew h1 h2]
 rfl
structure Xz where
 acts:List Xa
 keys:List Xl
 prev:ByteArray
 gen:Nat
structure Ee where
 L:List Xa
 id:ByteArray
 won:Nat→Option Xg
 clm:Int→Xg→Bool
 dgC:Xg→ByteArray
 ver:Int→Xa→Bool
 B:Nat
def Xz.key (st:Xz):Int:=(st.keys.getD (st.keys.length-1) Xl.zero).public_
def Xz.ch (st:Xz) (id:ByteArray):Xd:=⟨id,⟨none,st.acts.length,0⟩,⟨none,0,0⟩,st.prev,(st.gen:Int),false,st.acts⟩
def posB (n:Nat) (p:ByteArray) (a:Xa):Bool:=decide (a.seq=(n:Int))&&seqB a.prev p
def addS (st:Xz) (a:Xa):Xz:=⟨st.acts++[a],bif decide (a.kind=18) then st.keys++[⟨((st.acts.length+1:Nat):Int),a.n,a.m⟩] else st.keys,digV a,st.gen⟩
def setI (l:List Xa):Nat→Option Nat
 | 0=>none
 | n+1=>bif decide ((l.getD n Xa.zero).kind=19) then some n else setI l n
def regS (W:Ee) (st:Xz):Option Xz:=match W.won st.gen with
 | none=>none
 | some c=>bif decide (c.base=(st.acts.length:Int))&&seqB c.prev st.prev then (match setI st.acts st.acts.length with
  | none=>none
  | some i=>bif W.clm (st.acts.getD i Xa.zero).m c then some ⟨st.acts,st.keys++[⟨(st.acts.length:Nat),c.pub,c.home⟩],W.dgC c,st.gen+1⟩ else none) else none
def candB (W:Ee) (st:Xz) (a:Xa):Bool:=fitsV (st.ch W.id) a (idxV st.acts a.object)&&W.ver st.key a
def candL (W:Ee) (st:Xz):List Xa:=(W.L.filter (posB st.acts.length st.prev)).filter (candB W st)
def oneA:List Xa→Option Xa
 | [a]=>some a
 | _=>none
def stepS (W:Ee) (st:Xz):Option Xz:=match regS W st with
 | some s=>some s
 | none=>(oneA (candL W st)).map (addS st)
def runS (W:Ee):Nat→Xz→Xz
 | 0,st=>st
 | n+1,st=>match stepS W st with
  | some s=>runS W n s
  | none=>st
def firstB (W:Ee) (a:Xa):Bool:=decide (a.kind=0)&&seqB (idV a.n) W.id&&W.ver a.n a
def firstL (W:Ee):List Xa:=(W.L.filter (posB 0 ⟨#[]⟩)).filter (firstB W)
def begS (a:Xa):Xz:=addS ⟨[],[⟨0,a.n,a.m⟩],⟨#[]⟩,0⟩ a
def finS (W:Ee) (a:Xa):Xz:=runS W (W.L.length+W.B) (begS a)
structure InvS (W:Ee) (st:Xz):Prop where
 seq:∀ i,i<st.acts.length→∃ a∈W.L,a.seq=(i:Int)
 mem:∀ a∈st.acts,a∈W.L
 one:0<st.acts.length
 key:0<st.keys.length
 keyn:st.keys.length≤st.acts.length+st.gen+1
 gen:st.gen≤W.B
theorem jj:∀ {n:Nat} {l:List Int},(∀ i,i<n→(i:Int)∈l)→n≤l.length
 | 0,l,_=>Nat.zero_le _
 | n+1,l,h=>by
  have ih:=jj (n:=n) (l:=l.erase (n:Int)) fun i hi=>(List.mem_erase_of_ne aa).2 (h i aa)
  have hm:=h n (Nat.lt_succ_self n)
  rw [List.length_erase_of_mem hm] at ih
  have:0<l.length:=List.length_pos_of_mem hm
  omega
theorem InvS.len {W:Ee} {st:Xz} (h:InvS W st):st.acts.length≤W.L.length:=by
 have:=jj (n:=st.acts.length) (l:=W.L.map Xa.seq) fun i hi=>by
  obtain ⟨a,ha,e⟩:=h.seq i hi
  exact List.mem_map.2 ⟨a,ha,e⟩
 simpa using this
def muS (W:Ee) (st:Xz):Nat:=(W.L.length-st.acts.length)+(W.B-st.gen)
theorem gR {l:List Xa} {a:Xa} (h:oneA l=some a):l=[a]:=by
 cases l with
 | nil=>cases h
 | cons x r =>
  cases r with
  | nil=>rw [oneA,Option.some.injEq] at h;rw [h]
  | cons y r=>cases h
theorem mw {W:Ee} {st s:Xz} (h:regS W st=some s):∃ c,W.won st.gen=some c∧s.acts=st.acts∧s.gen=st.gen+1∧s.keys.length=st.keys.length+1:=by
 rw [regS] at h
 cases hw:W.won st.gen with
 | none=>rw [hw] at h;cases h
 | some c =>
  rw [hw] at h
  simp only at h
  cases hb:decide (c.base=(st.acts.length:Int))&&seqB c.prev st.prev with
  | false=>rw [hb] at h;cases h
  | true =>
   rw [hb] at h
   cases hs:setI st.acts st.acts.length with
   | none=>rw [hs] at h;cases h
   | some i =>
    rw [hs] at h
    simp only [cond_true] at h
    cases hc:W.clm (st.acts.getD i Xa.zero).m c with
    | false=>rw [hc] at h;cases h
    | true =>
     rw [hc,cond_true,Option.some.injEq] at h
     subst h
     exact ⟨c,rfl,rfl,rfl,by simp⟩
theorem lK {W:Ee} {st:Xz} {a:Xa} (h:a∈candL W st):a∈W.L∧a.seq=(st.acts.length:Int)∧candB W st a=true:=by
 rw [candL,List.mem_filter,List.mem_filter] at h
 have h2:=h.1.2
 simp only [posB,Bool.and_eq_true,decide_eq_true_eq] at h2
 exact ⟨h.1.1,h2.1,h.2⟩
theorem vk (st:Xz) (a:Xa):st.keys.length≤(addS st a).keys.length∧(addS st a).keys.length≤st.keys.length+1:=by
 simp only [addS]
 cases decide (a.kind=18) with
 | true=>simp
 | false=>simp
theorem oK {W:Ee} (hB:∀ g c,W.won g=some c→g<W.B) {st s:Xz} (h:InvS W st) (hs:stepS W st=some s):InvS W s∧muS W s+1≤muS W st:=by
 have hl:=h.len
 rw [stepS] at hs
 cases hr:regS W st with
 | some s' =>
  rw [hr,Option.some.injEq] at hs
  subst hs
  obtain ⟨c,h1,h2,h3,h4⟩:=mw hr
  have:=hB _ _ h1
  refine ⟨⟨by rw [h2];exact h.seq,by rw [h2];exact h.mem,by rw [h2];exact h.one,by omega,by rw [h2,h3];have:=h.keyn;omega,by omega⟩,?_⟩
  simp only [muS,h2,h3]
  omega
 | none =>
  rw [hr] at hs
  cases ho:oneA (candL W st) with
  | none=>rw [ho] at hs;cases hs
  | some a =>
   rw [ho,Option.map_some,Option.some.injEq] at hs
   subst hs
   have ha:a∈candL W st:=by rw [gR ho];exact List.mem_singleton.2 rfl
   obtain ⟨m1,m2,m3⟩:=lK ha
   have hk:=vk st a
   have hal:(addS st a).acts.length=st.acts.length+1:=by simp [addS]
   have hI:InvS W (addS st a):=⟨fun i hi=>by
     rw [hal] at hi
     by_cases e:i=st.acts.length
     · subst e;exact ⟨a,m1,m2⟩
     · exact h.seq i aa,fun x hx=>by
     rcases List.mem_append.1 (show x∈st.acts++[a] from hx) with hx|hx
     · exact h.mem x hx
     · rw [List.mem_singleton.1 hx];exact m1,by omega,by have:=h.key;omega,by rw [hal];have:=h.keyn;show _≤_+st.gen+1;omega,h.gen⟩
   refine ⟨hI,?_⟩
   have:=hI.len
   simp only [muS,hal] at *
   show _+(W.B-st.gen)+1≤_
   omega
theorem kQ {W:Ee} {st:Xz} (h:stepS W st=none):∀ n,runS W n st=st
 | 0=>rfl
 | n+1=>by rw [runS,h]
theorem oS {W:Ee} {st s:Xz} (h:stepS W st=some s) {n:Nat}:runS W (n+1) st=runS W n s:=by rw [runS,h]
theorem tk {W:Ee} {a:Xa} (ha:a∈firstL W):InvS W (begS a)∧muS W (begS a)+1≤W.L.length+W.B:=by
 rw [firstL,List.mem_filter,List.mem_filter] at ha
 have h2:=ha.1.2
 simp only [posB,Bool.and_eq_true,decide_eq_true_eq] at h2
 have h3:=ha.2
 simp only [firstB,Bool.and_eq_true,decide_eq_true_eq] at h3
 have hk:begS a=⟨[a],[⟨0,a.n,a.m⟩],digV a,0⟩:=by
  rw [begS,addS,h3.1.1]
  rfl
 have hL:0<W.L.length:=List.length_pos_of_mem ha.1.1
 rw [hk]
 refine ⟨⟨fun i hi=>⟨a,ha.1.1,by rw [h2.1,show i=0 from by simpa using hi]⟩,fun x hx=>by rw [List.mem_singleton.1 hx];exact ha.1.1,by simp,by simp,by simp,Nat.zero_le _⟩,?_⟩
 simp only [muS,List.length_singleton]
 omega
abbrev PosK:=Int×ByteArray
def posV (k:PosK):Value:=.agg #[.int .i64 k.1,.string k.2]
theorem kS (w:World) {cs:Array Value} {off:Nat} {v:Value} (h:cs[off]?=some v):(part 9 cs off).run Tryz.prog w=.ok v w:=by
 simp [part,isAgg,run_underlying Tryz.underlying9,h]
theorem xO (w:World) (d:Nat) (a b:ByteArray):(Op.equalIn (d+1) 9 (.string a) (.string b)).run Tryz.prog w=.ok (seqB a b) w:=by
 rw [run_equalIn_string w d _ a b Tryz.underlying9]
 rfl
theorem uc (w:World) (d:Nat) (a b:PosK):(Op.equalIn (d+2) 134 (posV a) (posV b)).run Tryz.prog w=.ok (decide (a=b)) w:=by
 have p0:∀ x:PosK,(part 3 #[.int .i64 x.1,.string x.2] 0).run Tryz.prog w=.ok (.int .i64 x.1) w:=fun x=>fH w rfl
 have p1:∀ x:PosK,(part 9 #[.int .i64 x.1,.string x.2] 1).run Tryz.prog w=.ok (.string x.2) w:=fun x=>kS w rfl
 unfold posV
 rw [run_equalIn_agg _ _ _ _ _ ac ac]
 simp only [Program.fieldsOf,Tryz.underlying134]
 simp [Op.eqFields,p0,p1,pY,xO]
 obtain ⟨a1,a2⟩:=a
 obtain ⟨b1,b2⟩:=b
 by_cases h1:a1=b1<;>cases h2:seqB a2 b2<;>simp [h1,h2]
 · exact fun e=>by rw [e,be] at h2;cases h2
 · exact seqB_iff.1 h2
instance posK:KeyS Tryz.prog 134 PosK where
 enc:=posV
 inj:=by
  rintro ⟨a,b⟩ ⟨c,d⟩ h
  simp [posV] at h
  simp [h]
 check:=by
  intro w e a
  have c0:(Instr.checkKey e 9999 3 (.int .i64 a.1)).run Tryz.prog w=.ok () w:=MapKept.run_checkKey (k:=.int .i64 a.1) Tryz.underlying3 (show IntKind.i64=IntKind.i64 from rfl) e 9998
  have c1:(Instr.checkKey e 9999 9 (.string a.2)).run Tryz.prog w=.ok () w:=MapKept.run_checkKey (k:=.string a.2) Tryz.underlying9 (show True from trivial) e 9998
  have p0:(part 3 #[.int .i64 a.1,.string a.2] 0).run Tryz.prog w=.ok (.int .i64 a.1) w:=fH w rfl
  have p1:(part 9 #[.int .i64 a.1,.string a.2] 1).run Tryz.prog w=.ok (.string a.2) w:=kS w rfl
  unfold posV Instr.checkKey
  simp [run_underlying Tryz.underlying134,Result.andThen,p0,p1,c0,c1]
 eq:=by
  intro w a b
  exact uc w 9998 a b
 ask:=by
  intro d a b h
  rw [Tryz.underlying134] at h
  cases h
  rfl
 stay:=by
  intro w a
  have hb:Instr.sameBits (9999+1) (posV a) (posV a)=true:=by simp [posV,Instr.sameBits,MapKept.bytes_beq]
  show (Instr.keyThatStays (posV a) (posV a)).run Tryz.prog w=.ok (posV a) w
  simp [Instr.keyThatStays,hb]
instance:TySMap Tryz.prog 128 134 64:=⟨ac⟩
structure BldH where
 ks:Xj
 ki:Xj
 id:ByteArray
 fork:Bool
 q1:Nat
 q2:Nat
 cl:Xg
 wn:Bool
def bldC (h:BldH) (sa sk:Xj) (prev:ByteArray) (gen:Int):List Value:=[h.ks.v,h.ki.v,.string h.id,.slice sa.p sa.n sa.c,.slice sk.p sk.n sk.c,.string prev,.int .i64 gen,.bool h.fork,.map (some h.q1),.map (some h.q2),.string h.cl.actor,.int .i64 h.cl.base,.string h.cl.prev,.int .i64 h.cl.gen,.int .i64 h.cl.home,.int .i64 h.cl.pub,.int .i64 h.cl.time,.int .i64 h.cl.e,.int .i64 h.cl.s,.bool h.wn]
def actR (s:Xj) (L:List Xa):Xk:=orow 37 20 (.slice s.p s.n s.c) s.n (L.map Xa.cells).flatten
def keyR (s:Xj) (L:List Xl):Xk:=orow 137 3 (.slice s.p s.n s.c) s.n (L.map Xl.cells).flatten
def bldR (b:Nat) (h:BldH) (sa sk:Xj) (st:Xz) (pl:List (ByteArray×Value)):List Xk:=[cel b 131 (bldC h sa sk st.prev (st.gen:Nat)),actR sa st.acts,keyR sk st.keys,mapr h.q2 pl]
def PlOk (pl:List (ByteArray×Value)) (l:List Xa):Prop:=∀ d,mget pl d=(idxV l d).map fun (j:Nat)=>Value.int .i64 (j:Int)
structure BldOk (sa sk:Xj) (st:Xz) (pl:List (ByteArray×Value)):Prop where
 hn:sa.n=st.acts.length
 hk:sk.n=st.keys.length
 hp:PlOk pl st.acts
def BldAt (b:Nat) (h:BldH) (st:Xz) (v u:Value) (R:List Xk):Prop:=u=v∧∃ (sa sk:Xj) (pl:List (ByteArray×Value)),BldOk sa sk st pl∧R=bldR b h sa sk st pl
theorem mL (l:List Xa) (x:Xa) (d:ByteArray):idxV (l++[x]) d=(idxV l d).or (bif seqB (digV x) d then some l.length else none):=by
 rw [idxV,idxV,List.findIdx?_append]
 congr 1
 rw [List.findIdx?_singleton]
 cases seqB (digV x) d with
 | true=>simp
 | false=>simp
theorem wO {pl:List (ByteArray×Value)} {l:List Xa} (h:PlOk pl l) {x:Xa} {j:Nat} (hj:idxV l (digV x)=some j):PlOk pl (l++[x]):=fun d=>by
 rw [mL,h d]
 cases hs:seqB (digV x) d with
 | true =>
  obtain rfl:=seqB_iff.1 hs
  rw [hj]
  rfl
 | false=>cases idxV l d<;>rfl
theorem wP {pl:List (ByteArray×Value)} {l:List Xa} (h:PlOk pl l) {x:Xa} (hj:idxV l (digV x)=none):PlOk (mput pl (digV x) (.int .i64 (l.length:Nat))) (l++[x]):=fun d=>by
 rw [fM,mL,eqbB]
 cases hs:seqB d (digV x) with
 | true =>
  obtain rfl:=seqB_iff.1 hs
  rw [hj,hs]
  rfl
 | false =>
  rw [mo (digV x) d,hs,h d]
  cases idxV l d<;>rfl
theorem yg (b:Nat) (h:BldH) (sa sk:Xj) (st:Xz) (pl:List (ByteArray×Value)) (ok:BldOk sa sk st pl) (a:Xa) (ha:a.Rng) (hs:a.Sm) (hl:st.acts.length≤1000000) (hl2:st.keys.length≤1000000) :
  Ct Tryz.prog 73 #[.pointer (some ⟨b,0,none⟩),a.v] (bldR b h sa sk st pl) (fun w=>a.at_ w∧Xf w) (fun u R _=>BldAt b h (addS st a) (.tuple #[]) u R):=by
 obtain ⟨hn,hk,hp⟩:=ok
 refine cX (args:=[_,_]) _ Tryz.func73 rfl Tryz.ntmps73 rfl fun av bor w0=>?_
 have hlk:=hp (digV a)
 unfold bldR actR keyR
 repeat' (first|refine gs ?_|refine gs1 fun _=>?_|(refine j9 (hp:=rfl) ?_)|(refine gp ?_ ?_<;>intro hx_ this)|fail)
 rename_i b1
 refine gW (ι:=Option Addr×Nat) (fun i=>⟨[(0,.pointer (some ⟨b,0,none⟩)),(3,.pointer (some ⟨b1,0,none⟩)),(4,.pointer (some ⟨b,2,none⟩)),(5,.int .i64 (sa.n:Nat))],[cel b1 37 a.cells,cel b 131 (bldC h ⟨i.1,sa.n+1,i.2⟩ sk st.prev (st.gen:Nat)),orow 37 20 (.slice i.1 (sa.n+1) i.2) (sa.n+1) ((st.acts.map Xa.cells).flatten++a.cells),orow 137 3 (.slice sk.p sk.n sk.c) sk.n (st.keys.map Xl.cells).flatten,mapr h.q2 pl],fun w=>a.at_ w∧Xf w⟩) ?_ fun i=>?_
 · (refine ao ⟨[0,1,2,3,5],[(4,⟨[],[(6,⟨[],[(7,⟨[8,9],[(10,⟨[],[]⟩)]⟩)]⟩)]⟩),(6,⟨[],[(4,⟨[],[(7,⟨[8,9],[(10,⟨[],[]⟩)]⟩)]⟩)]⟩)]⟩ [cel b1 37 a.cells] (fun w=>a.at_ w∧Xf w) (h:=?_))
   all_goals repeat' (first|refine gdz ?_|refine ay ?_ (h':=?_)|exact az|refine bL (size:=20) (vs:=[a.v]) (css:=a.cells) (hsz:=by rfl) (hcs:=by rfl) fun _=>?_|(refine fU ?_;refine aC (size:=20) (news:=a.cells) (q:=1) rfl rfl rfl rfl (fun _=>by (repeat (first|with_reducible exact At.here _|apply At.there))) (fun w G=>aU G aL rfl rfl 1) aa (by simp only [maxLen];omega) rfl ?_ rfl ?_;(first|with_reducible rfl|with_reducible assumption|with_reducible exact Bool.not_false|with_reducible exact Bool.not_true);intro A2 c2)|refine gs1 fun _=>?_|(refine gq ?_ ?_<;>intro hx_ this)|fail)
   all_goals exact ⟨(_,_),ae al (List.Sublist.cons _ (aj _)) fun w h=>h⟩
 obtain ⟨A2,c2⟩:=i
 simp only
 repeat' (first|refine gs ?_|refine gs1 fun _=>?_|(refine gp ?_ ?_<;>intro hx_ this)|fail)
 refine bm (hc:=iI a ha hs) fun v1 X1 h1=>?_
 obtain ⟨x',rfl,hdig,hr',hat⟩:=h1
 refine ag (hc:=fq x' hr') (hX:=fun w h=>⟨hat w h.2,h.1.2⟩) ?_
 rw [hdig]
 generalize hD:digV a=D at hlk
 refine bR ?_
 refine dG ?_
 refine ci ?_
 apply bz
 apply cw_seq
 refine gW (ι:={ pl':List (ByteArray×Value) // PlOk pl' (st.acts++[a]) }) (fun i=>⟨[(3,.pointer (some ⟨b1,0,none⟩)),(4,.pointer (some ⟨b,2,none⟩)),(5,.int .i64 (sa.n:Nat))],[cel b1 37 a.cells,cel b 131 (bldC h ⟨A2,sa.n+1,c2⟩ sk D (st.gen:Nat)),orow 37 20 (.slice A2 (sa.n+1) c2) (sa.n+1) ((st.acts.map Xa.cells).flatten++a.cells),orow 137 3 (.slice sk.p sk.n sk.c) sk.n (st.keys.map Xl.cells).flatten,mapr h.q2 i.1],fun w=>a.at_ w∧Xf w⟩) ?_ fun i=>?_
 · have hpn:=fun hj=>wP hp (x:=a) hj
   have hpo:=fun j hj=>wO hp (x:=a) (j:=j) hj
   rw [hD] at hpn hpo
   cases hj:idxV st.acts D with
   | none =>
    rw [hj] at hlk
    apply cw_seq
    (refine ao ⟨[0,1,2,3,4,5,6,7],[(8,⟨[9,10,11,12,13],[]⟩)]⟩ [cel b1 37 a.cells,cel b 131 (bldC h ⟨A2,sa.n+1,c2⟩ sk D (st.gen:Nat)),orow 37 20 (.slice A2 (sa.n+1) c2) (sa.n+1) ((st.acts.map Xa.cells).flatten++a.cells),orow 137 3 (.slice sk.p sk.n sk.c) sk.n (st.keys.map Xl.cells).flatten,mapr h.q2 pl] (fun w=>(a.at_ w∧Xf w)∧X1 w) (h:=?_))
    all_goals repeat' (first|refine gdz ?_|refine ay ?_ (h':=?_)|exact az|(refine bF (κ:=ByteArray) (kk:=D) (b:=false) (v:=.int .i64 0) (hl:=dD aL) (ho:=hlk) ?_)|refine gs1 fun _=>?_|(refine gq ?_ ?_<;>intro hx_ this)|fail)
    all_goals
     repeat' (first|refine gs ?_|refine gs1 fun _=>?_|(refine gp ?_ ?_<;>intro hx_ this)|fail)
     (refine ao ⟨[0,1,2,3,4,5,6,7,8],[(9,⟨[],[]⟩)]⟩ [cel b1 37 a.cells,cel b 131 (bldC h ⟨A2,sa.n+1,c2⟩ sk D (st.gen:Nat)),orow 37 20 (.slice A2 (sa.n+1) c2) (sa.n+1) ((st.acts.map Xa.cells).flatten++a.cells),orow 137 3 (.slice sk.p sk.n sk.c) sk.n (st.keys.map Xl.cells).flatten] (fun w=>(a.at_ w∧Xf w)∧X1 w) (h:=?_))
     all_goals repeat' (first|refine gdz ?_|refine ay ?_ (h':=?_)|exact az|(refine fe (κ:=ByteArray) (kk:=D) (v:=.int .i64 (sa.n:Nat)) ?_)|refine gs1 fun _=>?_|(refine gq ?_ ?_<;>intro hx_ this)|fail)
     all_goals exact ⟨⟨mput pl D (.int .i64 (sa.n:Nat)),by rw [hn];exact hpn hj⟩,ae al (aj _) fun w h=>h.1⟩
   | some j =>
    rw [hj] at hlk
    apply cw_seq
    (refine ao ⟨[0,1,2,3,4,5,6,7],[(8,⟨[9,10,11,12,13],[]⟩)]⟩ [cel b1 37 a.cells,cel b 131 (bldC h ⟨A2,sa.n+1,c2⟩ sk D (st.gen:Nat)),orow 37 20 (.slice A2 (sa.n+1) c2) (sa.n+1) ((st.acts.map Xa.cells).flatten++a.cells),orow 137 3 (.slice sk.p sk.n sk.c) sk.n (st.keys.map Xl.cells).flatten,mapr h.q2 pl] (fun w=>(a.at_ w∧Xf w)∧X1 w) (h:=?_))
    all_goals repeat' (first|refine gdz ?_|refine ay ?_ (h':=?_)|exact az|(refine bF (κ:=ByteArray) (kk:=D) (b:=true) (v:=.int .i64 (j:Nat)) (hl:=dD aL) (ho:=hlk) ?_)|refine gs1 fun _=>?_|(refine gq ?_ ?_<;>intro hx_ this)|fail)
    all_goals
     repeat' (first|refine gs ?_|refine gs1 fun _=>?_|(refine gp ?_ ?_<;>intro hx_ this)|fail)
     exact ⟨⟨pl,hpo j hj⟩,ae al (aj _) fun w h=>h.1⟩
 obtain ⟨pl',hpl'⟩:=i
 simp only
 clear hp hlk hdig hr' hat
 have hfl:((st.acts++[a]).map Xa.cells).flatten=(st.acts.map Xa.cells).flatten++a.cells:=by simp
 by_cases hk18:a.kind=18
 · have hst:addS st a=⟨st.acts++[a],st.keys++[⟨((sa.n+1:Nat):Int),a.n,a.m⟩],D,st.gen⟩:=by rw [addS,hk18,hD,hn];rfl
   have hfk:((st.keys++[(⟨((sa.n+1:Nat):Int),a.n,a.m⟩:Xl)]).map Xl.cells).flatten=(st.keys.map Xl.cells).flatten++Xl.cells ⟨((sa.n+1:Nat):Int),a.n,a.m⟩:=by simp
   repeat' (first|refine bp (hab:=hk18) ?_|refine gs ?_|refine gs1 fun _=>?_|(refine gp ?_ ?_<;>intro hx_ this)|fail)
   (refine ao ⟨[0,1,2,3,5,6,7,8,9,10,11],[(4,⟨[],[(12,⟨[],[(13,⟨[14,15],[(16,⟨[],[]⟩)]⟩)]⟩)]⟩),(12,⟨[],[(4,⟨[],[(13,⟨[14,15],[(16,⟨[],[]⟩)]⟩)]⟩)]⟩)]⟩ [cel b1 37 a.cells] (fun w=>a.at_ w∧Xf w) (h:=?_))
   all_goals repeat' (first|refine gdz ?_|refine ax (hsub:=by exact aF) (hy:=by first|(apply dp (cs:=Xl.cells ⟨((sa.n+1:Nat):Int),a.n,a.m⟩);rfl;rfl)) ?_|refine ay ?_ (h':=?_)|exact az|refine bL (size:=3) (vs:=[Xl.v ⟨((sa.n+1:Nat):Int),a.n,a.m⟩]) (css:=Xl.cells ⟨((sa.n+1:Nat):Int),a.n,a.m⟩) (hsz:=by rfl) (hcs:=by rfl) fun _=>?_|(refine fU ?_;refine aC (size:=3) (news:=Xl.cells ⟨((sa.n+1:Nat):Int),a.n,a.m⟩) (q:=1) rfl rfl rfl rfl (fun _=>by (repeat (first|with_reducible exact At.here _|apply At.there))) (fun w G=>aU G aL rfl rfl 1) aa (by simp only [maxLen];omega) rfl ?_ rfl ?_;(first|with_reducible rfl|with_reducible assumption|with_reducible exact Bool.not_false|with_reducible exact Bool.not_true);intro A3 c3)|refine gs1 fun _=>?_|(refine gq ?_ ?_<;>intro hx_ this)|fail)
   all_goals
    refine aI (aA rfl) ⟨_,List.Sublist.cons _ (List.Sublist.cons _ (aj _)),rfl,⟨A2,sa.n+1,c2⟩,⟨A3,sk.n+1,c3⟩,pl',⟨?_,?_,?_⟩,?_⟩
    · rw [hst,List.length_append,hn];rfl
    · rw [hst,List.length_append,hk];rfl
    · rw [hst];exact hpl'
    · rw [hst]
      unfold bldR actR keyR
      rw [hfl,hfk]
      rfl
 · repeat' (first|refine bo (hab:=hk18) ?_|refine gs ?_|refine gs1 fun _=>?_|(refine gp ?_ ?_<;>intro hx_ this)|fail)
   have hst:addS st a=⟨st.acts++[a],st.keys,D,st.gen⟩:=by rw [addS,hD,decide_eq_false hk18];rfl
   refine aI (aA rfl) ⟨_,List.Sublist.cons _ (aj _),rfl,⟨A2,sa.n+1,c2⟩,sk,pl',⟨?_,?_,?_⟩,?_⟩
   · rw [hst,List.length_append,hn];rfl
   · rw [hst,hk]
   · rw [hst];exact hpl'
   · rw [hst]
     unfold bldR actR keyR
     rw [hfl]
end Go.Proofs.YtggionfjlgfihaaGreatDoor
namespace Go.Proofs.YtggionfjlgfihaaGreatDoor
open Go Go.Proofs Sy
def BldH.look (h:BldH) (o:Option Xg):BldH:={ h with cl:=o.getD Xg.zero,wn:=o.isSome }
def bldCel (b:Nat) (h:BldH) (sa sk:Xj) (st:Xz):Xk:=cel b 131 (bldC h sa sk st.prev (st.gen:Nat))
theorem sD (b:Nat) (h:BldH) (sa sk:Xj) (st:Xz) (o:Option Xg) (Y:World→Prop)
  (hwon:Pu Tryz.prog 133 #[.agg #[h.ks.v,h.ki.v],.string h.id,.int .i64 (st.gen:Nat)] Y (.tuple #[(o.getD Xg.zero).v,.bool o.isSome])) :
  Ct Tryz.prog 74 #[.pointer (some ⟨b,0,none⟩)] [bldCel b h sa sk st] Y (fun u R _=>u=.tuple #[]∧R=[bldCel b (h.look o) sa sk st]):=by
 refine cX (args:=[_]) _ Tryz.func74 rfl Tryz.ntmps74 rfl fun av bor w0=>?_
 unfold bldCel
 generalize hc:o.getD Xg.zero=c at hwon
 generalize hi:o.isSome=i at hwon
 have hL:h.look o={ h with cl:=c,wn:=i }:=by rw [BldH.look,hc,hi]
 rw [hL]
 (refine ao ⟨[0,1,2,3,4,6,7,8,9,11,12,13,14],[(5,⟨[],[(10,⟨[],[(15,⟨[],[(16,⟨[17,18,19,20,21],[(22,⟨[23,24],[(25,⟨[],[]⟩)]⟩)]⟩)]⟩)]⟩),(15,⟨[],[(10,⟨[],[(16,⟨[17,18,19,20,21],[(22,⟨[23,24],[(25,⟨[],[]⟩)]⟩)]⟩)]⟩)]⟩)]⟩),(10,⟨[],[(5,⟨[],[(15,⟨[],[(16,⟨[17,18,19,20,21],[(22,⟨[23,24],[(25,⟨[],[]⟩)]⟩)]⟩)]⟩)]⟩),(15,⟨[],[(5,⟨[],[(16,⟨[17,18,19,20,21],[(22,⟨[23,24],[(25,⟨[],[]⟩)]⟩)]⟩)]⟩)]⟩)]⟩),(15,⟨[],[(5,⟨[],[(10,⟨[],[(16,⟨[17,18,19,20,21],[(22,⟨[23,24],[(25,⟨[],[]⟩)]⟩)]⟩)]⟩)]⟩),(10,⟨[],[(5,⟨[],[(16,⟨[17,18,19,20,21],[(22,⟨[23,24],[(25,⟨[],[]⟩)]⟩)]⟩)]⟩)]⟩)]⟩)]⟩ [] (fun w=>Y w) (h:=?_))
 all_goals repeat' (first|(refine ag (hc:=hwon) ?_)|refine gd ?_|refine ay ?_ (h':=?_)|exact az|(refine aB (vs:=[h.ks.v,h.ki.v]) (hv:=rfl) ?_)|(refine di (bldC { h with cl:=c } sa sk st.prev (st.gen:Nat)) (h:=?_))|(refine di (bldC { h with cl:=c,wn:=i } sa sk st.prev (st.gen:Nat)) (h:=?_))|(refine gq ?_ ?_<;>intro hx_ this)|fail)
 all_goals exact aI (aA rfl) ⟨_,aj _,rfl,rfl⟩
namespace Sy
section
variable {P:Program} {N:Nat} {av bor:List Nat} {w0:World} {st:St} {t:TypeId} {ty:TypeId} {x:Operand}
theorem fA {e size m i c j:Nat} [h:Xy P t] {A:Option Addr} {xs:List (List Value)} {cs:List Value} {u:Value} (hx:ev st.env x=some (elP A (i*size+j))) (hm:orow e size (.slice A m c) m xs.flatten∈st.loc) (hn:m=xs.length) (hs:∀ r∈xs,r.length=size) (hi:xs[i]?=some cs) (hj:cs[j]?=some u) :
  Yields P N av bor w0 st (.load t x) ty u:=Sy.Yields.mk fun B w ok d pos af g=>by
 have hr:=aV (ok.gam.here _ hm).now hn hs
 obtain ⟨h1,hp,hc⟩:=Xe.row hr i cs hi
 obtain ⟨a,rfl⟩:=Option.isSome_iff_exists.1 hp
 simp [execOp,ok.eval hx,elP,Instr.loadAt,Instr.sureAddr,loadVar,(bI h.out w).1,(hc j u hj).2 a rfl]
theorem du [h:Xy P t] {bl j:Nat} {v:Value} (hx:ev st.env x=some (.pointer (some ⟨bl,j,none⟩))) (hF:∀ w,st.ext w→w.cell? ⟨bl,j,none⟩=some v):Yields P N av bor w0 st (.load t x) ty v:=Sy.Yields.mk fun B w ok d pos af g=>by
 simp [execOp,ok.eval hx,Instr.loadAt,Instr.sureAddr,loadVar,(bI h.out w).1,hF w ok.gam.keep.now]
end
end Sy
def CelD (b:Nat) (cs:List Value) (w:World):Prop:=∀ j v,cs[j]?=some v→w.cell? ⟨b,j,none⟩=some v
theorem ei {b T:Nat} {cs:List Value} {w:World} (h:(cel b T cs).F w):CelD b cs w:=fun j v hj=>by
 have h1:w.heap[b]?=some (.cells cs.toArray T (0,0)):=h
 simp [World.cell?,h1,hj]
theorem xX (b b1:Nat) (h:BldH) (sa sk:Xj) (st:Xz) (pl:List (ByteArray×Value)) (hp:PlOk pl st.acts) (d:ByteArray) :
  Pu Tryz.prog 136 #[.string d,.pointer (some ⟨b1,0,none⟩)] (fun w=>CelD b1 [.pointer (some ⟨b,0,none⟩)] w∧CelD b (bldC h sa sk st.prev (st.gen:Nat)) w∧MapAt w h.q2 pl) (idxP (idxV st.acts d)):=by
 refine ar Tryz.func136 Tryz.ntmps136 fun av bor w0=>?_
 have hlk:=hp d
 cases hj:idxV st.acts d with
 | none =>
  rw [hj] at hlk
  repeat' (first|refine gs ?_|(refine ak (du rfl (fun w h=>h.1 0 _ rfl)) rfl rfl rfl ?_)|(refine ak (du rfl (fun w h=>h.2.1 9 _ rfl)) rfl rfl rfl ?_)|(refine bF (κ:=ByteArray) (kk:=d) (b:=false) (v:=.int .i64 0) (hl:=ke fun w h=>h.2.2) (ho:=hlk) ?_)|(refine gp ?_ ?_<;>intro hx_ this)|fail)
  exact ab (dy rfl rfl rfl) rfl
 | some j =>
  rw [hj] at hlk
  repeat' (first|refine gs ?_|(refine ak (du rfl (fun w h=>h.1 0 _ rfl)) rfl rfl rfl ?_)|(refine ak (du rfl (fun w h=>h.2.1 9 _ rfl)) rfl rfl rfl ?_)|(refine bF (κ:=ByteArray) (kk:=d) (b:=true) (v:=.int .i64 (j:Nat)) (hl:=ke fun w h=>h.2.2) (ho:=hlk) ?_)|(refine gp ?_ ?_<;>intro hx_ this)|fail)
  exact ab (dy rfl rfl rfl) rfl
end Go.Proofs.YtggionfjlgfihaaGreatDoor
namespace Go.Proofs.YtggionfjlgfihaaGreatDoor
open Go Go.Proofs Sy
structure Eg where
 rank:Int
 dg:ByteArray
 a:Xa
def Eg.cells (f:Eg):List Value:=.int .i64 f.rank::.string f.dg::f.a.cells
def fndR (s:Xj) (P:List Eg):Xk:=orow 242 22 (.slice s.p s.n s.c) s.n (P.map Eg.cells).flatten
theorem zw (P:List Eg):∀ r∈P.map Eg.cells,r.length=22:=fun r hr=>by
 obtain ⟨c,_,rfl⟩:=List.mem_map.1 hr
 rfl
def cmpA:Value:=.func (.func 187) #[] #[]
def PermA (s:Xj) (P:List Eg) (u:Value) (R:List Xk) (X:World→Prop):Prop:=u=.tuple #[]∧∃ Q:List Eg,Q.Perm P∧R=[fndR s Q]
def SortA (n:Nat):Prop:=∀ (s:Xj) (P:List Eg),s.n=P.length→P.length≤n→Ct Tryz.prog 186 #[s.v,cmpA] [fndR s P] (fun _=>True) (PermA s P)
theorem xA (s:Xj) (P:List Eg) (hs:s.n=P.length) (h1:P.length≤1):Ct Tryz.prog 221 #[s.v,.int .i64 0,.int .i64 (s.n:Nat),cmpA] [fndR s P] (fun _=>True) (PermA s P):=by
 refine bT Tryz.func221 Tryz.ntmps221 fun av bor w0=>?_
 repeat' (first|refine gs ?_|fail)
 refine am (ι:=Unit) (fun _=>⟨[(2,.int .i64 (s.n:Nat)),(8,.int .i64 1)],[fndR s P],fun _=>True⟩) (fun _=>0) () (ae al (aj _) fun _ h=>h) fun _=>?_
 repeat' (first|refine gs ?_|(refine gp ?_ ?_<;>intro hx_ this)|fail)
 all_goals first
  | (exfalso;omega)
  | exact aI (aA rfl) ⟨rfl,P,List.Perm.refl _,rfl⟩
theorem tS (s:Xj) (P:List Eg) (hs:s.n=P.length) (h1:P.length≤1):Ct Tryz.prog 207 #[s.v,.int .i64 (s.n:Nat),cmpA] [fndR s P] (fun _=>True) (PermA s P):=by
 refine bT Tryz.func207 Tryz.ntmps207 fun av bor w0=>?_
 repeat' (first|refine gs ?_|fail)
 refine am (ι:=Unit) (fun _=>⟨[(0,s.v),(1,.int .i64 (s.n:Nat)),(2,cmpA),(6,.int .i64 20),(7,.int .i64 0),(8,.int .i64 20)],[fndR s P],fun _=>True⟩) (fun _=>0) () (ae al (aj _) fun _ h=>h) fun _=>?_
 repeat' (first|refine gs ?_|(refine gp ?_ ?_<;>intro hx_ this)|fail)
 · exfalso;omega
 refine aZ (pre:=[fndR s P]) (fr:=[]) (first:=#[]) (caps:=#[]) (hc:=xA s P hs h1) (hX:=fun _ _=>trivial) (h:=?_)
 rintro v R X' ⟨rfl,Q,hQ,rfl⟩
 repeat' (first|refine gs ?_|fail)
 refine am (ι:=Unit) (fun _=>⟨[(1,.int .i64 (s.n:Nat)),(6,.int .i64 20)],[fndR s Q],fun _=>True⟩) (fun _=>0) () (ae al (aj _) fun _ h=>trivial) fun _=>?_
 repeat' (first|refine gs ?_|(refine gp ?_ ?_<;>intro hx_ this)|fail)
 · exfalso;omega
 exact aI (aA rfl) ⟨rfl,Q,hQ,rfl⟩
theorem tV:SortA 1:=fun s P hs h1=>by
 refine bT Tryz.func186 Tryz.ntmps186 fun av bor w0=>?_
 repeat' (first|refine gs ?_|fail)
 refine aZ (pre:=[fndR s P]) (fr:=[]) (first:=#[]) (caps:=#[]) (hc:=tS s P hs h1) (hX:=fun _ _=>trivial) (h:=?_)
 rintro v R X' ⟨rfl,Q,hQ,rfl⟩
 repeat' (first|refine gs ?_|fail)
 exact aI (aA rfl) ⟨rfl,Q,hQ,rfl⟩
theorem cF {P:Program} {fn:Func} {N t u u2 ty n:Nat} {s:St} {b T:Nat} {cs:List Value} {x y:Value} [hI:Xs P ty n] (hr:fn.results=#[.cell t ty,.tmp u,.tmp u2]) (h:Sy.look s.env t=some (.pointer (some ⟨b,0,none⟩))) (h':Sy.look s.env u=some x) (h2':Sy.look s.env u2=some y) (hm:cel b T cs∈s.loc) (hn:cs.length=n) :
  Res1 P fn N s (.tuple #[.agg cs.toArray,x,y]):=fun av bor w0 a w ok=>by
 obtain ⟨D,h1,h2,h3⟩:=ck hI.out
 have ht:=ok.env t _ h
 have hu:=ok.env u _ h'
 have hu2:=ok.env u2 _ h2'
 have:(loadVar ty ⟨b,0,none⟩).run P w=.ok (.agg cs.toArray) w:=by
  cases D<;>simp at h2
  · exact run_loadVar_row w b T ty cs.toArray (0,0) _ (dX ok hm) h1 rfl (by rw [h3];simp [hn])
  · exact run_loadVar_row w b T ty cs.toArray (0,0) _ (dX ok hm) h1 rfl (by rw [h3];simp [hn])
 simp [results,hr,ht,hu,hu2,asAddr,this]
def wantA (au:ByteArray) (it:Xb):Bool:=decide (it.kind=0)&&seqB it.act.author au
theorem vL (bW:Nat) (au:ByteArray) (it:Xb):Pu Tryz.prog 132 #[it.v,.pointer (some ⟨bW,0,none⟩)] (CelD bW [.string au]) (.tuple #[it.act.v,.int .i64 it.act.seq,.bool (wantA au it)]):=by
 refine ar Tryz.func132 Tryz.ntmps132 fun av bor w0=>?_
 repeat' (first|refine gs ?_|refine gs1 fun _=>?_|(refine gp ?_ ?_<;>intro hx_ this)|fail)
 rename_i b2 b3
 by_cases h0:it.kind=0
 · (refine ao ⟨[0,1,2,3,4,5,6,7,8,9,10,11,12,13,14],[(15,⟨[16,17],[]⟩)]⟩ [cel b2 45 it.cells] (CelD bW [.string au]) (h:=?_))
   all_goals repeat' (first|refine ax (hsub:=by exact aF) (hy:=by first|(apply d2 true;rfl;rfl;exact decide_eq_true h0)) ?_|refine gdz ?_|refine ax (hsub:=by exact aF) (hy:=by first|(apply da (vs:=it.act.cells);rfl;exact .head _;rfl;rfl)|(apply du;rfl;exact (fun w h=>h 0 _ rfl))) ?_|refine ay ?_ (h':=?_)|exact az|refine gs1 fun _=>?_|(refine gq ?_ ?_<;>intro hx_ this)|fail)
   all_goals
    repeat' (first|refine gs ?_|refine gs1 fun _=>?_|(refine gp ?_ ?_<;>intro hx_ this)|fail)
    exact ab (cF rfl rfl rfl rfl (.head _) rfl) (by rw [wantA,decide_eq_true h0];rfl)
 · (refine ao ⟨[0,1,2,3,4,5,6,7,8,9,10,11,12,13,14],[(15,⟨[16,17],[]⟩)]⟩ [cel b2 45 it.cells] (CelD bW [.string au]) (h:=?_))
   all_goals repeat' (first|refine ax (hsub:=by exact aF) (hy:=by first|(apply d2 false;rfl;rfl;exact decide_eq_false h0)) ?_|refine gdz ?_|refine ax (hsub:=by exact aF) (hy:=by first|(apply da (vs:=it.act.cells);rfl;exact .head _;rfl;rfl)|(apply du;rfl;exact (fun w h=>h 0 _ rfl))) ?_|refine ay ?_ (h':=?_)|exact az|refine gs1 fun _=>?_|(refine gq ?_ ?_<;>intro hx_ this)|fail)
   all_goals
    repeat' (first|refine gs ?_|refine gs1 fun _=>?_|(refine gp ?_ ?_<;>intro hx_ this)|fail)
    exact ab (cF rfl rfl rfl rfl (.head _) rfl) (by rw [wantA,decide_eq_false h0];rfl)
def fndOf (dI:Xb→ByteArray) (it:Xb):Eg:=⟨it.act.seq,dI it,it.act⟩
def selB (au:ByteArray) (rI:Xb→Bool) (it:Xb):Bool:=wantA au it&&rI it
def selF (au:ByteArray) (rI:Xb→Bool) (dI:Xb→ByteArray) (I:List Xb):List Eg:=(I.filter (selB au rI)).map (fndOf dI)
def selA (au:ByteArray) (rI:Xb→Bool) (I:List Xb):List Xa:=(I.filter (selB au rI)).map Xb.act
theorem AD (au:ByteArray) (rI:Xb→Bool) (dI:Xb→ByteArray) (I:List Xb):(selF au rI dI I).map Eg.a=selA au rI I:=by rw [selF,selA,List.map_map];rfl
structure PikI (I:List Xb) (au:ByteArray) (rI:Xb→Bool) (dI:Xb→ByteArray) where
 k:Nat
 hk:k≤I.length
 A:Option Addr
 c:Nat
 n:Nat
 hn:n=(selF au rI dI (I.take k)).length
 xs:List Value
 hxs:xs=((selF au rI dI (I.take k)).map Eg.cells).flatten
structure ValI (Q:List Eg) where
 k:Nat
 hk:k≤Q.length
 A:Option Addr
 c:Nat
 xs:List Value
 hxs:xs=((Q.take k).map fun f=>f.a.cells).flatten
def wantV (bW:Nat):Value:=.func (.func 132) #[] #[.pointer (some ⟨bW,0,none⟩)]
theorem wR (ks ki:Xj) (I:List Xb) (bW:Nat) (au:ByteArray) (rI:Xb→Bool) (dI:Xb→ByteArray)
  (hR:∀ it∈I,Pu Tryz.prog 23 #[it.v] (fun w=>it.at_ w) (.bool (rI it)))
  (hD:∀ it∈I,Pu Tryz.prog 19 #[it.v] (fun w=>it.at_ w∧Xf w) (.string (dI it)))
  (hI:I.length≤1000) (hsort:SortA I.length) :
  Mk Tryz.prog 131 #[.agg #[ks.v,ki.v],wantV bW] (fun w=>(Items w ki I∧CelD bW [.string au] w)∧Xf w)
   (fun u X'=>∃ (s:Xj) (L:List Xa),u=s.v∧L.Perm (selA au rI I)∧∀ w,X' w→Acts w s L):=by
 refine cC Tryz.func131 Tryz.ntmps131 fun av bor w0=>?_
 refine aH (p:=ki.n=I.length∧ki.n≤maxLen∧(0<I.length→ki.p.isSome=true)) (fun w h=>⟨h.1.1.len_,h.1.1.max_,h.1.1.some_⟩) fun ⟨hkn,hkm,hkp⟩=>?_
 simp only [maxLen] at hkm
 repeat' (first|refine gs ?_|refine gs1 fun _=>?_|fail)
 rename_i b2
 refine bA 242 22 ?_
 refine am (ι:=PikI I au rI dI) (fun i=>⟨[(1,wantV bW),(5,.slice i.A i.n i.c),(15,ki.v),(16,.int .i64 (ki.n:Nat)),(17,.int .i64 (i.k:Nat))],[orow 242 22 (.slice i.A i.n i.c) i.n i.xs],fun w=>(Items w ki I∧CelD bW [.string au] w)∧Xf w⟩) (fun i=>I.length-i.k) ⟨0,Nat.zero_le _,none,0,0,rfl,[],rfl⟩ (ae al (.cons_cons _ (List.nil_sublist _)) fun _ h=>h) fun i=>?_
 obtain ⟨k,hk,A,c,n,hn,xs,hxs⟩:=i
 simp only
 repeat' (first|refine gs ?_|refine gs1 fun _=>?_|(refine gp ?_ ?_<;>intro hx_ this)|fail)
 · have hlt:k<I.length:=by omega
   have hkp':=hkp aa
   obtain ⟨it,hit⟩:∃ it,I[k]?=some it:=⟨_,List.getElem?_eq_getElem hlt⟩
   have him:=List.mem_of_getElem? hit
   have hnl:n≤1000:=by
    rw [hn,selF,List.length_map]
    exact Nat.le_trans (List.length_filter_le _ _) (by rw [List.length_take];omega)
   repeat' (first|refine gs ?_|refine gs1 fun _=>?_|(refine aE (q:=k*49) ?_)|(refine aS (cs:=it.cells) (hF:=fun w h=>h.1.1.get hit) ?_)|(refine gp ?_ ?_<;>intro hx_ this)|fail)
   rename_i b7
   have hri:=hR it him
   have hdi:=hD it him
   have hwa:=vL bW au it
   have htk:selF au rI dI (I.take (k+1))=selF au rI dI (I.take k)++(bif selB au rI it then [fndOf dI it] else []):=by
    rw [selF,selF,List.take_add_one,hit,List.filter_append,List.map_append,Option.toList_some]
    congr 1
    cases hb:selB au rI it with
    | true=>simp [hb]
    | false=>simp [hb]
   cases hwt:wantA au it with
   | false =>
    rw [hwt] at hwa
    have hno:selF au rI dI (I.take (k+1))=selF au rI dI (I.take k):=by rw [htk,selB,hwt];exact List.append_nil _
    refine dH (args:=[it.v]) (all:=[it.v,.pointer (some ⟨bW,0,none⟩)]) (first:=#[]) (caps:=#[.pointer (some ⟨bW,0,none⟩)]) (hx:=rfl) (ha:=rfl) (hall:=rfl) (hc:=hwa) (hX:=fun w h=>h.1.2) (h:=?_)
    repeat' (first|refine gs ?_|refine gs1 fun _=>?_|(refine gp ?_ ?_<;>intro hx_ this)|fail)
    exact ⟨(⟨k+1,hlt,A,c,n,by rw [hno];exact hn,xs,by rw [hno];exact hxs⟩:PikI I au rI dI),(by show I.length-(k+1)<I.length-k;omega),ae al (.cons _ (.cons _ (aj _))) fun _ h=>h⟩
   | true =>
    rw [hwt] at hwa
    cases hrt:rI it with
    | false =>
     rw [hrt] at hri
     have hno:selF au rI dI (I.take (k+1))=selF au rI dI (I.take k):=by rw [htk,selB,hwt,hrt];exact List.append_nil _
     refine dH (args:=[it.v]) (all:=[it.v,.pointer (some ⟨bW,0,none⟩)]) (first:=#[]) (caps:=#[.pointer (some ⟨bW,0,none⟩)]) (hx:=rfl) (ha:=rfl) (hall:=rfl) (hc:=hwa) (hX:=fun w h=>h.1.2) (h:=?_)
     repeat' (first|(refine ag (hc:=hri) (hX:=fun w h=>h.1.1.2 it him) ?_)|refine gs ?_|refine gs1 fun _=>?_|(refine gp ?_ ?_<;>intro hx_ this)|fail)
     exact ⟨(⟨k+1,hlt,A,c,n,by rw [hno];exact hn,xs,by rw [hno];exact hxs⟩:PikI I au rI dI),(by show I.length-(k+1)<I.length-k;omega),ae al (.cons _ (.cons _ (aj _))) fun _ h=>h⟩
    | true =>
     rw [hrt] at hri
     have hyes:selF au rI dI (I.take (k+1))=selF au rI dI (I.take k)++[fndOf dI it]:=by rw [htk,selB,hwt,hrt];rfl
     refine dH (args:=[it.v]) (all:=[it.v,.pointer (some ⟨bW,0,none⟩)]) (first:=#[]) (caps:=#[.pointer (some ⟨bW,0,none⟩)]) (hx:=rfl) (ha:=rfl) (hall:=rfl) (hc:=hwa) (hX:=fun w h=>h.1.2) (h:=?_)
     repeat' (first|(refine ag (hc:=hri) (hX:=fun w h=>h.1.1.2 it him) ?_)|refine gs ?_|refine gs1 fun _=>?_|(refine gp ?_ ?_<;>intro hx_ this)|fail)
     rename_i b8
     (refine ao ⟨[0,1,2,4],[(3,⟨[5],[(6,⟨[],[(7,⟨[8],[]⟩)]⟩)]⟩)]⟩ [cel b8 37 it.act.cells,cel b7 45 it.cells] (fun w=>(Items w ki I∧CelD bW [.string au] w)∧Xf w) (h:=?_))
     all_goals repeat' (first|(refine ag (hc:=hdi) (hX:=fun w h=>⟨h.1.1.2 it him,h.2⟩) ?_)|refine gdz ?_|refine ax (hsub:=by exact aF) (hy:=by first|(apply dp (cs:=(fndOf dI it).cells);rfl;rfl)) ?_|refine ay ?_ (h':=?_)|exact az|refine bL (size:=22) (vs:=[.agg (fndOf dI it).cells.toArray]) (css:=(fndOf dI it).cells) (hsz:=by rfl) (hcs:=by rfl) fun _=>?_|(refine fU ?_;refine aC (size:=22) (news:=(fndOf dI it).cells) (q:=1) rfl rfl rfl rfl (fun _=>At.there _ (At.there _ (At.there _ (At.here _)))) (fun w G=>aU G ap rfl rfl 1) aa (by simp only [maxLen];omega) rfl ?_ rfl ?_;(first|with_reducible rfl|with_reducible assumption|with_reducible exact Bool.not_false|with_reducible exact Bool.not_true);intro A2 c2)|refine gs1 fun _=>?_|(refine gq ?_ ?_<;>intro hx_ this)|fail)
     all_goals
      repeat' (first|refine gs ?_|refine gs1 fun _=>?_|(refine gp ?_ ?_<;>intro hx_ this)|fail)
      exact ⟨(⟨k+1,hlt,A2,c2,n+1,by rw [hyes,List.length_append,←hn];rfl,xs++(fndOf dI it).cells,by rw [hyes,hxs];simp⟩:PikI I au rI dI),(by show I.length-(k+1)<I.length-k;omega),ae al (.cons _ (.cons _ (.cons _ (aj _)))) fun _ h=>h⟩
 have hkE:k=I.length:=by omega
 rw [hkE,List.take_length] at hn hxs
 obtain ⟨P,hP⟩:∃ P,selF au rI dI I=P:=⟨_,rfl⟩
 rw [hP] at hn hxs
 have hPl:P.length≤I.length:=by rw [←hP,selF,List.length_map];exact List.length_filter_le _ _
 subst hxs
 refine aZ (pre:=[fndR ⟨A,n,c⟩ P]) (fr:=[]) (first:=#[]) (caps:=#[]) (hc:=hsort ⟨A,n,c⟩ P hn hPl) (hX:=fun _ _=>trivial) (h:=?_)
 rintro v R X' ⟨rfl,Q,hQ,rfl⟩
 have hQl:Q.length=n:=hQ.length_eq.trans hn.symm
 have hnI:n≤1000:=by omega
 refine bS (X':=fun w=>(Items w ki I∧CelD bW [.string au] w)∧Xf w) (fun w h=>h.1) ?_
 repeat' (first|refine gs ?_|refine gs1 fun _=>?_|(refine eU (c:=n) (hm:=Nat.ble_eq_true_of_le aa) (hm2:=Nat.ble_eq_true_of_le aa) fun bv=>?_)|(refine gp ?_ ?_<;>intro hx_ this)|fail)
 refine bH (r:=fndR ⟨A,n,c⟩ Q) aL (p:=0<n→A.isSome=true) (fun w h h0=>bu h h0) fun hAp=>?_
 refine am (ι:=ValI Q) (fun i=>⟨[(11,.slice i.A i.k i.c),(47,.slice A n c),(48,.int .i64 (n:Nat)),(49,.int .i64 (i.k:Nat))],[orow 37 20 (.slice i.A i.k i.c) i.k i.xs,fndR ⟨A,n,c⟩ Q],fun w=>(Items w ki I∧CelD bW [.string au] w)∧Xf w⟩) (fun i=>Q.length-i.k) ⟨0,Nat.zero_le _,_,_,[],rfl⟩ (ae al (aj _) fun _ h=>h) fun i=>?_
 obtain ⟨k2,hk2,A2,c2,xs2,hxs2⟩:=i
 simp only
 repeat' (first|refine gs ?_|refine gs1 fun _=>?_|(refine gp ?_ ?_<;>intro hx_ this)|fail)
 · have hlt:k2<Q.length:=by omega
   have hAp':=hAp aa
   obtain ⟨f,hf⟩:∃ f,Q[k2]?=some f:=⟨_,List.getElem?_eq_getElem hlt⟩
   repeat' (first|refine bL (size:=20) (vs:=[f.a.v]) (css:=f.a.cells) (hsz:=by rfl) (hcs:=by rfl) fun _=>?_|refine gs ?_|refine gs1 fun _=>?_|(refine aE (q:=k2*22) ?_)|(refine ak (eZ (size:=22) (m:=n) (i:=k2) (xs:=Q.map Eg.cells) (cs:=f.cells) rfl (.tail _ (.head _)) (by rw [List.length_map];exact hQl.symm) (zw Q) (by simp [hf])) rfl rfl rfl ?_)|(refine aB (vs:=f.a.cells) (hv:=rfl) ?_)|(refine gp ?_ ?_<;>intro hx_ this)|fail)
   refine aC (size:=20) (news:=f.a.cells) (q:=1) rfl rfl rfl rfl (fun _=>At.there _ (At.there _ (At.here _))) (fun w G=>aU G ap rfl rfl 1) aa (by simp only [maxLen];omega) rfl ?_ rfl ?_
   · (first|with_reducible rfl|with_reducible assumption|with_reducible exact Bool.not_false|with_reducible exact Bool.not_true)
   intro A3 c3
   repeat' (first|refine gs ?_|refine gs1 fun _=>?_|(refine gp ?_ ?_<;>intro hx_ this)|fail)
   exact ⟨(⟨k2+1,hlt,A3,c3,xs2++f.a.cells,by rw [List.take_add_one,hf,hxs2];simp⟩:ValI Q),(by show Q.length-(k2+1)<Q.length-k2;omega),ae al (.cons _ (.cons _ (aj _))) fun _ h=>h⟩
 have hk2E:k2=Q.length:=by omega
 rw [hk2E,List.take_length] at hxs2
 have hLp:(Q.map Eg.a).Perm (selA au rI I):=by rw [←AD au rI dI I,hP];exact hQ.map _
 refine ab (ai rfl rfl) ⟨⟨A2,k2,c2⟩,Q.map Eg.a,rfl,hLp,fun w h=>?_⟩
 have hr:=h.2 (orow 37 20 (.slice A2 k2 c2) k2 xs2) (.head _)
 refine dZ (l:=Q.map Eg.a) (by rw [List.map_map];rw [hxs2] at hr;exact hr) (by rw [List.length_map];exact hk2E) fun a ha=>?_
 have ha2:=hLp.subset ha
 rw [selA] at ha2
 obtain ⟨it,hit,rfl⟩:=List.mem_map.1 ha2
 exact (h.1.1.1.2 it (List.mem_filter.1 hit).1).1
theorem iN (ks ki:Xj) (I:List Xb) (au:ByteArray) (rI:Xb→Bool) (dI:Xb→ByteArray)
  (hR:∀ it∈I,Pu Tryz.prog 23 #[it.v] (fun w=>it.at_ w) (.bool (rI it)))
  (hD:∀ it∈I,Pu Tryz.prog 19 #[it.v] (fun w=>it.at_ w∧Xf w) (.string (dI it)))
  (hI:I.length≤1000) (hsort:SortA I.length) :
  Mk Tryz.prog 71 #[.agg #[ks.v,ki.v],.string au] (fun w=>Items w ki I∧Xf w)
   (fun u X'=>∃ (s:Xj) (L:List Xa),u=s.v∧L.Perm (selA au rI I)∧∀ w,X' w→Acts w s L):=by
 refine cC Tryz.func71 Tryz.ntmps71 fun av bor w0=>?_
 repeat' (first|refine gs ?_|refine gs1 fun _=>?_|(refine cL ?_)|(refine gp ?_ ?_<;>intro hx_ this)|fail)
 rename_i b2 b3
 refine aW ?_
 refine bm (hc:=wR ks ki I b3 au rI dI hR hD hI hsort) (hX:=fun w h=>⟨⟨h.1.1,ei h.2⟩,h.1.2⟩) fun v X1 h1=>?_
 obtain ⟨s,L,rfl,hL,hw⟩:=h1
 repeat' (first|refine gs ?_|refine gs1 fun _=>?_|(refine gp ?_ ?_<;>intro hx_ this)|fail)
 exact ab (ai rfl rfl) ⟨s,L,rfl,hL,fun w h=>hw w h.1.2⟩
structure Xn where
 rank:Int
 dg:ByteArray
 a:Xg
def Xn.cells (f:Xn):List Value:=.int .i64 f.rank::.string f.dg::f.a.cells
def fndRC (s:Xj) (P:List Xn):Xk:=orow 285 11 (.slice s.p s.n s.c) s.n (P.map Xn.cells).flatten
theorem pS (P:List Xn):∀ r∈P.map Xn.cells,r.length=11:=fun r hr=>by
 obtain ⟨c,_,rfl⟩:=List.mem_map.1 hr
 rfl
def cmpC:Value:=.func (.func 224) #[] #[]
def PermC (s:Xj) (P:List Xn) (u:Value) (R:List Xk) (X:World→Prop):Prop:=u=.tuple #[]∧∃ Q:List Xn,Q.Perm P∧R=[fndRC s Q]
def SortCl (n:Nat):Prop:=∀ (s:Xj) (P:List Xn),s.n=P.length→P.length≤n→Ct Tryz.prog 223 #[s.v,cmpC] [fndRC s P] (fun _=>True) (PermC s P)
theorem xz (s:Xj) (P:List Xn) (hs:s.n=P.length) (h1:P.length≤1):Ct Tryz.prog 251 #[s.v,.int .i64 0,.int .i64 (s.n:Nat),cmpC] [fndRC s P] (fun _=>True) (PermC s P):=by
 refine bT Tryz.func251 Tryz.ntmps251 fun av bor w0=>?_
 repeat' (first|refine gs ?_|fail)
 refine am (ι:=Unit) (fun _=>⟨[(2,.int .i64 (s.n:Nat)),(8,.int .i64 1)],[fndRC s P],fun _=>True⟩) (fun _=>0) () (ae al (aj _) fun _ h=>h) fun _=>?_
 repeat' (first|refine gs ?_|(refine gp ?_ ?_<;>intro hx_ this)|fail)
 all_goals first
  | (exfalso;omega)
  | exact aI (aA rfl) ⟨rfl,P,List.Perm.refl _,rfl⟩
theorem tR (s:Xj) (P:List Xn) (hs:s.n=P.length) (h1:P.length≤1):Ct Tryz.prog 235 #[s.v,.int .i64 (s.n:Nat),cmpC] [fndRC s P] (fun _=>True) (PermC s P):=by
 refine bT Tryz.func235 Tryz.ntmps235 fun av bor w0=>?_
 repeat' (first|refine gs ?_|fail)
 refine am (ι:=Unit) (fun _=>⟨[(0,s.v),(1,.int .i64 (s.n:Nat)),(2,cmpC),(6,.int .i64 20),(7,.int .i64 0),(8,.int .i64 20)],[fndRC s P],fun _=>True⟩) (fun _=>0) () (ae al (aj _) fun _ h=>h) fun _=>?_
 repeat' (first|refine gs ?_|(refine gp ?_ ?_<;>intro hx_ this)|fail)
 · exfalso;omega
 refine aZ (pre:=[fndRC s P]) (fr:=[]) (first:=#[]) (caps:=#[]) (hc:=xz s P hs h1) (hX:=fun _ _=>trivial) (h:=?_)
 rintro v R X' ⟨rfl,Q,hQ,rfl⟩
 repeat' (first|refine gs ?_|fail)
 refine am (ι:=Unit) (fun _=>⟨[(1,.int .i64 (s.n:Nat)),(6,.int .i64 20)],[fndRC s Q],fun _=>True⟩) (fun _=>0) () (ae al (aj _) fun _ h=>trivial) fun _=>?_
 repeat' (first|refine gs ?_|(refine gp ?_ ?_<;>intro hx_ this)|fail)
 · exfalso;omega
 exact aI (aA rfl) ⟨rfl,Q,hQ,rfl⟩
theorem tU:SortCl 1:=fun s P hs h1=>by
 refine bT Tryz.func223 Tryz.ntmps223 fun av bor w0=>?_
 repeat' (first|refine gs ?_|fail)
 refine aZ (pre:=[fndRC s P]) (fr:=[]) (first:=#[]) (caps:=#[]) (hc:=tR s P hs h1) (hX:=fun _ _=>trivial) (h:=?_)
 rintro v R X' ⟨rfl,Q,hQ,rfl⟩
 repeat' (first|refine gs ?_|fail)
 exact aI (aA rfl) ⟨rfl,Q,hQ,rfl⟩
end Go.Proofs.YtggionfjlgfihaaGreatDoor
namespace Go.Proofs.YtggionfjlgfihaaGreatDoor
open Go Go.Proofs Sy SrG
namespace SrC
theorem cellsF (P:List Xn):∀ r∈P.map Xn.cells,r.length=11:=fun r hr=>by
 obtain ⟨c,_,rfl⟩:=List.mem_map.1 hr
 rfl
abbrev postR (s:Xj) (P:List Xn):Xk:=orow 285 11 (.slice s.p s.n s.c) s.n (P.map Xn.cells).flatten
theorem bQ:∀ (L:List Xn) (p:Nat) (x:Xn),p<L.length→(L.map Xn.cells).flatten.take (p*11)++x.cells++(L.map Xn.cells).flatten.drop (p*11+11)=((L.set p x).map Xn.cells).flatten
 | [],p,x,h=>absurd h (by simp)
 | c::L,0,x,h=>by
  have h6:c.cells.length=11:=rfl
  rw [List.set_cons_zero,List.map_cons,List.map_cons,List.flatten_cons,List.flatten_cons,Nat.zero_mul,Nat.zero_add,List.take_zero,List.nil_append,List.drop_append,h6,List.drop_of_length_le (by omega)]
  rfl
 | c::L,p+1,x,h=>by
  have h6:c.cells.length=11:=rfl
  have ih:=bQ L p x (by simpa using h)
  rw [List.set_cons_succ,List.map_cons,List.map_cons,List.flatten_cons,List.flatten_cons,←ih,List.take_append,List.drop_append,h6,List.take_of_length_le aa,List.drop_of_length_le aa,
   show (p+1)*11-11=p*11 from by omega,show (p+1)*11+11-11=p*11+11 from by omega,List.nil_append,List.append_assoc,List.append_assoc,List.append_assoc]
theorem cU {P:List Xn} {i j:Nat} {x y:Xn} (hi:P[i]?=some x) (hj:P[j]?=some y):((P.set i y).set j x).Perm P:=by
 obtain ⟨h1,rfl⟩:=List.getElem?_eq_some_iff.1 hi
 obtain ⟨h2,rfl⟩:=List.getElem?_eq_some_iff.1 hj
 exact List.set_set_perm h1 h2
section
variable {N:Nat} {av bor:List Nat} {w0:World} {st:St} {ty:TypeId} {x y:Operand} {E:Env} {loc:List Xk} {X:World→Prop} {ops:Array Oper} {kk:St→Prop} {pos:String} {af:Array Edge} {g:Option (Nat×Bool)} {rest:List Oper} {bb want:Bool}
theorem bq {A:Option Addr} {m c i:Nat} {P:List Xn} {p:Xn} (hx:ev st.env x=some (elP A (i*11))) (hm:orow 285 11 (.slice A m c) m (P.map Xn.cells).flatten∈st.loc) (hn:m=P.length) (hi:P[i]?=some p) :
  Sy.Yields Tryz.prog N av bor w0 st (.load 285 x) ty (.agg p.cells.toArray):=eZ (xs:=P.map Xn.cells) (cs:=p.cells) hx hm (by simp [hn]) (cellsF P) (by simp [hi])
theorem bO {d:Option Tmp} {loc':List Xk} {A:Option Addr} {m c i:Nat} {P:List Xn} {p:Xn} (hx:ev E x=some (elP A (i*11)):=by rfl) (hy:ev E y=some (.agg p.cells.toArray):=by rfl) (hi:i<m:=by omega) (hn:m=P.length)
  (hA:At (orow 285 11 (.slice A m c) m (P.map Xn.cells).flatten) (orow 285 11 (.slice A m c) m ((P.set i p).map Xn.cells).flatten) loc loc':=by (repeat (first|exact At.here _|apply At.there))) (hg:gdB ops E g=some (bb,want):=by rfl) (hb:bb=want:=by exact aq) (hd:inB N d=true:=by rfl)
  (h:Sw Tryz.prog N av bor w0 ops rest ⟨putE E d undef,loc',X⟩ kk):Sw Tryz.prog N av bor w0 ops (⟨d,.store 285 x y,ty,pos,af,g⟩::rest) ⟨E,loc,X⟩ kk :=
 nB (i:=i) (size:=11) (vs:=p.cells) ac hx hy rfl rfl rfl hi (bQ P i p aa) hA hg hb hd h
end
def PermAt (s:Xj) (P:List Xn) (u:Value) (R:List Xk) (X:World→Prop):Prop:=u=.tuple #[]∧∃ Q:List Xn,Q.Perm P∧R=[postR s Q]
structure PermI (P:List Xn) (n:Nat) where
 k:Nat
 hk:k≤n
 Q:List Xn
 hQ:Q.Perm P
theorem bN (s:Xj) (P:List Xn) (a b n:Nat) (fv:Value) (hs:s.n=P.length) (hm:s.n≤1000000) (ha:a+n≤s.n) (hb:b+n≤s.n) :
  Ct Tryz.prog 262 #[s.v,.int .i64 (a:Nat),.int .i64 (b:Nat),.int .i64 (n:Nat),fv] [postR s P] (fun _=>True) (PermAt s P):=by
 refine bT Tryz.func262 Tryz.ntmps262 fun av bor w0=>?_
 refine bH (r:=postR s P) ap (p:=0<s.n→s.p.isSome=true) (fun w h hn=>bu h hn) fun hp=>?_
 repeat' (first|refine gs ?_|fail)
 refine am (ι:=PermI P n) (fun i=>⟨[(0,s.v),(1,.int .i64 (a:Nat)),(2,.int .i64 (b:Nat)),(3,.int .i64 (n:Nat)),(10,.int .i64 (i.k:Nat))],[postR s i.Q],fun _=>True⟩) (fun i=>n-i.k) ⟨0,Nat.zero_le _,P,List.Perm.refl _⟩ (ae al (aj _) fun _ h=>h) fun i=>?_
 obtain ⟨k,hk,Q,hQ⟩:=i
 simp only
 have hl:=hQ.length_eq
 repeat' (first|refine gs ?_|(refine gp ?_ ?_<;>intro hx_ this)|fail)
 · have hlt:k<n:=by omega
   have hp':=hp aa
   obtain ⟨x,hx⟩:∃ x,Q[a+k]?=some x:=⟨_,List.getElem?_eq_getElem aa⟩
   obtain ⟨y,hy⟩:∃ y,Q[b+k]?=some y:=⟨_,List.getElem?_eq_getElem aa⟩
   (refine ao ⟨[0,1,2,3,4,5,6,7,8,9,10,11,12,14,15,16,17,18],[(13,⟨[],[(19,⟨[20],[(21,⟨[22],[(23,⟨[],[]⟩)]⟩)]⟩)]⟩),(19,⟨[],[(13,⟨[20],[(21,⟨[22],[(23,⟨[],[]⟩)]⟩)]⟩)]⟩)]⟩ [] (fun _=>True) (h:=?_))
   all_goals repeat' (first|refine gd ?_|refine ax (hy:=by first|(apply aG (q:=(a+k)*11);rfl;rfl;omega;omega;assumption;(first|rfl|omega))|(apply aG (q:=(b+k)*11);rfl;rfl;omega;omega;assumption;(first|rfl|omega))) ?_|refine ay ?_ (h':=?_)|exact az|(refine ak (bq (i:=a+k) (P:=Q) rfl ap aa hx) rfl rfl rfl ?_)|(refine ak (bq (i:=b+k) (P:=Q) rfl ap aa hy) rfl rfl rfl ?_)|((refine bO (i:=a+k) (p:=y) rfl rfl aa (by first|omega|(simp only [List.length_set];omega)) (At.here _) rfl aq rfl ?_))|((refine bO (i:=b+k) (p:=x) rfl rfl aa (by first|omega|(simp only [List.length_set];omega)) (At.here _) rfl aq rfl ?_))|(refine gq ?_ ?_<;>intro hx_ this)|fail)
   all_goals
    repeat' (first|refine gs ?_|(refine gp ?_ ?_<;>intro hx_ this)|fail)
    exact ⟨(⟨k+1,hlt,(Q.set (a+k) y).set (b+k) x,(cU hx hy).trans hQ⟩:PermI P n),(by show n-(k+1)<n-k;omega),ae al (aj _) fun _ h=>h⟩
 · exact aI (aA rfl) ⟨rfl,Q,hQ,rfl⟩
section
variable {N:Nat} {av bor:List Nat} {w0:World} {ops:Array Oper} {rest:List Oper} {k:St→Prop} {E:Env} {X:World→Prop} {d:Option Tmp} {ty:TypeId} {pos:String} {af:Array Edge} {g:Option (Nat×Bool)} {bb want:Bool}
theorem cd {x:Operand} {xs:List Operand} {ats:Array TypeId} {f:FuncId} {args:List Value} {s:Xj} {Q:List Xn}
  (hx:ev E x=some (.func (.func f) #[] #[]):=by rfl) (ha:evs E xs=some args:=by rfl) (hg:gdB ops E g=some (bb,want):=by rfl) (hb:bb=want:=by exact aq) (hd:inB N d=true:=by rfl) (hf:Xv Tryz.prog f:=by first|infer_instance|exact ⟨ac⟩)
  (hc:Ct Tryz.prog f args.toArray [postR s Q] (fun _=>True) (PermAt s Q))
  (h:∀ Q':List Xn,Q'.Perm Q→Sw Tryz.prog N av bor w0 ops rest ⟨putE E d (.tuple #[]),[postR s Q'],X⟩ k) :
  Sw Tryz.prog N av bor w0 ops (⟨d,.call ⟨.value x,xs.toArray,ats⟩,ty,pos,af,g⟩::rest) ⟨E,[postR s Q],X⟩ k :=
 aZ (pre:=[postR s Q]) (fr:=[]) (first:=#[]) (caps:=#[]) (Post:=PermAt s Q) hx ha rfl hg hb hd hf (by simpa using hc) (fun _ _=>trivial) fun u R X' ⟨h1,Q',h2,h3⟩=>by
  subst h1
  subst h3
  refine ix (fun a w ok=>?_) (h Q' h2)
  exact ok.via fun M G=>G.imp fun _ h=>h.1
end
structure RotI (P:List Xn) (p q:Nat) where
 i:Nat
 j:Nat
 h1:1≤i
 h2:i≤p
 h3:1≤j
 h4:j≤q
 Q:List Xn
 hQ:Q.Perm P
theorem fg (s:Xj) (P:List Xn) (a m b:Nat) (fv:Value) (hs:s.n=P.length) (hm:s.n≤1000000) (ha:a<m) (hb:m<b) (hbs:b≤s.n) :
  Ct Tryz.prog 259 #[s.v,.int .i64 (a:Nat),.int .i64 (m:Nat),.int .i64 (b:Nat),fv] [postR s P] (fun _=>True) (PermAt s P):=by
 refine bT Tryz.func259 Tryz.ntmps259 fun av bor w0=>?_
 repeat' (first|refine aP (hq:=by omega) ?_|refine gs ?_|(refine gp ?_ ?_<;>intro hx_ this)|fail)
 refine am (ι:=RotI P (m-a) (b-m)) (fun r=>⟨[(0,s.v),(2,.int .i64 (m:Nat)),(4,fv),(10,.int .i64 (r.i:Nat)),(11,.int .i64 (r.j:Nat))],[postR s r.Q],fun _=>True⟩) (fun r=>r.i+r.j) ⟨m-a,b-m,by omega,by omega,by omega,by omega,P,List.Perm.refl _⟩ (ae al (aj _) fun _ h=>h) fun r=>?_
 obtain ⟨i,j,h1,h2,h3,h4,Q,hQ⟩:=r
 simp only
 have hl:=hQ.length_eq
 by_cases hij:i=j
 · repeat' (first|refine dP ?_|refine aP (hq:=by omega) ?_|refine gs ?_|(refine cd (hc:=bN s Q (m-i) m i fv aa hm aa aa) (h:=fun Q2 hQ2=>?_))|(refine gp ?_ ?_<;>intro hx_ this)|fail)
   exact aI (aA rfl) ⟨rfl,Q2,hQ2.trans hQ,rfl⟩
 · repeat' (first|refine aP (hq:=by omega) ?_|refine aK (hq:=by omega) ?_|refine gs ?_|(refine cd (hc:=bN s Q (m-i) m j fv aa hm aa aa) (h:=fun Q2 hQ2=>?_))|(refine cd (hc:=bN s Q (m-i) (m+j-i) i fv aa hm aa aa) (h:=fun Q2 hQ2=>?_))|(refine gp ?_ ?_<;>intro hx_ this)|fail)
   · exact ⟨(⟨i-j,j,by omega,by omega,h3,h4,Q2,hQ2.trans hQ⟩:RotI P (m-a) (b-m)),(by show i-j+j<i+j;omega),ae al (aj _) fun _ h=>h⟩
   · exact ⟨(⟨i,j-i,h1,h2,by omega,by omega,Q2,hQ2.trans hQ⟩:RotI P (m-a) (b-m)),(by show i+(j-i)<i+j;omega),ae al (aj _) fun _ h=>h⟩
   · have h9:(i:Int)=(j:Int):=by simpa using hx_
     exact absurd (show i=j by omega) hij
def cmpX (x y:Xn):Int:=cmp2 x.rank y.rank x.dg y.dg
theorem dw (x y:Xn):Pu Tryz.prog 224 #[.agg x.cells.toArray,.agg y.cells.toArray] (fun _=>True) (.int .i64 (cmpX x y)):=by
 refine ar Tryz.func224 Tryz.ntmps224 fun av bor w0=>?_
 have h1:=gG x.rank y.rank
 have h2:=fT x.dg y.dg
 rw [cmpX,cmp2]
 generalize cmpI x.rank y.rank=k at *
 generalize SrG.cmpB_g x.dg y.dg=l at *
 have h3:=fun s=>qZ s k l
 repeat' (first|refine gs ?_|refine gs1 fun _=>?_|(refine gp ?_ ?_<;>intro hx_ this)|fail)
 rename_i b2 b3
 (refine ao ⟨[0,1,2,3,5,6,7,8],[(4,⟨[],[(9,⟨[],[(10,⟨[],[(11,⟨[12],[]⟩)]⟩)]⟩)]⟩)]⟩ [cel b3 285 y.cells,cel b2 285 x.cells] (fun _=>True) (h:=?_))
 all_goals repeat' (first|(refine ag (hc:=h1) ?_)|(refine ag (hc:=h2) ?_)|(refine ag (hc:=h3 ⟨some ⟨bs,0,none⟩,2,2⟩) (hX:=fun w h=>aR (xs:=[[.int .i64 k],[.int .i64 l]]) h.2 rfl (by decide) (by simp)) ?_)|refine gdz ?_|refine ay ?_ (h':=?_)|exact az|((refine cr (len:=2) (vs:=[.int .i64 k,.int .i64 l]) fun bs=>?_;refine aW ?_))|refine gs1 fun _=>?_|(refine gq ?_ ?_<;>intro hx_ this)|fail)
 all_goals
  repeat' (first|refine gs ?_|refine gs1 fun _=>?_|(refine gp ?_ ?_<;>intro hx_ this)|fail)
  exact ab (ai rfl rfl) rfl
def cmpF:Value:=.func (.func 224) #[] #[]
def Srt (P:List Xn):Prop:=∀ (i j:Nat) (x y:Xn),i<j→P[i]?=some x→P[j]?=some y→¬ cmpX y x<0
def Rel (P Q:List Xn):Prop:=Q.Perm P∧(Srt P→Q=P)
theorem Rel.refl (P:List Xn):Rel P P:=⟨List.Perm.refl _,fun _=>rfl⟩
theorem Rel.trans {P Q R:List Xn} (h:Rel P Q) (k:Rel Q R):Rel P R:=⟨k.1.trans h.1,fun hs=>by rw [k.2 (h.2 hs▸hs),h.2 hs]⟩
theorem Rel.swap {P Q:List Xn} (h:Rel P Q) {i j:Nat} {x y:Xn} (hi:Q[i]?=some x) (hj:Q[j]?=some y) (hno:Srt P→False):Rel P ((Q.set i y).set j x):=⟨(cU hi hj).trans h.1,fun hs=>(hno hs).elim⟩
theorem Rel.srt {P Q:List Xn} (h:Rel P Q) (hs:Srt P):Srt Q:=by rw [h.2 hs];exact hs
theorem Rel.perm {P Q Q':List Xn} (h:Rel P Q) (k:Q'.Perm Q) (hno:Srt P→False):Rel P Q':=⟨k.trans h.1,fun hs=>(hno hs).elim⟩
def RelAt (s:Xj) (P:List Xn) (u:Value) (R:List Xk) (X:World→Prop):Prop:=u=.tuple #[]∧∃ Q:List Xn,Rel P Q∧R=[postR s Q]
end SrC
end Go.Proofs.YtggionfjlgfihaaGreatDoor
namespace Go.Proofs.YtggionfjlgfihaaGreatDoor
open Go Go.Proofs Sy
def Claims (w:World) (s:Xj) (l:List Xg):Prop:=Xe w 9 s (l.map Xg.cells)
theorem jT (l:List Xg):∀ r∈l.map Xg.cells,r.length=9:=fun r hr=>by
 obtain ⟨c,_,rfl⟩:=List.mem_map.1 hr
 rfl
def wantC (au:ByteArray) (it:Xb):Bool:=decide (it.kind=1)&&seqB it.claim.actor au
theorem oB (bW:Nat) (au:ByteArray) (it:Xb):Pu Tryz.prog 210 #[it.v,.pointer (some ⟨bW,0,none⟩)] (CelD bW [.string au]) (.tuple #[it.claim.v,.int .i64 0,.bool (wantC au it)]):=by
 refine ar Tryz.func210 Tryz.ntmps210 fun av bor w0=>?_
 repeat' (first|refine gs ?_|refine gs1 fun _=>?_|(refine gp ?_ ?_<;>intro hx_ this)|fail)
 rename_i b2 b3
 by_cases h0:it.kind=1
 · (refine ao ⟨[0,1,2,3,4,5,6,7,8,9,10,11],[(12,⟨[13,14],[]⟩)]⟩ [cel b2 45 it.cells] (CelD bW [.string au]) (h:=?_))
   all_goals repeat' (first|refine ax (hsub:=by exact aF) (hy:=by first|(apply d2 true;rfl;rfl;exact decide_eq_true h0)) ?_|refine gdz ?_|refine ax (hsub:=by exact aF) (hy:=by first|(apply da (vs:=it.claim.cells);rfl;exact .head _;rfl;rfl)|(apply du;rfl;exact (fun w h=>h 0 _ rfl))) ?_|refine ay ?_ (h':=?_)|exact az|refine gs1 fun _=>?_|(refine gq ?_ ?_<;>intro hx_ this)|fail)
   all_goals
    repeat' (first|refine gs ?_|refine gs1 fun _=>?_|(refine gp ?_ ?_<;>intro hx_ this)|fail)
    exact ab (cF rfl rfl rfl rfl (.head _) rfl) (by rw [wantC,decide_eq_true h0];rfl)
 · (refine ao ⟨[0,1,2,3,4,5,6,7,8,9,10,11],[(12,⟨[13,14],[]⟩)]⟩ [cel b2 45 it.cells] (CelD bW [.string au]) (h:=?_))
   all_goals repeat' (first|refine ax (hsub:=by exact aF) (hy:=by first|(apply d2 false;rfl;rfl;exact decide_eq_false h0)) ?_|refine gdz ?_|refine ax (hsub:=by exact aF) (hy:=by first|(apply da (vs:=it.claim.cells);rfl;exact .head _;rfl;rfl)|(apply du;rfl;exact (fun w h=>h 0 _ rfl))) ?_|refine ay ?_ (h':=?_)|exact az|refine gs1 fun _=>?_|(refine gq ?_ ?_<;>intro hx_ this)|fail)
   all_goals
    repeat' (first|refine gs ?_|refine gs1 fun _=>?_|(refine gp ?_ ?_<;>intro hx_ this)|fail)
    exact ab (cF rfl rfl rfl rfl (.head _) rfl) (by rw [wantC,decide_eq_false h0];rfl)
def fndOfC (dI:Xb→ByteArray) (it:Xb):Xn:=⟨0,dI it,it.claim⟩
def selBC (au:ByteArray) (rI:Xb→Bool) (it:Xb):Bool:=wantC au it&&rI it
def selFC (au:ByteArray) (rI:Xb→Bool) (dI:Xb→ByteArray) (I:List Xb):List Xn:=(I.filter (selBC au rI)).map (fndOfC dI)
def selC (au:ByteArray) (rI:Xb→Bool) (I:List Xb):List Xg:=(I.filter (selBC au rI)).map Xb.claim
theorem sd (au:ByteArray) (rI:Xb→Bool) (dI:Xb→ByteArray) (I:List Xb):(selFC au rI dI I).map Xn.a=selC au rI I:=by rw [selFC,selC,List.map_map];rfl
structure PikIC (I:List Xb) (au:ByteArray) (rI:Xb→Bool) (dI:Xb→ByteArray) where
 k:Nat
 hk:k≤I.length
 A:Option Addr
 c:Nat
 n:Nat
 hn:n=(selFC au rI dI (I.take k)).length
 xs:List Value
 hxs:xs=((selFC au rI dI (I.take k)).map Xn.cells).flatten
structure ValIC (Q:List Xn) where
 k:Nat
 hk:k≤Q.length
 A:Option Addr
 c:Nat
 xs:List Value
 hxs:xs=((Q.take k).map fun f=>f.a.cells).flatten
def wantVC (bW:Nat):Value:=.func (.func 210) #[] #[.pointer (some ⟨bW,0,none⟩)]
theorem wQ (ks ki:Xj) (I:List Xb) (bW:Nat) (au:ByteArray) (rI:Xb→Bool) (dI:Xb→ByteArray)
  (hR:∀ it∈I,Pu Tryz.prog 23 #[it.v] (fun w=>it.at_ w) (.bool (rI it)))
  (hD:∀ it∈I,Pu Tryz.prog 19 #[it.v] (fun w=>it.at_ w∧Xf w) (.string (dI it)))
  (hI:I.length≤1000) (hsort:SortCl I.length) :
  Mk Tryz.prog 209 #[.agg #[ks.v,ki.v],wantVC bW] (fun w=>(Items w ki I∧CelD bW [.string au] w)∧Xf w)
   (fun u X'=>∃ (s:Xj) (L:List Xg),u=s.v∧L.Perm (selC au rI I)∧∀ w,X' w→Claims w s L):=by
 refine cC Tryz.func209 Tryz.ntmps209 fun av bor w0=>?_
 refine aH (p:=ki.n=I.length∧ki.n≤maxLen∧(0<I.length→ki.p.isSome=true)) (fun w h=>⟨h.1.1.len_,h.1.1.max_,h.1.1.some_⟩) fun ⟨hkn,hkm,hkp⟩=>?_
 simp only [maxLen] at hkm
 repeat' (first|refine gs ?_|refine gs1 fun _=>?_|fail)
 rename_i b2
 refine bA 285 11 ?_
 refine am (ι:=PikIC I au rI dI) (fun i=>⟨[(1,wantVC bW),(5,.slice i.A i.n i.c),(15,ki.v),(16,.int .i64 (ki.n:Nat)),(17,.int .i64 (i.k:Nat))],[orow 285 11 (.slice i.A i.n i.c) i.n i.xs],fun w=>(Items w ki I∧CelD bW [.string au] w)∧Xf w⟩) (fun i=>I.length-i.k) ⟨0,Nat.zero_le _,none,0,0,rfl,[],rfl⟩ (ae al (.cons_cons _ (List.nil_sublist _)) fun _ h=>h) fun i=>?_
 obtain ⟨k,hk,A,c,n,hn,xs,hxs⟩:=i
 simp only
 repeat' (first|refine gs ?_|refine gs1 fun _=>?_|(refine gp ?_ ?_<;>intro hx_ this)|fail)
 · have hlt:k<I.length:=by omega
   have hkp':=hkp aa
   obtain ⟨it,hit⟩:∃ it,I[k]?=some it:=⟨_,List.getElem?_eq_getElem hlt⟩
   have him:=List.mem_of_getElem? hit
   have hnl:n≤1000:=by
    rw [hn,selFC,List.length_map]
    exact Nat.le_trans (List.length_filter_le _ _) (by rw [List.length_take];omega)
   repeat' (first|refine gs ?_|refine gs1 fun _=>?_|(refine aE (q:=k*49) ?_)|(refine aS (cs:=it.cells) (hF:=fun w h=>h.1.1.get hit) ?_)|(refine gp ?_ ?_<;>intro hx_ this)|fail)
   rename_i b7
   have hri:=hR it him
   have hdi:=hD it him
   have hwa:=oB bW au it
   have htk:selFC au rI dI (I.take (k+1))=selFC au rI dI (I.take k)++(bif selBC au rI it then [fndOfC dI it] else []):=by
    rw [selFC,selFC,List.take_add_one,hit,List.filter_append,List.map_append,Option.toList_some]
    congr 1
    cases hb:selBC au rI it with
    | true=>simp [hb]
    | false=>simp [hb]
   cases hwt:wantC au it with
   | false =>
    rw [hwt] at hwa
    have hno:selFC au rI dI (I.take (k+1))=selFC au rI dI (I.take k):=by rw [htk,selBC,hwt];exact List.append_nil _
    refine dH (args:=[it.v]) (all:=[it.v,.pointer (some ⟨bW,0,none⟩)]) (first:=#[]) (caps:=#[.pointer (some ⟨bW,0,none⟩)]) (hx:=rfl) (ha:=rfl) (hall:=rfl) (hc:=hwa) (hX:=fun w h=>h.1.2) (h:=?_)
    repeat' (first|refine gs ?_|refine gs1 fun _=>?_|(refine gp ?_ ?_<;>intro hx_ this)|fail)
    exact ⟨(⟨k+1,hlt,A,c,n,by rw [hno];exact hn,xs,by rw [hno];exact hxs⟩:PikIC I au rI dI),(by show I.length-(k+1)<I.length-k;omega),ae al (.cons _ (.cons _ (aj _))) fun _ h=>h⟩
   | true =>
    rw [hwt] at hwa
    cases hrt:rI it with
    | false =>
     rw [hrt] at hri
     have hno:selFC au rI dI (I.take (k+1))=selFC au rI dI (I.take k):=by rw [htk,selBC,hwt,hrt];exact List.append_nil _
     refine dH (args:=[it.v]) (all:=[it.v,.pointer (some ⟨bW,0,none⟩)]) (first:=#[]) (caps:=#[.pointer (some ⟨bW,0,none⟩)]) (hx:=rfl) (ha:=rfl) (hall:=rfl) (hc:=hwa) (hX:=fun w h=>h.1.2) (h:=?_)
     repeat' (first|(refine ag (hc:=hri) (hX:=fun w h=>h.1.1.2 it him) ?_)|refine gs ?_|refine gs1 fun _=>?_|(refine gp ?_ ?_<;>intro hx_ this)|fail)
     exact ⟨(⟨k+1,hlt,A,c,n,by rw [hno];exact hn,xs,by rw [hno];exact hxs⟩:PikIC I au rI dI),(by show I.length-(k+1)<I.length-k;omega),ae al (.cons _ (.cons _ (aj _))) fun _ h=>h⟩
    | true =>
     rw [hrt] at hri
     have hyes:selFC au rI dI (I.take (k+1))=selFC au rI dI (I.take k)++[fndOfC dI it]:=by rw [htk,selBC,hwt,hrt];rfl
     refine dH (args:=[it.v]) (all:=[it.v,.pointer (some ⟨bW,0,none⟩)]) (first:=#[]) (caps:=#[.pointer (some ⟨bW,0,none⟩)]) (hx:=rfl) (ha:=rfl) (hall:=rfl) (hc:=hwa) (hX:=fun w h=>h.1.2) (h:=?_)
     repeat' (first|(refine ag (hc:=hri) (hX:=fun w h=>h.1.1.2 it him) ?_)|refine gs ?_|refine gs1 fun _=>?_|(refine gp ?_ ?_<;>intro hx_ this)|fail)
     rename_i b8
     (refine ao ⟨[0,1,2,4],[(3,⟨[5],[(6,⟨[],[(7,⟨[8],[]⟩)]⟩)]⟩)]⟩ [cel b8 39 it.claim.cells,cel b7 45 it.cells] (fun w=>(Items w ki I∧CelD bW [.string au] w)∧Xf w) (h:=?_))
     all_goals repeat' (first|(refine ag (hc:=hdi) (hX:=fun w h=>⟨h.1.1.2 it him,h.2⟩) ?_)|refine gdz ?_|refine ax (hsub:=by exact aF) (hy:=by first|(apply dp (cs:=(fndOfC dI it).cells);rfl;rfl)) ?_|refine ay ?_ (h':=?_)|exact az|refine bL (size:=11) (vs:=[.agg (fndOfC dI it).cells.toArray]) (css:=(fndOfC dI it).cells) (hsz:=by rfl) (hcs:=by rfl) fun _=>?_|(refine fU ?_;refine aC (size:=11) (news:=(fndOfC dI it).cells) (q:=1) rfl rfl rfl rfl (fun _=>At.there _ (At.there _ (At.there _ (At.here _)))) (fun w G=>aU G ap rfl rfl 1) aa (by simp only [maxLen];omega) rfl ?_ rfl ?_;(first|with_reducible rfl|with_reducible assumption|with_reducible exact Bool.not_false|with_reducible exact Bool.not_true);intro A2 c2)|refine gs1 fun _=>?_|(refine gq ?_ ?_<;>intro hx_ this)|fail)
     all_goals
      repeat' (first|refine gs ?_|refine gs1 fun _=>?_|(refine gp ?_ ?_<;>intro hx_ this)|fail)
      exact ⟨(⟨k+1,hlt,A2,c2,n+1,by rw [hyes,List.length_append,←hn];rfl,xs++(fndOfC dI it).cells,by rw [hyes,hxs];simp⟩:PikIC I au rI dI),(by show I.length-(k+1)<I.length-k;omega),ae al (.cons _ (.cons _ (.cons _ (aj _)))) fun _ h=>h⟩
 have hkE:k=I.length:=by omega
 rw [hkE,List.take_length] at hn hxs
 obtain ⟨P,hP⟩:∃ P,selFC au rI dI I=P:=⟨_,rfl⟩
 rw [hP] at hn hxs
 have hPl:P.length≤I.length:=by rw [←hP,selFC,List.length_map];exact List.length_filter_le _ _
 subst hxs
 refine aZ (pre:=[fndRC ⟨A,n,c⟩ P]) (fr:=[]) (first:=#[]) (caps:=#[]) (hc:=hsort ⟨A,n,c⟩ P hn hPl) (hX:=fun _ _=>trivial) (h:=?_)
 rintro v R X' ⟨rfl,Q,hQ,rfl⟩
 have hQl:Q.length=n:=hQ.length_eq.trans hn.symm
 have hnI:n≤1000:=by omega
 refine bS (X':=fun w=>(Items w ki I∧CelD bW [.string au] w)∧Xf w) (fun w h=>h.1) ?_
 repeat' (first|refine gs ?_|refine gs1 fun _=>?_|(refine eU (c:=n) (hm:=Nat.ble_eq_true_of_le aa) (hm2:=Nat.ble_eq_true_of_le aa) fun bv=>?_)|(refine gp ?_ ?_<;>intro hx_ this)|fail)
 refine bH (r:=fndRC ⟨A,n,c⟩ Q) aL (p:=0<n→A.isSome=true) (fun w h h0=>bu h h0) fun hAp=>?_
 refine am (ι:=ValIC Q) (fun i=>⟨[(11,.slice i.A i.k i.c),(47,.slice A n c),(48,.int .i64 (n:Nat)),(49,.int .i64 (i.k:Nat))],[orow 39 9 (.slice i.A i.k i.c) i.k i.xs,fndRC ⟨A,n,c⟩ Q],fun w=>(Items w ki I∧CelD bW [.string au] w)∧Xf w⟩) (fun i=>Q.length-i.k) ⟨0,Nat.zero_le _,_,_,[],rfl⟩ (ae al (aj _) fun _ h=>h) fun i=>?_
 obtain ⟨k2,hk2,A2,c2,xs2,hxs2⟩:=i
 simp only
 repeat' (first|refine gs ?_|refine gs1 fun _=>?_|(refine gp ?_ ?_<;>intro hx_ this)|fail)
 · have hlt:k2<Q.length:=by omega
   have hAp':=hAp aa
   obtain ⟨f,hf⟩:∃ f,Q[k2]?=some f:=⟨_,List.getElem?_eq_getElem hlt⟩
   repeat' (first|refine bL (size:=9) (vs:=[f.a.v]) (css:=f.a.cells) (hsz:=by rfl) (hcs:=by rfl) fun _=>?_|refine gs ?_|refine gs1 fun _=>?_|(refine aE (q:=k2*11) ?_)|(refine ak (eZ (size:=11) (m:=n) (i:=k2) (xs:=Q.map Xn.cells) (cs:=f.cells) rfl (.tail _ (.head _)) (by rw [List.length_map];exact hQl.symm) (pS Q) (by simp [hf])) rfl rfl rfl ?_)|(refine aB (vs:=f.a.cells) (hv:=rfl) ?_)|(refine gp ?_ ?_<;>intro hx_ this)|fail)
   refine aC (size:=9) (news:=f.a.cells) (q:=1) rfl rfl rfl rfl (fun _=>At.there _ (At.there _ (At.here _))) (fun w G=>aU G ap rfl rfl 1) aa (by simp only [maxLen];omega) rfl ?_ rfl ?_
   · (first|with_reducible rfl|with_reducible assumption|with_reducible exact Bool.not_false|with_reducible exact Bool.not_true)
   intro A3 c3
   repeat' (first|refine gs ?_|refine gs1 fun _=>?_|(refine gp ?_ ?_<;>intro hx_ this)|fail)
   exact ⟨(⟨k2+1,hlt,A3,c3,xs2++f.a.cells,by rw [List.take_add_one,hf,hxs2];simp⟩:ValIC Q),(by show Q.length-(k2+1)<Q.length-k2;omega),ae al (.cons _ (.cons _ (aj _))) fun _ h=>h⟩
 have hk2E:k2=Q.length:=by omega
 rw [hk2E,List.take_length] at hxs2
 have hLp:(Q.map Xn.a).Perm (selC au rI I):=by rw [←sd au rI dI I,hP];exact hQ.map _
 refine ab (ai rfl rfl) ⟨⟨A2,k2,c2⟩,Q.map Xn.a,rfl,hLp,fun w h=>?_⟩
 have hr:=h.2 (orow 39 9 (.slice A2 k2 c2) k2 xs2) (.head _)
 exact aV (xs:=(Q.map Xn.a).map Xg.cells) (by rw [List.map_map];rw [hxs2] at hr;exact hr) (by rw [List.length_map,List.length_map];exact hk2E) (jT _)
theorem lm (ks ki:Xj) (I:List Xb) (au:ByteArray) (rI:Xb→Bool) (dI:Xb→ByteArray)
  (hR:∀ it∈I,Pu Tryz.prog 23 #[it.v] (fun w=>it.at_ w) (.bool (rI it)))
  (hD:∀ it∈I,Pu Tryz.prog 19 #[it.v] (fun w=>it.at_ w∧Xf w) (.string (dI it)))
  (hI:I.length≤1000) (hsort:SortCl I.length) :
  Mk Tryz.prog 191 #[.agg #[ks.v,ki.v],.string au] (fun w=>Items w ki I∧Xf w)
   (fun u X'=>∃ (s:Xj) (L:List Xg),u=s.v∧L.Perm (selC au rI I)∧∀ w,X' w→Claims w s L):=by
 refine cC Tryz.func191 Tryz.ntmps191 fun av bor w0=>?_
 repeat' (first|refine gs ?_|refine gs1 fun _=>?_|(refine cL ?_)|(refine gp ?_ ?_<;>intro hx_ this)|fail)
 rename_i b2 b3
 refine aW ?_
 refine bm (hc:=wQ ks ki I b3 au rI dI hR hD hI hsort) (hX:=fun w h=>⟨⟨h.1.1,ei h.2⟩,h.1.2⟩) fun v X1 h1=>?_
 obtain ⟨s,L,rfl,hL,hw⟩:=h1
 repeat' (first|refine gs ?_|refine gs1 fun _=>?_|(refine gp ?_ ?_<;>intro hx_ this)|fail)
 exact ab (ai rfl rfl) ⟨s,L,rfl,hL,fun w h=>hw w h.1.2⟩
structure Xp where
 rank:Int
 dg:ByteArray
 a:Xi
def Xp.cells (f:Xp):List Value:=.int .i64 f.rank::.string f.dg::f.a.cells
def Ballots (w:World) (s:Xj) (l:List Xi):Prop:=Xe w 7 s (l.map Xi.cells)
theorem ot (l:List Xi):∀ r∈l.map Xi.cells,r.length=7:=fun r hr=>by
 obtain ⟨c,_,rfl⟩:=List.mem_map.1 hr
 rfl
def wantB (au:ByteArray) (gn:Int) (it:Xb):Bool:=decide (it.kind=2)&&(seqB it.ballot.actor au&&decide (it.ballot.gen=gn))
theorem vK (bW bG:Nat) (au:ByteArray) (gn:Int) (it:Xb):Pu Tryz.prog 237 #[it.v,.pointer (some ⟨bW,0,none⟩),.pointer (some ⟨bG,0,none⟩)] (fun w=>CelD bW [.string au] w∧CelD bG [.int .i64 gn] w) (.tuple #[it.ballot.v,.int .i64 0,.bool (wantB au gn it)]):=by
 refine ar Tryz.func237 Tryz.ntmps237 fun av bor w0=>?_
 repeat' (first|refine gs ?_|refine gs1 fun _=>?_|(refine aB (vs:=it.ballot.cells) (hv:=rfl) ?_)|(refine gp ?_ ?_<;>intro hx_ this)|fail)
 rename_i b3 b4 b7
 cases h0:decide (it.kind=2) with
 | false =>
  (refine ao ⟨[0,1,2,3,4,5,6,7,8,9,10,11,12,13,14,15],[(16,⟨[17,18],[]⟩)]⟩ [cel b7 41 it.ballot.cells,cel b3 45 it.cells] (fun w=>CelD bW [.string au] w∧CelD bG [.int .i64 gn] w) (h:=?_))
  all_goals repeat' (first|refine ax (hsub:=by exact aF) (hy:=by first|(apply d2 false;rfl;rfl;exact h0)) ?_|refine gdz ?_|refine ax (hsub:=by exact aF) (hy:=by first|(apply du;rfl;exact (fun w h=>h.1 0 _ rfl))|(apply du;rfl;exact (fun w h=>h.2 0 _ rfl))) ?_|refine ay ?_ (h':=?_)|exact az|refine gs1 fun _=>?_|(refine gq ?_ ?_<;>intro hx_ this)|fail)
  all_goals
   repeat' (first|refine gs ?_|refine gs1 fun _=>?_|(refine gp ?_ ?_<;>intro hx_ this)|fail)
   exact ab (cF rfl rfl rfl rfl (.tail _ (.head _)) rfl) (by rw [wantB,h0];rfl)
 | true =>
  cases h1:seqB it.ballot.actor au with
  | false =>
   (refine ao ⟨[0,1,2,3,4,5,6,7,8,9,10,11,12,13,14,15],[(16,⟨[17,18],[]⟩)]⟩ [cel b7 41 it.ballot.cells,cel b3 45 it.cells] (fun w=>CelD bW [.string au] w∧CelD bG [.int .i64 gn] w) (h:=?_))
   all_goals repeat' (first|refine ax (hsub:=by exact aF) (hy:=by first|(apply d2 true;rfl;rfl;exact h0)|(apply cw false;rfl;rfl;exact h1)) ?_|refine gdz ?_|refine ax (hsub:=by exact aF) (hy:=by first|(apply du;rfl;exact (fun w h=>h.1 0 _ rfl))|(apply du;rfl;exact (fun w h=>h.2 0 _ rfl))) ?_|refine ay ?_ (h':=?_)|exact az|refine gs1 fun _=>?_|(refine gq ?_ ?_<;>intro hx_ this)|fail)
   all_goals
    repeat' (first|refine gs ?_|refine gs1 fun _=>?_|(refine gp ?_ ?_<;>intro hx_ this)|fail)
    exact ab (cF rfl rfl rfl rfl (.tail _ (.head _)) rfl) (by rw [wantB,h0,h1];rfl)
  | true =>
   cases h2:decide (it.ballot.gen=gn) with
   | false =>
    (refine ao ⟨[0,1,2,3,4,5,6,7,8,9,10,11,12,13,14,15],[(16,⟨[17,18],[]⟩)]⟩ [cel b7 41 it.ballot.cells,cel b3 45 it.cells] (fun w=>CelD bW [.string au] w∧CelD bG [.int .i64 gn] w) (h:=?_))
    all_goals repeat' (first|refine ax (hsub:=by exact aF) (hy:=by first|(apply d2 true;rfl;rfl;exact h0)|(apply cw true;rfl;rfl;exact h1)|(apply d2 false;rfl;rfl;exact h2)) ?_|refine gdz ?_|refine ax (hsub:=by exact aF) (hy:=by first|(apply du;rfl;exact (fun w h=>h.1 0 _ rfl))|(apply du;rfl;exact (fun w h=>h.2 0 _ rfl))) ?_|refine ay ?_ (h':=?_)|exact az|refine gs1 fun _=>?_|(refine gq ?_ ?_<;>intro hx_ this)|fail)
    all_goals
     repeat' (first|refine gs ?_|refine gs1 fun _=>?_|(refine gp ?_ ?_<;>intro hx_ this)|fail)
     exact ab (cF rfl rfl rfl rfl (.tail _ (.head _)) rfl) (by rw [wantB,h0,h1,h2];rfl)
   | true =>
    (refine ao ⟨[0,1,2,3,4,5,6,7,8,9,10,11,12,13,14,15],[(16,⟨[17,18],[]⟩)]⟩ [cel b7 41 it.ballot.cells,cel b3 45 it.cells] (fun w=>CelD bW [.string au] w∧CelD bG [.int .i64 gn] w) (h:=?_))
    all_goals repeat' (first|refine ax (hsub:=by exact aF) (hy:=by first|(apply d2 true;rfl;rfl;first|exact h0|exact h2)|(apply cw true;rfl;rfl;exact h1)) ?_|refine gdz ?_|refine ax (hsub:=by exact aF) (hy:=by first|(apply du;rfl;exact (fun w h=>h.1 0 _ rfl))|(apply du;rfl;exact (fun w h=>h.2 0 _ rfl))) ?_|refine ay ?_ (h':=?_)|exact az|refine gs1 fun _=>?_|(refine gq ?_ ?_<;>intro hx_ this)|fail)
    all_goals
     repeat' (first|refine gs ?_|refine gs1 fun _=>?_|(refine gp ?_ ?_<;>intro hx_ this)|fail)
     exact ab (cF rfl rfl rfl rfl (.tail _ (.head _)) rfl) (by rw [wantB,h0,h1,h2];rfl)
end Go.Proofs.YtggionfjlgfihaaGreatDoor
namespace Go.Proofs.YtggionfjlgfihaaGreatDoor
open Go Go.Proofs Sy SrG
namespace SrB
theorem cellsF (P:List Xp):∀ r∈P.map Xp.cells,r.length=9:=fun r hr=>by
 obtain ⟨c,_,rfl⟩:=List.mem_map.1 hr
 rfl
abbrev postR (s:Xj) (P:List Xp):Xk:=orow 311 9 (.slice s.p s.n s.c) s.n (P.map Xp.cells).flatten
theorem bQ:∀ (L:List Xp) (p:Nat) (x:Xp),p<L.length→(L.map Xp.cells).flatten.take (p*9)++x.cells++(L.map Xp.cells).flatten.drop (p*9+9)=((L.set p x).map Xp.cells).flatten
 | [],p,x,h=>absurd h (by simp)
 | c::L,0,x,h=>by
  have h6:c.cells.length=9:=rfl
  rw [List.set_cons_zero,List.map_cons,List.map_cons,List.flatten_cons,List.flatten_cons,Nat.zero_mul,Nat.zero_add,List.take_zero,List.nil_append,List.drop_append,h6,List.drop_of_length_le (by omega)]
  rfl
 | c::L,p+1,x,h=>by
  have h6:c.cells.length=9:=rfl
  have ih:=bQ L p x (by simpa using h)
  rw [List.set_cons_succ,List.map_cons,List.map_cons,List.flatten_cons,List.flatten_cons,←ih,List.take_append,List.drop_append,h6,List.take_of_length_le aa,List.drop_of_length_le aa,
   show (p+1)*9-9=p*9 from by omega,show (p+1)*9+9-9=p*9+9 from by omega,List.nil_append,List.append_assoc,List.append_assoc,List.append_assoc]
theorem cU {P:List Xp} {i j:Nat} {x y:Xp} (hi:P[i]?=some x) (hj:P[j]?=some y):((P.set i y).set j x).Perm P:=by
 obtain ⟨h1,rfl⟩:=List.getElem?_eq_some_iff.1 hi
 obtain ⟨h2,rfl⟩:=List.getElem?_eq_some_iff.1 hj
 exact List.set_set_perm h1 h2
section
variable {N:Nat} {av bor:List Nat} {w0:World} {st:St} {ty:TypeId} {x y:Operand} {E:Env} {loc:List Xk} {X:World→Prop} {ops:Array Oper} {kk:St→Prop} {pos:String} {af:Array Edge} {g:Option (Nat×Bool)} {rest:List Oper} {bb want:Bool}
theorem bq {A:Option Addr} {m c i:Nat} {P:List Xp} {p:Xp} (hx:ev st.env x=some (elP A (i*9))) (hm:orow 311 9 (.slice A m c) m (P.map Xp.cells).flatten∈st.loc) (hn:m=P.length) (hi:P[i]?=some p) :
  Sy.Yields Tryz.prog N av bor w0 st (.load 311 x) ty (.agg p.cells.toArray):=eZ (xs:=P.map Xp.cells) (cs:=p.cells) hx hm (by simp [hn]) (cellsF P) (by simp [hi])
theorem bO {d:Option Tmp} {loc':List Xk} {A:Option Addr} {m c i:Nat} {P:List Xp} {p:Xp} (hx:ev E x=some (elP A (i*9)):=by rfl) (hy:ev E y=some (.agg p.cells.toArray):=by rfl) (hi:i<m:=by omega) (hn:m=P.length)
  (hA:At (orow 311 9 (.slice A m c) m (P.map Xp.cells).flatten) (orow 311 9 (.slice A m c) m ((P.set i p).map Xp.cells).flatten) loc loc':=by (repeat (first|exact At.here _|apply At.there))) (hg:gdB ops E g=some (bb,want):=by rfl) (hb:bb=want:=by exact aq) (hd:inB N d=true:=by rfl)
  (h:Sw Tryz.prog N av bor w0 ops rest ⟨putE E d undef,loc',X⟩ kk):Sw Tryz.prog N av bor w0 ops (⟨d,.store 311 x y,ty,pos,af,g⟩::rest) ⟨E,loc,X⟩ kk :=
 nB (i:=i) (size:=9) (vs:=p.cells) ac hx hy rfl rfl rfl hi (bQ P i p aa) hA hg hb hd h
end
def PermAt (s:Xj) (P:List Xp) (u:Value) (R:List Xk) (X:World→Prop):Prop:=u=.tuple #[]∧∃ Q:List Xp,Q.Perm P∧R=[postR s Q]
structure PermI (P:List Xp) (n:Nat) where
 k:Nat
 hk:k≤n
 Q:List Xp
 hQ:Q.Perm P
theorem bN (s:Xj) (P:List Xp) (a b n:Nat) (fv:Value) (hs:s.n=P.length) (hm:s.n≤1000000) (ha:a+n≤s.n) (hb:b+n≤s.n) :
  Ct Tryz.prog 266 #[s.v,.int .i64 (a:Nat),.int .i64 (b:Nat),.int .i64 (n:Nat),fv] [postR s P] (fun _=>True) (PermAt s P):=by
 refine bT Tryz.func266 Tryz.ntmps266 fun av bor w0=>?_
 refine bH (r:=postR s P) ap (p:=0<s.n→s.p.isSome=true) (fun w h hn=>bu h hn) fun hp=>?_
 repeat' (first|refine gs ?_|fail)
 refine am (ι:=PermI P n) (fun i=>⟨[(0,s.v),(1,.int .i64 (a:Nat)),(2,.int .i64 (b:Nat)),(3,.int .i64 (n:Nat)),(10,.int .i64 (i.k:Nat))],[postR s i.Q],fun _=>True⟩) (fun i=>n-i.k) ⟨0,Nat.zero_le _,P,List.Perm.refl _⟩ (ae al (aj _) fun _ h=>h) fun i=>?_
 obtain ⟨k,hk,Q,hQ⟩:=i
 simp only
 have hl:=hQ.length_eq
 repeat' (first|refine gs ?_|(refine gp ?_ ?_<;>intro hx_ this)|fail)
 · have hlt:k<n:=by omega
   have hp':=hp aa
   obtain ⟨x,hx⟩:∃ x,Q[a+k]?=some x:=⟨_,List.getElem?_eq_getElem aa⟩
   obtain ⟨y,hy⟩:∃ y,Q[b+k]?=some y:=⟨_,List.getElem?_eq_getElem aa⟩
   (refine ao ⟨[0,1,2,3,4,5,6,7,8,9,10,11,12,14,15,16,17,18],[(13,⟨[],[(19,⟨[20],[(21,⟨[22],[(23,⟨[],[]⟩)]⟩)]⟩)]⟩),(19,⟨[],[(13,⟨[20],[(21,⟨[22],[(23,⟨[],[]⟩)]⟩)]⟩)]⟩)]⟩ [] (fun _=>True) (h:=?_))
   all_goals repeat' (first|refine gd ?_|refine ax (hy:=by first|(apply aG (q:=(a+k)*9);rfl;rfl;omega;omega;assumption;(first|rfl|omega))|(apply aG (q:=(b+k)*9);rfl;rfl;omega;omega;assumption;(first|rfl|omega))) ?_|refine ay ?_ (h':=?_)|exact az|(refine ak (bq (i:=a+k) (P:=Q) rfl ap aa hx) rfl rfl rfl ?_)|(refine ak (bq (i:=b+k) (P:=Q) rfl ap aa hy) rfl rfl rfl ?_)|((refine bO (i:=a+k) (p:=y) rfl rfl aa (by first|omega|(simp only [List.length_set];omega)) (At.here _) rfl aq rfl ?_))|((refine bO (i:=b+k) (p:=x) rfl rfl aa (by first|omega|(simp only [List.length_set];omega)) (At.here _) rfl aq rfl ?_))|(refine gq ?_ ?_<;>intro hx_ this)|fail)
   all_goals
    repeat' (first|refine gs ?_|(refine gp ?_ ?_<;>intro hx_ this)|fail)
    exact ⟨(⟨k+1,hlt,(Q.set (a+k) y).set (b+k) x,(cU hx hy).trans hQ⟩:PermI P n),(by show n-(k+1)<n-k;omega),ae al (aj _) fun _ h=>h⟩
 · exact aI (aA rfl) ⟨rfl,Q,hQ,rfl⟩
section
variable {N:Nat} {av bor:List Nat} {w0:World} {ops:Array Oper} {rest:List Oper} {k:St→Prop} {E:Env} {X:World→Prop} {d:Option Tmp} {ty:TypeId} {pos:String} {af:Array Edge} {g:Option (Nat×Bool)} {bb want:Bool}
theorem cd {x:Operand} {xs:List Operand} {ats:Array TypeId} {f:FuncId} {args:List Value} {s:Xj} {Q:List Xp}
  (hx:ev E x=some (.func (.func f) #[] #[]):=by rfl) (ha:evs E xs=some args:=by rfl) (hg:gdB ops E g=some (bb,want):=by rfl) (hb:bb=want:=by exact aq) (hd:inB N d=true:=by rfl) (hf:Xv Tryz.prog f:=by first|infer_instance|exact ⟨ac⟩)
  (hc:Ct Tryz.prog f args.toArray [postR s Q] (fun _=>True) (PermAt s Q))
  (h:∀ Q':List Xp,Q'.Perm Q→Sw Tryz.prog N av bor w0 ops rest ⟨putE E d (.tuple #[]),[postR s Q'],X⟩ k) :
  Sw Tryz.prog N av bor w0 ops (⟨d,.call ⟨.value x,xs.toArray,ats⟩,ty,pos,af,g⟩::rest) ⟨E,[postR s Q],X⟩ k :=
 aZ (pre:=[postR s Q]) (fr:=[]) (first:=#[]) (caps:=#[]) (Post:=PermAt s Q) hx ha rfl hg hb hd hf (by simpa using hc) (fun _ _=>trivial) fun u R X' ⟨h1,Q',h2,h3⟩=>by
  subst h1
  subst h3
  refine ix (fun a w ok=>?_) (h Q' h2)
  exact ok.via fun M G=>G.imp fun _ h=>h.1
end
structure RotI (P:List Xp) (p q:Nat) where
 i:Nat
 j:Nat
 h1:1≤i
 h2:i≤p
 h3:1≤j
 h4:j≤q
 Q:List Xp
 hQ:Q.Perm P
theorem fg (s:Xj) (P:List Xp) (a m b:Nat) (fv:Value) (hs:s.n=P.length) (hm:s.n≤1000000) (ha:a<m) (hb:m<b) (hbs:b≤s.n) :
  Ct Tryz.prog 265 #[s.v,.int .i64 (a:Nat),.int .i64 (m:Nat),.int .i64 (b:Nat),fv] [postR s P] (fun _=>True) (PermAt s P):=by
 refine bT Tryz.func265 Tryz.ntmps265 fun av bor w0=>?_
 repeat' (first|refine aP (hq:=by omega) ?_|refine gs ?_|(refine gp ?_ ?_<;>intro hx_ this)|fail)
 refine am (ι:=RotI P (m-a) (b-m)) (fun r=>⟨[(0,s.v),(2,.int .i64 (m:Nat)),(4,fv),(10,.int .i64 (r.i:Nat)),(11,.int .i64 (r.j:Nat))],[postR s r.Q],fun _=>True⟩) (fun r=>r.i+r.j) ⟨m-a,b-m,by omega,by omega,by omega,by omega,P,List.Perm.refl _⟩ (ae al (aj _) fun _ h=>h) fun r=>?_
 obtain ⟨i,j,h1,h2,h3,h4,Q,hQ⟩:=r
 simp only
 have hl:=hQ.length_eq
 by_cases hij:i=j
 · repeat' (first|refine dP ?_|refine aP (hq:=by omega) ?_|refine gs ?_|(refine cd (hc:=bN s Q (m-i) m i fv aa hm aa aa) (h:=fun Q2 hQ2=>?_))|(refine gp ?_ ?_<;>intro hx_ this)|fail)
   exact aI (aA rfl) ⟨rfl,Q2,hQ2.trans hQ,rfl⟩
 · repeat' (first|refine aP (hq:=by omega) ?_|refine aK (hq:=by omega) ?_|refine gs ?_|(refine cd (hc:=bN s Q (m-i) m j fv aa hm aa aa) (h:=fun Q2 hQ2=>?_))|(refine cd (hc:=bN s Q (m-i) (m+j-i) i fv aa hm aa aa) (h:=fun Q2 hQ2=>?_))|(refine gp ?_ ?_<;>intro hx_ this)|fail)
   · exact ⟨(⟨i-j,j,by omega,by omega,h3,h4,Q2,hQ2.trans hQ⟩:RotI P (m-a) (b-m)),(by show i-j+j<i+j;omega),ae al (aj _) fun _ h=>h⟩
   · exact ⟨(⟨i,j-i,h1,h2,by omega,by omega,Q2,hQ2.trans hQ⟩:RotI P (m-a) (b-m)),(by show i+(j-i)<i+j;omega),ae al (aj _) fun _ h=>h⟩
   · have h9:(i:Int)=(j:Int):=by simpa using hx_
     exact absurd (show i=j by omega) hij
def cmpX (x y:Xp):Int:=cmp2 x.rank y.rank x.dg y.dg
theorem dw (x y:Xp):Pu Tryz.prog 254 #[.agg x.cells.toArray,.agg y.cells.toArray] (fun _=>True) (.int .i64 (cmpX x y)):=by
 refine ar Tryz.func254 Tryz.ntmps254 fun av bor w0=>?_
 have h1:=gG x.rank y.rank
 have h2:=fT x.dg y.dg
 rw [cmpX,cmp2]
 generalize cmpI x.rank y.rank=k at *
 generalize SrG.cmpB_g x.dg y.dg=l at *
 have h3:=fun s=>qZ s k l
 repeat' (first|refine gs ?_|refine gs1 fun _=>?_|(refine gp ?_ ?_<;>intro hx_ this)|fail)
 rename_i b2 b3
 (refine ao ⟨[0,1,2,3,5,6,7,8],[(4,⟨[],[(9,⟨[],[(10,⟨[],[(11,⟨[12],[]⟩)]⟩)]⟩)]⟩)]⟩ [cel b3 311 y.cells,cel b2 311 x.cells] (fun _=>True) (h:=?_))
 all_goals repeat' (first|(refine ag (hc:=h1) ?_)|(refine ag (hc:=h2) ?_)|(refine ag (hc:=h3 ⟨some ⟨bs,0,none⟩,2,2⟩) (hX:=fun w h=>aR (xs:=[[.int .i64 k],[.int .i64 l]]) h.2 rfl (by decide) (by simp)) ?_)|refine gdz ?_|refine ay ?_ (h':=?_)|exact az|((refine cr (len:=2) (vs:=[.int .i64 k,.int .i64 l]) fun bs=>?_;refine aW ?_))|refine gs1 fun _=>?_|(refine gq ?_ ?_<;>intro hx_ this)|fail)
 all_goals
  repeat' (first|refine gs ?_|refine gs1 fun _=>?_|(refine gp ?_ ?_<;>intro hx_ this)|fail)
  exact ab (ai rfl rfl) rfl
def cmpF:Value:=.func (.func 254) #[] #[]
def Srt (P:List Xp):Prop:=∀ (i j:Nat) (x y:Xp),i<j→P[i]?=some x→P[j]?=some y→¬ cmpX y x<0
def Rel (P Q:List Xp):Prop:=Q.Perm P∧(Srt P→Q=P)
theorem Rel.refl (P:List Xp):Rel P P:=⟨List.Perm.refl _,fun _=>rfl⟩
theorem Rel.trans {P Q R:List Xp} (h:Rel P Q) (k:Rel Q R):Rel P R:=⟨k.1.trans h.1,fun hs=>by rw [k.2 (h.2 hs▸hs),h.2 hs]⟩
theorem Rel.swap {P Q:List Xp} (h:Rel P Q) {i j:Nat} {x y:Xp} (hi:Q[i]?=some x) (hj:Q[j]?=some y) (hno:Srt P→False):Rel P ((Q.set i y).set j x):=⟨(cU hi hj).trans h.1,fun hs=>(hno hs).elim⟩
theorem Rel.srt {P Q:List Xp} (h:Rel P Q) (hs:Srt P):Srt Q:=by rw [h.2 hs];exact hs
theorem Rel.perm {P Q Q':List Xp} (h:Rel P Q) (k:Q'.Perm Q) (hno:Srt P→False):Rel P Q':=⟨k.trans h.1,fun hs=>(hno hs).elim⟩
def RelAt (s:Xj) (P:List Xp) (u:Value) (R:List Xk) (X:World→Prop):Prop:=u=.tuple #[]∧∃ Q:List Xp,Rel P Q∧R=[postR s Q]
end SrB
end Go.Proofs.YtggionfjlgfihaaGreatDoor
namespace Go.Proofs.YtggionfjlgfihaaGreatDoor
open Go Go.Proofs Sy
def actsFor (L:List Xa) (k:PosK):List Xa:=L.filter fun a=>decide (a.seq=k.1)&&seqB a.prev k.2
structure Ef (q:Nat) (G:List (PosK×Xj)) (L:List Xa) (w:World):Prop where
 map:SMapAt Tryz.prog 134 w q (G.map fun g=>(g.1,g.2.v))
 rows:∀ k,Acts w ((dget G k).getD ⟨none,0,0⟩) (actsFor L k)
theorem gC {κ β γ:Type} [DecidableEq κ] (f:β→γ):∀ (l:List (κ×β)) (k:κ),dget (l.map fun p=>(p.1,f p.2)) k=(dget l k).map f
 | [],_=>rfl
 | (k',v')::r,k=>by
  simp only [List.map_cons,dget,gC f r k]
  cases decide (k=k')<;>rfl
theorem xJ {st:Xz} {h:BldH} {sa sk:Xj} {id:ByteArray} (hid:h.id=id) (hn:sa.n=st.acts.length) (a:Xa) (pl:Option Nat):fitsV ⟨h.id,sa,sk,st.prev,(st.gen:Nat),h.fork,st.acts⟩ a pl=fitsV (st.ch id) a pl:=by
 subst hid
 obtain ⟨p,n,c⟩:=sa
 simp only at hn
 subst hn
 rfl
theorem mK (l:List Xl):∀ r∈l.map Xl.cells,r.length=3:=fun r hr=>by
 obtain ⟨c,_,rfl⟩:=List.mem_map.1 hr
 rfl
theorem mB {l:List Xa} (h:l.length≠1):oneA l=none:=by
 match l,h with
 | [],_=>rfl
 | [x],h=>exact absurd rfl h
 | x::y::r,_=>rfl
structure CanI (M:List Xa) (B:Xa→Bool) where
 k:Nat
 hk:k≤M.length
 A:Option Addr
 c:Nat
 n:Nat
 hn:n=((M.take k).filter B).length
 xs:List Value
 hxs:xs=(((M.take k).filter B).map Xa.cells).flatten
theorem oj (b:Nat) (h:BldH) (sa sk:Xj) (st:Xz) (pl:List (ByteArray×Value)) (ok:BldOk sa sk st pl) (W:Ee) (G:List (PosK×Xj)) (hI:InvS W st) (hid:h.id=W.id)
  (hok:Xt W.L) (hL:W.L.length≤100000) (hB:W.B≤100000)
  (hver:∀ a∈W.L,∀ p:Int,Pu Tryz.prog 72 #[.int .i64 p,a.v] (fun w=>a.at_ w∧Xf w) (.bool (W.ver p a))) :
  Ct Tryz.prog 76 #[.pointer (some ⟨b,0,none⟩)] (bldR b h sa sk st pl) (fun w=>(Ef h.q1 G W.L w∧∀ a∈W.L,a.at_ w)∧Xf w)
   (fun u R _=>(∀ a,oneA (candL W st)=some a→BldAt b h (addS st a) (.bool true) u R)∧(oneA (candL W st)=none→BldAt b { h with fork:=decide (1<(candL W st).length) } st (.bool false) u R)):=by
 have hlen:=hI.len
 have hkn:=hI.keyn
 have hgen:=hI.gen
 have ok':=ok
 obtain ⟨hn,hk,hp⟩:=ok
 refine cX (args:=[_]) _ Tryz.func76 rfl Tryz.ntmps76 rfl fun av bor w0=>?_
 obtain ⟨K,hK⟩:∃ K,st.keys[st.keys.length-1]?=some K:=⟨_,List.getElem?_eq_getElem (by have:=hI.key;omega)⟩
 have hKey:st.key=K.public_:=by rw [Xz.key,List.getD_eq_getElem?_getD,hK];rfl
 have hk0:=hI.key
 obtain ⟨M,hM⟩:∃ M,actsFor W.L ((sa.n:Int),st.prev)=M:=⟨_,rfl⟩
 have hcand:candL W st=M.filter (candB W st):=by rw [candL,←hM,actsFor,hn];rfl
 have hMm:∀ a∈M,a∈W.L:=fun a ha=>by rw [←hM] at ha;exact (List.mem_filter.1 ha).1
 have hMl:M.length≤W.L.length:=by rw [←hM];exact List.length_filter_le _ _
 obtain ⟨s,hs⟩:∃ s,(dget G ((sa.n:Int),st.prev)).getD ⟨none,0,0⟩=s:=⟨_,rfl⟩
 have hgl:∃ o,dget (G.map fun g=>(g.1,g.2.v)) ((sa.n:Int),st.prev)=o∧o.getD (.slice none 0 0)=s.v:=by
  refine ⟨_,rfl,?_⟩
  rw [gC,←hs]
  cases dget G ((sa.n:Int),st.prev)<;>rfl
 obtain ⟨o,ho,hov⟩:=hgl
 refine aH (p:=s.n=M.length∧s.n≤maxLen∧(0<M.length→s.p.isSome=true)) (fun w h=>by
  have h1:=h.1.1.rows ((sa.n:Int),st.prev)
  rw [hs,hM] at h1
  exact ⟨h1.len_,h1.max_,h1.some_⟩) fun ⟨hsn,hsm,hsp⟩=>?_
 simp only [maxLen] at hsm
 have hro:∀ w,((Ef h.q1 G W.L w∧∀ a∈W.L,a.at_ w)∧Xf w)→Acts w s M:=fun w h=>by
  have h1:=h.1.1.rows ((sa.n:Int),st.prev)
  rwa [hs,hM] at h1
 unfold bldR keyR actR
 refine bH (r:=orow 137 3 (.slice sk.p sk.n sk.c) sk.n (st.keys.map Xl.cells).flatten) aL (p:=sk.p.isSome=true) (fun w h=>bu h aa) fun hkp=>?_
 repeat' (first|refine gs ?_|refine gs1 fun _=>?_|(refine gp ?_ ?_<;>intro hx_ this)|fail)
 rename_i b1
 have hLOC:True:=trivial
 (refine ao ⟨[0,1,2,3,4,5,6,7,8,9,10,11,12,13],[]⟩ [cel b1 127 [.pointer (some ⟨b,0,none⟩)],cel b 131 (bldC h sa sk st.prev (st.gen:Nat)),orow 37 20 (.slice sa.p sa.n sa.c) sa.n (st.acts.map Xa.cells).flatten,orow 137 3 (.slice sk.p sk.n sk.c) sk.n (st.keys.map Xl.cells).flatten,mapr h.q2 pl] (fun w=>(Ef h.q1 G W.L w∧∀ a∈W.L,a.at_ w)∧Xf w) (h:=?_))
 all_goals repeat' (first|refine gdz ?_|refine ax (hsub:=by exact aF) (hy:=by first|(apply aG (q:=(sk.n-1)*3);rfl;rfl;omega;omega;assumption;omega)|(apply cN;rfl;assumption;rfl)|(apply fA (xs:=st.keys.map Xl.cells) (cs:=K.cells) (i:=sk.n-1) (j:=1) (u:=.int .i64 K.public_);rfl;(repeat (first|exact ap|apply List.mem_cons_of_mem));(simp [hk]);exact mK st.keys;(simp [hk,hK]);rfl)) ?_|refine ay ?_ (h':=?_)|exact az|refine gs1 fun _=>?_|(refine gq ?_ ?_<;>intro hx_ this)|fail)
 repeat' (first|refine gs ?_|refine gs1 fun _=>?_|(refine cL ?_)|(refine gp ?_ ?_<;>intro hx_ this)|fail)
 (refine ao ⟨[0,1,2,3,4,5,6,7,8,9,10,11,12,13,16],[(14,⟨[15],[]⟩)]⟩ [cel b1 127 [.pointer (some ⟨b,0,none⟩)],cel b 131 (bldC h sa sk st.prev (st.gen:Nat)),orow 37 20 (.slice sa.p sa.n sa.c) sa.n (st.acts.map Xa.cells).flatten,orow 137 3 (.slice sk.p sk.n sk.c) sk.n (st.keys.map Xl.cells).flatten,mapr h.q2 pl] (fun w=>(Ef h.q1 G W.L w∧∀ a∈W.L,a.at_ w)∧Xf w) (h:=?_))
 all_goals repeat' (first|refine gdz ?_|refine ax (hsub:=by exact aF) (hy:=by first|(apply dp (cs:=[.int .i64 (sa.n:Nat),.string st.prev]);rfl;rfl)) ?_|refine ay ?_ (h':=?_)|exact az|(refine ak (me (κ:=PosK) (kk:=((sa.n:Int),st.prev)) (z:=.slice none 0 0) (o:=o) (v:=s.v) rfl rfl (oN fun w h=>h.1.1.map) ho hov) rfl rfl rfl ?_)|refine gs1 fun _=>?_|(refine gq ?_ ?_<;>intro hx_ this)|fail)
 apply cw_block
 refine bA 37 20 ?_
 refine am (ι:=CanI M (candB W st)) (fun i=>⟨[(1,.pointer (some ⟨b1,0,none⟩)),(3,.pointer (some ⟨b,2,none⟩)),(4,.int .i64 K.public_),(5,.func (.func 136) #[] #[.pointer (some ⟨b1,0,none⟩)]),(6,.slice i.A i.n i.c),(40,s.v),(41,.int .i64 (s.n:Nat)),(42,.int .i64 (i.k:Nat))],[orow 37 20 (.slice i.A i.n i.c) i.n i.xs,cel b1 127 [.pointer (some ⟨b,0,none⟩)],cel b 131 (bldC h sa sk st.prev (st.gen:Nat)),orow 37 20 (.slice sa.p sa.n sa.c) sa.n (st.acts.map Xa.cells).flatten,orow 137 3 (.slice sk.p sk.n sk.c) sk.n (st.keys.map Xl.cells).flatten,mapr h.q2 pl],(fun w=>(Ef h.q1 G W.L w∧∀ a∈W.L,a.at_ w)∧Xf w)⟩) (fun i=>M.length-i.k) ⟨0,Nat.zero_le _,none,0,0,rfl,[],rfl⟩ (ae al (aj _) fun _ h=>h) fun i=>?_
 obtain ⟨k,hk',A,cc,n,hn',xs,hxs⟩:=i
 simp only
 have hnl:n≤100000:=by have h1:=List.length_filter_le (candB W st) (M.take k);rw [←hn',List.length_take] at h1;omega
 repeat' (first|refine gs ?_|refine gs1 fun _=>?_|(refine gp ?_ ?_<;>intro hx_ this)|fail)
 · have hlt:k<M.length:=by omega
   have hsp':=hsp aa
   obtain ⟨a,ha⟩:∃ a,M[k]?=some a:=⟨_,List.getElem?_eq_getElem hlt⟩
   have ham:a∈M:=List.mem_of_getElem? ha
   repeat' (first|refine gs ?_|refine gs1 fun _=>?_|(refine aE (q:=k*20) ?_)|(refine aS (cs:=a.cells) (hF:=fun w h=>Acts.get (hro w h) ha) ?_)|(refine gp ?_ ?_<;>intro hx_ this)|fail)
   rename_i b8
   have hf:=sM ⟨h.id,sa,sk,st.prev,(st.gen:Nat),h.fork,st.acts⟩ a 136 [.pointer (some ⟨b1,0,none⟩)] (idxV st.acts a.object) _ (xX b b1 h sa sk st pl hp a.object) (fun j hj=>kg hj)
   rw [xJ hid hn] at hf
   have hXf:∀ w,((Ef h.q1 G W.L w∧∀ a∈W.L,a.at_ w)∧Xf w)→(∀ r∈[cel b8 37 a.cells,orow 37 20 (.slice A n cc) n xs,cel b1 127 [.pointer (some ⟨b,0,none⟩)],cel b 131 (bldC h sa sk st.prev (st.gen:Nat)),orow 37 20 (.slice sa.p sa.n sa.c) sa.n (st.acts.map Xa.cells).flatten,orow 137 3 (.slice sk.p sk.n sk.c) sk.n (st.keys.map Xl.cells).flatten,mapr h.q2 pl],r.F w)→(Xd.at_ w ⟨h.id,sa,sk,st.prev,(st.gen:Nat),h.fork,st.acts⟩∧a.at_ w∧CelD b1 [.pointer (some ⟨b,0,none⟩)] w∧CelD b (bldC h sa sk st.prev (st.gen:Nat)) w∧MapAt w h.q2 pl):=fun w hw hr =>
    ⟨dZ (hr _ (.tail _ (.tail _ (.tail _ (.tail _ (.head _)))))) hn (fun x hx=>hw.1.2 x (hI.mem x hx)),hw.1.2 a (hMm a ham),ei (hr _ (.tail _ (.tail _ (.head _)))),ei (hr _ (.tail _ (.tail _ (.tail _ (.head _))))),hr _ (.tail _ (.tail _ (.tail _ (.tail _ (.tail _ (.tail _ (.head _)))))))⟩
   have hv:=hver a (hMm a ham) K.public_
   have htk:((M.take (k+1)).filter (candB W st))=(M.take k).filter (candB W st)++(bif candB W st a then [a] else []):=by
    rw [List.take_add_one,ha,List.filter_append,Option.toList_some]
    congr 1
   have hcb:candB W st a=(fitsV (st.ch W.id) a (idxV st.acts a.object)&&W.ver K.public_ a):=by rw [candB,hKey]
   cases hfv:fitsV (st.ch W.id) a (idxV st.acts a.object) with
   | false =>
    rw [hfv] at hf hcb
    have hno:(M.take (k+1)).filter (candB W st)=(M.take k).filter (candB W st):=by simp [htk,hcb]
    (refine ao ⟨[0,1,2,3,4],[(5,⟨[6,7,8],[(9,⟨[10],[]⟩)]⟩)]⟩ [cel b8 37 a.cells,orow 37 20 (.slice A n cc) n xs,cel b1 127 [.pointer (some ⟨b,0,none⟩)],cel b 131 (bldC h sa sk st.prev (st.gen:Nat)),orow 37 20 (.slice sa.p sa.n sa.c) sa.n (st.acts.map Xa.cells).flatten,orow 137 3 (.slice sk.p sk.n sk.c) sk.n (st.keys.map Xl.cells).flatten,mapr h.q2 pl] (fun w=>(Ef h.q1 G W.L w∧∀ a∈W.L,a.at_ w)∧Xf w) (h:=?_))
    all_goals repeat' (first|(refine g9 (hc:=hf) (hX:=hXf) ?_)|(refine ag (hc:=hv) (hX:=fun w h=>⟨h.1.2 a (hMm a ham),h.2⟩) ?_)|refine gdz ?_|refine ax (hsub:=by exact aF) (hy:=by first|(apply da (vs:=[.string h.id,.slice sa.p sa.n sa.c,.slice sk.p sk.n sk.c,.string st.prev,.int .i64 (st.gen:Nat),.bool h.fork]);rfl;(repeat (first|exact ap|apply List.mem_cons_of_mem));rfl;rfl)) ?_|refine ay ?_ (h':=?_)|exact az|refine gs1 fun _=>?_|(refine gq ?_ ?_<;>intro hx_ this)|fail)
    all_goals
     repeat' (first|refine gs ?_|refine gs1 fun _=>?_|(refine gp ?_ ?_<;>intro hx_ this)|fail)
     exact ⟨(⟨k+1,hlt,A,cc,n,by rw [hno];exact hn',xs,by rw [hno];exact hxs⟩:CanI M (candB W st)),(by show M.length-(k+1)<M.length-k;omega),ae al (List.Sublist.cons _ (aj _)) fun _ h=>h⟩
   | true =>
    rw [hfv] at hf hcb
    cases hve:W.ver K.public_ a with
    | false =>
     rw [hve] at hv hcb
     have hno:(M.take (k+1)).filter (candB W st)=(M.take k).filter (candB W st):=by simp [htk,hcb]
     (refine ao ⟨[0,1,2,3,4],[(5,⟨[6,7,8],[(9,⟨[10],[]⟩)]⟩)]⟩ [cel b8 37 a.cells,orow 37 20 (.slice A n cc) n xs,cel b1 127 [.pointer (some ⟨b,0,none⟩)],cel b 131 (bldC h sa sk st.prev (st.gen:Nat)),orow 37 20 (.slice sa.p sa.n sa.c) sa.n (st.acts.map Xa.cells).flatten,orow 137 3 (.slice sk.p sk.n sk.c) sk.n (st.keys.map Xl.cells).flatten,mapr h.q2 pl] (fun w=>(Ef h.q1 G W.L w∧∀ a∈W.L,a.at_ w)∧Xf w) (h:=?_))
     all_goals repeat' (first|(refine g9 (hc:=hf) (hX:=hXf) ?_)|(refine ag (hc:=hv) (hX:=fun w h=>⟨h.1.2 a (hMm a ham),h.2⟩) ?_)|refine gdz ?_|refine ax (hsub:=by exact aF) (hy:=by first|(apply da (vs:=[.string h.id,.slice sa.p sa.n sa.c,.slice sk.p sk.n sk.c,.string st.prev,.int .i64 (st.gen:Nat),.bool h.fork]);rfl;(repeat (first|exact ap|apply List.mem_cons_of_mem));rfl;rfl)) ?_|refine ay ?_ (h':=?_)|exact az|refine gs1 fun _=>?_|(refine gq ?_ ?_<;>intro hx_ this)|fail)
     all_goals
      repeat' (first|refine gs ?_|refine gs1 fun _=>?_|(refine gp ?_ ?_<;>intro hx_ this)|fail)
      exact ⟨(⟨k+1,hlt,A,cc,n,by rw [hno];exact hn',xs,by rw [hno];exact hxs⟩:CanI M (candB W st)),(by show M.length-(k+1)<M.length-k;omega),ae al (List.Sublist.cons _ (aj _)) fun _ h=>h⟩
    | true =>
     rw [hve] at hv hcb
     have hyes:(M.take (k+1)).filter (candB W st)=(M.take k).filter (candB W st)++[a]:=by rw [htk,hcb];rfl
     (refine ao ⟨[0,1,2,3,4],[(5,⟨[6,7,8],[(9,⟨[10],[]⟩)]⟩)]⟩ [cel b8 37 a.cells,orow 37 20 (.slice A n cc) n xs,cel b1 127 [.pointer (some ⟨b,0,none⟩)],cel b 131 (bldC h sa sk st.prev (st.gen:Nat)),orow 37 20 (.slice sa.p sa.n sa.c) sa.n (st.acts.map Xa.cells).flatten,orow 137 3 (.slice sk.p sk.n sk.c) sk.n (st.keys.map Xl.cells).flatten,mapr h.q2 pl] (fun w=>(Ef h.q1 G W.L w∧∀ a∈W.L,a.at_ w)∧Xf w) (h:=?_))
     all_goals repeat' (first|(refine g9 (hc:=hf) (hX:=hXf) ?_)|(refine ag (hc:=hv) (hX:=fun w h=>⟨h.1.2 a (hMm a ham),h.2⟩) ?_)|refine gdz ?_|refine ax (hsub:=by exact aF) (hy:=by first|(apply da (vs:=[.string h.id,.slice sa.p sa.n sa.c,.slice sk.p sk.n sk.c,.string st.prev,.int .i64 (st.gen:Nat),.bool h.fork]);rfl;(repeat (first|exact ap|apply List.mem_cons_of_mem));rfl;rfl)) ?_|refine ay ?_ (h':=?_)|exact az|refine gs1 fun _=>?_|(refine gq ?_ ?_<;>intro hx_ this)|fail)
     all_goals
      repeat' (first|refine bL (size:=20) (vs:=[a.v]) (css:=a.cells) (hsz:=by rfl) (hcs:=by rfl) fun _=>?_|refine gs ?_|refine gs1 fun _=>?_|(refine gp ?_ ?_<;>intro hx_ this)|fail)
      refine aC (size:=20) (news:=a.cells) (q:=1) rfl rfl rfl rfl (fun _=>At.there _ (At.there _ (At.here _))) (fun w G=>aU G ap rfl rfl 1) aa (by simp only [maxLen];omega) rfl ?_ rfl ?_
      · (first|with_reducible rfl|with_reducible assumption|with_reducible exact Bool.not_false|with_reducible exact Bool.not_true)
      intro A2 c2
      repeat' (first|refine gs ?_|refine gs1 fun _=>?_|(refine gp ?_ ?_<;>intro hx_ this)|fail)
      exact ⟨(⟨k+1,hlt,A2,c2,n+1,by rw [hyes,List.length_append,←hn'];rfl,xs++a.cells,by rw [hyes,hxs];simp⟩:CanI M (candB W st)),(by show M.length-(k+1)<M.length-k;omega),ae al (List.Sublist.cons _ (List.Sublist.cons _ (aj _))) fun _ h=>h⟩
 have hkE:k=M.length:=by omega
 have hfin:candL W st=(M.take k).filter (candB W st):=by rw [hcand,hkE,List.take_length]
 have hnc:n=(candL W st).length:=by rw [hfin];exact hn'
 · have hn1:n≠1:=by
    intro e
    rw [e] at hx_
    exact absurd hx_ (by decide)
   have hone:oneA (candL W st)=none:=mB aa
   have hdc:decide ((1:Int)<(n:Int))=decide (1<(candL W st).length):=by
    rw [←hnc]
    by_cases h1:1<n
    · rw [decide_eq_true h1,decide_eq_true (by omega)]
    · rw [decide_eq_false h1,decide_eq_false (by omega)]
   refine ab (ai rfl rfl) ⟨bldR b { h with fork:=decide ((1:Int)<(n:Int)) } sa sk st pl,List.Sublist.cons _ (List.Sublist.cons _ (aj _)),fun a ha=>?_,fun _=>?_⟩
   · rw [hone] at ha
     cases ha
   · rw [←hdc]
     exact ⟨rfl,sa,sk,pl,ok',rfl⟩
 have hkE:k=M.length:=by omega
 have hfin:candL W st=(M.take k).filter (candB W st):=by rw [hcand,hkE,List.take_length]
 have hnc:n=(candL W st).length:=by rw [hfin];exact hn'
 have hn1:n=1:=by
  by_cases e:n=1
  · exact e
  · exact absurd hx_ (by simp;omega)
 obtain ⟨a,ha⟩:∃ a,candL W st=[a]:=List.length_eq_one_iff.1 aa
 have ham:a∈W.L:=(lK (show a∈candL W st from by rw [ha];exact List.mem_singleton.2 rfl)).1
 have hxa:xs=a.cells:=by rw [hxs,←hfin,ha];simp
 subst hxa
 subst hn1
 refine bH (r:=orow 37 20 (.slice A 1 cc) 1 a.cells) aL (p:=A.isSome=true) (fun w h=>bu h (by decide)) fun hAp=>?_
 have had:=yg b h sa sk st pl ok' a (hok.rng a ham) (hok.sm a ham) aa aa
 (refine ao ⟨[1,2],[(0,⟨[],[(3,⟨[],[(4,⟨[],[]⟩)]⟩)]⟩),(3,⟨[],[(0,⟨[],[(4,⟨[],[]⟩)]⟩)]⟩)]⟩ [] (fun _=>True) (h:=?_))
 all_goals repeat' (first|refine gd ?_|refine ax (hy:=by first|(apply aG (q:=0);rfl;rfl;omega;omega;assumption;rfl)) ?_|refine ay ?_ (h':=?_)|exact az|((refine ak (eZ (size:=20) (m:=1) (i:=0) (xs:=[a.cells]) (cs:=a.cells) rfl (by exact ap) rfl (fun r hr=>by rw [List.mem_singleton.1 hr];rfl) rfl) rfl rfl rfl ?_))|((refine bX (l:=bldR b h sa sk st pl++[orow 37 20 (.slice A 1 cc) 1 a.cells,cel b1 127 [.pointer (some ⟨b,0,none⟩)]]) (List.perm_append_comm (l₁:=[orow 37 20 (.slice A 1 cc) 1 a.cells,cel b1 127 [.pointer (some ⟨b,0,none⟩)]]) (l₂:=bldR b h sa sk st pl)) ?_;refine aZ (pre:=bldR b h sa sk st pl) (fr:=[orow 37 20 (.slice A 1 cc) 1 a.cells,cel b1 127 [.pointer (some ⟨b,0,none⟩)]]) (first:=#[]) (caps:=#[]) (hc:=had) (hX:=fun w hw=>⟨hw.1.2 a ham,hw.2⟩) (h:=?_);rintro v R X' ⟨rfl,sa2,sk2,pl2,ok2,rfl⟩;simp only [bldR,List.cons_append,List.nil_append]))|refine gs1 fun _=>?_|(refine gq ?_ ?_<;>intro hx_ this)|fail)
 all_goals
  repeat' (first|refine gs ?_|refine gs1 fun _=>?_|(refine gp ?_ ?_<;>intro hx_ this)|fail)
  refine ab (ai rfl rfl) ⟨bldR b h sa2 sk2 (addS st a) pl2,List.sublist_append_left _ _,fun a' ha'=>?_,fun ho=>?_⟩
  · rw [ha,oneA,Option.some.injEq] at ha'
    subst ha'
    exact ⟨rfl,sa2,sk2,pl2,ok2,rfl⟩
  · rw [ha] at ho
    cases ho
end Go.Proofs.YtggionfjlgfihaaGreatDoor
namespace Go.Proofs.YtggionfjlgfihaaGreatDoor
open Go Go.Proofs Sy SrG
namespace SrA
def p22 (i:Nat):Nat:=i*22
theorem cZ (i:Nat):p22 i=i*22:=rfl
attribute [irreducible] p22
structure FndX where
 rank:Int
 dg:ByteArray
 r:List Value
 hr:r.length=20
 h1:r.all (·.oneCell')=true
def FndX.cells (f:FndX):List Value:=.int .i64 f.rank::.string f.dg::f.r
theorem FndX.len (f:FndX):f.cells.length=22:=by simp [FndX.cells,f.hr]
theorem FndX.one (f:FndX):f.cells.all (·.oneCell')=true:=by rw [FndX.cells,List.all_cons,List.all_cons,f.h1];rfl
theorem cellsF (P:List FndX):∀ r∈P.map FndX.cells,r.length=22:=fun r hr=>by
 obtain ⟨c,_,rfl⟩:=List.mem_map.1 hr
 exact c.len
abbrev postR (s:Xj) (P:List FndX):Xk:=orow 242 22 (.slice s.p s.n s.c) s.n (P.map FndX.cells).flatten
theorem bQ:∀ (L:List FndX) (p:Nat) (x:FndX),p<L.length→(L.map FndX.cells).flatten.take (p*22)++x.cells++(L.map FndX.cells).flatten.drop (p*22+22)=((L.set p x).map FndX.cells).flatten
 | [],p,x,h=>absurd h (by simp)
 | c::L,0,x,h=>by
  have h6:c.cells.length=22:=c.len
  rw [List.set_cons_zero,List.map_cons,List.map_cons,List.flatten_cons,List.flatten_cons,Nat.zero_mul,Nat.zero_add,List.take_zero,List.nil_append,List.drop_append,h6,List.drop_of_length_le (by omega)]
  rfl
 | c::L,p+1,x,h=>by
  have h6:c.cells.length=22:=c.len
  have ih:=bQ L p x (by simpa using h)
  rw [List.set_cons_succ,List.map_cons,List.map_cons,List.flatten_cons,List.flatten_cons,←ih,List.take_append,List.drop_append,h6,List.take_of_length_le aa,List.drop_of_length_le aa,
   show (p+1)*22-22=p*22 from by omega,show (p+1)*22+22-22=p*22+22 from by omega,List.nil_append,List.append_assoc,List.append_assoc,List.append_assoc]
theorem cU {P:List FndX} {i j:Nat} {x y:FndX} (hi:P[i]?=some x) (hj:P[j]?=some y):((P.set i y).set j x).Perm P:=by
 obtain ⟨h1,rfl⟩:=List.getElem?_eq_some_iff.1 hi
 obtain ⟨h2,rfl⟩:=List.getElem?_eq_some_iff.1 hj
 exact List.set_set_perm h1 h2
section
variable {N:Nat} {av bor:List Nat} {w0:World} {st:St} {ty:TypeId} {x y:Operand} {E:Env} {loc:List Xk} {X:World→Prop} {ops:Array Oper} {kk:St→Prop} {pos:String} {af:Array Edge} {g:Option (Nat×Bool)} {rest:List Oper} {bb want:Bool}
theorem bq {A:Option Addr} {m c i:Nat} {P:List FndX} {p:FndX} (hx:ev st.env x=some (elP A (p22 i))) (hm:orow 242 22 (.slice A m c) m (P.map FndX.cells).flatten∈st.loc) (hn:m=P.length) (hi:P[i]?=some p) :
  Sy.Yields Tryz.prog N av bor w0 st (.load 242 x) ty (.agg p.cells.toArray):=eZ (xs:=P.map FndX.cells) (cs:=p.cells) (cZ i▸hx) hm (by simp [hn]) (cellsF P) (by simp [hi])
theorem bO {d:Option Tmp} {loc':List Xk} {A:Option Addr} {m c i:Nat} {P:List FndX} {p:FndX} (hx:ev E x=some (elP A (p22 i)):=by rfl) (hy:ev E y=some (.agg p.cells.toArray):=by rfl) (hi:i<m:=by omega) (hn:m=P.length)
  (hA:At (orow 242 22 (.slice A m c) m (P.map FndX.cells).flatten) (orow 242 22 (.slice A m c) m ((P.set i p).map FndX.cells).flatten) loc loc':=by (repeat (first|exact At.here _|apply At.there))) (hg:gdB ops E g=some (bb,want):=by rfl) (hb:bb=want:=by exact aq) (hd:inB N d=true:=by rfl)
  (h:Sw Tryz.prog N av bor w0 ops rest ⟨putE E d undef,loc',X⟩ kk):Sw Tryz.prog N av bor w0 ops (⟨d,.store 242 x y,ty,pos,af,g⟩::rest) ⟨E,loc,X⟩ kk :=
 nB (i:=i) (size:=22) (vs:=p.cells) ac (cZ i▸hx) hy rfl p.one p.len hi (bQ P i p aa) hA hg hb hd h
end
def PermAt (s:Xj) (P:List FndX) (u:Value) (R:List Xk) (X:World→Prop):Prop:=u=.tuple #[]∧∃ Q:List FndX,Q.Perm P∧R=[postR s Q]
structure PermI (P:List FndX) (n:Nat) where
 k:Nat
 hk:k≤n
 Q:List FndX
 hQ:Q.Perm P
theorem bN (s:Xj) (P:List FndX) (a b n:Nat) (fv:Value) (hs:s.n=P.length) (hm:s.n≤1000000) (ha:a+n≤s.n) (hb:b+n≤s.n) :
  Ct Tryz.prog 250 #[s.v,.int .i64 (a:Nat),.int .i64 (b:Nat),.int .i64 (n:Nat),fv] [postR s P] (fun _=>True) (PermAt s P):=by
 refine bT Tryz.func250 Tryz.ntmps250 fun av bor w0=>?_
 refine bH (r:=postR s P) ap (p:=0<s.n→s.p.isSome=true) (fun w h hn=>bu h hn) fun hp=>?_
 repeat' (first|refine gs ?_|fail)
 refine am (ι:=PermI P n) (fun i=>⟨[(0,s.v),(1,.int .i64 (a:Nat)),(2,.int .i64 (b:Nat)),(3,.int .i64 (n:Nat)),(10,.int .i64 (i.k:Nat))],[postR s i.Q],fun _=>True⟩) (fun i=>n-i.k) ⟨0,Nat.zero_le _,P,List.Perm.refl _⟩ (ae al (aj _) fun _ h=>h) fun i=>?_
 obtain ⟨k,hk,Q,hQ⟩:=i
 simp only
 have hl:=hQ.length_eq
 repeat' (first|refine gs ?_|(refine gp ?_ ?_<;>intro hx_ this)|fail)
 · have hlt:k<n:=by omega
   have hp':=hp aa
   obtain ⟨x,hx⟩:∃ x,Q[a+k]?=some x:=⟨_,List.getElem?_eq_getElem aa⟩
   obtain ⟨y,hy⟩:∃ y,Q[b+k]?=some y:=⟨_,List.getElem?_eq_getElem aa⟩
   (refine ao ⟨[0,1,2,3,4,5,6,7,8,9,10,11,12,14,15,16,17,18],[(13,⟨[],[(19,⟨[20],[(21,⟨[22],[(23,⟨[],[]⟩)]⟩)]⟩)]⟩),(19,⟨[],[(13,⟨[20],[(21,⟨[22],[(23,⟨[],[]⟩)]⟩)]⟩)]⟩)]⟩ [] (fun _=>True) (h:=?_))
   all_goals repeat' (first|refine gd ?_|refine ax (hy:=by first|(apply aG (q:=p22 (a+k));rfl;rfl;omega;omega;assumption;(rw [cZ];omega))|(apply aG (q:=p22 (b+k));rfl;rfl;omega;omega;assumption;(rw [cZ];omega))) ?_|refine ay ?_ (h':=?_)|exact az|(refine ak (bq (i:=a+k) (P:=Q) rfl ap aa hx) rfl rfl rfl ?_)|(refine ak (bq (i:=b+k) (P:=Q) rfl ap aa hy) rfl rfl rfl ?_)|((refine bO (i:=a+k) (p:=y) rfl rfl aa (by first|omega|(simp only [List.length_set];omega)) (At.here _) rfl aq rfl ?_))|((refine bO (i:=b+k) (p:=x) rfl rfl aa (by first|omega|(simp only [List.length_set];omega)) (At.here _) rfl aq rfl ?_))|(refine gq ?_ ?_<;>intro hx_ this)|fail)
   all_goals
    repeat' (first|refine gs ?_|(refine gp ?_ ?_<;>intro hx_ this)|fail)
    exact ⟨(⟨k+1,hlt,(Q.set (a+k) y).set (b+k) x,(cU hx hy).trans hQ⟩:PermI P n),(by show n-(k+1)<n-k;omega),ae al (aj _) fun _ h=>h⟩
 · exact aI (aA rfl) ⟨rfl,Q,hQ,rfl⟩
section
variable {N:Nat} {av bor:List Nat} {w0:World} {ops:Array Oper} {rest:List Oper} {k:St→Prop} {E:Env} {X:World→Prop} {d:Option Tmp} {ty:TypeId} {pos:String} {af:Array Edge} {g:Option (Nat×Bool)} {bb want:Bool}
theorem cd {x:Operand} {xs:List Operand} {ats:Array TypeId} {f:FuncId} {args:List Value} {s:Xj} {Q:List FndX}
  (hx:ev E x=some (.func (.func f) #[] #[]):=by rfl) (ha:evs E xs=some args:=by rfl) (hg:gdB ops E g=some (bb,want):=by rfl) (hb:bb=want:=by exact aq) (hd:inB N d=true:=by rfl) (hf:Xv Tryz.prog f:=by first|infer_instance|exact ⟨ac⟩)
  (hc:Ct Tryz.prog f args.toArray [postR s Q] (fun _=>True) (PermAt s Q))
  (h:∀ Q':List FndX,Q'.Perm Q→Sw Tryz.prog N av bor w0 ops rest ⟨putE E d (.tuple #[]),[postR s Q'],X⟩ k) :
  Sw Tryz.prog N av bor w0 ops (⟨d,.call ⟨.value x,xs.toArray,ats⟩,ty,pos,af,g⟩::rest) ⟨E,[postR s Q],X⟩ k :=
 aZ (pre:=[postR s Q]) (fr:=[]) (first:=#[]) (caps:=#[]) (Post:=PermAt s Q) hx ha rfl hg hb hd hf (by simpa using hc) (fun _ _=>trivial) fun u R X' ⟨h1,Q',h2,h3⟩=>by
  subst h1
  subst h3
  refine ix (fun a w ok=>?_) (h Q' h2)
  exact ok.via fun M G=>G.imp fun _ h=>h.1
end
structure RotI (P:List FndX) (p q:Nat) where
 i:Nat
 j:Nat
 h1:1≤i
 h2:i≤p
 h3:1≤j
 h4:j≤q
 Q:List FndX
 hQ:Q.Perm P
theorem fg (s:Xj) (P:List FndX) (a m b:Nat) (fv:Value) (hs:s.n=P.length) (hm:s.n≤1000000) (ha:a<m) (hb:m<b) (hbs:b≤s.n) :
  Ct Tryz.prog 234 #[s.v,.int .i64 (a:Nat),.int .i64 (m:Nat),.int .i64 (b:Nat),fv] [postR s P] (fun _=>True) (PermAt s P):=by
 refine bT Tryz.func234 Tryz.ntmps234 fun av bor w0=>?_
 repeat' (first|refine aP (hq:=by omega) ?_|refine gs ?_|(refine gp ?_ ?_<;>intro hx_ this)|fail)
 refine am (ι:=RotI P (m-a) (b-m)) (fun r=>⟨[(0,s.v),(2,.int .i64 (m:Nat)),(4,fv),(10,.int .i64 (r.i:Nat)),(11,.int .i64 (r.j:Nat))],[postR s r.Q],fun _=>True⟩) (fun r=>r.i+r.j) ⟨m-a,b-m,by omega,by omega,by omega,by omega,P,List.Perm.refl _⟩ (ae al (aj _) fun _ h=>h) fun r=>?_
 obtain ⟨i,j,h1,h2,h3,h4,Q,hQ⟩:=r
 simp only
 have hl:=hQ.length_eq
 by_cases hij:i=j
 · repeat' (first|refine dP ?_|refine aP (hq:=by omega) ?_|refine gs ?_|(refine cd (hc:=bN s Q (m-i) m i fv aa hm aa aa) (h:=fun Q2 hQ2=>?_))|(refine gp ?_ ?_<;>intro hx_ this)|fail)
   exact aI (aA rfl) ⟨rfl,Q2,hQ2.trans hQ,rfl⟩
 · repeat' (first|refine aP (hq:=by omega) ?_|refine aK (hq:=by omega) ?_|refine gs ?_|(refine cd (hc:=bN s Q (m-i) m j fv aa hm aa aa) (h:=fun Q2 hQ2=>?_))|(refine cd (hc:=bN s Q (m-i) (m+j-i) i fv aa hm aa aa) (h:=fun Q2 hQ2=>?_))|(refine gp ?_ ?_<;>intro hx_ this)|fail)
   · exact ⟨(⟨i-j,j,by omega,by omega,h3,h4,Q2,hQ2.trans hQ⟩:RotI P (m-a) (b-m)),(by show i-j+j<i+j;omega),ae al (aj _) fun _ h=>h⟩
   · exact ⟨(⟨i,j-i,h1,h2,by omega,by omega,Q2,hQ2.trans hQ⟩:RotI P (m-a) (b-m)),(by show i+(j-i)<i+j;omega),ae al (aj _) fun _ h=>h⟩
   · have h9:(i:Int)=(j:Int):=by simpa using hx_
     exact absurd (show i=j by omega) hij
def cmpX (x y:FndX):Int:=cmp2 x.rank y.rank x.dg y.dg
theorem dw (x y:FndX):Pu Tryz.prog 187 #[.agg x.cells.toArray,.agg y.cells.toArray] (fun _=>True) (.int .i64 (cmpX x y)):=by
 refine ar Tryz.func187 Tryz.ntmps187 fun av bor w0=>?_
 have h1:=gG x.rank y.rank
 have h2:=fT x.dg y.dg
 rw [cmpX,cmp2]
 generalize cmpI x.rank y.rank=k at *
 generalize SrG.cmpB_g x.dg y.dg=l at *
 have h3:=fun s=>qZ s k l
 repeat' (first|refine gs ?_|refine gs1 fun _=>?_|(refine gp ?_ ?_<;>intro hx_ this)|fail)
 rename_i b2 b3
 (refine ao ⟨[0,1,2,3,5,6,7,8],[(4,⟨[],[(9,⟨[],[(10,⟨[],[(11,⟨[12],[]⟩)]⟩)]⟩)]⟩)]⟩ [cel b3 242 y.cells,cel b2 242 x.cells] (fun _=>True) (h:=?_))
 all_goals repeat' (first|(refine ag (hc:=h1) ?_)|(refine ag (hc:=h2) ?_)|(refine ag (hc:=h3 ⟨some ⟨bs,0,none⟩,2,2⟩) (hX:=fun w h=>aR (xs:=[[.int .i64 k],[.int .i64 l]]) h.2 rfl (by decide) (by simp)) ?_)|refine gdz ?_|refine ay ?_ (h':=?_)|exact az|((refine cr (len:=2) (vs:=[.int .i64 k,.int .i64 l]) fun bs=>?_;refine aW ?_))|refine gs1 fun _=>?_|(refine gq ?_ ?_<;>intro hx_ this)|fail)
 all_goals
  repeat' (first|refine gs ?_|refine gs1 fun _=>?_|(refine gp ?_ ?_<;>intro hx_ this)|fail)
  exact ab (ai rfl rfl) rfl
def cmpF:Value:=.func (.func 187) #[] #[]
def Srt (P:List FndX):Prop:=∀ (i j:Nat) (x y:FndX),i<j→P[i]?=some x→P[j]?=some y→¬ cmpX y x<0
def Rel (P Q:List FndX):Prop:=Q.Perm P∧(Srt P→Q=P)
theorem Rel.refl (P:List FndX):Rel P P:=⟨List.Perm.refl _,fun _=>rfl⟩
theorem Rel.trans {P Q R:List FndX} (h:Rel P Q) (k:Rel Q R):Rel P R:=⟨k.1.trans h.1,fun hs=>by rw [k.2 (h.2 hs▸hs),h.2 hs]⟩
theorem Rel.swap {P Q:List FndX} (h:Rel P Q) {i j:Nat} {x y:FndX} (hi:Q[i]?=some x) (hj:Q[j]?=some y) (hno:Srt P→False):Rel P ((Q.set i y).set j x):=⟨(cU hi hj).trans h.1,fun hs=>(hno hs).elim⟩
theorem Rel.srt {P Q:List FndX} (h:Rel P Q) (hs:Srt P):Srt Q:=by rw [h.2 hs];exact hs
theorem Rel.perm {P Q Q':List FndX} (h:Rel P Q) (k:Q'.Perm Q) (hno:Srt P→False):Rel P Q':=⟨k.trans h.1,fun hs=>(hno hs).elim⟩
def RelAt (s:Xj) (P:List FndX) (u:Value) (R:List Xk) (X:World→Prop):Prop:=u=.tuple #[]∧∃ Q:List FndX,Rel P Q∧R=[postR s Q]
end SrA
end Go.Proofs.YtggionfjlgfihaaGreatDoor
