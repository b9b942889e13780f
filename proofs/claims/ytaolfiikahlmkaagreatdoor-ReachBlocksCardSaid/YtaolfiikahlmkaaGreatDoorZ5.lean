/- Joined. -/
import Derived.Test.YtaolfiikahlmkaaGreatDoorZ4
import Derived.RangeFuncSeq
import Derived.OrdersIn
import Derived.Deep.Slices
import Derived.Deep.Fields
import Derived.ChangeSame
import Derived.ChangeArms
import Derived.Carry
import Derived.OpenShut
import Derived.Shelf.Slices.CompactS
import Derived.Lib.RowBridge
set_option linter.unusedVariables false
set_option linter.unusedSimpArgs false
set_option maxHeartbeats 16000000
namespace Go.Proofs.YtaolfiikahlmkaaGreatDoor
open Go Go.Proofs Sy
def hashN (xs:List ByteArray):Nat:=numN (nl (shaV (catB xs)))
theorem B9 (xs:List ByteArray):hashN xs<2305843009213693952:=Ea _
def reduceN (h:Nat):Nat:=1+h%2305843009213693949
theorem uI (h:Nat):reduceN h≤2305843009213693949:=by
 have:=Qc h (show 2305843009213693949>0 by decide)
 unfold reduceN
 omega
theorem ym (h:Nat) (hh:h<2305843009213693952):Pu Tryz.prog 133 #[.int .i64 (h:Int)] (fun _=>True) (.int .i64 (reduceN h:Nat)):=by
 refine ak (args:=[_]) _ Tryz.func133 rfl Tryz.ntmps133 rfl fun av bor w0=>?_
 repeat' (first|refine fo (c:=((h%2305843009213693949:Nat):Int)) (hc:=(Int.ofNat_tmod h 2305843009213693949).symm) (hb:=by decide) ?_|refine gs ?_|(refine gp ?_ ?_<;>intro hx_ this)|fail)
 apply ad;apply ag;rfl;rfl
 rfl
def chalP (r p:Nat) (msg:ByteArray):List ByteArray:=[textV ⟨#[115,105,103,110]⟩,numV (r:Int),numV (p:Int),textV msg]
def chalN (r p:Nat) (msg:ByteArray):Nat:=hashN (chalP r p msg)%2305843009213693950
theorem CA (r p:Nat) (msg:ByteArray):chalN r p msg<2305843009213693950:=Qc _ (by decide)
theorem wI (r p:Nat) (msg:ByteArray) (hr:r<9223372036854775808) (hp:p<9223372036854775808) (hm:msg.size≤1000000000000) :
  Pu Tryz.prog 135 #[.int .i64 (r:Int),.int .i64 (p:Int),.string msg] Glob (.int .i64 (chalN r p msg:Nat)):=by
 refine ak (args:=[_,_,_]) _ Tryz.func135 rfl Tryz.ntmps135 rfl fun av bor w0=>?_
 have hsz:(catB (chalP r p msg)).size≤1099511627776:=by
  have h1:=aB ⟨#[115,105,103,110]⟩
  have h2:=ap (r:Int)
  have h3:=ap (p:Int)
  have h4:=aB msg
  have h5:(⟨#[115,105,103,110]⟩:ByteArray).size=4:=rfl
  rw [pT]
  simp only [chalP,Z1,List.map_nil,List.sum_cons,List.sum_nil]
  omega
 repeat' (first|refine fo (c:=((chalN r p msg:Nat):Int)) (hc:=(Int.ofNat_tmod (hashN (chalP r p msg)) 2305843009213693950).symm) (hb:=by decide) ?_|refine ab (hc:=fu _ (by first|omega|decide)) ?_|refine ab (hc:=eU _ aa) ?_|(refine ng (hc:=qN _ 9 4 (chalP r p msg) (show 4≤4 by decide) (show 4≤1000 by decide) hsz) (hX:=fun w h hr=>⟨hr _ ax,h⟩) ?_)|refine gs ?_|refine gs1 fun _=>?_|(refine gp ?_ ?_<;>intro hx_ this)|fail)
 apply ad;apply ag;rfl;rfl
 rfl
structure KyD where
 s:Int
 p:Int
def KyD.cells (k:KyD):List Value:=[.int .i64 k.s,.int .i64 k.p]
def KyD.v (k:KyD):Value:=.agg k.cells.toArray
def KyD.zero:KyD:=⟨0,0⟩
theorem wE (a e:Nat):∀ i,(expF a e i).1<2305843009213693951
 | 0=>by show 1<2305843009213693951;decide
 | i+1=>by
  have ih:=wE a e i
  show (bif decide (e/2 ^ i%2=1) then (expF a e i).1*(expF a e i).2%2305843009213693951 else (expF a e i).1)<_
  cases decide (e/2 ^ i%2=1) with
  | true=>exact Qc _ (by decide)
  | false=>exact ih
theorem wD (a e:Nat):expV a e<2305843009213693951:=wE a e _
def ofK (s:Int):KyD:=bif decide (s<1)||decide (2305843009213693949<s) then KyD.zero else ⟨s,(expV 37 s.toNat:Nat)⟩
theorem uQ {s:Int} (h1:1≤s) (h2:s≤2305843009213693949):ofK s=⟨s,(expV 37 s.toNat:Nat)⟩:=by
 rw [ofK,Zc aa,Zc (by omega)]
 rfl
theorem wj {s:Int} (h:s<1∨2305843009213693949<s):ofK s=KyD.zero:=by
 rw [ofK]
 rcases h with h|h
 · rw [Zd h];rfl
 · rw [Zd h,Zs];rfl
theorem xU (s:Int):Pu Tryz.prog 132 #[.int .i64 s] (fun _=>True) (ofK s).v:=by
 refine ak (args:=[_]) _ Tryz.func132 rfl Tryz.ntmps132 rfl fun av bor w0=>?_
 by_cases h:s<1∨2305843009213693949<s
 · rw [wj h]
   repeat' (first|refine gs ?_|refine gs1 fun _=>?_|(refine aF (cs:=KyD.zero.cells) (hf:=by rfl) ?_)|(refine gp ?_ ?_<;>intro hx_ this)|fail)
   all_goals first
    | (exfalso;omega)
    | exact ad (cB rfl rfl bz (by rfl)) rfl
 · have h1:1≤s:=by omega
   have h2:s≤2305843009213693949:=by omega
   obtain ⟨n,rfl⟩:=Int.eq_ofNat_of_zero_le (show 0≤s by omega)
   rw [uQ h1 h2]
   have he:=qP 37 n aa
   repeat' (first|(refine ab (hc:=he) (hX:=fun w h=>trivial) ?_)|refine gs ?_|refine gs1 fun _=>?_|(refine aF (cs:=KyD.cells ⟨(n:Int),(expV 37 n:Nat)⟩) (hf:=by rfl) ?_)|(refine gp ?_ ?_<;>intro hx_ this)|fail)
   all_goals first
    | (exfalso;omega)
    | exact ad (cB rfl rfl bz (by rfl)) rfl
def eqKy (a b:KyD):Bool:=decide (a.s=b.s)&&decide (a.p=b.p)
theorem Co {a b:KyD}:eqKy a b=true↔a=b:=by
 cases a;cases b
 simp only [eqKy,Zp,Zw,KyD.mk.injEq]
theorem gN (w:World) {cs:Array Value} {off:Nat} {v:Value} (h:cs[off]?=some v):(part 3 cs off).run Tryz.prog w=.ok v w:=by
 simp [part,isAgg,run_underlying Tryz.underlying3,h]
theorem tE (w:World) (d:Nat) (a b:Int):(Op.equalIn (d+1) 3 (.int .i64 a) (.int .i64 b)).run Tryz.prog w=.ok (decide (a=b)) w:=by
 rw [run_equalIn_int w d _ .i64 .i64 a b Tryz.underlying3]
 rfl
theorem Bc (w:World) (d:Nat) (a b:KyD):(Op.equalIn (d+2) 27 a.v b.v).run Tryz.prog w=.ok (eqKy a b) w:=by
 have p0:∀ x:KyD,(part 3 x.cells.toArray 0).run Tryz.prog w=.ok (.int .i64 x.s) w:=fun x=>gN w rfl
 have p1:∀ x:KyD,(part 3 x.cells.toArray 1).run Tryz.prog w=.ok (.int .i64 x.p) w:=fun x=>gN w rfl
 unfold KyD.v
 rw [run_equalIn_agg _ _ _ _ _ ae ae]
 simp only [Program.fieldsOf,Tryz.underlying27]
 simp [Op.eqFields,p0,p1,tE]
 unfold eqKy
 by_cases h1:a.s=b.s<;>by_cases h2:a.p=b.p<;>simp [h1,h2]
section
variable {N:Nat} {av bor:List Nat} {w0:World} {x y:Operand} {t2:TypeId} {ty:TypeId} {st:St}
theorem Fz (a b:KyD) (hx:ev st.env x=some a.v) (hy:ev st.env y=some b.v):Sy.Yields Tryz.prog N av bor w0 st (.binOp .eql 27 x y t2) ty (.bool (eqKy a b)):=Sy.Yields.mk fun A w ok d pos af g=>by
 have h1:=run_eqGuard_agg (P:=Tryz.prog) w .eql 27 x y a.cells.toArray b.cells.toArray ae
 have h2:=run_eql_struct (P:=Tryz.prog) w 27 a.cells.toArray b.cells.toArray
 have h3:=Bc w 9998 a b
 simp only [KyD.v] at hx hy h3
 simp [execOp,ok.eval hx,ok.eval hy,h1,h2,h3]
end
def rightK (k:KyD):Bool:=decide (1≤k.s)&&eqKy k (ofK k.s)
theorem jI (k:KyD):Pu Tryz.prog 76 #[k.v] (fun _=>True) (.bool (rightK k)):=by
 refine ak (args:=[_]) _ Tryz.func76 rfl Tryz.ntmps76 rfl fun av bor w0=>?_
 repeat' (first|refine gs ?_|refine gs1 fun _=>?_|(refine gp ?_ ?_<;>intro hx_ this)|fail)
 rename_i b
 (refine aq ⟨[0,1,2,3,4,5,6],[(7,⟨[8,9,10],[]⟩)]⟩ [cel b 27 k.cells] (fun _=>True) (h:=?_))
 all_goals repeat' (first|refine ab (hc:=xU k.s) ?_|refine gd ?_|refine ay (hy:=by first|(apply Fz k (ofK k.s);rfl;rfl)) ?_|refine az ?_ (h':=?_)|exact aA|refine gs1 fun _=>?_|(refine gq ?_ ?_<;>intro hx_ this)|fail)
 all_goals
  repeat' (first|refine gs ?_|refine gs1 fun _=>?_|(refine gp ?_ ?_<;>intro hx_ this)|fail)
  apply ad;apply ag;rfl;rfl
  rw [rightK,hx_]
  rfl
theorem rightK_iff {k:KyD}:rightK k=true↔1≤k.s∧k.s≤2305843009213693949∧k.p=(expV 37 k.s.toNat:Nat):=by
 rw [rightK,Zp,Zw,Co]
 constructor
 · rintro ⟨h1,h2⟩
   have h3:k.s≤2305843009213693949:=by
    by_cases h:2305843009213693949<k.s
    · rw [wj (.inr h)] at h2
      rw [h2] at h1
      exact absurd h1 (by decide)
    · omega
   refine ⟨h1,h3,?_⟩
   rw [uQ h1 h3] at h2
   rw [h2]
 · rintro ⟨h1,h2,h3⟩
   exact ⟨h1,by rw [uQ h1 h2,←h3]⟩
def nonceP (s:Int) (msg:ByteArray):List ByteArray:=[textV ⟨#[110,111,110,99,101]⟩,numV s,textV msg]
def nonceN (s:Int) (msg:ByteArray):Nat:=reduceN (hashN (nonceP s msg))
structure SgD where
 e:Int
 s:Int
def SgD.cells (k:SgD):List Value:=[.int .i64 k.e,.int .i64 k.s]
def SgD.v (k:SgD):Value:=.agg k.cells.toArray
def SgD.zero:SgD:=⟨0,0⟩
def sigE (k:KyD) (msg:ByteArray):Nat:=chalN (expV 37 (nonceN k.s msg)) k.p.toNat msg
def sigS (k:KyD) (msg:ByteArray):Nat:=(nonceN k.s msg+sigE k msg*k.s.toNat%2305843009213693950)%2305843009213693950
def signV (k:KyD) (msg:ByteArray):SgD:=bif rightK k then ⟨(sigE k msg:Nat),(sigS k msg:Nat)⟩ else SgD.zero
theorem DJ (k:KyD) (msg:ByteArray) (hm:msg.size≤1000000000000):Pu Tryz.prog 77 #[k.v,.string msg] Glob (signV k msg).v:=by
 refine ak (args:=[_,_]) _ Tryz.func77 rfl Tryz.ntmps77 rfl fun av bor w0=>?_
 have hrk:=jI k
 cases hk:rightK k with
 | false =>
  rw [hk] at hrk
  rw [show signV k msg=SgD.zero from by rw [signV,hk];rfl]
  repeat' (first|(refine ab (hc:=hrk) (hX:=fun _ _=>trivial) ?_)|refine gs ?_|refine gs1 fun _=>?_|(refine aF (cs:=SgD.zero.cells) (hf:=by rfl) ?_)|(refine gp ?_ ?_<;>intro hx_ this)|fail)
  exact ad (cB rfl rfl bz (by rfl)) rfl
 | true =>
  rw [hk] at hrk
  rw [show signV k msg=⟨(sigE k msg:Nat),(sigS k msg:Nat)⟩ from by rw [signV,hk];rfl]
  obtain ⟨h1,h2,h3⟩:=rightK_iff.1 hk
  obtain ⟨s,p⟩:=k
  obtain ⟨n,rfl⟩:=Int.eq_ofNat_of_zero_le (show 0≤s by show 0≤s;have:1≤s:=h1;omega)
  have h3':p=(expV 37 n:Nat):=h3
  subst h3'
  have h2':(n:Int)≤2305843009213693949:=h2
  have hp:=wD 37 n
  have hsz:(catB (nonceP (n:Int) msg)).size≤1099511627776:=by
   have e1:=aB ⟨#[110,111,110,99,101]⟩
   have e2:=ap (n:Int)
   have e4:=aB msg
   have e5:(⟨#[110,111,110,99,101]⟩:ByteArray).size=5:=rfl
   rw [pT]
   simp only [nonceP,Z1,List.map_nil,List.sum_cons,List.sum_nil]
   omega
  have hno:nonceN (n:Int) msg<9223372036854775808:=by have:=uI (hashN (nonceP (n:Int) msg));unfold nonceN;omega
  have hha:=qN (T:=9) (c:=3) (xs:=nonceP (n:Int) msg)
  have hex:=qP 37 (nonceN (n:Int) msg) hno
  have hch:=wI (expV 37 (nonceN (n:Int) msg)) (expV 37 n) msg (by have:=wD 37 (nonceN (n:Int) msg);omega) aa hm
  repeat' (first|(refine ab (hc:=hrk) (hX:=fun _ _=>trivial) ?_)|refine gs ?_|refine gs1 fun _=>?_|(refine gp ?_ ?_<;>intro hx_ this)|fail)
  rename_i b2 b4
  (refine aq ⟨[1,2,4],[(0,⟨[],[(3,⟨[],[(5,⟨[],[(6,⟨[],[(7,⟨[],[(8,⟨[9],[]⟩)]⟩)]⟩)]⟩)]⟩)]⟩)]⟩ [cel b4 44 SgD.zero.cells,cel b2 27 (KyD.mk (n:Int) (expV 37 n:Nat)).cells] Glob (h:=?_))
  all_goals repeat' (first|refine ab (hc:=fu _ (by first|omega|decide)) ?_|refine ab (hc:=eU _ aa) ?_|(refine ng (hc:=qN _ 9 3 (nonceP (n:Int) msg) (show 3≤3 by decide) (show 3≤1000 by decide) hsz) (hX:=fun w h hr=>⟨hr _ ax,h⟩) ?_)|refine ab (hc:=ym (hashN (nonceP (n:Int) msg)) (B9 _)) ?_|refine gd ?_|refine az ?_ (h':=?_)|exact aA|(refine cR fun _=>?_)|refine gs1 fun _=>?_|(refine gq ?_ ?_<;>intro hx_ this)|fail)
  repeat' (first|refine gs ?_|refine gs1 fun _=>?_|(refine gp ?_ ?_<;>intro hx_ this)|fail)
  (refine aq ⟨[0,2,3,4],[(1,⟨[],[(5,⟨[6],[]⟩)]⟩)]⟩ [cel b4 44 SgD.zero.cells,cel b2 27 (KyD.mk (n:Int) (expV 37 n:Nat)).cells] Glob (h:=?_))
  all_goals repeat' (first|(refine ab (hc:=hex) (hX:=fun _ _=>trivial) ?_)|(refine ab (hc:=hch) (hX:=fun _ h=>h) ?_)|refine gd ?_|refine az ?_ (h':=?_)|exact aA|refine gs1 fun _=>?_|(refine gq ?_ ?_<;>intro hx_ this)|fail)
  have hm1:=E5 (sigE ⟨(n:Int),(expV 37 n:Nat)⟩ msg) n
  have hm2:=E6 (nonceN (n:Int) msg) (sigE ⟨(n:Int),(expV 37 n:Nat)⟩ msg*n%2305843009213693950)
  repeat' (first|(refine ab (hc:=hm1) (hX:=fun _ _=>trivial) ?_)|(refine ab (hc:=hm2) (hX:=fun _ _=>trivial) ?_)|refine gs ?_|refine gs1 fun _=>?_|(refine aF (cs:=SgD.cells ⟨(sigE ⟨(n:Int),(expV 37 n:Nat)⟩ msg:Nat),(sigS ⟨(n:Int),(expV 37 n:Nat)⟩ msg:Nat)⟩) (hf:=by rfl) ?_)|(refine gp ?_ ?_<;>intro hx_ this)|fail)
  exact ad (cB rfl rfl bz (by rfl)) rfl
def keyP (seed:ByteArray):List ByteArray:=[textV ⟨#[107,101,121]⟩,textV seed]
def keyN (seed:ByteArray):Nat:=reduceN (hashN (keyP seed))
def keyOf (seed:ByteArray):KyD:=⟨(keyN seed:Nat),(expV 37 (keyN seed):Nat)⟩
def hexDg:ByteArray:=⟨#[48,49,50,51,52,53,54,55,56,57,97,98,99,100,101,102]⟩
def hexB (s:ByteArray) (i:Nat):List Int:=[byteAt hexDg (shrV .u8 (byteAt s i) 4).toNat,byteAt hexDg (bitsV .and .u8 (byteAt s i) 15).toNat]
def hexF (s:ByteArray) (n:Nat):List Int:=(List.range n).flatMap (hexB s)
def hexV (s:ByteArray):ByteArray:=ofInts (hexF s s.size)
theorem pK (s:ByteArray) (n:Nat):hexF s (n+1)=hexF s n++hexB s n:=by
 rw [hexF,List.range_succ,List.flatMap_append]
 simp [hexF]
theorem Eb:∀ b:Nat,b<256→(0≤shrV .u8 (b:Int) 4∧shrV .u8 (b:Int) 4<16)∧(0≤bitsV .and .u8 (b:Int) 15∧bitsV .and .u8 (b:Int) 15<16):=by decide +kernel
theorem ze (s:ByteArray) (i:Nat):∃ b:Nat,b<256∧byteAt s i=(b:Int):=⟨(s.data.toList.getD i 0).toNat,UInt8.toNat_lt _,rfl⟩
def hexN (d:Nat):Nat:=if d<10 then 48+d else 87+d
def hexL (l:List Nat):List Nat:=l.flatMap fun b=>[hexN (b/16),hexN (b%16)]
theorem Ep:∀ b:Nat,b<256→byteAt hexDg (shrV .u8 (b:Int) 4).toNat=(hexN (b/16):Nat)∧byteAt hexDg (bitsV .and .u8 (b:Int) 15).toNat=(hexN (b%16):Nat):=by decide +kernel
structure HexI where
 k:Nat
 hk:k≤32
 A:Option Addr
 c:Nat
theorem Gn (s:ByteArray) (hs:s.size=32):Pu Tryz.prog 111 #[.string s] (fun _=>True) (.string (hexV s)):=by
 refine ak (args:=[_]) _ Tryz.func111 rfl Tryz.ntmps111 rfl fun av bor w0=>?_
 repeat' (first|refine eI (c:=64) (hc:=by rw [hs];rfl) (h:=?_)|refine gs ?_|refine gs1 fun _=>?_|(refine iR (c:=64) (hm:=rfl) (hm2:=rfl) fun q=>?_)|(refine gp ?_ ?_<;>intro hx_ this)|fail)
 refine ar (ι:=HexI) (fun i=>⟨[(0,.string s),(3,.slice i.A (2*i.k) i.c),(10,.int .i64 s.size),(11,.int .i64 i.k)],[orow 5 1 (.slice i.A (2*i.k) i.c) (2*i.k) (u8s (hexF s i.k))],fun _=>True⟩) (fun i=>32-i.k) ⟨0,Z4 _,_,_⟩
  (aj ao (al _) fun _ h=>h) fun i=>?_
 have hik:=i.hk
 repeat' (first|refine gs ?_|refine gs1 fun _=>?_|(refine gp ?_ ?_<;>intro hx_ this)|fail)
 · have hlt:i.k<32:=by omega
   obtain ⟨b,hb,hbe⟩:=ze s i.k
   obtain ⟨⟨n1,n2⟩,n3,n4⟩:=Eb b hb
   rw [←hbe] at n1 n2 n3 n4
   (refine aq ⟨[0,1,2,3,4,5,6,7,8,9,10],[(11,⟨[],[(12,⟨[13],[]⟩)]⟩)]⟩ [] (fun _=>True) (h:=?_))
   all_goals repeat' (first|refine gd ?_|refine ay (hy:=by first|(apply tS;rfl;rfl;(first|omega|assumption);(first|omega|assumption))) ?_|refine az ?_ (h':=?_)|exact aA|refine cR (len:=2) (vs:=u8s (hexB s i.k)) fun _=>?_|(refine ia ?_;refine aN (size:=1) (z:=.int .u8 0) (news:=u8s (hexB s i.k)) (q:=2) rfl rfl rfl rfl (fun _=>At.there _ (At.here _)) (fun w G=>bX G ax rfl rfl 2) aa (by simp only [maxLen];omega) rfl ?_ rfl ?_;(first|with_reducible rfl|with_reducible assumption|with_reducible exact Zl|with_reducible exact Zn);intro A2 c2)|refine gs1 fun _=>?_|(refine gq ?_ ?_<;>intro hx_ this)|fail)
   rw [←cq,←pK]
   repeat' (first|refine gs ?_|refine gs1 fun _=>?_|(refine gp ?_ ?_<;>intro hx_ this)|fail)
   exact ⟨⟨i.k+1,hlt,A2,c2⟩,(by show 32-(i.k+1)<32-i.k;omega),aj ao (List.sublist_cons_self _ _) fun _ h=>h⟩
 · have hk:i.k=s.size:=by omega
   repeat' (first|refine gs ?_|refine gs1 fun _=>?_|(refine eJ (ns:=hexF s i.k) (hm:=by exact bz) ?_)|(refine gp ?_ ?_<;>intro hx_ this)|fail)
   apply ad;apply ag;rfl;rfl
   rw [hk]
   rfl
theorem wy (d:Nat) (h:d<16):hexN d<256:=by
 unfold hexN
 split<;>omega
theorem Er {l:List Nat} (h:∀ x∈l,x<256):∀ x∈hexL l,x<256:=fun x hx=>by
 rw [hexL,List.mem_flatMap] at hx
 obtain ⟨b,hb,hx⟩:=hx
 have hb':=h b hb
 rcases ZI.1 hx with rfl|hx
 · exact wy _ aa
 · rw [Z5] at hx
   subst hx
   exact wy _ (Qc _ (by decide))
theorem wz (s:ByteArray):∀ n,n≤s.size→hexF s n=(hexL ((nl s).take n)).map fun (n:Nat)=>(n:Int)
 | 0,_=>rfl
 | n+1,h=>by
  have hn:n<(nl s).length:=by rw [dr];omega
  have hb:=fT (jZ s) n
  have he:(nl s)[n]=(nl s).getD n 0:=by rw [Zo,Zb hn];rfl
  rw [pK,wz s n aa,List.take_succ_eq_append_getElem hn,hexL,hexL,List.flatMap_append,ZW]
  congr 1
  obtain ⟨h1,h2⟩:=Ep _ hb
  rw [hexB,q8 s n aa,h1,h2,he]
  rfl
theorem yK (s:ByteArray):(hexV s).size=2*s.size:=by
 rw [←dr,hexV,wz s s.size (ZX _),Qf (by rw [dr];exact ZX _),kL _ (Er (jZ s)),hexL]
 rw [←dr]
 generalize nl s=l
 induction l with
 | nil=>rfl
 | cons a l ih=>rw [List.flatMap_cons,ZA,ih];simp only [ZB,ZR];omega
def idText (p:Int):ByteArray:=textV ⟨#[97,99,116,111,114]⟩++numV p
def idV (p:Int):ByteArray:=(hexV (shaV (idText p))).extract 0 16
theorem gW (p:Int) (hp:p<9223372036854775808):Pu Tryz.prog 63 #[.int .i64 p] Glob (.string (idV p)):=by
 refine ak (args:=[_]) _ Tryz.func63 rfl Tryz.ntmps63 rfl fun av bor w0=>?_
 have h1:=aB ⟨#[97,99,116,111,114]⟩
 have h2:=ap p
 have h5:(⟨#[97,99,116,111,114]⟩:ByteArray).size=5:=rfl
 have hsz:(idText p).size≤1099511627776:=by rw [idText,Za];omega
 have hhx:=yK (shaV (idText p))
 rw [pi] at hhx
 repeat' (first|refine ab (hc:=fu _ (by first|omega|decide)) ?_|refine ab (hc:=eU _ hp) ?_|(refine ab (hc:=qo (idText p) hsz) (hX:=fun _ h=>h) ?_)|(refine ab (hc:=Gn (shaV (idText p)) (pi _)) (hX:=fun _ _=>trivial) ?_)|refine gs ?_|(refine nd ?_)|(refine Dq (h1:=by omega) ?_)|(refine gp ?_ ?_<;>intro hx_ this)|fail)
 apply ad;apply ag;rfl;rfl
 rfl
def ActD.sig (a:ActD) (g:SgD):ActD:={ a with e:=g.e,s:=g.s }
def actSignV (k:KyD) (a:ActD):ActD:=bif rightB (a.sig SgD.zero)&&rightK k then a.sig (signV k (coreV (a.sig SgD.zero))) else ActD.zero
theorem vU {a:ActD} (h:a.Rng) {g:SgD} (h1:g.e<9223372036854775808) (h2:g.s<9223372036854775808):(a.sig g).Rng:=by
 obtain ⟨⟨i1,i2,i3,i4,i5,i6,i7,i8,i9⟩,h2',h3,h4⟩:=h
 exact ⟨⟨i1,i2,i3,i4,i5,i6,i7,h1,h2⟩,h2',h3,h4⟩
theorem pf (k:KyD) (msg:ByteArray):(signV k msg).e<9223372036854775808∧(signV k msg).s<9223372036854775808:=by
 rw [signV]
 cases rightK k with
 | false=>exact ⟨(show (0:Int)<9223372036854775808 by decide),(show (0:Int)<9223372036854775808 by decide)⟩
 | true =>
  have h1:=CA (expV 37 (nonceN k.s msg)) k.p.toNat msg
  have h2:=Qc (nonceN k.s msg+sigE k msg*k.s.toNat%2305843009213693950) (show 2305843009213693950>0 by decide)
  refine ⟨?_,?_⟩
  · show ((sigE k msg:Nat):Int)<_
    unfold sigE
    omega
  · show ((sigS k msg:Nat):Int)<_
    unfold sigS
    omega
def ActTo (b:ActD) (u:Value) (X:World→Prop):Prop:=∃ s1 s2:SlV,u=(b.re s1 s2).v∧s1.n=b.to.n∧s2.n=b.wraps.n∧∀ w,X w→(b.re s1 s2).at_ w
set_option maxRecDepth 20000 in
theorem jx (k:KyD) (a:ActD) (hr:a.Rng) (hs:a.Sm):Mk Tryz.prog 36 #[k.v,a.v] (fun w=>a.at_ w∧Glob w) (ActTo (actSignV k a)):=by
 refine bZ (args:=[_,_]) _ Tryz.func36 rfl Tryz.ntmps36 rfl fun av bor w0=>?_
 have hr0:(a.sig SgD.zero).Rng:=vU hr (by decide) (by decide)
 have hri:=dY (a.sig SgD.zero)
 have hrk:=jI k
 cases hb:rightB (a.sig SgD.zero) with
 | false =>
  rw [hb] at hri
  rw [show actSignV k a=ActD.zero from by rw [actSignV,hb];rfl]
  repeat' (first|(refine ab (hc:=hri) (hX:=fun _ h=>h.1) ?_)|refine gs ?_|refine gs1 fun _=>?_|(refine aF (cs:=SgD.zero.cells) (hf:=by rfl) ?_)|(refine dG (a.sig SgD.zero).cells (h:=?_))|(refine aF (cs:=ActD.zero.cells) (hf:=by rfl) ?_)|(refine gp ?_ ?_<;>intro hx_ this)|fail)
  refine ad (cB rfl rfl bz (by rfl)) ⟨⟨none,0,0⟩,⟨none,0,0⟩,rfl,rfl,rfl,fun w _=>⟨aY w 1,aY w 5⟩⟩
 | true =>
  rw [hb] at hri
  cases hk:rightK k with
  | false =>
   rw [hk] at hrk
   rw [show actSignV k a=ActD.zero from by rw [actSignV,hb,hk];rfl]
   repeat' (first|(refine ab (hc:=hri) (hX:=fun _ h=>h.1) ?_)|(refine ab (hc:=hrk) (hX:=fun _ _=>trivial) ?_)|refine gs ?_|refine gs1 fun _=>?_|(refine aF (cs:=SgD.zero.cells) (hf:=by rfl) ?_)|(refine dG (a.sig SgD.zero).cells (h:=?_))|(refine aF (cs:=ActD.zero.cells) (hf:=by rfl) ?_)|(refine gp ?_ ?_<;>intro hx_ this)|fail)
   refine ad (cB rfl rfl bz (by rfl)) ⟨⟨none,0,0⟩,⟨none,0,0⟩,rfl,rfl,rfl,fun w _=>⟨aY w 1,aY w 5⟩⟩
  | true =>
   rw [hk] at hrk
   rw [show actSignV k a=a.sig (signV k (coreV (a.sig SgD.zero))) from by rw [actSignV,hb,hk];rfl]
   have hco:=qT (a.sig SgD.zero) (fun h=>dl hr0 h)
   rw [hb] at hco
   have hcs:=fN (dl hr0 hb)
   have hsi:=DJ k (coreV (a.sig SgD.zero)) aa
   generalize hg:signV k (coreV (a.sig SgD.zero))=g at *
   repeat' (first|(refine ab (hc:=hri) (hX:=fun _ h=>h.1) ?_)|(refine ab (hc:=hrk) (hX:=fun _ _=>trivial) ?_)|refine gs ?_|refine gs1 fun _=>?_|(refine aF (cs:=SgD.zero.cells) (hf:=by rfl) ?_)|(refine dG (a.sig SgD.zero).cells (h:=?_))|(refine gp ?_ ?_<;>intro hx_ this)|fail)
   rename_i b2 b3 b4
   (refine aq ⟨[0],[(1,⟨[],[(2,⟨[],[(3,⟨[4],[(5,⟨[],[]⟩)]⟩)]⟩)]⟩)]⟩ [cel b2 27 k.cells] (fun w=>a.at_ w∧Glob w) (h:=?_))
   all_goals repeat' (first|(refine ab (hc:=hco) (hX:=fun _ h=>h.1) ?_)|(refine ab (hc:=hsi) (hX:=fun _ h=>h.2) ?_)|refine gd ?_|refine az ?_ (h':=?_)|exact aA|(refine dG (a.sig g).cells (h:=?_))|refine gs1 fun _=>?_|(refine gq ?_ ?_<;>intro hx_ this)|fail)
   repeat' (first|refine gs ?_|refine gs1 fun _=>?_|(refine gp ?_ ?_<;>intro hx_ this)|fail)
   refine bS (hc:=iZ a.to (strs a.toL) hs.to (fun cs hcs=>by simp only [strs,QI] at hcs;obtain ⟨x,_,rfl⟩:=hcs;rfl)) (hX:=fun w h=>h.1.1) fun v1 X1 h1=>?_
   obtain ⟨s1,rfl,hn1,hw1⟩:=h1
   repeat' (first|refine gs ?_|refine gs1 fun _=>?_|(refine gp ?_ ?_<;>intro hx_ this)|fail)
   refine bS (hc:=k7 a.wraps (a.wrapsL.map WrapD.cells) hs.wraps (fun cs hcs=>by simp only [QI] at hcs;obtain ⟨x,_,rfl⟩:=hcs;rfl)) (hX:=fun w h=>h.1.1.2) fun v2 X2 h2=>?_
   obtain ⟨s2,rfl,hn2,hw2⟩:=h2
   repeat' (first|refine gs ?_|refine gs1 fun _=>?_|(refine gp ?_ ?_<;>intro hx_ this)|fail)
   refine ad (cB rfl rfl bz (by rfl)) ⟨s1,s2,rfl,?_,?_,fun w h=>⟨hw1 w h.1.1.2,hw2 w h.1.2⟩⟩
   · show s1.n=a.to.n
     rw [hn1,hr.to_len]
     simp [strs]
   · show s2.n=a.wraps.n
     rw [hn2,hr.wraps_len]
     simp
def postK (k:Int):Bool:=decide (k=1)||decide (k=2)||decide (k=3)
theorem jn (k:Int):Pu Tryz.prog 108 #[.int .i64 k] (fun _=>True) (.bool (postK k)):=by
 refine ak (args:=[_]) _ Tryz.func108 rfl Tryz.ntmps108 rfl fun av bor w0=>?_
 repeat' (first|refine gs ?_|(refine gp ?_ ?_<;>intro hx_ this)|fail)
 all_goals
  apply ad;apply ag;rfl;rfl
  simp only [postK, *,Zt,Zr,Zf,Ze,Zh,Zg,Zk,Zj,Zn,Zl,Zs,Zm,Zq,Zi]
theorem hasS_iff {l:List ByteArray} {x:ByteArray}:hasS l x=true↔x∈l:=by
 rw [hasS,List.any_eq_true]
 constructor
 · rintro ⟨y,hy,h⟩
   rw [seqB_iff.1 h];exact hy
 · intro h
   exact ⟨x,h,cW x⟩
theorem hasS_false {l:List ByteArray} {x:ByteArray}:hasS l x=false↔x∉l:=by
 rw [←ZE,hasS_iff]
def ChBox (c:ChainD) (b:Nat) (w:World):Prop:=w.heap[b]?=some (.cells c.cells.toArray 35 (0,0))
theorem ChBox.cell {c:ChainD} {b:Nat} {w:World} (h:ChBox c b w):∀ j v,c.cells[j]?=some v→w.cell? ⟨b,j,none⟩=some v:=fun j v hj=>by
 simp [World.cell?,show w.heap[b]?=_ from h,hj]
namespace Sy
section
variable {P:Program} {N:Nat} {av bor:List Nat} {w0:World} {loc0:List Res} {X0:World→Prop} {ops:Array Oper} {fuel:Nat} {listed:Array Bool} {E:Env} {loc:List Res} {X:World→Prop} {k:St→Prop}
end
end Sy
section
variable {P:Program} {N:Nat} {av bor:List Nat} {w0:World} {ty:TypeId}
end
section
variable {N:Nat} {av bor:List Nat} {w0:World} {st:St} {ty:TypeId} {x:Operand}
end
def seedB (i:Nat):ByteArray:=⟨#[97,99,116,111,114,32]⟩++ofInts [(i:Int)]
def keyA (i:Nat):KyD:=keyOf (seedB i)
def idA21 (i:Nat):ByteArray:=idV (keyA i).p
end Go.Proofs.YtaolfiikahlmkaaGreatDoor
namespace Go.Proofs.YtaolfiikahlmkaaGreatDoor.Sy
open Go Go.RowKit
def fen (ρ:Option Nat):Fence:={ Fence.wide with round:=ρ }
def isDefer:Op→Bool
 | .defer _=>true
 | _=>false
section
variable {P:Program} {N:Nat} {av bor:List Nat} {w0:World} {ops:Array Oper} {st:St}
theorem D4 {ρ:Option Nat} {n:Nat} {row:String} {args:Array Value} {w:World} {R:Value→World→Prop} (h:Rows P row args w R):RowsIn (fen ρ) n P row args w R:=fun c cs _=>by
 obtain ⟨v,w',r,s⟩:=h c cs
 exact ⟨v,w',r,stepsIn_wide.2 s⟩
theorem CD {ρ:Option Nat} {n:Nat} {f:FuncId} {args:Array Value} {w:World} {R:Ending→World→Prop} (h:Calls P f args w R):CallsIn (fen ρ) n P f args w R:=(callsIn_wide (n:=n)).2 h
theorem C1 {ρ:Option Nat} {n:Nat} {o:Oper} {a:Act} {w:World} {K K':Act→World→Prop} {k k':St→Prop} (hd:isDefer o.op=false) (hK:∀ a w,K a w→K' a w)
  (h:o.wp P a w K (post N av bor w0 (only k'))):o.wpIn (fen ρ) n P a w K' (post N av bor w0 (only k)):=by
 refine ⟨fun _ _=>trivial,?_⟩
 rw [Oper.semAt_plain _ _ _ (fun c e=>by rw [e] at hd;cases hd)]
 unfold Oper.wp at h
 generalize (execOp a.eval o).run P w=r at *
 cases r with
 | ok nx w' =>
  cases nx<;>simp only [Oper.upon] at h<;>simp only [Oper.uponIn]
  case value u=>exact hK _ _ h
  case skip=>exact hK _ _ h
  case defer d=>exact hK _ _ h
  case enter f args =>
   refine ⟨(fun hh=>by cases hh),?_⟩
   refine CD (Calls.mono h ?_)
   intro e w'' he
   cases e with
   | returned v=>exact hK _ _ he
   | panicked c=>exact (he:False).elim
   | outgrown=>obtain ⟨_,_,h⟩:=he;exact (h:False).elim
  case row row args =>
   refine ⟨(fun hh=>by cases hh),?_⟩
   exact D4 (Rows.mono h fun u w'' he=>hK _ _ he)
 | halt x w'=>cases x<;>simp only [Oper.upon] at h<;>exact (h:False).elim
theorem j3 {ρ:Option Nat} {n:Nat} {k k':St→Prop} {rest:List Oper} (hr:∀ a w,post N av bor w0 (only k') .normal a w→wpListIn (fen ρ) n P ops (post N av bor w0 (only k)) rest a w):∀ (todo:List Oper) (a:Act) (w:World),todo.all (fun o=>!isDefer o.op)=true →
  wpList P ops (post N av bor w0 (only k')) todo a w→wpListIn (fen ρ) n P ops (post N av bor w0 (only k)) (todo++rest) a w
 | [],a,w,_,h=>hr a w h
 | o::l,a,w,hd,h=>by
  simp only [List.all_cons,Zp,Bool.not_eq_true'] at hd
  simp only [wpList] at h
  simp only [ZK,wpListIn]
  split
  · rename_i hw
    simp only [hw,ZN] at h
    rcases h with h|⟨_,_,_,h⟩
    · exact C1 hd.1 (fun a w h=>j3 hr l a w hd.2 h) h
    · exact (h:False).elim
  · rename_i hw
    simp only [hw] at h
    exact ⟨fun _ _=>trivial,j3 hr l _ _ hd.2 h⟩
theorem wt {ρ:Option Nat} {n:Nat} {k:St→Prop} (todo:List Oper) (a:Act) (w:World) (hd:todo.all (fun o=>!isDefer o.op)=true)
  (h:wpList P ops (post N av bor w0 (only k)) todo a w):wpListIn (fen ρ) n P ops (post N av bor w0 (only k)) todo a w:=by
 have:=j3 (ρ:=ρ) (n:=n) (k:=k) (rest:=[]) (fun a w h=>h) todo a w hd h
 rwa [ZJ] at this
end
def Cr (P:Program) (N:Nat) (av bor:List Nat) (w0:World) (l:Nat) (c:Code) (st:St) (K:Exit→St→Prop):Prop :=
 ∀ n a w,Ok N av bor w0 st a w→c.wpIn (fen (some l)) n P (post N av bor w0 K) a w
theorem Cr.mk {P:Program} {N:Nat} {av bor:List Nat} {w0:World} {l:Nat} {c:Code} {st:St} {K:Exit→St→Prop} (h:∀ n a w,Ok N av bor w0 st a w→c.wpIn (fen (some l)) n P (post N av bor w0 K) a w):Cr P N av bor w0 l c st K:=h
theorem Cr.run {P:Program} {N:Nat} {av bor:List Nat} {w0:World} {l:Nat} {c:Code} {st:St} {K:Exit→St→Prop} (h:Cr P N av bor w0 l c st K):∀ n a w,Ok N av bor w0 st a w→c.wpIn (fen (some l)) n P (post N av bor w0 K) a w:=h
namespace Rd
section
variable {P:Program} {N:Nat} {av bor:List Nat} {w0:World} {l:Nat} {st:St} {K:Exit→St→Prop} {E:Env} {loc:List Res} {X:World→Prop}
theorem QT (h:K .normal st):Cr P N av bor w0 l .skip st K:=fun n a w ok=>wpIn_skip ⟨st,h,ok⟩
theorem QQ {x y:Code} (h:Cr P N av bor w0 l x st (thn (fun s=>Cr P N av bor w0 l y s K) K)):Cr P N av bor w0 l (.seq x y) st K:=fun n a w ok =>
 wpIn_seq (wpIn_mono (h n a w ok) (fun e a w q=>by
  cases e with
  | panic _=>exact q
  | outgrown=>exact q
  | normal=>obtain ⟨s,h1,h2⟩:=q;exact h1 n a w h2
  | exit _=>exact q
  | goto _=>exact q
  | ret=>exact q))
theorem cw_cond {c:Operand} {x y:Code} {b:Bool} (hc:ev st.env c=some (.bool b):=by rfl) (ht:b=true→Cr P N av bor w0 l x st K) (hf:b=false→Cr P N av bor w0 l y st K) :
  Cr P N av bor w0 l (.cond c x y) st K:=fun n a w ok=>wpIn_cond_split (ok.eval hc) (fun h=>ht h n a w ok) (fun h=>hf h n a w ok)
theorem QU {c:Operand} {x y:Code} {b:Bool} (hc:ev st.env c=some (.bool b):=by rfl) (hb:b=true:=by exact am) (ht:Cr P N av bor w0 l x st K) :
  Cr P N av bor w0 l (.cond c x y) st K:=cw_cond hc (fun _=>ht) (fun h=>by rw [hb] at h;cases h)
theorem QV {c:Operand} {x y:Code} {b:Bool} (hc:ev st.env c=some (.bool b):=by rfl) (hb:b=false:=by exact am) (hf:Cr P N av bor w0 l y st K) :
  Cr P N av bor w0 l (.cond c x y) st K:=cw_cond hc (fun h=>by rw [hb] at h;cases h) (fun _=>hf)
theorem QS {id:Nat} {c:Code} (h:Cr P N av bor w0 l c st (blk id K)):Cr P N av bor w0 l (.block id c) st K:=fun n a w ok =>
 wpIn_block (wpIn_mono (h n a w ok) (fun e a w q=>by
  cases e with
  | panic _=>exact q
  | outgrown=>exact q
  | normal=>exact q
  | exit id' =>
   obtain ⟨s,h1,h2⟩:=q
   by_cases hi:id'=id
   · simp only [blk,hi,ZN] at h1
     simp only [Exit.inBlock,hi,ZN]
     exact ⟨s,h1,h2⟩
   · simp only [blk,hi,if_false] at h1
     simp only [Exit.inBlock,hi,if_false]
     exact ⟨s,h1,h2⟩
  | goto _=>exact q
  | ret=>exact q))
theorem reg_post {k:St→Prop} {e:Exit} {a:Act} {w:World} (hk:∀ s,k s→K .normal s) (h:post N av bor w0 (only k) e a w):post N av bor w0 K e a w:=by
 cases e with
 | panic _=>exact h
 | outgrown=>exact h
 | normal=>obtain ⟨s,h1,h2⟩:=h;exact ⟨s,hk s h1,h2⟩
 | exit _=>obtain ⟨s,h1,h2⟩:=h;exact h1.elim
 | goto _=>obtain ⟨s,h1,h2⟩:=h;exact h1.elim
 | ret=>obtain ⟨s,h1,h2⟩:=h;exact h1.elim
theorem QR {id:Nat} {ol:List Oper} (hno:ol.all (fun o=>!isDefer o.op)=true:=by rfl) (h:Sw P N av bor w0 ol.toArray ol st (K .normal)):Cr P N av bor w0 l (.region id ol.toArray false) st K:=fun n a w ok =>
 wpIn_mono (wpIn_region_lit (wt ol a w hno (h.run a w ok))) fun e a w q=>reg_post (fun _ h=>h) q
end
end Rd
def YCt (P:Program) (l:Nat) (args:List Value) (pre:List Res) (X:World→Prop) (Post:Value→List Res→(World→Prop)→Prop):Prop :=
 ∀ (n:Nat) (w:World) (av:List Nat),Gam av (fps pre) w pre X w→YieldAt Fence.wide n P l args.toArray w fun e w'=>∃ v R X',e=.returned v∧Post v R X'∧Gam av (fps pre) w R X' w'
def Sv (P:Program) (N:Nat) (av bor:List Nat) (w0:World) (ops:Array Oper) (todo:List Oper) (st:St) (k:St→Prop):Prop :=
 ∀ n a w,Ok N av bor w0 st a w→wpListIn Fence.wide n P ops (post N av bor w0 (only k)) todo a w
section
variable {P:Program} {N:Nat} {av bor:List Nat} {w0:World} {ops:Array Oper} {rest:List Oper} {k:St→Prop} {E:Env} {loc:List Res} {X:World→Prop} {K:Exit→St→Prop}
variable {d:Option Tmp} {ty:TypeId} {pos:String} {af:Array Edge} {g:Option (Nat×Bool)} {bb want:Bool}
theorem AW (hno:rest.all (fun o=>!isDefer o.op)=true) (h:Sw P N av bor w0 ops rest ⟨E,loc,X⟩ k):Sv P N av bor w0 ops rest ⟨E,loc,X⟩ k:=fun n a w ok=>wt (ρ:=none) rest a w hno (h.run a w ok)
theorem EU {id:Nat} {ol:List Oper} {st:St} (h:Sv P N av bor w0 ol.toArray ol st (K .normal)):Cw P N av bor w0 (.region id ol.toArray false) st K:=Cw.mk fun a w ok =>
 (wpIn_wide (n:=0)).1 (wpIn_mono (wpIn_region_lit (h 0 a w ok)) fun e a w q=>Rd.reg_post (fun _ h=>h) q)
theorem FP (pre:List Oper) {st:St} (hno:pre.all (fun o=>!isDefer o.op)=true) (h:Sw P N av bor w0 ops pre st (fun s=>Sv P N av bor w0 ops rest s k)):Sv P N av bor w0 ops (pre++rest) st k:=fun n a w ok =>
 j3 (ρ:=none) (fun a w ⟨s,h1,h2⟩=>h1 n a w h2) pre a w hno (h.run a w ok)
theorem DC {x:Operand} {xs:List Operand} {ats:Array TypeId} {l:Nat} {args:List Value} {pre fr:List Res} {X1:World→Prop} {Post:Value→List Res→(World→Prop)→Prop}
  (hx:ev E x=some (.func (.yield l) #[] #[])) (ha:evs E xs=some args) (hg:gdB ops E g=some (bb,want)) (hb:bb=want) (hd:inB N d=true) (hc:YCt P l args pre X1 Post) (hX:∀ w,X w→X1 w)
  (h:∀ v R X',Post v R X'→Sv P N av bor w0 ops rest ⟨putE E d v,R++fr,fun w=>X w∧X' w⟩ k) :
  Sv P N av bor w0 ops (⟨d,.call ⟨.value x,xs.toArray,ats⟩,ty,pos,af,g⟩::rest) ⟨E,pre++fr,X⟩ k:=fun m a w ok=>by
 simp only [wpListIn]
 rw [bO ok (o:=⟨d,.call ⟨.value x,xs.toArray,ats⟩,ty,pos,af,g⟩) hg]
 subst hb
 simp only [Zz,ZN]
 refine ⟨fun _ _=>trivial,?_⟩
 obtain ⟨av',G0,hback⟩:=ok.call
 obtain ⟨fn,tmps,assign,body,hy,hR⟩:=hc (m-1) w av' (G0.imp hX)
 have e1:xs.toArray.map a.eval=args.toArray:=by rw [List.map_toArray,iE ok xs args ha]
 have hr:(execOp a.eval ⟨d,.call ⟨.value x,xs.toArray,ats⟩,ty,pos,af,g⟩).run P w=.ok (.round l fn tmps assign body) w:=by
  simp only [execOp,resolve,ok.eval (st:=⟨E,pre++fr,X⟩) hx,Deferred.ofValue,invoke,e1]
  simp only [Sem.run_bind,Sem.run_pure,Result.andThen_ok]
  simpa using hy
 rw [Fence.wide_round,Oper.semAt_none,hr]
 simp only [Oper.uponIn]
 refine ⟨(fun hh=>by cases hh),?_⟩
 refine hR.mono ?_
 rintro e w' ⟨v,R,X',he,hp,G'⟩
 subst he
 have ok':=hback R X' w' G'
 exact h v R X' hp m _ _ (cZ d v▸ok'.put hd v)
end
def It {α:Type} (P:Program) (g:FuncId) (lb:List Value) (X1:World→Prop) (enc:α→List Value) (xs:List α):Prop :=
 ∀ (l:Nat) (X:World→Prop) (Rs:List α→List Res→Prop),(∀ w,X w→X1 w) →
  (∀ pre x suf R,xs=pre++x::suf→Rs pre R→YCt P l (enc x) R X fun v R' _=>v=.bool true∧Rs (pre++[x]) R') →
  ∀ R0,Rs [] R0→Ct P g (.func (.yield l) #[] #[]::lb).toArray R0 X fun _ R' _=>Rs xs R'
def putEs (E:Env):List Tmp→List Value→Env
 | p::ps,v::vs=>putEs ((p,v)::E) ps vs
 | _,_=>E
theorem tF {N:Nat}:∀ (ps:List Tmp) (vs:List Value) (E:Env) (t:Array Value),ps.all (fun p=>Nat.blt p N)=true→t.size=N→(∀ n v,look E n=some v→t[n]?=some v) →
  ((ps.zip vs).foldl (fun t (p:Tmp×Value)=>t.setIfInBounds p.1 p.2) t).size=N∧∀ n v,look (putEs E ps vs) n=some v→((ps.zip vs).foldl (fun t (p:Tmp×Value)=>t.setIfInBounds p.1 p.2) t)[n]?=some v
 | [],vs,E,t,_,hs,h=>⟨by simpa using hs,fun n v hn=>by simpa [putEs] using h n v (by simpa [putEs] using hn)⟩
 | p::ps,[],E,t,_,hs,h=>⟨by simpa using hs,fun n v hn=>by simpa [putEs] using h n v (by simpa [putEs] using hn)⟩
 | p::ps,v::vs,E,t,hp,hs,h=>by
  simp only [List.all_cons,Zp] at hp
  simp only [List.zip_cons_cons,QF,putEs]
  refine tF ps vs ((p,v)::E) _ hp.2 (by simpa using hs) fun n u hn=>?_
  have hlt:p<t.size:=by rw [hs];exact Zx hp.1
  simp only [look] at hn
  by_cases e:n=p
  · subst e
    have hb:Nat.beq n n=true:=by simp
    rw [hb] at hn
    simp only [Zf,ZM] at hn
    subst hn
    simp [hlt]
  · rw [q9 e] at hn
    simp only [Ze] at hn
    rw [Array.getElem?_setIfInBounds_ne (Ne.symm e)]
    exact h n u hn
theorem rf {r r':Res}:∀ (L:List Res),At r r' (L++[r]) (L++[r'])
 | []=>.here []
 | x::L=>.there x (rf L)
section
variable {P:Program} {N:Nat} {av bor:List Nat} {w0:World} {E:Env} {loc:List Res} {X:World→Prop} {K:Exit→St→Prop}
def lres (l:Nat) (r:Loop):Res:=⟨[l],fun w=>w.heap[l]?=some (.loop r)⟩
theorem Cv {α:Type} {g:Operand} {ps:List Tmp} {assign body:Code} {gf:Nat} {lb:List Value} {enc:α→List Value} {xs:List α} {X1:World→Prop}
  (hg:ev E g=some (.func (.func gf) #[] lb.toArray):=by rfl) (hf:FnBody P gf:=by infer_instance) (hit:It P gf lb X1 enc xs) (hX:∀ w,X w→X1 w:=by (first|exact fun _ _=>trivial|exact fun _ h=>h|exact fun _ h=>h.1|exact fun _ h=>h.2)) (hps:∀ x,(enc x).length=ps.length) (hpn:ps.all (fun p=>Nat.blt p N)=true:=by rfl)
  (Inv:List α→List Res→Prop) (h0:Inv [] loc)
  (hround:∀ l pre x suf loc1,xs=pre++x::suf→Inv pre loc1→∀ av bor w0,Cr P N av bor w0 l assign ⟨putEs E ps (enc x),loc1,X⟩ (only fun st1=>∀ av bor w0,Cr P N av bor w0 l body st1 (only fun st2=>∃ loc2,loc2.Sublist st2.loc∧Inv (pre++[x]) loc2)))
  (hdone:∀ loc1,Inv xs loc1→K .normal ⟨E,loc1,X⟩):Cw P N av bor w0 (.rangeFunc g ps.toArray assign body) ⟨E,loc,X⟩ K:=Cw.mk fun a w ok=>by
 refine (wpIn_wide (n:=0)).1 (wpIn_rangeFunc fun fn _=>?_)
 obtain ⟨rec,hrec⟩:∃ rec:LoopState→Option Code→Loop,rec=fun st pe=>{ state:=st,pending:=pe,fn,tmps:=a.tmps,params:=ps.toArray,assign,body,defers:=w.heap.size }:=⟨_,rfl⟩
 have G0:Gam av bor w0 (loc++mres a.defers) X w:=ok.gamM
 have G1:=(G0.new (.deferred (some [])) (fun w2=>w2.heap[w.heap.size]?=some (.deferred (some []))) fun _ h=>h).new (.loop (rec .ready none)) (fun w2=>w2.heap[(w.alloc (.deferred (some []))).heap.size]?=some (.loop (rec .ready none))) fun _ h=>h
 rw [World.size_alloc] at G1
 obtain ⟨W1,hW1⟩:∃ W1,(w.alloc (.deferred (some []))).alloc (.loop (rec .ready none))=W1:=⟨_,rfl⟩
 rw [hW1] at G1
 obtain ⟨l,hl⟩:∃ l,w.heap.size+1=l:=⟨_,rfl⟩
 obtain ⟨mk,hmk⟩:∃ mk:Deferred,mk={ target:=.collected w.heap.size,args:=#[] }:=⟨_,rfl⟩
 have hM:mres (mk::a.defers)=⟨[w.heap.size],fun w2=>w2.heap[w.heap.size]?=some (.deferred (some []))⟩::mres a.defers:=by subst hmk;rfl
 have G2:Gam av bor w0 ((lres l (rec .ready none)::loc)++mres (mk::a.defers)) X W1:=by
  rw [hM]
  refine G1.perm ?_
  subst hl
  exact List.Perm.cons _ List.perm_middle.symm
 refine ⟨l,[mk],W1,{ target:=.fn (.func gf) lb.toArray,args:=#[.func (.yield l) #[] #[]] },W1,gf,#[.func (.yield l) #[] #[]]++lb.toArray,W1,?_,?_,fun _ _=>trivial,?_,(fun h=>by cases h),?_⟩
 · rw [←hW1,hrec,←hl,hmk,Fence.wide_round]
   exact run_enterLoop_outer _ _ _ _ _
 · simp only [resolve,ok.eval (st:=⟨E,loc,X⟩) hg]
   simp [go_sem]
 · have eg:∀ args w,(callFunc gf args).run P w=.ok (.enter gf args) w:=fun args w=>kD args w
   simp [invoke,go_sem,eg]
 · -- the function that is ranged over
   have hct:=hit l X (fun pre R=>∃ loc1,Inv pre loc1∧R=lres l (rec .ready none)::loc1) hX ?_ (lres l (rec .ready none)::loc) ⟨loc,h0,rfl⟩
   · have e2:(.func (.yield l) #[] #[]::lb:List Value).toArray=#[.func (.yield l) #[] #[]]++lb.toArray:=by simp
     rw [e2] at hct
     refine (callsIn_wide (n:=0)).2 ((hct.run W1 _ G2.start).mono fun e w' ⟨v,R',X',he,⟨loc1,hI,hR⟩,G'⟩=>?_)
     subst he
     subst hR
     have G3:=G2.frame G'
     have hl3:w'.heap[l]?=some (.loop (rec .ready none)):=(G3.here (lres l (rec .ready none)) (by simp)).now
     refine ⟨none,_,by have:=run_endLoop (P:=P) hl3 (by rw [hrec];simp);rw [hrec] at this;exact this,?_⟩
     refine ⟨⟨E,loc1,X⟩,hdone loc1 hI,ok.size,ok.env,?_⟩
     have G4:=G3.turn (w':=w'.putObj l (.loop { rec .ready none with state:=.exhausted })) (loc':=⟨[l],fun _=>True⟩::(loc1++mres (mk::a.defers))) (At.here _) rfl rfl rfl (by simp [World.putObj]) (fun i hi=>World.putObj_heap_other hi) (fun _ _=>trivial)
     have G5:=(G4.drop (List.sublist_cons_self _ _)).imp fun w h=>h.1
     rw [hrec] at G5
     exact G5
   · -- one round
     rintro pre x suf R hxs ⟨loc1,hI,rfl⟩ n W av' G
     have hlW:W.heap[l]?=some (.loop (rec .ready none)):=(G.here (lres l (rec .ready none)) (by simp)).now
     have hy:=run_yield (P:=P) (args:=(enc x).toArray) hlW (by rw [hrec];simpa using hps x)
     have hrp:∀ s q,(rec s q).params=ps.toArray∧(rec s q).tmps=a.tmps∧(rec s q).assign=assign∧(rec s q).body=body∧(rec s q).state=s:=fun s q=>by subst hrec;exact ⟨rfl,rfl,rfl,rfl,rfl⟩
     refine ⟨_,_,_,_,hy,roundIn_of_wpIn trivial ?_⟩
     rw [(hrp _ _).1,(hrp _ _).2.1,(hrp _ _).2.2.1,(hrp _ _).2.2.2.1]
     have Ga:Gam av' (fps (lres l (rec .ready none)::loc1)) W (loc1++[lres l (rec .ready none)]) X W:=G.perm (List.perm_append_singleton _ _).symm
     have hE:=tF (N:=N) ps (enc x) E a.tmps hpn ok.size ok.env
     have hz:(Array.foldl (fun (tmps:Array Value) (x:Tmp×Value)=>tmps.setIfInBounds x.1 x.2) a.tmps (ps.toArray.zip (enc x).toArray))=(ps.zip (enc x)).foldl (fun t (p:Tmp×Value)=>t.setIfInBounds p.1 p.2) a.tmps:=by simp
     have ok0:Ok N (av'++fps [lres l (rec .ready none)]) (fps loc1) W ⟨putEs E ps (enc x),loc1,X⟩ { tmps:=(ps.zip (enc x)).foldl (fun t (p:Tmp×Value)=>t.setIfInBounds p.1 p.2) a.tmps,defers:=[] } W:=⟨hE.1,hE.2,by simpa [mres] using Ga.start⟩
     refine wpIn_mono (F:=fen (some l)) (Q:=post N (av'++fps [lres l (rec .ready none)]) (fps loc1) W (only fun st1=>∀ av bor w0,Cr P N av bor w0 l body st1 (only fun st2=>∃ loc2,loc2.Sublist st2.loc∧Inv (pre++[x]) loc2))) ?_ ?_
     · have:=(hround l pre x suf loc1 hxs hI (av'++fps [lres l (rec .ready none)]) (fps loc1) W).run n _ _ ok0
       simpa using this
     · intro e a1 w1 q
       cases e with
       | panic _=>exact q
       | outgrown=>exact q
       | exit _=>obtain ⟨_,h,_⟩:=q;exact h.elim
       | goto _=>obtain ⟨_,h,_⟩:=q;exact h.elim
       | ret=>obtain ⟨_,h,_⟩:=q;exact h.elim
       | normal =>
        obtain ⟨st1,h1,ok1⟩:=q
        have Gb:=Ga.frame ok1.gamM
        have hl1:w1.heap[l]?=some (.loop (rec .ready none)):=(Gb.here (lres l (rec .ready none)) (by simp)).now
        refine ⟨_,run_beginRound hl1 (hrp _ _).2.2.2.2,?_⟩
        have hb:{ rec .ready none with state:=.busy }=rec .busy none:=by rw [hrec]
        rw [hb]
        have Gc:=Gb.turn (w':=w1.putObj l (.loop (rec .busy none))) (loc':=(st1.loc++mres a1.defers)++[lres l (rec .busy none)]) (rf _) rfl rfl rfl (by simp [World.putObj]) (fun i hi=>World.putObj_heap_other hi)
         (fun w2 h2=>by rw [h2];exact World.putObj_heap_same (QL.1 hl1).1)
        have ok1':=(h1 (av'++fps [lres l (rec .busy none)]) (fps (st1.loc++mres a1.defers)) (w1.putObj l (.loop (rec .busy none)))).run n a1 _ ⟨ok1.size,ok1.env,Gc.start.imp fun _ h=>h.2⟩
        refine wpIn_mono ok1' ?_
        intro e a2 w3 q
        cases e with
        | panic _=>exact q
        | outgrown=>exact q
        | exit _=>obtain ⟨_,h,_⟩:=q;exact h.elim
        | goto _=>obtain ⟨_,h,_⟩:=q;exact h.elim
        | ret=>obtain ⟨_,h,_⟩:=q;exact h.elim
        | normal =>
         obtain ⟨st2,⟨loc2,hs2,h2⟩,ok2⟩:=q
         have Gd:=Gc.frame ok2.gamM
         have hl3:w3.heap[l]?=some (.loop (rec .busy none)):=(Gd.here (lres l (rec .busy none)) (by simp)).now
         have he:{ rec .busy none with state:=if (none:Option Code).isNone then .ready else .done,pending:=none }=rec .ready none:=by rw [hrec];rfl
         have hr:=run_endRound (P:=P) none hl3
         rw [he] at hr
         have Ge:=Gd.turn (w':=w3.putObj l (.loop (rec .ready none))) (loc':=(st2.loc++mres a2.defers)++[lres l (rec .ready none)]) (rf _) rfl rfl rfl (by simp [World.putObj]) (fun i hi=>World.putObj_heap_other hi)
          (fun w2 h2=>by rw [h2];exact World.putObj_heap_same (QL.1 hl3).1)
         have Gf:=(Ge.drop (loc':=loc2++[lres l (rec .ready none)]) ((hs2.trans (QD _ _)).append_right _)).perm (List.perm_append_singleton _ _)
         exact ⟨_,_,hr,.bool true,lres l (rec .ready none)::loc2,_,rfl,⟨rfl,loc2,h2,rfl⟩,Gf⟩
end
end Go.Proofs.YtaolfiikahlmkaaGreatDoor.Sy
namespace Go.Proofs.YtaolfiikahlmkaaGreatDoor
open Go Go.Proofs Sy Go.RowKit Go.Deep Go.ChangeShapes
section
variable {H:Type} {enc:TypeId×Value→H} {P:Program} {w:World} {base:Nat} {spare:Nat→Bool} {held:Bool}
theorem bm {t:TypeId} {fs:Array Field} {fuel:Nat} {cs:List Value} {x:DataW H×List MemPlace} (ht:P.underlying t=some (.struct fs)) (h:DataW.trod enc P w base spare held fuel t cs=some x) {i:Nat} {f:Field} (hf:fs[i]?=some f) {off k:Nat} {t':TypeId} (ho:f.offset=off) (htt:f.type=t') (hk:P.cellsOf t'=k) :
  ∃ n y,DataW.trod enc P w base spare held n t' ((cs.drop off).take k)=some y:=by
 obtain ⟨xs,n,_,_,_,hlen,hg⟩:=DataW.trod_struct ht h
 have h1:=hg i f hf
 have hi:i<fs.size:=(QL.1 hf).1
 subst ho;subst htt;subst hk
 rw [Zb (by omega)] at h1
 exact ⟨n,_,h1⟩
theorem fE {α:Type} [Inhabited α] {t e:TypeId} {size fuel:Nat} {cs:List Value} {x:DataW H×List MemPlace} (ht:P.underlying t=some (.slice e)) (hc:P.cellsOf e=size) (cells:α→List Value) (Q:α→Prop)
  (each:∀ n cs y,DataW.trod enc P w base spare held n e cs=some y→∃ a,cs=cells a∧Q a) (h:DataW.trod enc P w base spare held fuel t cs=some x) :
  ∃ (s:SlV) (l:List α),cs=[s.v]∧RowsD w size s (l.map cells)∧∀ a∈l,Q a:=by
 rcases open_slice ht h with ⟨rfl,_⟩|⟨a,len,cap,m,n,D,Pl,rfl,hb,hl,hm,hmm,hx,hi⟩
 · exact ⟨⟨none,0,0⟩,[],rfl,aY w size,by simp⟩
 · have hlm:len≤m:=by rw [hmm];split<;>omega
   have h1:∀ i,i<len→∃ z:α,w.cells? base (a.add (i*size)) size=some (cells z)∧Q z:=fun i hil=>by
    obtain ⟨cs',h2,h3⟩:=hi i aa
    obtain ⟨z,rfl,hz⟩:=each _ _ _ h3
    rw [hc] at h2
    exact ⟨z,h2,hz⟩
   obtain ⟨F,hF⟩:=choose_lt h1
   refine ⟨⟨some a,len,cap⟩,(List.range len).map F,rfl,⟨by simp,hl,hm,fun i cs' hcs=>?_⟩,fun z hz=>?_⟩
   · simp only [Z0,Z7] at hcs
     have hil:i<len:=by
      cases hr:(List.range len)[i]? with
      | none=>rw [hr] at hcs;cases hcs
      | some k=>have:=(QJ.1 hr).1;simpa using this
     rw [List.getElem?_range hil] at hcs
     simp only [Option.map_some,Function.comp_apply,ZM] at hcs
     subst hcs
     obtain ⟨_,hlen,hat⟩:=World.cells?_some (hF i hil).1
     refine ⟨hlen,rfl,fun j u hj=>⟨rfl,fun a' ha'=>?_⟩⟩
     obtain rfl:a=a':=Option.some.inj ha'
     rw [←Go.Deep.add_add,hat j (by rw [←hlen];exact (QJ.1 hj).1),hj]
   · simp only [QI,List.mem_range] at hz
     obtain ⟨i,hil,rfl⟩:=hz
     exact (hF i hil).2
theorem CellAt.keep {w':World} {p:Option Addr} {q:Nat} {u:Value} (h:CellAt w p q u) (hs:∀ k,k<w.heap.size→w'.heap[k]?=w.heap[k]?):CellAt w' p q u:=⟨h.1,fun a ha=>by
 have h1:=h.2 a ha
 have h2:(a.add q).block<w.heap.size:=by
  cases hh:w.heap[(a.add q).block]? with
  | none=>simp [World.cell?,hh] at h1
  | some o=>exact (QL.1 hh).1
 rw [World.cell?_of_block (w:=w) (hs _ h2),h1]⟩
theorem RowsD.keep {w':World} {size:Nat} {s:SlV} {xs:List (List Value)} (h:RowsD w size s xs) (hs:∀ k,k<w.heap.size→w'.heap[k]?=w.heap[k]?):RowsD w' size s xs :=
 ⟨h.len,h.cap,h.max,fun i cs hi=>⟨(h.row i cs hi).1,(h.row i cs hi).2.1,fun j u hj=>CellAt.keep ((h.row i cs hi).2.2 j u hj) hs⟩⟩
theorem CellsAt.keep {w':World} {g:Nat} {l:List Value} (h:CellsAt g l w) (hs:∀ k,k<w.heap.size→w'.heap[k]?=w.heap[k]?):CellsAt g l w':=fun j v hj=>by
 have h1:=h j v hj
 have h2:g<w.heap.size:=by
  cases hh:w.heap[g]? with
  | none=>simp [World.cell?,hh] at h1
  | some o=>exact (QL.1 hh).1
 rw [World.cell?_of_block (w:=w) (a:=⟨g,j,none⟩) (hs _ h2),h1]
theorem XC.keep {w':World} {c:ChainD} (h:XC c w) (hs:∀ k,k<w.heap.size→w'.heap[k]?=w.heap[k]?):XC c w' :=
 ⟨⟨RowsD.keep h.1.1 hs,fun a ha=>⟨RowsD.keep (h.1.2 a ha).1 hs,RowsD.keep (h.1.2 a ha).2 hs⟩⟩,⟨h.2.ini.keep hs,h.2.k.keep hs⟩⟩
theorem zF {n:Int} (h:(Lit.int .i64 n).wf=true):n<9223372036854775808:=by have:=(Go.bounds_i64 h).2;omega
theorem bD {fuel:Nat} {cs:List Value} {x:DataW H×List MemPlace} (h:DataW.trod enc Tryz.prog w base spare held fuel 3 cs=some x):∃ n:Int,cs=[.int .i64 n]∧n<9223372036854775808:=by
 obtain ⟨n,h1,_,h3⟩:=DataW.trod_int Tryz.underlying3 h
 exact ⟨n,h1,zF h3⟩
theorem cb {fuel:Nat} {cs:List Value} {x:DataW H×List MemPlace} (h:DataW.trod enc Tryz.prog w base spare held fuel 9 cs=some x):∃ s:ByteArray,cs=[.string s]∧s.size≤maxLen:=by
 obtain ⟨s,h1,_,h3⟩:=DataW.trod_string Tryz.underlying9 h
 exact ⟨s,h1,h3⟩
theorem qG {fuel:Nat} {cs:List Value} {x:DataW H×List MemPlace} (h:DataW.trod enc Tryz.prog w base spare held fuel 39 cs=some x):∃ (s:SlV) (l:List ByteArray),cs=[s.v]∧Strs w s l:=by
 obtain ⟨s,l,h1,h2,_⟩:=fE (α:=ByteArray) Tryz.underlying39 (size:=1) ae (fun s=>[.string s]) (fun _=>True) (fun n cs y hy=>by obtain ⟨s,h1,_⟩:=cb hy;exact ⟨s,h1,trivial⟩) h
 exact ⟨s,l,h1,h2⟩
theorem gi {t:TypeId} {fs:Array Field} {P:Program} {fuel k:Nat} {cs:List Value} {x:DataW H×List MemPlace} (ht:P.underlying t=some (.struct fs)) (hk:P.cellsOf t=k) (h:DataW.trod enc P w base spare held fuel t cs=some x):cs.length=k:=by
 obtain ⟨xs,n,_,_,h1,_,_⟩:=DataW.trod_struct ht h
 rw [h1,hk]
theorem sK {fuel:Nat} {cs:List Value} {x:DataW H×List MemPlace} (h:DataW.trod enc Tryz.prog w base spare held fuel 41 cs=some x):∃ b:BoxD,cs=b.cells:=by
 have hl:=gi Tryz.underlying41 (k:=3) ae h
 obtain ⟨n0,y0,h0⟩:=bm (i:=0) (off:=0) (k:=1) (t':=9) Tryz.underlying41 h rfl rfl rfl ae
 obtain ⟨n1,y1,h1⟩:=bm (i:=1) (off:=1) (k:=1) (t':=9) Tryz.underlying41 h rfl rfl rfl ae
 obtain ⟨n2,y2,h2⟩:=bm (i:=2) (off:=2) (k:=1) (t':=9) Tryz.underlying41 h rfl rfl rfl ae
 match cs,hl with
 | [c0,c1,c2],_ =>
  obtain ⟨s0,e0,_⟩:=cb h0
  obtain ⟨s1,e1,_⟩:=cb h1
  obtain ⟨s2,e2,_⟩:=cb h2
  simp at e0 e1 e2
  exact ⟨⟨s0,s1,s2⟩,by rw [e0,e1,e2];rfl⟩
theorem yt {fuel:Nat} {cs:List Value} {x:DataW H×List MemPlace} (h:DataW.trod enc Tryz.prog w base spare held fuel 112 cs=some x):∃ b:WrapD,cs=b.cells∧b.to<9223372036854775808∧b.eph<9223372036854775808:=by
 have hl:=gi Tryz.underlying112 (k:=5) ae h
 obtain ⟨n0,y0,h0⟩:=bm (i:=0) (off:=0) (k:=1) (t':=3) Tryz.underlying112 h rfl rfl rfl ae
 obtain ⟨n1,y1,h1⟩:=bm (i:=1) (off:=1) (k:=1) (t':=3) Tryz.underlying112 h rfl rfl rfl ae
 obtain ⟨n2,y2,h2⟩:=bm (i:=2) (off:=2) (k:=3) (t':=41) Tryz.underlying112 h rfl rfl rfl ae
 match cs,hl with
 | [c0,c1,c2,c3,c4],_ =>
  obtain ⟨s0,e0,b0⟩:=bD h0
  obtain ⟨s1,e1,b1⟩:=bD h1
  obtain ⟨s2,e2⟩:=sK h2
  simp [BoxD.cells] at e0 e1 e2
  exact ⟨⟨s0,s1,s2⟩,by simp [WrapD.cells,e0,e1,e2],b0,b1⟩
theorem nH {fuel:Nat} {cs:List Value} {x:DataW H×List MemPlace} (h:DataW.trod enc Tryz.prog w base spare held fuel 42 cs=some x):∃ (s:SlV) (l:List WrapD),cs=[s.v]∧Wraps w s l∧∀ b∈l,b.to<9223372036854775808∧b.eph<9223372036854775808:=by
 haveI:Inhabited WrapD:=⟨⟨0,0,BoxD.zero⟩⟩
 exact fE (α:=WrapD) Tryz.underlying42 (size:=5) ae WrapD.cells _ (fun n cs y hy=>yt hy) h
theorem jW {fuel:Nat} {cs:List Value} {x:DataW H×List MemPlace} (h:DataW.trod enc Tryz.prog w base spare held fuel 44 cs=some x):∃ e s:Int,cs=[.int .i64 e,.int .i64 s]∧e<9223372036854775808∧s<9223372036854775808:=by
 have hl:=gi Tryz.underlying44 (k:=2) ae h
 obtain ⟨n0,y0,h0⟩:=bm (i:=0) (off:=0) (k:=1) (t':=3) Tryz.underlying44 h rfl rfl rfl ae
 obtain ⟨n1,y1,h1⟩:=bm (i:=1) (off:=1) (k:=1) (t':=3) Tryz.underlying44 h rfl rfl rfl ae
 match cs,hl with
 | [c0,c1],_ =>
  obtain ⟨s0,e0,b0⟩:=bD h0
  obtain ⟨s1,e1,b1⟩:=bD h1
  simp at e0 e1
  exact ⟨s0,s1,by rw [e0,e1],b0,b1⟩
theorem sM {fuel:Nat} {cs:List Value} {x:DataW H×List MemPlace} (h:DataW.trod enc Tryz.prog w base spare held fuel 46 cs=some x):∃ a:ActD,cs=a.cells∧a.at_ w∧a.Rng∧a.target.size≤maxLen:=by
 have hl:=gi Tryz.underlying46 (k:=20) ae h
 obtain ⟨n0,y0,h0⟩:=bm (i:=0) (off:=0) (k:=1) (t':=9) Tryz.underlying46 h rfl rfl rfl ae
 obtain ⟨n1,y1,h1⟩:=bm (i:=1) (off:=1) (k:=1) (t':=3) Tryz.underlying46 h rfl rfl rfl ae
 obtain ⟨n2,y2,h2⟩:=bm (i:=2) (off:=2) (k:=1) (t':=9) Tryz.underlying46 h rfl rfl rfl ae
 obtain ⟨n3,y3,h3⟩:=bm (i:=3) (off:=3) (k:=1) (t':=3) Tryz.underlying46 h rfl rfl rfl ae
 obtain ⟨n4,y4,h4⟩:=bm (i:=4) (off:=4) (k:=1) (t':=3) Tryz.underlying46 h rfl rfl rfl ae
 obtain ⟨n5,y5,h5⟩:=bm (i:=5) (off:=5) (k:=1) (t':=9) Tryz.underlying46 h rfl rfl rfl ae
 obtain ⟨n6,y6,h6⟩:=bm (i:=6) (off:=6) (k:=1) (t':=9) Tryz.underlying46 h rfl rfl rfl ae
 obtain ⟨n7,y7,h7⟩:=bm (i:=7) (off:=7) (k:=1) (t':=3) Tryz.underlying46 h rfl rfl rfl ae
 obtain ⟨n8,y8,h8⟩:=bm (i:=8) (off:=8) (k:=1) (t':=9) Tryz.underlying46 h rfl rfl rfl ae
 obtain ⟨n9,y9,h9⟩:=bm (i:=9) (off:=9) (k:=1) (t':=39) Tryz.underlying46 h rfl rfl rfl ae
 obtain ⟨n10,y10,h10⟩:=bm (i:=10) (off:=10) (k:=1) (t':=9) Tryz.underlying46 h rfl rfl rfl ae
 obtain ⟨n11,y11,h11⟩:=bm (i:=11) (off:=11) (k:=3) (t':=41) Tryz.underlying46 h rfl rfl rfl ae
 obtain ⟨n12,y12,h12⟩:=bm (i:=12) (off:=14) (k:=1) (t':=3) Tryz.underlying46 h rfl rfl rfl ae
 obtain ⟨n13,y13,h13⟩:=bm (i:=13) (off:=15) (k:=1) (t':=42) Tryz.underlying46 h rfl rfl rfl ae
 obtain ⟨n14,y14,h14⟩:=bm (i:=14) (off:=16) (k:=1) (t':=3) Tryz.underlying46 h rfl rfl rfl ae
 obtain ⟨n15,y15,h15⟩:=bm (i:=15) (off:=17) (k:=1) (t':=3) Tryz.underlying46 h rfl rfl rfl ae
 obtain ⟨n16,y16,h16⟩:=bm (i:=16) (off:=18) (k:=2) (t':=44) Tryz.underlying46 h rfl rfl rfl ae
 match cs,hl with
 | [c0,c1,c2,c3,c4,c5,c6,c7,c8,c9,c10,c11,c12,c13,c14,c15,c16,c17,c18,c19],_ =>
  obtain ⟨s0,e0,b0⟩:=cb h0
  obtain ⟨s1,e1,b1⟩:=bD h1
  obtain ⟨s2,e2,b2⟩:=cb h2
  obtain ⟨s3,e3,b3⟩:=bD h3
  obtain ⟨s4,e4,b4⟩:=bD h4
  obtain ⟨s5,e5,b5⟩:=cb h5
  obtain ⟨s6,e6,b6⟩:=cb h6
  obtain ⟨s7,e7,b7⟩:=bD h7
  obtain ⟨s8,e8,b8⟩:=cb h8
  obtain ⟨s9,l9,e9,b9⟩:=qG h9
  obtain ⟨s10,e10,b10⟩:=cb h10
  obtain ⟨s11,e11⟩:=sK h11
  obtain ⟨s12,e12,b12⟩:=bD h12
  obtain ⟨s13,l13,e13,b13,r13⟩:=nH h13
  obtain ⟨s14,e14,b14⟩:=bD h14
  obtain ⟨s15,e15,b15⟩:=bD h15
  obtain ⟨s16,s17,e16,b16,b17⟩:=jW h16
  simp [BoxD.cells] at e0 e1 e2 e3 e4 e5 e6 e7 e8 e9 e10 e11 e12 e13 e14 e15 e16
  refine ⟨⟨s0,s1,s2,s3,s4,s5,s6,s7,s8,s9,s10,s11,s12,s13,s14,s15,s16,s17,l9,l13⟩,?_,⟨b9,b13⟩,⟨⟨b1,b3,b4,b7,b12,b14,b15,b16,b17⟩,r13,by have:=RowsD.len b9;simpa [strs] using this,by have:=RowsD.len b13;simpa using this⟩,b6⟩
  simp [ActD.cells,e0,e1,e2,e3,e4,e5,e6,e7,e8,e9,e10,e11,e12,e13,e14,e15,e16]
theorem yv {fuel:Nat} {cs:List Value} {x:DataW H×List MemPlace} (h:DataW.trod enc Tryz.prog w base spare held fuel 32 cs=some x):∃ (s:SlV) (l:List ActD),cs=[s.v]∧Acts w s l∧∀ a∈l,a.Rng∧a.target.size≤maxLen:=by
 haveI:Inhabited ActD:=⟨ActD.zero⟩
 obtain ⟨s,l,h1,h2,h3⟩:=fE (α:=ActD) Tryz.underlying32 (size:=20) ae ActD.cells (fun a=>a.at_ w∧a.Rng∧a.target.size≤maxLen) (fun n cs y hy=>sM hy) h
 exact ⟨s,l,h1,⟨h2,fun a ha=>(h3 a ha).1⟩,fun a ha=>(h3 a ha).2⟩
end
end Go.Proofs.YtaolfiikahlmkaaGreatDoor
namespace Go.Proofs.YtaolfiikahlmkaaGreatDoor
open Go Go.Proofs Sy Go.RowKit Go.Deep Go.ChangeShapes
section
variable {H:Type} {enc:TypeId×Value→H} {P:Program} {w:World} {base:Nat} {spare:Nat→Bool} {held:Bool}
theorem gc {fuel:Nat} {cs:List Value} {x:DataW H×List MemPlace} (h:DataW.trod enc Tryz.prog w base spare held fuel 39 cs=some x):∃ (s:SlV) (l:List ByteArray),cs=[s.v]∧Strs w s l∧∀ x∈l,x.size≤maxLen:=by
 obtain ⟨s,l,h1,h2,h3⟩:=fE (α:=ByteArray) Tryz.underlying39 (size:=1) ae (fun s=>[.string s]) (fun s=>s.size≤maxLen) (fun n cs y hy=>by obtain ⟨s,h1,h2⟩:=cb hy;exact ⟨s,h1,h2⟩) h
 exact ⟨s,l,h1,h2,h3⟩
end
end Go.Proofs.YtaolfiikahlmkaaGreatDoor
namespace Go.Proofs.YtaolfiikahlmkaaGreatDoor
open Go Go.Proofs Sy
def draftV (c:ChainD) (k t:Int):ActD:={ ActD.zero with author:=c.id,seq:=(c.acts.n:Int),prev:=c.prev,kind:=k,time:=t }
theorem ot (c:ChainD) (k t:Int):Pu Tryz.prog 34 #[c.v,.int .i64 k,.int .i64 t] (fun _=>True) (draftV c k t).v:=by
 refine ak (args:=[_,_,_]) _ Tryz.func34 rfl Tryz.ntmps34 rfl fun av bor w0=>?_
 repeat' (first|refine gs ?_|refine gs1 fun _=>?_|(refine aF (cs:=(draftV c k t).cells) (hf:=by rfl) ?_)|(refine gp ?_ ?_<;>intro hx_ this)|fail)
 exact ad (cB rfl rfl bz (by rfl)) rfl
def undoK (k:Int):Bool:=decide (k=4)||decide (k=5)||decide (k=7)||decide (k=8)||decide (k=10)||decide (k=11)||decide (k=17)||decide (k=23)
theorem rt (k:Int):Pu Tryz.prog 192 #[.int .i64 k] (fun _=>True) (.bool (undoK k)):=by
 refine ak (args:=[_]) _ Tryz.func192 rfl Tryz.ntmps192 rfl fun av bor w0=>?_
 repeat' (first|refine gs ?_|(refine gp ?_ ?_<;>intro hx_ this)|fail)
 (all_goals (apply ad;apply ag;rfl;rfl));all_goals first|rfl|(simp only [undoK, *,Zt,Zr,Zf,Ze,Zh,Zg,Zk,Zj,Zn,Zl,Zs,Zm,Zq,Zi];done)|(simp_all [undoK];done)
def atK (c:ChainD) (o:Option Nat) (p:Int→Bool):Bool:=match o with
 | some j=>p (c.actsL.getD j ActD.zero).kind
 | none=>false
def fitsV (c:ChainD) (a:ActD) (pl:Option Nat):Bool :=
 bif !rightB a||!seqB a.author c.id||!decide (a.seq=(c.acts.n:Int))||!seqB a.prev c.prev then false
 else bif decide (a.kind=0) != decide ((c.acts.n:Int)=0) then false
 else bif decide (a.kind=6) then atK c pl undoK
 else bif decide (a.kind=13)||decide (a.kind=14) then atK c pl postK else true
set_option maxRecDepth 20000 in
theorem Eu (c:ChainD) (a:ActD) (gf:Nat) [FnBody Tryz.prog gf] (lb:List Value) (pl:Option Nat) (Y:World→Prop) (hpl:Pu Tryz.prog gf (.string a.object::lb).toArray Y (idxP pl)) (hlt:∀ j,pl=some j→j<c.actsL.length) :
  Pu Tryz.prog 119 #[c.v,a.v,.func (.func gf) #[] lb.toArray] (fun w=>c.at_ w∧a.at_ w∧Y w) (.bool (fitsV c a pl)):=by
 refine ak (args:=[_,_,_]) _ Tryz.func119 rfl Tryz.ntmps119 rfl fun av bor w0=>?_
 refine aM (p:=c.acts.n=c.actsL.length∧c.acts.n≤maxLen∧(0<c.actsL.length→c.acts.p.isSome=true)) (fun w h=>⟨h.1.len_,h.1.max_,h.1.some_⟩) fun ⟨hl,hm,hp⟩=>?_
 simp only [maxLen] at hm
 have hri:=dY a
 cases hB:(!rightB a||!seqB a.author c.id||!decide (a.seq=(c.acts.n:Int))||!seqB a.prev c.prev) with
 | true =>
  rw [show fitsV c a pl=false from by rw [fitsV,hB];rfl]
  repeat' (first|(refine ab (hc:=hri) (hX:=fun _ h=>h.2.1) ?_)|refine gs ?_|refine gs1 fun _=>?_|(refine gp ?_ ?_<;>intro hx_ this)|fail)
  all_goals first
   | (apply ad;apply ag;rfl;rfl;rfl)
   | (exfalso;simp_all;done)
 | false =>
  have hB':=hB
  simp only [Ql,Bool.not_eq_false',Zw] at hB'
  obtain ⟨⟨⟨e1,e2⟩,e3⟩,e4⟩:=hB'
  rw [e1] at hri
  cases hK:(decide (a.kind=0) != decide ((c.acts.n:Int)=0)) with
  | true =>
   rw [show fitsV c a pl=false from by rw [fitsV,hB,hK];rfl]
   repeat' (first|refine gI (hab:=e3) ?_|(refine ab (hc:=hri) (hX:=fun _ h=>h.2.1) ?_)|refine gs ?_|refine gs1 fun _=>?_|(refine gp ?_ ?_<;>intro hx_ this)|fail)
   all_goals first
    | (apply ad;apply ag;rfl;rfl;rfl)
    | (exfalso;simp_all;done)
  | false =>
   have hF:fitsV c a pl=(bif decide (a.kind=6) then atK c pl undoK else bif decide (a.kind=13)||decide (a.kind=14) then atK c pl postK else true):=by rw [fitsV,hB,hK];rfl
   rw [hF]
   cases pl with
   | none =>
    have hpl':Pu Tryz.prog gf (.string a.object::lb).toArray Y (.tuple #[.int .i64 0,.bool false]):=hpl
    repeat' (first|refine gI (hab:=e3) ?_|(refine ab (hc:=hri) (hX:=fun _ h=>h.2.1) ?_)|(refine fq (hc:=hpl') (hX:=fun _ h=>h.2.2) (h:=?_))|refine gs ?_|refine gs1 fun _=>?_|(refine gp ?_ ?_<;>intro hx_ this)|fail)
    all_goals first
     | (exfalso;simp_all;done)
     | (apply ad;apply ag;rfl;rfl;simp_all [atK];done)
   | some j =>
    have hjl:=hlt j rfl
    have hp':=hp aa
    obtain ⟨x,hx⟩:∃ x,c.actsL[j]?=some x:=⟨_,Zb hjl⟩
    have hA:∀ p,atK c (some j) p=p x.kind:=fun p=>by simp only [atK,Zo,hx,Qe]
    rw [hA,hA] at hF ⊢
    have hpl':Pu Tryz.prog gf (.string a.object::lb).toArray Y (.tuple #[.int .i64 (j:Nat),.bool true]):=hpl
    clear hpl
    repeat' (first|refine gI (hab:=e3) ?_|(refine ab (hc:=hri) (hX:=fun _ h=>h.2.1) ?_)|(refine fq (hc:=hpl') (hX:=fun _ h=>h.2.2) (h:=?_))|refine ab (hc:=rt x.kind) ?_|refine ab (hc:=jn x.kind) ?_|refine gs ?_|refine gs1 fun _=>?_|(refine aO (q:=j*20) ?_)|(refine fQ ?_)|(refine cU (q:=j*20+3) (u:=.int .i64 x.kind) (hF:=fun w h=>(Acts.get h.1 hx).2.2 3 _ rfl) ?_)|(refine gp ?_ ?_<;>intro hx_ this)|fail)
    all_goals first
     | (exfalso;simp_all;done)
     | (apply ad;apply ag;rfl;rfl;simp_all;done)
theorem Bi:ActD.zero.Rng:=⟨by decide,fun w hw=>(Qk hw).elim,rfl,rfl⟩
theorem DF:ActD.zero.Sm:=⟨by decide,by decide,by decide⟩
theorem Bj {k:KyD} {a:ActD} (h:a.Rng):(actSignV k a).Rng:=by
 rw [actSignV]
 cases rightB (a.sig SgD.zero)&&rightK k with
 | false=>exact Bi
 | true=>exact vU h (pf _ _).1 (pf _ _).2
theorem DG {k:KyD} {a:ActD} (h:a.Sm):(actSignV k a).Sm:=by
 rw [actSignV]
 cases rightB (a.sig SgD.zero)&&rightK k with
 | false=>exact DF
 | true=>exact ⟨h.to,h.wraps,h.target⟩
def ActD.can (a:ActD):ActD:=a.re ⟨none,a.to.n,0⟩ ⟨none,a.wraps.n,0⟩
theorem CC (a:ActD) {s1 s2:SlV} (h1:s1.n=a.to.n) (h2:s2.n=a.wraps.n):(a.re s1 s2).can=a.can:=by
 show a.re ⟨none,s1.n,0⟩ ⟨none,s2.n,0⟩=a.re ⟨none,a.to.n,0⟩ ⟨none,a.wraps.n,0⟩
 rw [h1,h2]
def ChainD.can (c:ChainD):ChainD:={ c with acts:=⟨none,c.acts.n,0⟩,keys:=⟨none,c.keys.n,0⟩,actsL:=c.actsL.map ActD.can }
def actorB:ByteArray:=⟨#[97,99,116,111,114]⟩
def idC (i:Nat):ChainD:={ ChainD.zero with id:=idA21 i }
def draftB (i:Nat):ActD:={ draftV (idC i) 0 0 with text:=actorB,n:=(keyA i).p }
def actB (i:Nat):ActD:=actSignV (keyA i) (draftB i)
def beginC (i:Nat):ChainD:={ idC i with acts:=⟨none,1,0⟩,keys:=⟨none,1,0⟩,prev:=digV (actB i),actsL:=[(actB i).can] }
section
variable {N:Nat} {av bor:List Nat} {w0:World} {E:Env} {loc:List Res} {X:World→Prop}
end
structure BegI where
 k:Nat
 hk:k≤4
 L:List ChainD
 hL:L.map ChainD.can=(List.range k).map beginC
 xs:List Value
 hxs:xs=(L.map ChainD.cells).flatten
 hb:∀ c∈L,ActsOk c.actsL∧c.actsL.length≤1
 A:Option Addr
 c:Nat
structure WishD where
 by_:Int
 do_:Int
 who:Int
 what:Int
 text:ByteArray
 time:Int
end Go.Proofs.YtaolfiikahlmkaaGreatDoor
namespace Go.Proofs.YtaolfiikahlmkaaGreatDoor
open Go Go.Proofs Sy
section
variable {N:Nat} {av bor:List Nat} {w0:World} {ops:Array Oper} {rest:List Oper} {k:St→Prop} {E:Env} {loc:List Res} {X:World→Prop} {x:Operand} {st:St}
variable {n:Nat} {ty:TypeId} {pos:String} {af:Array Edge} {g:Option (Nat×Bool)} {bb want:Bool}
end
end Go.Proofs.YtaolfiikahlmkaaGreatDoor

namespace Go.Proofs.YtaolfiikahlmkaaGreatDoor
open Go Go.Proofs Sy Go.Shelf Go.Maps Go.Sort
theorem keysSet_c:KeysC Tryz.prog 193 257 117 where
 keys:=fun mb W=>(callsIn_wide (n:=5)).1 (AnyZ.keys_in Tryz.keys_agora_relation_set_string_bool Fence.wide 5 trivial rfl mb W)
theorem sortedSet_c:SortedSC Tryz.prog 51 257 9 where
 key:=Tryz.underlying9
 sorted:=fun w Bm q nn D0 hB hc hown h1 h2=>(callsIn_wide (n:=5)).1 (AnyZ.sorted_in Tryz.sortedS Fence.wide 5 trivial trivial trivial trivial rfl aa (sortsS _) (enters_of Tryz.func48 ae rfl) _ _ trivial (enters_of Tryz.func257 ae rfl) _ _ h1 h2 _
  (AnyZ.keys_gives (ρ:=Tryz.keys_agora_relation_set_string_bool_ren) { Tryz.keys_agora_relation_set_string_bool with } Fence.wide _ trivial rfl aa Bm q nn D0 w hB hc hown))
end Go.Proofs.YtaolfiikahlmkaaGreatDoor
namespace Go.Proofs.YtaolfiikahlmkaaGreatDoor
open Go Go.Proofs Sy
theorem gM (q:Nat) (ks:List ByteArray) (hs:∀ k∈ks,k.size≤maxLen) (hl:ks.length≤1000000) :
  Ct Tryz.prog 120 #[.map (some q)] [mapr q (setM ks)] (fun _=>True) fun u R _=>∃ A c,u=.slice A ks.length c∧R=[orow 9 1 u ks.length ((sortB ks).map encB),mapr q (setM ks)]:=by
 refine dN (args:=[_]) (Post:=fun u R=>∃ A c,u=.slice A ks.length c∧R=[orow 9 1 u ks.length ((sortB ks).map encB),mapr q (setM ks)]) _ Tryz.func120 rfl Tryz.ntmps120 rfl fun av bor w0=>?_
 have hsl:(setM ks).length=ks.length:=by simp [setM]
 have hsm:(setM ks).map (·.1)=ks:=by simp [setM,Function.comp_def]
 have hsk:=sortedSet_c.ct (M:=117)
 repeat' (first|refine gs ?_|fail)
 refine cj (pre:=[]) (fr:=[mapr q (setM ks)]) (hc:=keysSet_c.ct (some q)) (hX:=fun _ _=>trivial) (h:=?_)
 rintro v R X' ⟨b,rfl,rfl⟩
 refine cj (pre:=[cel b 117 [.map (some q)],mapr q (setM ks)]) (fr:=[]) (hc:=sortedSet_c.ct b q (setM ks) (fun p hp=>by simp only [setM,QI] at hp;obtain ⟨k,hk,rfl⟩:=hp;exact hs k hk) (by rw [hsl];exact hl)) (hX:=fun _ _=>trivial) (h:=?_)
 rintro v R X' ⟨A,c,rfl,rfl⟩
 rw [hsl,hsm]
 repeat' (first|refine gs ?_|fail)
 exact ad (ag rfl rfl) ⟨_,Z3 _ (Z2 _ (al _)),A,c,rfl,rfl⟩
theorem Bo (c:ChainD) (hc:ActsOk c.actsL) (hl:c.actsL.length≤1000000) (n:Int):Mk Tryz.prog 71 #[c.v,.int .i64 n] (fun w=>c.at_ w∧Glob w) (TiesAt (tieV c.actsL n)):=by
 refine BR (args:=[_,_]) _ Tryz.func71 rfl Tryz.ntmps71 rfl fun av bor w0=>?_
 have hB:=mC hc n
 repeat' (first|refine gs ?_|refine gs1 fun _=>?_|fail)
 rename_i b2 b4
 refine cj (pre:=[]) (fr:=[cel b4 137 [.slice none 0 0,.slice none 0 0,.slice none 0 0,.slice none 0 0],cel b2 35 c.cells]) (hc:=FJ c hc n) (hX:=fun _ h=>h) (h:=?_)
 rintro _ _ X' ⟨q1,q2,q3,q4,rfl,rfl⟩
 generalize tieV c.actsL n=t at *
 repeat' (first|refine gs ?_|refine gs1 fun _=>?_|fail)
 rename_i b5
 unfold setsR
 (refine aq ⟨[0,1,3,4,6,7,9,10],[(2,⟨[],[(5,⟨[],[(8,⟨[],[(11,⟨[12],[(13,⟨[],[]⟩)]⟩)]⟩)]⟩)]⟩)]⟩ [cel b5 119 (setsV q1 q2 q3 q4).cells.toList] (fun _=>True) (h:=?_))
 all_goals repeat' (first|((refine fa (hc:=gM q1 t.f hB.f.size (ZY hB.f.len hl)) (hX:=fun _ _=>trivial) ?_;rintro _ _ X1 ⟨A1,c1,rfl,rfl⟩;refine bL ?_))|((refine fa (hc:=gM q2 t.a hB.a.size (ZY hB.a.len hl)) (hX:=fun _ _=>trivial) ?_;rintro _ _ X2 ⟨A2,c2,rfl,rfl⟩;refine bL ?_))|((refine fa (hc:=gM q3 t.b hB.b.size (ZY hB.b.len hl)) (hX:=fun _ _=>trivial) ?_;rintro _ _ X3 ⟨A3,c3,rfl,rfl⟩;refine bL ?_))|((refine fa (hc:=gM q4 t.m hB.m.size (ZY hB.m.len hl)) (hX:=fun _ _=>trivial) ?_;rintro _ _ X4 ⟨A4,c4,rfl,rfl⟩;refine bL ?_))|refine gd ?_|refine ay (hy:=by first|(apply ft;rfl;rfl)) ?_|refine az ?_ (h':=?_)|exact aA|refine gs1 fun _=>?_|(refine gq ?_ ?_<;>intro hx_ this)|fail)
 repeat' (first|refine gs ?_|refine gs1 fun _=>?_|fail)
 refine ad (cB rfl rfl bz (by rfl)) ⟨⟨A1,t.f.length,c1⟩,⟨A2,t.a.length,c2⟩,⟨A3,t.b.length,c3⟩,⟨A4,t.m.length,c4⟩,rfl,fun w h=>⟨gK h.1.1.1.1.1.1.2 rfl,gK h.1.1.1.1.2 rfl,gK h.1.1.2 rfl,gK h.2 rfl⟩⟩
theorem eqbB (a b:ByteArray):KeyT.eqb a b=seqB a b:=Bool.eq_iff_iff.2 ((KeyT.eqb_iff a b).trans seqB_iff.symm)
theorem mem_sput {k x:ByteArray}:∀ {ks:List ByteArray},x∈sput ks k↔x=k∨x∈ks
 | []=>by simp [sput]
 | a::ks=>by
  have ih:=mem_sput (k:=k) (x:=x) (ks:=ks)
  rw [sput,eqbB]
  cases h:seqB k a with
  | true =>
   obtain rfl:=seqB_iff.1 h
   simp only [Zf,ZI]
   constructor
   · rintro (h|h)
     · exact .inl h
     · exact .inr (.inr h)
   · rintro (h|h|h)
     · exact .inl h
     · exact .inl h
     · exact .inr h
  | false =>
   simp only [Ze,ZI,ih]
   constructor
   · rintro (h|h|h)
     · exact .inr (.inl h)
     · exact .inl h
     · exact .inr (.inr h)
   · rintro (h|h|h)
     · exact .inr (.inl h)
     · exact .inl h
     · exact .inr (.inr h)
theorem eV {k:ByteArray}:∀ {ks:List ByteArray},ks.Nodup→(sput ks k).Nodup
 | [],_=>by simp [sput]
 | a::ks,h=>by
  rw [List.nodup_cons] at h
  rw [sput,eqbB]
  cases hk:seqB k a with
  | true =>
   obtain rfl:=seqB_iff.1 hk
   exact List.nodup_cons.2 h
  | false =>
   refine List.nodup_cons.2 ⟨fun hm=>?_,eV h.2⟩
   rcases mem_sput.1 hm with hm|hm
   · exact seqB_ne.1 hk hm.symm
   · exact h.1 hm
theorem EX (a:ActD):digV a.can=digV a:=Cs rfl rfl
theorem iD (l:List ActD) (i:Nat):(l.map ActD.can).getD i ActD.zero=(l.getD i ActD.zero).can:=by
 rw [Zo,Zo,Z7]
 cases l[i]?<;>rfl
theorem B5 (l:List ActD) (d:ByteArray):idxV (l.map ActD.can) d=idxV l d:=by
 rw [idxV,idxV,List.findIdx?_map]
 exact congrArg (fun p=>l.findIdx? p) (funext fun a=>by
  show seqB (digV a.can) d=_
  rw [EX])
theorem wR (t:TieS) (a:ActD):undoT t a.can=undoT t a:=rfl
theorem xP (l:List ActD) (i:Nat) (t:TieS) (x:ActD):stepT (l.map ActD.can) i t x.can=stepT l i t x:=by
 rw [stepT,stepT,show x.can.kind=x.kind from rfl,show x.can.target=x.target from rfl,show x.can.object=x.object from rfl,B5]
 cases idxV l x.object with
 | none=>rfl
 | some j=>simp only [iD,wR]
theorem rB (l:List ActD):∀ n,tieF (l.map ActD.can) n=tieF l n
 | 0=>rfl
 | n+1=>by rw [tieF,tieF,rB l n,iD,xP]
theorem rA (l:List ActD) (n:Int):tieV (l.map ActD.can) n=tieV l n:=by
 rw [tieV,tieV,rB,ZF]
theorem yH (s:SlV) (l:List ByteArray) (x:ByteArray):Pu Tryz.prog 121 #[s.v,.string x] (fun w=>Strs w s l) (.int .i64 (idxS l x)):=by
 refine ak (args:=[_,_]) _ Tryz.func121 rfl Tryz.ntmps121 rfl fun av bor w0=>?_
 refine aM (p:=s.n=l.length∧s.n≤maxLen∧(0<l.length→s.p.isSome=true)) (fun w h=>⟨h.len_,ZY (RowsD.cap h) (RowsD.max h),h.some_⟩) fun ⟨hl,hm,hp⟩=>?_
 simp only [maxLen] at hm
 repeat' (first|refine gs ?_|fail)
 refine ar (ι:=Upto l.length (fun k=>seqB x (l.getD k .empty))) (fun i=>⟨[(0,s.v),(1,.string x),(7,.int .i64 s.n),(8,.int .i64 i.k)],[],fun w=>Strs w s l⟩) (fun i=>l.length-i.k) (Upto.zero _ _) (aj ao (al _) fun _ h=>h) fun i=>?_
 have hik:=i.hk
 repeat' (first|refine gs ?_|(refine gp ?_ ?_<;>intro hx_ this)|fail)
 · have hlt:i.k<l.length:=by omega
   have hp':=hp aa
   repeat' (first|refine gs ?_|(refine aO (q:=i.k) ?_)|(refine cU (hF:=fun w h=>Strs.get h hlt) ?_)|(refine gp ?_ ?_<;>intro hx_ this)|fail)
   · apply ad;apply ag;rfl;rfl
     rw [uU i hlt (by assumption)]
   · exact ⟨i.next hlt (by assumption),(by show l.length-(i.k+1)<l.length-i.k;omega),aj ao (al _) fun _ h=>h⟩
 · apply ad;apply ag;rfl;rfl
   rw [yJ i (by omega)]
theorem eM (s:SlV) (l:List ByteArray) (x:ByteArray):Pu Tryz.prog 72 #[s.v,.string x] (fun w=>Strs w s l) (.bool (hasS l x)):=by
 refine ak (args:=[_,_]) _ Tryz.func72 rfl Tryz.ntmps72 rfl fun av bor w0=>?_
 repeat' (first|refine ab (hc:=yH s l x) ?_|refine gs ?_|fail)
 apply ad;apply ag;rfl;rfl
 rw [B6]
end Go.Proofs.YtaolfiikahlmkaaGreatDoor
namespace Go.Proofs.YtaolfiikahlmkaaGreatDoor
open Go Go.Proofs Sy Go.Shelf Go.Maps Go.Sort
theorem compS_c:CompC Tryz.prog 49 encStr [] Lib.compact where
 some_:=fun blk off cap ss w h1 h2 h3=>Any.slices_Compact_string Tryz.compS blk off cap ss w h1 h2 h3
 none_:=fun p cap w=>Any.slices_Compact_string_empty Tryz.compS p cap w
 len:=fun ss=>Lib.compact_length_le ss
end Go.Proofs.YtaolfiikahlmkaaGreatDoor
namespace Go.Proofs.YtaolfiikahlmkaaGreatDoor
open Go Go.Proofs Sy
theorem k8 (c:ChainD) (n:Int):Pu Tryz.prog 69 #[c.v,.int .i64 n] (fun _=>True) (.int .i64 (limN n c.acts.n)):=by
 refine ak (args:=[_,_]) _ Tryz.func69 rfl Tryz.ntmps69 rfl fun av bor w0=>?_
 repeat' (first|refine gs ?_|refine gs1 fun _=>?_|fail)
 apply ad;apply ag;rfl;rfl
 congr 1
 unfold limN
 split<;>split<;>omega
def gOk (a:ActD) (sc:Int) (g:ByteArray) (nx:Nat):Bool:=decide (a.kind=16)&&decide (a.scope=sc)&&seqB a.group g&&decide (a.epoch=(nx:Int))
def grantF (l:List ActD) (sc:Int) (g:ByteArray):Nat→Nat×Nat
 | 0=>(0,0)
 | i+1=>bif gOk (l.getD i ActD.zero) sc g (grantF l sc g i).2 then (i,(grantF l sc g i).2+1) else grantF l sc g i
theorem fG (l:List ActD) (sc:Int) (g:ByteArray):∀ k,(grantF l sc g k).2≤k∧(0<(grantF l sc g k).2→(grantF l sc g k).1<k)
 | 0=>⟨ZX _,fun h=>absurd h (Nat.lt_irrefl _)⟩
 | k+1=>by
  have ih:=fG l sc g k
  simp only [grantF]
  cases gOk (l.getD k ActD.zero) sc g (grantF l sc g k).2 with
  | true=>exact ⟨by simp only [Zf];omega,fun _=>by simp only [Zf];omega⟩
  | false=>exact ⟨by simp only [Ze];omega,fun h=>by simp only [Ze] at h ⊢;have:=ih.2 h;omega⟩
def grantV (l:List ActD) (n sc:Int) (g:ByteArray):Nat×Nat:=grantF l sc g (limN n l.length)
theorem lc (c:ChainD) (n sc:Int) (g:ByteArray):Pu Tryz.prog 31 #[c.v,.int .i64 n,.int .i64 sc,.string g] (XC c) (.tuple #[.int .i64 ((grantV c.actsL n sc g).1:Nat),.bool (decide ((0:Int)<((grantV c.actsL n sc g).2:Nat)))]):=by
 refine ak (args:=[_,_,_,_]) _ Tryz.func31 rfl Tryz.ntmps31 rfl fun av bor w0=>?_
 refine aM XC.know fun ⟨hl,hm,hp,hcap⟩=>?_
 simp only [maxLen] at hm
 have hlim:=gR n c.acts.n
 repeat' (first|refine ab (hc:=k8 c n) ?_|refine gs ?_|refine gs1 fun _=>?_|fail)
 rename_i b4
 refine ar (ι:=Kth (limN n c.acts.n)) (fun i=>⟨[(2,.int .i64 sc),(3,.string g),(4,.pointer (some ⟨b4,0,none⟩)),(10,.int .i64 ((grantF c.actsL sc g i.k).1:Nat)),(11,.int .i64 ((grantF c.actsL sc g i.k).2:Nat)),(16,.int .i64 (limN n c.acts.n)),(17,.int .i64 i.k)],[cel b4 35 c.cells],XC c⟩) (fun i=>limN n c.acts.n-i.k) ⟨0,Z4 _⟩
  (aj ao (al _) fun _ h=>h) fun i=>?_
 have hik:=i.hk
 have hg:=(fG c.actsL sc g i.k).1
 repeat' (first|refine gs ?_|refine gs1 fun _=>?_|(refine gp ?_ ?_<;>intro hx_ this)|fail)
 · have hlt:i.k<limN n c.acts.n:=by omega
   have hltL:i.k<c.actsL.length:=by omega
   have hp':=hp aa
   obtain ⟨x,hx⟩:∃ x,c.actsL[i.k]?=some x:=⟨_,Zb hltL⟩
   have hstep:grantF c.actsL sc g (i.k+1)=bif gOk x sc g (grantF c.actsL sc g i.k).2 then (i.k,(grantF c.actsL sc g i.k).2+1) else grantF c.actsL sc g i.k:=by simp only [grantF,Zo,hx,Qe]
   repeat' (first|refine gs ?_|refine gs1 fun _=>?_|(refine aO (q:=i.k*20) ?_)|(refine ca (cs:=x.cells) (hF:=fun w h=>Acts.get h.1 hx) ?_)|(refine gp ?_ ?_<;>intro hx_ this)|fail)
   all_goals exact ⟨(⟨i.k+1,hlt⟩:Kth (limN n c.acts.n)),(by show limN n c.acts.n-(i.k+1)<limN n c.acts.n-i.k;omega),aj (by
    simp only [hstep,gOk, *,Zt,Zr,Zf,Ze,Zh,Zg,Zk,Zj,Zn,Zl,Zs,Zm,Zq,Zi]
    exact ⟨rfl,rfl,rfl,rfl,rfl,rfl,rfl,trivial⟩) (Z2 _ (al _)) fun _ h=>h⟩
 have hk:i.k=limN n c.acts.n:=by omega
 apply ad;apply dH;rfl;rfl;rfl
 simp only [grantV,←hl]
 rw [hk]
def epochO (l:List ActD) (n sc:Int) (g:ByteArray):Option ActD:=bif decide ((0:Int)<((grantV l n sc g).2:Nat)) then l[(grantV l n sc g).1]? else none
def EpochAt (o:Option ActD) (u:Value) (X:World→Prop):Prop:=∃ s:SlV,u=.tuple #[.int .i64 ((o.map (·.epoch)).getD 0),s.v,.bool o.isSome]∧∀ w,X w→Strs w s ((o.map (·.toL)).getD [])
theorem gC (c:ChainD) (hc:ActsOk c.actsL) (n sc:Int) (g:ByteArray):Mk Tryz.prog 30 #[c.v,.int .i64 n,.int .i64 sc,.string g] (XC c) (EpochAt (epochO c.actsL n sc g)):=by
 refine bZ (args:=[_,_,_,_]) _ Tryz.func30 rfl Tryz.ntmps30 rfl fun av bor w0=>?_
 refine aM XC.know fun ⟨hl,hm,hp,hcap⟩=>?_
 simp only [maxLen] at hm
 have hgl:=fG c.actsL sc g (limN n c.actsL.length)
 have hlim:=gR n c.actsL.length
 have hO:epochO c.actsL n sc g=bif decide ((0:Int)<((grantV c.actsL n sc g).2:Nat)) then c.actsL[(grantV c.actsL n sc g).1]? else none:=rfl
 have hgp:=lc c n sc g
 change (grantV c.actsL n sc g).2≤_∧(0<(grantV c.actsL n sc g).2→(grantV c.actsL n sc g).1<_) at hgl
 generalize grantV c.actsL n sc g=gv at *
 obtain ⟨k,nx⟩:=gv
 simp only at hgl hgp hO
 repeat' (first|refine ab (hc:=hgp) ?_|refine gs ?_|refine gs1 fun _=>?_|(refine gp ?_ ?_<;>intro hx_ this)|fail)
 · have hz:decide ((0:Int)<(nx:Nat))=false:=by simpa using hx_
   apply ad
   · apply sB;rfl;rfl;rfl;rfl
   · rw [hO,hz]
     exact ⟨⟨none,0,0⟩,rfl,fun w _=>aY w 1⟩
 · have hz:decide ((0:Int)<(nx:Nat))=true:=by simpa using hx_
   have hnx:=aG hz
   have hkl:k<c.actsL.length:=by have:=hgl.2 aa;omega
   have hp':=hp aa
   obtain ⟨x,hx⟩:∃ x,c.actsL[k]?=some x:=⟨_,Zb hkl⟩
   have hxm:x∈c.actsL:=Z6 hx
   (refine bo ⟨[0,1,2,3,4,5,6,7,8,9,10,11],[(12,⟨[13,14,15],[]⟩)]⟩ (h:=?_))
   all_goals repeat' (first|((refine bS (hc:=iZ x.to (strs x.toL) (hc.sm x hxm).to (xL _)) (hX:=fun w h=>(h.1.2 x hxm).1) fun v1 X1 h1=>?_;obtain ⟨s1,rfl,hn1,hw1⟩:=h1))|refine gd ?_|refine ay (hy:=by first|(apply aC (q:=k*20);rfl;rfl;omega;omega;assumption;omega)|(apply jg;rfl;assumption;rfl)|(apply dR;rfl;exact fun w h=>(Acts.get h.1 hx).2.2 14 _ rfl)|(apply dR;rfl;exact fun w h=>(Acts.get h.1 hx).2.2 9 _ rfl)) ?_|refine az ?_ (h':=?_)|exact aA|refine gs1 fun _=>?_|(refine gq ?_ ?_<;>intro hx_ this)|fail)
   repeat' (first|refine gs ?_|refine gs1 fun _=>?_|(refine gp ?_ ?_<;>intro hx_ this)|fail)
   apply ad
   · apply sB;rfl;rfl;rfl;rfl
   · rw [hO,hz,Zf,hx]
     exact ⟨s1,rfl,fun w h=>hw1 w h.1.2⟩
theorem iH {e n:Nat} {v:Value} {ss:List ByteArray}:Ct Tryz.prog 49 #[v] [orow e 1 v n (ss.map encB)] (fun _=>True) fun u R _=>∃ A c,u=.slice A (compB ss).length c∧R=[orow e 1 u (compB ss).length ((compB ss).map encB)]:=by
 have h:=compS_c.ct (e:=e) (n:=n) (v:=v) (ss:=ss.map bl)
 rw [tf ss]
 refine h.mono fun u R X' ⟨A,c,h1,h2⟩=>⟨A,c,?_,?_⟩
 · rw [h1];simp [compB]
 · rw [h2,jq,compB];simp
def circF (l:List ActD) (g:ByteArray):Nat→Option ActD
 | 0=>none
 | i+1=>bif decide ((l.getD i ActD.zero).kind=15)&&seqB (l.getD i ActD.zero).group g then some (l.getD i ActD.zero) else circF l g i
theorem k9 {l:List ActD} {g:ByteArray}:∀ {k:Nat} {x:ActD},k≤l.length→circF l g k=some x→x∈l
 | 0,x,_,h=>by cases h
 | k+1,x,hk,h=>by
  simp only [circF] at h
  have h0:l.getD k ActD.zero∈l:=by
   rw [Zo,Zb (by omega)]
   exact ZQ aa
  cases hb:(decide ((l.getD k ActD.zero).kind=15)&&seqB (l.getD k ActD.zero).group g) with
  | true=>rw [hb] at h;simp only [Zf,ZM] at h;exact h▸h0
  | false=>rw [hb] at h;exact k9 aa h
def listOf (c:ChainD) (n sc:Int) (g:ByteArray) (toL:List ByteArray):List ByteArray :=
 bif decide (sc=1) then sortB (tieV c.actsL n).a else bif decide (sc=2) then ((circF c.actsL g (limN n c.actsL.length)).map (·.toL)).getD [] else bif decide (sc=3) then toL else []
def keepM (c:ChainD) (bs:List ByteArray) (x:ByteArray):Bool:=!seqB x c.id&&!hasS bs x
def membersV (c:ChainD) (n sc:Int) (g:ByteArray) (toL:List ByteArray):List ByteArray:=compB (sortB ((listOf c n sc g toL).filter (keepM c (sortB (tieV c.actsL n).b))))
structure FilS (m:Nat) where
 k:Nat
 hk:k≤m
 A:Option Addr
 c:Nat
def OwnStrs (l:List ByteArray) (u:Value) (R:List Res):Prop:=∃ A c,u=.slice A l.length c∧R=[orow 9 1 u l.length (l.map encB)]
theorem pB {f:FuncId} {args:Array Value} {X:World→Prop} {l:List ByteArray} (h:Ct Tryz.prog f args [] X (fun u R _=>OwnStrs l u R)):Mk Tryz.prog f args X (StrsAt l):=by
 unfold Mk
 exact Ct.mk fun w av G=>(Ct.run h w av G).mono fun e w' ⟨u,R,X',he,hu,G'⟩=>⟨u,[],_,he,⟨by
  obtain ⟨A,c,rfl,rfl⟩:=hu
  exact ⟨⟨A,_,c⟩,rfl,fun w h=>gJ (h.2 _ ax) rfl⟩,rfl⟩,G'.giveAll⟩
theorem nO (c:ChainD) (hc:ActsOk c.actsL) (hcl:c.actsL.length≤1000000) (hto:∀ x∈c.actsL,x.to.n≤1000000) (n sc:Int) (g:ByteArray) (st:SlV) (toL:List ByteArray) (htl:toL.length≤1000000) :
    Ct Tryz.prog 33 #[c.v,.int .i64 n,.int .i64 sc,.string g,st.v] [] (fun w=>XC c w∧Strs w st toL) (fun u R _=>OwnStrs (membersV c n sc g toL) u R):=by
  refine dN (args:=[_,_,_,_,_]) (Post:=OwnStrs (membersV c n sc g toL)) _ Tryz.func33 rfl Tryz.ntmps33 rfl fun av bor w0=>?_
  refine aM (fun w h=>XC.know w h.1) fun ⟨hl,hm,hp,hcap⟩=>?_
  simp only [maxLen] at hm
  have hB:=mC hc n
  have hM:membersV c n sc g toL=compB (sortB ((listOf c n sc g toL).filter (keepM c (sortB (tieV c.actsL n).b)))):=rfl
  repeat' (first|refine gs ?_|refine gs1 fun _=>?_|fail)
  refine bS (hc:=Bo c hc hcl n) (hX:=fun w h=>h.1) fun v1 X1 h1=>?_
  obtain ⟨s1,s2,s3,s4,rfl,hties⟩:=h1
  have hLo:listOf c n sc g toL=bif decide (sc=1) then sortB (tieV c.actsL n).a else bif decide (sc=2) then ((circF c.actsL g (limN n c.actsL.length)).map (·.toL)).getD [] else bif decide (sc=3) then toL else []:=rfl
  generalize tieV c.actsL n=t at *
  have hlim:=gR n c.acts.n
  repeat' (first|refine gs ?_|refine gs1 fun _=>?_|fail)
  rename_i b5 b11
  repeat' (first|refine ab (hc:=k8 c n) ?_|refine gs ?_|refine gs1 fun _=>?_|(refine gp ?_ ?_<;>intro hx_ this)|fail)
  case refine_1 =>
    have hLe:listOf c n sc g toL=sortB t.a:=by rw [hLo,hx_];rfl
    have hSL:∀ w,(XC c w∧Strs w st toL)∧X1 w→Strs w s2 (sortB t.a):=fun w h=>(hties w h.2).2.1
    have hLl:(sortB t.a).length≤1000000:=by rw [iT];have:=hB.a.len;omega
    generalize hLL:sortB t.a=L at *
    refine aM (p:=(s2).n=(L).length∧(s2).n≤maxLen∧(0<(L).length→(s2).p.isSome=true)) (fun w h=>⟨(hSL w h).len_,ZY (RowsD.cap (hSL w h)) (RowsD.max (hSL w h)),(hSL w h).some_⟩) fun ⟨hSl,hSm,hSp⟩=>?_
    simp only [maxLen] at hSm
    refine cJ 9 1 ?_
    refine ar (ι:=FilS (L).length) (fun i=>⟨[(5,.pointer (some ⟨b5,0,none⟩)),(11,.pointer (some ⟨b11,0,none⟩)),(15,.slice i.A (((L).take i.k).filter (keepM c (sortB t.b))).length i.c),(54,(s2).v),(55,.int .i64 (s2).n),(56,.int .i64 i.k)],
      [orow 9 1 (.slice i.A (((L).take i.k).filter (keepM c (sortB t.b))).length i.c) (((L).take i.k).filter (keepM c (sortB t.b))).length ((((L).take i.k).filter (keepM c (sortB t.b))).map encB),cel b11 137 [s1.v,s2.v,s3.v,s4.v],cel b5 35 c.cells],fun w=>(XC c w∧Strs w st toL)∧X1 w⟩) (fun i=>(L).length-i.k) ⟨0,Z4 _,none,0⟩ (aj ao (al _) fun _ h=>h) fun i=>?_
    have hik:=i.hk
    repeat' (first|refine gs ?_|refine gs1 fun _=>?_|(refine gp ?_ ?_<;>intro hx_ this)|fail)
    · have hlt:i.k<(L).length:=by omega
      have hp2:=hSp aa
      have hfs:=fU (p:=(keepM c (sortB t.b))) (L) hlt
      have hfl:(((L).take i.k).filter (keepM c (sortB t.b))).length≤1000000:=by
        have h1:=Qa (keepM c (sortB t.b)) ((L).take i.k)
        have h2:=List.length_take_le i.k (L)
        omega
      generalize hacc:((L).take i.k).filter (keepM c (sortB t.b))=acc at *
      generalize hxe:(L).getD i.k .empty=x at *
      repeat' (first|(refine ab (hc:=eM s3 (sortB t.b) x) (hX:=fun w h=>(hties w h.2).2.2.1) ?_)|(refine aN (size:=1) (z:=.string ⟨#[]⟩) (news:=[encB x]) (q:=1) rfl rfl rfl rfl (fun _=>At.there _ (At.here _)) (fun w G=>bX G ax rfl rfl 1) aa (by simp only [maxLen];omega) rfl ?_ rfl ?_;(first|with_reducible rfl|with_reducible assumption|with_reducible exact Zl|with_reducible exact Zn);intro A2 c2)|refine gs ?_|refine gs1 fun _=>?_|(refine aO (q:=i.k) ?_)|(refine cU (u:=.string x) (hF:=fun w h=>hxe▸Strs.get (hSL w h) hlt) ?_)|(refine gp ?_ ?_<;>intro hx_ this)|fail)
      all_goals first
        | (have e:((L).take (i.k+1)).filter (keepM c (sortB t.b))=acc++[x]:=by rw [hfs];simp only [keepM, *,Zt,Zr,Zf,Ze,Zh,Zg,Zk,Zj,Zn,Zl,Zs,Zm,Zq,Zi]
           refine ⟨(⟨i.k+1,hlt,A2,c2⟩:FilS (L).length),(by show (L).length-(i.k+1)<(L).length-i.k;omega),aj ?_ ?_ fun _ h=>h⟩
           · simp only [e,ZA,ZB,ZR,ZU];exact ⟨rfl,rfl,rfl,rfl,rfl,rfl,trivial⟩
           · simp only [e,ZA,ZB,ZR,ZU,ZW,Z1,List.map_nil];exact Z2 _ (al _))
        | (have e:((L).take (i.k+1)).filter (keepM c (sortB t.b))=acc:=by rw [hfs];simp only [keepM, *,Zt,Zr,Zf,Ze,Zh,Zg,Zk,Zj,Zn,Zl,Zs,Zm,Zq,Zi,ZJ]
           refine ⟨(⟨i.k+1,hlt,i.A,i.c⟩:FilS (L).length),(by show (L).length-(i.k+1)<(L).length-i.k;omega),aj ?_ ?_ fun _ h=>h⟩
           · simp only [e];exact ⟨rfl,rfl,rfl,rfl,rfl,rfl,trivial⟩
           · simp only [e];exact al _)
    have hfl:(((L).take i.k).filter (keepM c (sortB t.b))).length≤1000000000:=by
      have h1:=Qa (keepM c (sortB t.b)) ((L).take i.k)
      have h2:=List.length_take_le i.k (L)
      omega
    have hk:i.k=(L).length:=by omega
    have hfin:membersV c n sc g toL=compB (sortB (((L).take i.k).filter (keepM c (sortB t.b)))):=by rw [hM,hLe,hk,Qh]
    refine eZ (hc:=ij hfl) (hX:=fun _ _=>trivial) ?_
    repeat' (first|refine gs ?_|refine gs1 fun _=>?_|fail)
    refine fa (hc:=iH) (hX:=fun _ _=>trivial) ?_
    rintro _ _ X2 ⟨A3,c3,rfl,rfl⟩
    repeat' (first|refine gs ?_|refine gs1 fun _=>?_|fail)
    rw [hfin]
    exact ad (ag rfl rfl) ⟨_,Z3 _ (Zu _),A3,c3,rfl,rfl⟩
  case refine_2.refine_1 =>
    refine ar (ι:=Kth (limN n c.acts.n)) (fun i=>⟨[(3,.string g),(5,.pointer (some ⟨b5,0,none⟩)),(11,.pointer (some ⟨b11,0,none⟩)),(12,((((circF c.actsL g i.k).map (fun x:ActD=>x.to)).getD (⟨none,0,0⟩:SlV)):SlV).v),(21,.int .i64 sc),(30,.int .i64 (limN n c.acts.n)),(31,.int .i64 i.k)],
      [cel b11 137 [s1.v,s2.v,s3.v,s4.v],cel b5 35 c.cells],fun w=>(XC c w∧Strs w st toL)∧X1 w⟩) (fun i=>limN n c.acts.n-i.k) ⟨0,Z4 _⟩ (aj ao (al _) fun _ h=>h) fun i=>?_
    have hik:=i.hk
    repeat' (first|refine gs ?_|refine gs1 fun _=>?_|(refine gp ?_ ?_<;>intro hx_ this)|fail)
    · have hlt:i.k<limN n c.acts.n:=by omega
      have hltL:i.k<c.actsL.length:=by omega
      have hp':=hp aa
      obtain ⟨x,hx⟩:∃ x,c.actsL[i.k]?=some x:=⟨_,Zb hltL⟩
      have hstep:circF c.actsL g (i.k+1)=bif decide (x.kind=15)&&seqB x.group g then some x else circF c.actsL g i.k:=by simp only [circF,Zo,hx,Qe]
      repeat' (first|refine gs ?_|refine gs1 fun _=>?_|(refine aO (q:=i.k*20) ?_)|(refine ca (cs:=x.cells) (hF:=fun w h=>Acts.get h.1.1.1 hx) ?_)|(refine gp ?_ ?_<;>intro hx_ this)|fail)
      all_goals exact ⟨(⟨i.k+1,hlt⟩:Kth (limN n c.acts.n)),(by show limN n c.acts.n-(i.k+1)<limN n c.acts.n-i.k;omega),aj (by
        have e:circF c.actsL g (i.k+1)=_:=hstep.trans (by simp only [*,Int.reduceEq,Zt,Zr,Zf,Ze,Zh,Zg,Zk,Zj,Zn,Zl,Zs,Zm,Zq,Zi];rfl)
        simp only [e]
        exact ⟨rfl,rfl,rfl,rfl,rfl,rfl,rfl,trivial⟩) (Z2 _ (al _)) fun _ h=>h⟩
    have hk:i.k=limN n c.acts.n:=by omega
    have hLe:listOf c n sc g toL=((circF c.actsL g i.k).map (·.toL)).getD []:=by
      rw [hLo,‹decide (sc=1)=false›,‹decide (sc=2)=true›,hk,hl]
      rfl
    have hmem:∀ x,circF c.actsL g i.k=some x→x∈c.actsL:=fun x hx=>k9 aa hx
    repeat' (first|refine ab (hc:=k8 c n) ?_|refine gs ?_|refine gs1 fun _=>?_|(refine gp ?_ ?_<;>intro hx_ this)|fail)
    generalize circF c.actsL g i.k=o at *
    obtain ⟨S,L,hS1,hL1,hSL,hLl⟩:∃ (S:SlV) (L:List ByteArray),(o.map (fun x:ActD=>x.to)).getD (⟨none,0,0⟩:SlV)=S∧(o.map (fun x:ActD=>x.toL)).getD []=L∧(∀ w,(XC c w∧Strs w st toL)∧X1 w→Strs w S L)∧L.length≤1000000:=by
      cases o with
      | none=>exact ⟨_,_,rfl,rfl,fun w _=>aY w 1,by simp⟩
      | some x=>exact ⟨_,_,rfl,rfl,fun w h=>(h.1.1.1.2 x (hmem x rfl)).1,by have h1:=(hc.rng x (hmem x rfl)).to_len;have h2:=hto x (hmem x rfl);show x.toL.length≤1000000;omega⟩
    rw [hL1] at hLe
    rw [hS1]
    refine aM (p:=(S).n=(L).length∧(S).n≤maxLen∧(0<(L).length→(S).p.isSome=true)) (fun w h=>⟨(hSL w h).len_,ZY (RowsD.cap (hSL w h)) (RowsD.max (hSL w h)),(hSL w h).some_⟩) fun ⟨hSl,hSm,hSp⟩=>?_
    simp only [maxLen] at hSm
    refine cJ 9 1 ?_
    refine ar (ι:=FilS (L).length) (fun i=>⟨[(5,.pointer (some ⟨b5,0,none⟩)),(11,.pointer (some ⟨b11,0,none⟩)),(15,.slice i.A (((L).take i.k).filter (keepM c (sortB t.b))).length i.c),(54,(S).v),(55,.int .i64 (S).n),(56,.int .i64 i.k)],
      [orow 9 1 (.slice i.A (((L).take i.k).filter (keepM c (sortB t.b))).length i.c) (((L).take i.k).filter (keepM c (sortB t.b))).length ((((L).take i.k).filter (keepM c (sortB t.b))).map encB),cel b11 137 [s1.v,s2.v,s3.v,s4.v],cel b5 35 c.cells],fun w=>(XC c w∧Strs w st toL)∧X1 w⟩) (fun i=>(L).length-i.k) ⟨0,Z4 _,none,0⟩ (aj ao (al _) fun _ h=>h) fun i=>?_
    have hik:=i.hk
    repeat' (first|refine gs ?_|refine gs1 fun _=>?_|(refine gp ?_ ?_<;>intro hx_ this)|fail)
    · have hlt:i.k<(L).length:=by omega
      have hp2:=hSp aa
      have hfs:=fU (p:=(keepM c (sortB t.b))) (L) hlt
      have hfl:(((L).take i.k).filter (keepM c (sortB t.b))).length≤1000000:=by
        have h1:=Qa (keepM c (sortB t.b)) ((L).take i.k)
        have h2:=List.length_take_le i.k (L)
        omega
      generalize hacc:((L).take i.k).filter (keepM c (sortB t.b))=acc at *
      generalize hxe:(L).getD i.k .empty=x at *
      repeat' (first|(refine ab (hc:=eM s3 (sortB t.b) x) (hX:=fun w h=>(hties w h.2).2.2.1) ?_)|(refine aN (size:=1) (z:=.string ⟨#[]⟩) (news:=[encB x]) (q:=1) rfl rfl rfl rfl (fun _=>At.there _ (At.here _)) (fun w G=>bX G ax rfl rfl 1) aa (by simp only [maxLen];omega) rfl ?_ rfl ?_;(first|with_reducible rfl|with_reducible assumption|with_reducible exact Zl|with_reducible exact Zn);intro A2 c2)|refine gs ?_|refine gs1 fun _=>?_|(refine aO (q:=i.k) ?_)|(refine cU (u:=.string x) (hF:=fun w h=>hxe▸Strs.get (hSL w h) hlt) ?_)|(refine gp ?_ ?_<;>intro hx_ this)|fail)
      all_goals first
        | (have e:((L).take (i.k+1)).filter (keepM c (sortB t.b))=acc++[x]:=by rw [hfs];simp only [keepM, *,Zt,Zr,Zf,Ze,Zh,Zg,Zk,Zj,Zn,Zl,Zs,Zm,Zq,Zi]
           refine ⟨(⟨i.k+1,hlt,A2,c2⟩:FilS (L).length),(by show (L).length-(i.k+1)<(L).length-i.k;omega),aj ?_ ?_ fun _ h=>h⟩
           · simp only [e,ZA,ZB,ZR,ZU];exact ⟨rfl,rfl,rfl,rfl,rfl,rfl,trivial⟩
           · simp only [e,ZA,ZB,ZR,ZU,ZW,Z1,List.map_nil];exact Z2 _ (al _))
        | (have e:((L).take (i.k+1)).filter (keepM c (sortB t.b))=acc:=by rw [hfs];simp only [keepM, *,Zt,Zr,Zf,Ze,Zh,Zg,Zk,Zj,Zn,Zl,Zs,Zm,Zq,Zi,ZJ]
           refine ⟨(⟨i.k+1,hlt,i.A,i.c⟩:FilS (L).length),(by show (L).length-(i.k+1)<(L).length-i.k;omega),aj ?_ ?_ fun _ h=>h⟩
           · simp only [e];exact ⟨rfl,rfl,rfl,rfl,rfl,rfl,trivial⟩
           · simp only [e];exact al _)
    have hfl:(((L).take i.k).filter (keepM c (sortB t.b))).length≤1000000000:=by
      have h1:=Qa (keepM c (sortB t.b)) ((L).take i.k)
      have h2:=List.length_take_le i.k (L)
      omega
    have hk:i.k=(L).length:=by omega
    have hfin:membersV c n sc g toL=compB (sortB (((L).take i.k).filter (keepM c (sortB t.b)))):=by rw [hM,hLe,hk,Qh]
    refine eZ (hc:=ij hfl) (hX:=fun _ _=>trivial) ?_
    repeat' (first|refine gs ?_|refine gs1 fun _=>?_|fail)
    refine fa (hc:=iH) (hX:=fun _ _=>trivial) ?_
    rintro _ _ X2 ⟨A3,c3,rfl,rfl⟩
    repeat' (first|refine gs ?_|refine gs1 fun _=>?_|fail)
    rw [hfin]
    exact ad (ag rfl rfl) ⟨_,Z3 _ (Zu _),A3,c3,rfl,rfl⟩
  case refine_2.refine_2.refine_1 =>
    have hLe:listOf c n sc g toL=toL:=by
      rw [hLo,‹decide (sc=1)=false›,‹decide (sc=2)=false›,‹decide (sc=3)=true›]
      rfl
    have hSL:∀ w,(XC c w∧Strs w st toL)∧X1 w→Strs w st toL:=fun w h=>h.1.2
    have hLl:=htl
    refine aM (p:=(st).n=(toL).length∧(st).n≤maxLen∧(0<(toL).length→(st).p.isSome=true)) (fun w h=>⟨(hSL w h).len_,ZY (RowsD.cap (hSL w h)) (RowsD.max (hSL w h)),(hSL w h).some_⟩) fun ⟨hSl,hSm,hSp⟩=>?_
    simp only [maxLen] at hSm
    refine cJ 9 1 ?_
    refine ar (ι:=FilS (toL).length) (fun i=>⟨[(5,.pointer (some ⟨b5,0,none⟩)),(11,.pointer (some ⟨b11,0,none⟩)),(15,.slice i.A (((toL).take i.k).filter (keepM c (sortB t.b))).length i.c),(54,(st).v),(55,.int .i64 (st).n),(56,.int .i64 i.k)],
      [orow 9 1 (.slice i.A (((toL).take i.k).filter (keepM c (sortB t.b))).length i.c) (((toL).take i.k).filter (keepM c (sortB t.b))).length ((((toL).take i.k).filter (keepM c (sortB t.b))).map encB),cel b11 137 [s1.v,s2.v,s3.v,s4.v],cel b5 35 c.cells],fun w=>(XC c w∧Strs w st toL)∧X1 w⟩) (fun i=>(toL).length-i.k) ⟨0,Z4 _,none,0⟩ (aj ao (al _) fun _ h=>h) fun i=>?_
    have hik:=i.hk
    repeat' (first|refine gs ?_|refine gs1 fun _=>?_|(refine gp ?_ ?_<;>intro hx_ this)|fail)
    · have hlt:i.k<(toL).length:=by omega
      have hp2:=hSp aa
      have hfs:=fU (p:=(keepM c (sortB t.b))) (toL) hlt
      have hfl:(((toL).take i.k).filter (keepM c (sortB t.b))).length≤1000000:=by
        have h1:=Qa (keepM c (sortB t.b)) ((toL).take i.k)
        have h2:=List.length_take_le i.k (toL)
        omega
      generalize hacc:((toL).take i.k).filter (keepM c (sortB t.b))=acc at *
      generalize hxe:(toL).getD i.k .empty=x at *
      repeat' (first|(refine ab (hc:=eM s3 (sortB t.b) x) (hX:=fun w h=>(hties w h.2).2.2.1) ?_)|(refine aN (size:=1) (z:=.string ⟨#[]⟩) (news:=[encB x]) (q:=1) rfl rfl rfl rfl (fun _=>At.there _ (At.here _)) (fun w G=>bX G ax rfl rfl 1) aa (by simp only [maxLen];omega) rfl ?_ rfl ?_;(first|with_reducible rfl|with_reducible assumption|with_reducible exact Zl|with_reducible exact Zn);intro A2 c2)|refine gs ?_|refine gs1 fun _=>?_|(refine aO (q:=i.k) ?_)|(refine cU (u:=.string x) (hF:=fun w h=>hxe▸Strs.get (hSL w h) hlt) ?_)|(refine gp ?_ ?_<;>intro hx_ this)|fail)
      all_goals first
        | (have e:((toL).take (i.k+1)).filter (keepM c (sortB t.b))=acc++[x]:=by rw [hfs];simp only [keepM, *,Zt,Zr,Zf,Ze,Zh,Zg,Zk,Zj,Zn,Zl,Zs,Zm,Zq,Zi]
           refine ⟨(⟨i.k+1,hlt,A2,c2⟩:FilS (toL).length),(by show (toL).length-(i.k+1)<(toL).length-i.k;omega),aj ?_ ?_ fun _ h=>h⟩
           · simp only [e,ZA,ZB,ZR,ZU];exact ⟨rfl,rfl,rfl,rfl,rfl,rfl,trivial⟩
           · simp only [e,ZA,ZB,ZR,ZU,ZW,Z1,List.map_nil];exact Z2 _ (al _))
        | (have e:((toL).take (i.k+1)).filter (keepM c (sortB t.b))=acc:=by rw [hfs];simp only [keepM, *,Zt,Zr,Zf,Ze,Zh,Zg,Zk,Zj,Zn,Zl,Zs,Zm,Zq,Zi,ZJ]
           refine ⟨(⟨i.k+1,hlt,i.A,i.c⟩:FilS (toL).length),(by show (toL).length-(i.k+1)<(toL).length-i.k;omega),aj ?_ ?_ fun _ h=>h⟩
           · simp only [e];exact ⟨rfl,rfl,rfl,rfl,rfl,rfl,trivial⟩
           · simp only [e];exact al _)
    have hfl:(((toL).take i.k).filter (keepM c (sortB t.b))).length≤1000000000:=by
      have h1:=Qa (keepM c (sortB t.b)) ((toL).take i.k)
      have h2:=List.length_take_le i.k (toL)
      omega
    have hk:i.k=(toL).length:=by omega
    have hfin:membersV c n sc g toL=compB (sortB (((toL).take i.k).filter (keepM c (sortB t.b)))):=by rw [hM,hLe,hk,Qh]
    refine eZ (hc:=ij hfl) (hX:=fun _ _=>trivial) ?_
    repeat' (first|refine gs ?_|refine gs1 fun _=>?_|fail)
    refine fa (hc:=iH) (hX:=fun _ _=>trivial) ?_
    rintro _ _ X2 ⟨A3,c3,rfl,rfl⟩
    repeat' (first|refine gs ?_|refine gs1 fun _=>?_|fail)
    rw [hfin]
    exact ad (ag rfl rfl) ⟨_,Z3 _ (Zu _),A3,c3,rfl,rfl⟩
  case refine_2.refine_2.refine_2 =>
    have hLe:listOf c n sc g toL=[]:=by
      rw [hLo,‹decide (sc=1)=false›,‹decide (sc=2)=false›,‹decide (sc=3)=false›]
      rfl
    have hSL:∀ w,(XC c w∧Strs w st toL)∧X1 w→Strs w ⟨none,0,0⟩ []:=fun w _=>aY w 1
    have hLl:([]:List ByteArray).length≤1000000:=by simp
    refine aM (p:=((⟨none,0,0⟩:SlV)).n=(([]:List ByteArray)).length∧((⟨none,0,0⟩:SlV)).n≤maxLen∧(0<(([]:List ByteArray)).length→((⟨none,0,0⟩:SlV)).p.isSome=true)) (fun w h=>⟨((show Strs w ⟨none,0,0⟩ [] from aY w 1)).len_,ZY (RowsD.cap ((show Strs w ⟨none,0,0⟩ [] from aY w 1))) (RowsD.max ((show Strs w ⟨none,0,0⟩ [] from aY w 1))),((show Strs w ⟨none,0,0⟩ [] from aY w 1)).some_⟩) fun ⟨hSl,hSm,hSp⟩=>?_
    simp only [maxLen] at hSm
    refine cJ 9 1 ?_
    refine ar (ι:=FilS (([]:List ByteArray)).length) (fun i=>⟨[(5,.pointer (some ⟨b5,0,none⟩)),(11,.pointer (some ⟨b11,0,none⟩)),(15,.slice i.A (((([]:List ByteArray)).take i.k).filter (keepM c (sortB t.b))).length i.c),(54,((⟨none,0,0⟩:SlV)).v),(55,.int .i64 ((⟨none,0,0⟩:SlV)).n),(56,.int .i64 i.k)],
      [orow 9 1 (.slice i.A (((([]:List ByteArray)).take i.k).filter (keepM c (sortB t.b))).length i.c) (((([]:List ByteArray)).take i.k).filter (keepM c (sortB t.b))).length ((((([]:List ByteArray)).take i.k).filter (keepM c (sortB t.b))).map encB),cel b11 137 [s1.v,s2.v,s3.v,s4.v],cel b5 35 c.cells],fun w=>(XC c w∧Strs w st toL)∧X1 w⟩) (fun i=>(([]:List ByteArray)).length-i.k) ⟨0,Z4 _,none,0⟩ (aj ao (al _) fun _ h=>h) fun i=>?_
    have hik:=i.hk
    repeat' (first|refine gs ?_|refine gs1 fun _=>?_|(refine gp ?_ ?_<;>intro hx_ this)|fail)
    · have hlt:i.k<(([]:List ByteArray)).length:=by omega
      have hp2:=hSp aa
      have hfs:=fU (p:=(keepM c (sortB t.b))) (([]:List ByteArray)) hlt
      have hfl:(((([]:List ByteArray)).take i.k).filter (keepM c (sortB t.b))).length≤1000000:=by
        have h1:=Qa (keepM c (sortB t.b)) ((([]:List ByteArray)).take i.k)
        have h2:=List.length_take_le i.k (([]:List ByteArray))
        omega
      generalize hacc:((([]:List ByteArray)).take i.k).filter (keepM c (sortB t.b))=acc at *
      generalize hxe:(([]:List ByteArray)).getD i.k .empty=x at *
      repeat' (first|(refine ab (hc:=eM s3 (sortB t.b) x) (hX:=fun w h=>(hties w h.2).2.2.1) ?_)|(refine aN (size:=1) (z:=.string ⟨#[]⟩) (news:=[encB x]) (q:=1) rfl rfl rfl rfl (fun _=>At.there _ (At.here _)) (fun w G=>bX G ax rfl rfl 1) aa (by simp only [maxLen];omega) rfl ?_ rfl ?_;(first|with_reducible rfl|with_reducible assumption|with_reducible exact Zl|with_reducible exact Zn);intro A2 c2)|refine gs ?_|refine gs1 fun _=>?_|(refine aO (q:=i.k) ?_)|(refine cU (u:=.string x) (hF:=fun w h=>hxe▸Strs.get ((show Strs w ⟨none,0,0⟩ [] from aY w 1)) hlt) ?_)|(refine gp ?_ ?_<;>intro hx_ this)|fail)
      all_goals first
        | (have e:((([]:List ByteArray)).take (i.k+1)).filter (keepM c (sortB t.b))=acc++[x]:=by rw [hfs];simp only [keepM, *,Zt,Zr,Zf,Ze,Zh,Zg,Zk,Zj,Zn,Zl,Zs,Zm,Zq,Zi]
           refine ⟨(⟨i.k+1,hlt,A2,c2⟩:FilS (([]:List ByteArray)).length),(by show (([]:List ByteArray)).length-(i.k+1)<(([]:List ByteArray)).length-i.k;omega),aj ?_ ?_ fun _ h=>h⟩
           · simp only [e,ZA,ZB,ZR,ZU];exact ⟨rfl,rfl,rfl,rfl,rfl,rfl,trivial⟩
           · simp only [e,ZA,ZB,ZR,ZU,ZW,Z1,List.map_nil];exact Z2 _ (al _))
        | (have e:((([]:List ByteArray)).take (i.k+1)).filter (keepM c (sortB t.b))=acc:=by rw [hfs];simp only [keepM, *,Zt,Zr,Zf,Ze,Zh,Zg,Zk,Zj,Zn,Zl,Zs,Zm,Zq,Zi,ZJ]
           refine ⟨(⟨i.k+1,hlt,i.A,i.c⟩:FilS (([]:List ByteArray)).length),(by show (([]:List ByteArray)).length-(i.k+1)<(([]:List ByteArray)).length-i.k;omega),aj ?_ ?_ fun _ h=>h⟩
           · simp only [e];exact ⟨rfl,rfl,rfl,rfl,rfl,rfl,trivial⟩
           · simp only [e];exact al _)
    have hfl:(((([]:List ByteArray)).take i.k).filter (keepM c (sortB t.b))).length≤1000000000:=by
      have h1:=Qa (keepM c (sortB t.b)) ((([]:List ByteArray)).take i.k)
      have h2:=List.length_take_le i.k (([]:List ByteArray))
      omega
    have hk:i.k=(([]:List ByteArray)).length:=by omega
    have hfin:membersV c n sc g toL=compB (sortB (((([]:List ByteArray)).take i.k).filter (keepM c (sortB t.b)))):=by rw [hM,hLe,hk,Qh]
    refine eZ (hc:=ij hfl) (hX:=fun _ _=>trivial) ?_
    repeat' (first|refine gs ?_|refine gs1 fun _=>?_|fail)
    refine fa (hc:=iH) (hX:=fun _ _=>trivial) ?_
    rintro _ _ X2 ⟨A3,c3,rfl,rfl⟩
    repeat' (first|refine gs ?_|refine gs1 fun _=>?_|fail)
    rw [hfin]
    exact ad (ag rfl rfl) ⟨_,Z3 _ (Zu _),A3,c3,rfl,rfl⟩
theorem ez (c:ChainD) (hc:ActsOk c.actsL) (hcl:c.actsL.length≤1000000) (hto:∀ x∈c.actsL,x.to.n≤1000000) (n sc:Int) (g:ByteArray) (st:SlV) (toL:List ByteArray) (htl:toL.length≤1000000) :
  Mk Tryz.prog 33 #[c.v,.int .i64 n,.int .i64 sc,.string g,st.v] (fun w=>XC c w∧Strs w st toL) (StrsAt (membersV c n sc g toL)):=pB (nO c hc hcl hto n sc g st toL htl)
def freshV (c:ChainD) (n sc:Int) (g:ByteArray) (toL:List ByteArray):Bool:=!((epochO c.actsL n sc g).isSome)||!(eqL (((epochO c.actsL n sc g).map (·.toL)).getD []) (membersV c n sc g toL))
def wellA (c:ChainD) (i:Int) (a:ActD):Bool:=(postK a.kind||decide (a.kind=14))&&(decide (a.scope=1)||decide (a.scope=2)||decide (a.scope=3))&&(match epochO c.actsL i a.scope a.group with
 | some e=>decide (e.epoch=a.epoch)&&eqL e.toL (membersV c i a.scope a.group a.toL)
 | none=>false)
def wellV (c:ChainD) (i:Int):Bool:=decide (0≤i)&&(match c.actsL[i.toNat]? with
 | some a=>wellA c i a
 | none=>false)
theorem vw (c:ChainD) (hc:ActsOk c.actsL) (hcl:c.actsL.length≤1000000) (hto:∀ x∈c.actsL,x.to.n≤1000000) (i:Int):Pu Tryz.prog 61 #[c.v,.int .i64 i] (XC c) (.bool (wellV c i)):=by
 refine ak (args:=[_,_]) _ Tryz.func61 rfl Tryz.ntmps61 rfl fun av bor w0=>?_
 refine aM XC.know fun ⟨hl,hm,hp,hcap⟩=>?_
 simp only [maxLen] at hm
 repeat' (first|refine gs ?_|refine gs1 fun _=>?_|(refine gp ?_ ?_<;>intro hx_ this)|fail)
 · apply ad;apply ag;rfl;rfl
   rw [wellV,Zc aa,Zj]
 · apply ad;apply ag;rfl;rfl
   rw [wellV,List.getElem?_eq_none aa,Zk]
 have hi0:0≤i:=by omega
 obtain ⟨q,rfl⟩:=Int.eq_ofNat_of_zero_le hi0
 have hlt:q<c.actsL.length:=by omega
 have hp':=hp aa
 obtain ⟨x,hx⟩:∃ x,c.actsL[q]?=some x:=⟨_,Zb hlt⟩
 have hxm:x∈c.actsL:=Z6 hx
 have hW:wellV c (q:Int)=wellA c q x:=by
  rw [wellV,Zd aa,Zg]
  show (match c.actsL[q]? with|some a=>wellA c q a|none=>false)=_
  rw [hx]
 have hA:wellA c q x=((postK x.kind||decide (x.kind=14))&&(decide (x.scope=1)||decide (x.scope=2)||decide (x.scope=3))&&(match epochO c.actsL q x.scope x.group with
  | some e=>decide (e.epoch=x.epoch)&&eqL e.toL (membersV c q x.scope x.group x.toL)
  | none=>false)):=rfl
 have hxr:=(hc.rng x hxm).to_len
 have hxs:=hto x hxm
 have hep:=gC c hc q x.scope x.group
 have hme:=ez c hc hcl hto q x.scope x.group x.to x.toL aa
 generalize epochO c.actsL q x.scope x.group=o at *
 generalize membersV c q x.scope x.group x.toL=M at *
 rw [hW,hA]
 repeat' (first|refine ab (hc:=jn x.kind) ?_|(refine bS (hc:=hep) (hX:=fun w h=>h) fun v1 X1 h1=>?_;obtain ⟨s1,rfl,hs1⟩:=h1)|(refine bS (hc:=hme) (hX:=fun w h=>⟨h.1,(h.1.1.2 x hxm).1⟩) fun v2 X2 h2=>?_;obtain ⟨s2,rfl,hs2⟩:=h2)|(refine ab (hc:=pN s1 s2 _ _) (hX:=fun w h=>⟨hs1 w h.1.2,hs2 w h.2⟩) ?_)|refine gs ?_|refine gs1 fun _=>?_|(refine aO (q:=q*20) ?_)|(refine ca (cs:=x.cells) (hF:=fun w h=>Acts.get h.1 hx) ?_)|(refine gp ?_ ?_<;>intro hx_ this)|fail)
 all_goals
  apply ad;apply ag;rfl;rfl
  cases o<;>simp only [*,Zt,Zr,Zf,Ze,Zh,Zg,Zk,Zj,Zn,Zl,Zs,Zm,Zq,Zi,Option.isSome_some,Option.isSome_none,Option.map_some,Option.map_none,Qe,Option.getD_none]<;>simp_all
structure Agree (n:Nat) (l l':List ActD):Prop where
 at_:∀ k,k<n→l[k]?=l'[k]?
 left:n≤l.length
 right:n≤l'.length
theorem Agree.getD {n:Nat} {l l':List ActD} (h:Agree n l l') {k:Nat} (hk:k<n):l.getD k ActD.zero=l'.getD k ActD.zero:=by
 rw [Zo,Zo,h.at_ k hk]
theorem gY {n:Nat} {l l':List ActD} (h:Agree n l l') (sc:Int) (g:ByteArray):∀ k,k≤n→grantF l sc g k=grantF l' sc g k
 | 0,_=>rfl
 | k+1,hk=>by simp only [grantF,gY h sc g k aa,h.getD (show k<n by omega)]
theorem iJ {n:Nat} {l l':List ActD} (h:Agree n l l') (g:ByteArray):∀ k,k≤n→circF l g k=circF l' g k
 | 0,_=>rfl
 | k+1,hk=>by simp only [circF,iJ h g k aa,h.getD (show k<n by omega)]
theorem ju {n:Nat} {l l':List ActD} (h:Agree n l l') (d:ByteArray) {j:Nat} (hj:j<n) (e:idxV l d=some j):idxV l' d=some j:=by
 rw [idxV,QC] at e ⊢
 obtain ⟨h1,h2,h3⟩:=e
 have hl':j<l'.length:=by have:=h.right;omega
 have ev:∀ i (hi:i<n) (a:i<l.length) (b:i<l'.length),l[i]=l'[i]:=fun i hi a b=>by
  have:=h.at_ i hi
  rw [Zb a,Zb b] at this
  exact Option.some.inj this
 refine ⟨hl',by rw [←ev j hj h1 hl'];exact h2,fun i hi=>?_⟩
 rw [←ev i aa aa (by omega)]
 exact h3 i hi
theorem Agree.symm {n:Nat} {l l':List ActD} (h:Agree n l l'):Agree n l' l:=⟨fun k hk=>(h.at_ k hk).symm,h.right,h.left⟩
theorem rJ {n:Nat} {l l':List ActD} (h:Agree n l l') {i:Nat} (hi:i<n) (t:TieS) (x:ActD):stepT l i t x=stepT l' i t x:=by
 have key:(match idxV l x.object with|some j=>bif decide ((j:Int)<(i:Int)) then undoT t (l.getD j ActD.zero) else t|none=>t)=(match idxV l' x.object with|some j=>bif decide ((j:Int)<(i:Int)) then undoT t (l'.getD j ActD.zero) else t|none=>t):=by
  cases e:idxV l x.object with
  | none =>
   cases e':idxV l' x.object with
   | none=>rfl
   | some j =>
    have:¬ j<n:=fun hj=>by have:=ju h.symm _ hj e';rw [e] at this;cases this
    have h1:¬ ((j:Int)<(i:Int)):=by omega
    simp only [Zc h1,Ze]
  | some j =>
   by_cases hj:j<n
   · rw [ju h _ hj e]
     simp only [h.getD hj]
   · have h1:¬ ((j:Int)<(i:Int)):=by omega
     cases e':idxV l' x.object with
     | none=>simp only [Zc h1,Ze]
     | some j' =>
      have:¬ j'<n:=fun hj'=>by have:=ju h.symm _ hj' e';rw [e] at this;exact hj (by cases this;exact hj')
      have h2:¬ ((j':Int)<(i:Int)):=by omega
      simp only [Zc h1,Zc h2,Ze]
 unfold stepT
 congr 6
theorem ji {n:Nat} {l l':List ActD} (h:Agree n l l'):∀ k,k≤n→tieF l k=tieF l' k
 | 0,_=>rfl
 | k+1,hk=>by simp only [tieF,ji h k aa,h.getD (show k<n by omega),rJ h (show k<n by omega)]
theorem di {n len:Nat} (h:n≤len):limN (n:Int) len=n:=by rw [gR];omega
theorem qR {n:Nat} {l l':List ActD} (h:Agree n l l') (sc:Int) (g:ByteArray):epochO l n sc g=epochO l' n sc g:=by
 have e:grantV l n sc g=grantV l' n sc g:=by rw [grantV,grantV,di h.left,di h.right,gY h sc g n (ZX _)]
 have hg:=fG l sc g n
 rw [epochO,epochO,←e]
 cases hb:decide ((0:Int)<((grantV l n sc g).2:Nat)) with
 | false=>rfl
 | true =>
  simp only [Zf]
  refine h.at_ _ ?_
  have h1:grantV l n sc g=grantF l sc g n:=by rw [grantV,di h.left]
  rw [h1] at hb ⊢
  have:=aG hb
  exact hg.2 aa
theorem iy {n:Nat} {c d:ChainD} (h:Agree n c.actsL d.actsL) (hid:c.id=d.id) (sc:Int) (g:ByteArray) (toL:List ByteArray):membersV c n sc g toL=membersV d n sc g toL:=by
 have e1:tieV c.actsL n=tieV d.actsL n:=by rw [tieV,tieV,di h.left,di h.right,ji h n (ZX _)]
 have e2:circF c.actsL g (limN n c.actsL.length)=circF d.actsL g (limN n d.actsL.length):=by rw [di h.left,di h.right,iJ h g n (ZX _)]
 have e3:keepM c=keepM d:=by funext bs x;simp only [keepM,hid]
 simp only [membersV,listOf,e1,e2,e3]
end Go.Proofs.YtaolfiikahlmkaaGreatDoor
