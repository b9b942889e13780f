/- Joined. -/
import Derived.Test.YtgffbiobmamobaaGreatDoorI8
import Derived.Shelf.Strings.OnBuilder
import Derived.Test.YtgffbiobmamobaaGreatDoorI1
import Derived.Test.YtgffbiobmamobaaGreatDoorI2
import Derived.Shelf.Slices.CompactS
import Derived.Lib.RowBridge
import Derived.Test.YtgffbiobmamobaaGreatDoorI6
import Derived.Test.YtgffbiobmamobaaGreatDoorI0
import Derived.Scope
set_option linter.unusedVariables false
set_option linter.unusedSimpArgs false
set_option maxHeartbeats 16000000
namespace Go.Proofs.YtgffbiobmamobaaGreatDoor.Sy
open Go Go.RowKit
theorem Xr.later {av bor:List Nat} {w0 w w':World} {loc:List Xl} {X:World→Prop} (G:Xr av bor w0 loc X w) (hB:Below w.heap.size w w'):Xr av bor w0 loc X w' :=
 (Xr.more (r:=⟨[],fun _=>True⟩) G hB (fun _ _=>trivial) List.nodup_nil (fun i hi=>by cases hi)).drop (List.sublist_cons_self _ _)
section
variable {P:Program} {N:Nat} {av bor:List Nat} {w0:World} {ops:Array Oper} {rest:List Oper} {k:St→Prop} {E:Env} {loc:List Xl} {X:World→Prop}
variable {ty:TypeId} {pos:String} {af:Array Edge} {g:Option (Nat×Bool)} {bb want:Bool}
theorem kn {n:Nat} {x:Operand} {xs:List Operand} {ats:Array TypeId} {f:FuncId} {args:List Value} {X1:World→Prop} {v:Value} (h:Sw P N av bor w0 ops rest ⟨(n,v)::E,loc,X⟩ k) (hx:ev E x=some (.func (.func f) #[] #[]):=by rfl) (ha:evs E xs=some args:=by rfl) (hg:gdB ops E g=some (bb,want):=by rfl) (hb:bb=want:=by exact ax) (hd:Nat.blt n N=true:=by rfl) (hf:Eb P f:=by first|infer_instance|exact ⟨ai⟩) (hc:Pu P f args.toArray X1 v) (hX:∀ w,X w→(∀ r∈loc,r.F w)→X1 w) :
  Sw P N av bor w0 ops (⟨some n,.call ⟨.value x,xs.toArray,ats⟩,ty,pos,af,g⟩::rest) ⟨E,loc,X⟩ k:=Sw.mk fun a w ok=>by
 have hd':inB N (some n)=true:=by have h1:n<N:=Nat.le_of_ble_eq_true hd;simpa [inB] using h1
 simp only [wpList]
 rw [bt ok (o:=⟨some n,.call ⟨.value x,xs.toArray,ats⟩,ty,pos,af,g⟩) hg]
 subst hb
 simp only [beq_self_eq_true,if_true]
 left
 unfold Oper.wp
 have hr:(execOp a.eval ⟨some n,.call ⟨.value x,xs.toArray,ats⟩,ty,pos,af,g⟩).run P w=.ok (.enter f args.toArray) w:=by
  have e:=fJ ok xs args ha
  have e1:xs.toArray.map a.eval=args.toArray:=by rw [List.map_toArray,e]
  simp only [execOp,resolve,ok.eval (st:=⟨E,loc,X⟩) hx,Deferred.ofValue,invoke,e1]
  simp only [Sem.run_bind,Sem.run_pure,Result.andThen_ok]
  have e2:(#[]:Array Value)++args.toArray++#[]=args.toArray:=by simp
  rw [e2]
  exact iV _ w
 rw [hr]
 have G1:=ok.gam.giveAll
 have G0:=(Xr.start (pre:=[]) (fr:=[]) G1).imp (fun w h=>hX w h.1 h.2)
 unfold Pu at hc
 refine (Ct.run hc w _ G0).mono fun e w' ⟨u,R,X',he,⟨hu,hR⟩,G'⟩=>?_
 subst he
 subst hu
 have ok':Ok N av bor w0 ⟨E,loc,X⟩ a w':=ok.via fun M G=>Xr.later G G'.fr.below
 exact h.run _ _ (cW (some n) _▸ok'.put hd' _)
end
end Go.Proofs.YtgffbiobmamobaaGreatDoor.Sy
namespace Go.Proofs.YtgffbiobmamobaaGreatDoor
open Go Go.Proofs Sy Go.Shelf Go.RowKit
def numF (l:List Nat):Nat→Nat
 | 0=>0
 | k+1=>numF l k*256+l.getD k 0
def numN (l:List Nat):Nat:=numF l 8/8
theorem iu (s:ByteArray):∀ k,numF (nl s) k<256 ^ k
 | 0=>by simp [numF]
 | k+1=>by
  have h1:=iu s k
  have h2:=jX (kK s) k
  rw [numF,Nat.pow_succ]
  omega
theorem numF7 (s:ByteArray) {k:Nat} (hk:k<8):numF (nl s) k<72057594037927936:=by
 have h1:=iu s k
 have h2:256 ^ k≤256 ^ 7:=Nat.pow_le_pow_right (by decide) ac
 have h3:(256:Nat) ^ 7=72057594037927936:=by decide
 omega
theorem numF8 (s:ByteArray) {k:Nat} (hk:k<8):numF (nl s) k*256<18446744073709551616:=by
 have h1:=iu s k
 have h2:256 ^ k≤256 ^ 7:=Nat.pow_le_pow_right (by decide) ac
 have h3:(256:Nat) ^ 7=72057594037927936:=by decide
 omega
theorem shl8 (x:Nat) (h:x*256<18446744073709551616):shlV .u64 (x:Int) 8=((x*256:Nat):Int):=by
 show IntKind.u64.wrap ((x:Int)*2 ^ (min (8:Int).toNat 64))=_
 rw [show ((2:Int) ^ (min (8:Int).toNat 64))=256 from by kernel_rfl,cD _ (by omega)]
 omega
theorem or8 (x b:Nat) (hb:b<256) (h:x<72057594037927936):bitsV .or .u64 ((x*256:Nat):Int) (b:Int)=((x*256+b:Nat):Int):=by
 have hx:x*256+b<18446744073709551616:=by omega
 have hy:x*256<18446744073709551616:=Nat.lt_of_le_of_lt (Nat.le_add_right _ _) hx
 have hz:b<18446744073709551616:=by omega
 have hw:IntKind.u64.wrap ((x*256+b:Nat):Int)=((x*256+b:Nat):Int):=cD _ ac
 have e:x*256 ||| b=x*256+b:=by
  have:=Nat.shiftLeft_add_eq_or_of_lt (a:=x) (b:=b) (i:=8) hb
  rw [Nat.shiftLeft_eq] at this
  exact this.symm
 show IntKind.u64.wrap ((((BitVec.ofInt 64 ((x*256:Nat):Int)) ||| (BitVec.ofInt 64 (b:Int))).toNat:Nat):Int)=_
 rw [BitVec.ofInt_natCast,BitVec.ofInt_natCast,BitVec.toNat_or,BitVec.toNat_ofNat,BitVec.toNat_ofNat,Nat.mod_eq_of_lt (show x*256<2 ^ 64 from hy),Nat.mod_eq_of_lt (show b<2 ^ 64 from hz),e,hw]
theorem shr3 (x:Nat):shrV .u64 (x:Int) 3=((x/8:Nat):Int):=by
 show (x:Int).fdiv (2 ^ (min (3:Int).toNat 64))=_
 rw [show ((2:Int) ^ (min (3:Int).toNat 64))=((8:Nat):Int) from by kernel_rfl,←Int.ofNat_fdiv]
theorem sB (s:ByteArray) (k:Nat) (hk:k<s.size):byteAt s k=(((nl s).getD k 0:Nat):Int):=by
 simp only [byteAt,nl,List.getD_eq_getElem?_getD,List.getElem?_map]
 have hl:k<s.data.toList.length:=by simpa using hk
 rw [List.getElem?_eq_getElem hl]
 rfl
theorem sS (s:ByteArray):Pu Tryz.prog 114 #[.string s] (fun _=>True) (.int .i64 (numN (nl s):Nat)):=by
 refine aq Tryz.func114 Tryz.ntmps114 fun av bor w0=>?_
 repeat' (first|refine gs ?_|(refine gp ?_ ?_<;>intro hx_ this)|fail)
 refine az (ι:=Kth 8) (fun i=>⟨[(0,.string s),(3,.int .u64 (numF (nl s) i.k:Nat)),(5,.int .i64 i.k)],[],fun _=>True⟩) (fun i=>8-i.k) ⟨0,Nat.zero_le _⟩ (ak an (al _) fun _ h=>h) fun i=>?_
 have hik:=i.hk
 repeat' (first|refine gs ?_|(refine gp ?_ ?_<;>intro hx_ this)|fail)
 · have hlt:i.k<8:=by omega
   have hs:i.k<s.size:=by omega
   have hb:=jX (kK s) i.k
   have hE:bitsV .or .u64 (shlV .u64 ((numF (nl s) i.k:Nat):Int) 8) (IntKind.u64.wrap (byteAt s (i.k:Int).toNat))=((numF (nl s) (i.k+1):Nat):Int):=by
    rw [shl8 _ (numF8 s hlt),show ((i.k:Int)).toNat=i.k from rfl,sB s _ hs,cD _ ac,or8 _ _ hb (numF7 s hlt)]
    rfl
   exact ⟨⟨i.k+1,hlt⟩,(by show 8-(i.k+1)<8-i.k;omega),ak ⟨rfl,congrArg (fun z=>some (Value.int IntKind.u64 z)) hE,rfl,trivial⟩ (al _) fun _ h=>h⟩
 · have hlt:i.k<8:=by omega
   have hs:s.size≤i.k:=by omega
   have hE:shlV .u64 ((numF (nl s) i.k:Nat):Int) 8=((numF (nl s) (i.k+1):Nat):Int):=by
    rw [shl8 _ (numF8 s hlt),numF,List.getD_eq_getElem?_getD,List.getElem?_eq_none (by rw [cu];exact hs),Option.getD_none,Nat.add_zero]
   exact ⟨⟨i.k+1,hlt⟩,(by show 8-(i.k+1)<8-i.k;omega),ak ⟨rfl,congrArg (fun z=>some (Value.int IntKind.u64 z)) hE,rfl,trivial⟩ (al _) fun _ h=>h⟩
 · have h8:i.k=8:=by omega
   apply ae;apply aj;rfl;rfl
   have hl:=iu s 8
   have hp:(256:Nat) ^ 8=18446744073709551616:=by decide
   rw [h8,shr3,IntWalk.i64_in _ (by omega)]
   rfl
theorem yM (s:ByteArray):numN (nl s)<2305843009213693952:=by
 have hl:=iu s 8
 have hp:(256:Nat) ^ 8=18446744073709551616:=by decide
 rw [numN]
 omega
def catB (l:List ByteArray):ByteArray:=l.foldr (fun a b=>a++b) ⟨#[]⟩
theorem qp:∀ l:List ByteArray,nl (catB l)=l.flatMap nl
 | []=>rfl
 | a::l=>by
  show nl (a++catB l)=_
  rw [cH,qp l,List.flatMap_cons]
def PartsAt (b T:Nat) (xs:List ByteArray) (w:World):Prop:=w.heap[b]?=some (.cells (xs.map Value.string).toArray T (0,0))
theorem on {P:Program} {f:FuncId} {args:Array Value} {X:World→Prop} {v:Value} (h:∀ w,X w→Calls P f args w fun e w'=>e=.returned v∧Below w.heap.size w w'):Pu P f args X v:=by
 unfold Pu
 exact Ct.mk fun w av G=>(h w G.keep.now).mono fun e w' ⟨he,hw⟩=>⟨v,[],X,he,⟨rfl,rfl⟩,Xr.later G hw⟩
theorem joinX:Builder.Extra Tryz.prog Tryz.join_ren where
 sizeBuilder:=by kernel_rfl
 liesBuilder:=by kernel_rfl
 t5:=by kernel_rfl
 a5:=fun w=>by simp [isAgg,run_underlying (show Tryz.prog.underlying (Tryz.join_ren.t 5)=some (.int .u8) from by kernel_rfl)]
 z5:=fun w=>Sy.run_sizeOf (P:=Tryz.prog) (t:=Tryz.join_ren.t 5) (n:=1) ai w
 v5:=fun w=>dT (show zeroOf Tryz.prog (Tryz.join_ren.t 5)=some (.int .u8 0) from by kernel_rfl) w
 infoByte:=by kernel_rfl
 cellsByte:=by kernel_rfl
 sizeByte:=by kernel_rfl
 neB5:=by decide
theorem tI (l:List (List UInt8)):Lib.join l []=l.flatten:=by
 rw [Lib.join,List.intercalate]
 induction l with
 | nil=>rfl
 | cons a l ih =>
  cases l with
  | nil=>simp
  | cons b l=>simpa using ih
theorem xH (xs:List ByteArray):(⟨(Lib.join (xs.map (·.data.toList)) (⟨#[]⟩:ByteArray).data.toList).toArray⟩:ByteArray)=catB xs:=by
 have e:(⟨#[]⟩:ByteArray).data.toList=[]:=rfl
 rw [e,tI]
 apply m6
 rw [qp]
 simp [nl,List.map_flatten,List.flatMap_def,Function.comp_def]
 rfl
theorem ef (xs:List ByteArray):(catB xs).size=(xs.map ByteArray.size).sum:=by
 induction xs with
 | nil=>rfl
 | cons a l ih =>
  show (a++catB l).size=_
  rw [ByteArray.size_append,ih,List.map_cons,List.sum_cons]
theorem yV (b T c:Nat) (xs:List ByteArray) (hc:xs.length≤c) (hn:xs.length≤1000) (hs:(catB xs).size≤1099511627776):Pu Tryz.prog 115 #[.slice (some ⟨b,0,none⟩) xs.length c,.string ⟨#[]⟩] (PartsAt b T xs) (.string (catB xs)) :=
 on fun w h=>by
  have hcell:∀ (j:Nat) x,xs[j]?=some x→w.cell? ⟨b,0+j,none⟩=some (.string x):=fun j x hj=>by
   simp [World.cell?,show w.heap[b]?=_ from h,hj]
  have hl:(Lib.join (xs.map (·.data.toList)) (⟨#[]⟩:ByteArray).data.toList).length=(catB xs).size:=by
   rw [←xH xs]
   simp [ByteArray.size]
  have:=Any.strings_Join Tryz.join joinX b 0 c xs ⟨#[]⟩ w hcell (Array.getElem?_eq_some_iff.1 h).1 ac hc (by rw [hl];omega)
  rw [xH xs] at this
  exact this
theorem jV (b T c:Nat) (xs:List ByteArray) (hc:xs.length≤c) (hn:xs.length≤1000) (hs:(catB xs).size≤1099511627776) :
  Pu Tryz.prog 72 #[.slice (some ⟨b,0,none⟩) xs.length c] (fun w=>PartsAt b T xs w∧Xg w) (.int .i64 (numN (nl (shaV (catB xs))):Nat)):=by
 refine aq Tryz.func72 Tryz.ntmps72 fun av bor w0=>?_
 repeat' (first|(refine ag (hc:=yV b T c xs hc hn hs) ?_)|(refine ag (hc:=mS (catB xs) hs) ?_)|refine ag (hc:=sS (shaV (catB xs))) ?_|refine gs ?_|(refine gp ?_ ?_<;>intro hx_ this)|fail)
 apply ae;apply aj;rfl;rfl
 rfl
end Go.Proofs.YtgffbiobmamobaaGreatDoor
namespace Go.Proofs.YtgffbiobmamobaaGreatDoor
open Go Go.Proofs Sy
def hashN (xs:List ByteArray):Nat:=numN (nl (shaV (catB xs)))
theorem oK (xs:List ByteArray):hashN xs<2305843009213693952:=yM _
def reduceN (h:Nat):Nat:=1+h%2305843009213693949
theorem ju (h:Nat):1≤reduceN h:=Nat.le_add_right _ _
theorem gV (h:Nat):reduceN h≤2305843009213693949:=by
 have:=Nat.mod_lt h (show 2305843009213693949>0 by decide)
 unfold reduceN
 omega
theorem lX (h:Nat) (hh:h<2305843009213693952):Pu Tryz.prog 71 #[.int .i64 (h:Int)] (fun _=>True) (.int .i64 (reduceN h:Nat)):=by
 refine aq Tryz.func71 Tryz.ntmps71 fun av bor w0=>?_
 repeat' (first|refine gi (c:=((h%2305843009213693949:Nat):Int)) (hc:=(Int.ofNat_tmod h 2305843009213693949).symm) (hb:=by decide) ?_|refine gs ?_|(refine gp ?_ ?_<;>intro hx_ this)|fail)
 apply ae;apply aj;rfl;rfl
 rfl
def chalP (r p:Nat) (msg:ByteArray):List ByteArray:=[textV ⟨#[115,105,103,110]⟩,numV (r:Int),numV (p:Int),textV msg]
def chalN (r p:Nat) (msg:ByteArray):Nat:=hashN (chalP r p msg)%2305843009213693950
theorem xG (r p:Nat) (msg:ByteArray):chalN r p msg<2305843009213693950:=Nat.mod_lt _ (by decide)
theorem sy (r p:Nat) (msg:ByteArray) (hr:r<9223372036854775808) (hp:p<9223372036854775808) (hm:msg.size≤1000000000000) :
  Pu Tryz.prog 117 #[.int .i64 (r:Int),.int .i64 (p:Int),.string msg] Xg (.int .i64 (chalN r p msg:Nat)):=by
 refine aq Tryz.func117 Tryz.ntmps117 fun av bor w0=>?_
 have hsz:(catB (chalP r p msg)).size≤1099511627776:=by
  have h1:=aB ⟨#[115,105,103,110]⟩
  have h2:=ar (r:Int)
  have h3:=ar (p:Int)
  have h4:=aB msg
  have h5:(⟨#[115,105,103,110]⟩:ByteArray).size=4:=rfl
  rw [ef]
  simp only [chalP,List.map_cons,List.map_nil,List.sum_cons,List.sum_nil]
  omega
 repeat' (first|refine gi (c:=((chalN r p msg:Nat):Int)) (hc:=(Int.ofNat_tmod (hashN (chalP r p msg)) 2305843009213693950).symm) (hb:=by decide) ?_|refine ag (hc:=ei _ (by first|omega|decide)) ?_|refine ag (hc:=d9 _ ac) ?_|(refine kn (hc:=jV _ 9 4 (chalP r p msg) (show 4≤4 by decide) (show 4≤1000 by decide) hsz) (hX:=fun w h hr=>⟨hr _ ay,h⟩) ?_)|refine gs ?_|refine gs1 fun _=>?_|(refine gp ?_ ?_<;>intro hx_ this)|fail)
 apply ae;apply aj;rfl;rfl
 rfl
structure Eg where
 s:Int
 p:Int
def Eg.cells (k:Eg):List Value:=[.int .i64 k.s,.int .i64 k.p]
def Eg.v (k:Eg):Value:=.agg k.cells.toArray
def Eg.zero:Eg:=⟨0,0⟩
theorem sf (a e:Nat):∀ i,(expF a e i).1<2305843009213693951
 | 0=>by show 1<2305843009213693951;decide
 | i+1=>by
  have ih:=sf a e i
  show (bif decide (e/2 ^ i%2=1) then (expF a e i).1*(expF a e i).2%2305843009213693951 else (expF a e i).1)<_
  cases decide (e/2 ^ i%2=1) with
  | true=>exact Nat.mod_lt _ (by decide)
  | false=>exact ih
theorem nw (a e:Nat):expV a e<2305843009213693951:=sf a e _
def ofK (s:Int):Eg:=bif decide (s<1)||decide (2305843009213693949<s) then Eg.zero else ⟨s,(expV 37 s.toNat:Nat)⟩
theorem mZ {s:Int} (h1:1≤s) (h2:s≤2305843009213693949):ofK s=⟨s,(expV 37 s.toNat:Nat)⟩:=by
 rw [ofK,decide_eq_false ac,decide_eq_false (by omega)]
 rfl
theorem rH {s:Int} (h:s<1∨2305843009213693949<s):ofK s=Eg.zero:=by
 rw [ofK]
 rcases h with h|h
 · rw [decide_eq_true h];rfl
 · rw [decide_eq_true h,Bool.or_true];rfl
theorem lR (s:Int):Pu Tryz.prog 70 #[.int .i64 s] (fun _=>True) (ofK s).v:=by
 refine aq Tryz.func70 Tryz.ntmps70 fun av bor w0=>?_
 by_cases h:s<1∨2305843009213693949<s
 · rw [rH h]
   repeat' (first|refine gs ?_|refine gs1 fun _=>?_|(refine aL (cs:=Eg.zero.cells) (hf:=by rfl) ?_)|(refine gp ?_ ?_<;>intro hx_ this)|fail)
   all_goals first
    | (exfalso;omega)
    | exact ae (aI rfl rfl aC (by rfl)) rfl
 · have h1:1≤s:=by omega
   have h2:s≤2305843009213693949:=by omega
   obtain ⟨n,rfl⟩:=Int.eq_ofNat_of_zero_le (show 0≤s by omega)
   rw [mZ h1 h2]
   have he:=nu 37 n ac
   repeat' (first|(refine ag (hc:=he) (hX:=fun w h=>trivial) ?_)|refine gs ?_|refine gs1 fun _=>?_|(refine aL (cs:=Eg.cells ⟨(n:Int),(expV 37 n:Nat)⟩) (hf:=by rfl) ?_)|(refine gp ?_ ?_<;>intro hx_ this)|fail)
   all_goals first
    | (exfalso;omega)
    | exact ae (aI rfl rfl aC (by rfl)) rfl
def eqKy (a b:Eg):Bool:=decide (a.s=b.s)&&decide (a.p=b.p)
theorem xo {a b:Eg}:eqKy a b=true↔a=b:=by
 cases a;cases b
 simp only [eqKy,Bool.and_eq_true,decide_eq_true_eq,Eg.mk.injEq]
theorem kx (w:World) {cs:Array Value} {off:Nat} {v:Value} (h:cs[off]?=some v):(part 3 cs off).run Tryz.prog w=.ok v w:=by
 simp [part,isAgg,run_underlying Tryz.underlying3,h]
theorem xp (w:World) (d:Nat) (a b:Int):(Op.equalIn (d+1) 3 (.int .i64 a) (.int .i64 b)).run Tryz.prog w=.ok (decide (a=b)) w:=by
 rw [run_equalIn_int w d _ .i64 .i64 a b Tryz.underlying3]
 rfl
theorem vU (w:World) (d:Nat) (a b:Eg):(Op.equalIn (d+2) 59 a.v b.v).run Tryz.prog w=.ok (eqKy a b) w:=by
 have p0:∀ x:Eg,(part 3 x.cells.toArray 0).run Tryz.prog w=.ok (.int .i64 x.s) w:=fun x=>kx w rfl
 have p1:∀ x:Eg,(part 3 x.cells.toArray 1).run Tryz.prog w=.ok (.int .i64 x.p) w:=fun x=>kx w rfl
 unfold Eg.v
 rw [run_equalIn_agg _ _ _ _ _ ai ai]
 simp only [Program.fieldsOf,Tryz.underlying59]
 simp [Op.eqFields,p0,p1,xp]
 unfold eqKy
 by_cases h1:a.s=b.s<;>by_cases h2:a.p=b.p<;>simp [h1,h2]
section
variable {N:Nat} {av bor:List Nat} {w0:World} {x y:Operand} {t2:TypeId} {ty:TypeId} {st:St}
theorem Ab (a b:Eg) (hx:ev st.env x=some a.v) (hy:ev st.env y=some b.v):Sy.Yields Tryz.prog N av bor w0 st (.binOp .eql 59 x y t2) ty (.bool (eqKy a b)):=Sy.Yields.mk fun A w ok d pos af g=>by
 have h1:=run_eqGuard_agg (P:=Tryz.prog) w .eql 59 x y a.cells.toArray b.cells.toArray ai
 have h2:=run_eql_struct (P:=Tryz.prog) w 59 a.cells.toArray b.cells.toArray
 have h3:=vU w 9998 a b
 simp only [Eg.v] at hx hy h3
 simp [execOp,ok.eval hx,ok.eval hy,h1,h2,h3]
end
def rightK (k:Eg):Bool:=decide (1≤k.s)&&eqKy k (ofK k.s)
theorem io (k:Eg):Pu Tryz.prog 74 #[k.v] (fun _=>True) (.bool (rightK k)):=by
 refine aq Tryz.func74 Tryz.ntmps74 fun av bor w0=>?_
 repeat' (first|refine gs ?_|refine gs1 fun _=>?_|(refine gp ?_ ?_<;>intro hx_ this)|fail)
 rename_i b
 (refine ao ⟨[0,1,2,3,4,5,6],[(7,⟨[8,9,10],[]⟩)]⟩ [cel b 59 k.cells] (fun _=>True) (h:=?_))
 all_goals repeat' (first|refine ag (hc:=lR k.s) ?_|refine gd ?_|refine aJ (hy:=by first|(apply Ab k (ofK k.s);rfl;rfl)) ?_|refine aF ?_ (h':=?_)|exact aG|refine gs1 fun _=>?_|(refine gq ?_ ?_<;>intro hx_ this)|fail)
 all_goals
  repeat' (first|refine gs ?_|refine gs1 fun _=>?_|(refine gp ?_ ?_<;>intro hx_ this)|fail)
  apply ae;apply aj;rfl;rfl
  rw [rightK,hx_]
  rfl
theorem rightK_iff {k:Eg}:rightK k=true↔1≤k.s∧k.s≤2305843009213693949∧k.p=(expV 37 k.s.toNat:Nat):=by
 rw [rightK,Bool.and_eq_true,decide_eq_true_eq,xo]
 constructor
 · rintro ⟨h1,h2⟩
   have h3:k.s≤2305843009213693949:=by
    by_cases h:2305843009213693949<k.s
    · rw [rH (.inr h)] at h2
      rw [h2] at h1
      exact absurd h1 (by decide)
    · omega
   refine ⟨h1,h3,?_⟩
   rw [mZ h1 h3] at h2
   rw [h2]
 · rintro ⟨h1,h2,h3⟩
   exact ⟨h1,by rw [mZ h1 h2,←h3]⟩
def nonceP (s:Int) (msg:ByteArray):List ByteArray:=[textV ⟨#[110,111,110,99,101]⟩,numV s,textV msg]
def nonceN (s:Int) (msg:ByteArray):Nat:=reduceN (hashN (nonceP s msg))
structure Ef where
 e:Int
 s:Int
def Ef.cells (k:Ef):List Value:=[.int .i64 k.e,.int .i64 k.s]
def Ef.v (k:Ef):Value:=.agg k.cells.toArray
def Ef.zero:Ef:=⟨0,0⟩
def sigE (k:Eg) (msg:ByteArray):Nat:=chalN (expV 37 (nonceN k.s msg)) k.p.toNat msg
def sigS (k:Eg) (msg:ByteArray):Nat:=(nonceN k.s msg+sigE k msg*k.s.toNat%2305843009213693950)%2305843009213693950
def signV (k:Eg) (msg:ByteArray):Ef:=bif rightK k then ⟨(sigE k msg:Nat),(sigS k msg:Nat)⟩ else Ef.zero
theorem ry (k:Eg) (msg:ByteArray) (hm:msg.size≤1000000000000):Pu Tryz.prog 75 #[k.v,.string msg] Xg (signV k msg).v:=by
 refine aq Tryz.func75 Tryz.ntmps75 fun av bor w0=>?_
 have hrk:=io k
 cases hk:rightK k with
 | false =>
  rw [hk] at hrk
  rw [show signV k msg=Ef.zero from by rw [signV,hk];rfl]
  repeat' (first|(refine ag (hc:=hrk) ?_)|refine gs ?_|refine gs1 fun _=>?_|(refine aL (cs:=Ef.zero.cells) (hf:=by rfl) ?_)|(refine gp ?_ ?_<;>intro hx_ this)|fail)
  exact ae (aI rfl rfl aC (by rfl)) rfl
 | true =>
  rw [hk] at hrk
  rw [show signV k msg=⟨(sigE k msg:Nat),(sigS k msg:Nat)⟩ from by rw [signV,hk];rfl]
  obtain ⟨h1,h2,h3⟩:=rightK_iff.1 hk
  obtain ⟨s,p⟩:=k
  obtain ⟨n,rfl⟩:=Int.eq_ofNat_of_zero_le (show 0≤s by show 0≤s;have:1≤s:=h1;omega)
  have h3':p=(expV 37 n:Nat):=h3
  subst h3'
  have h2':(n:Int)≤2305843009213693949:=h2
  have hp:=nw 37 n
  have hsz:(catB (nonceP (n:Int) msg)).size≤1099511627776:=by
   have e1:=aB ⟨#[110,111,110,99,101]⟩
   have e2:=ar (n:Int)
   have e4:=aB msg
   have e5:(⟨#[110,111,110,99,101]⟩:ByteArray).size=5:=rfl
   rw [ef]
   simp only [nonceP,List.map_cons,List.map_nil,List.sum_cons,List.sum_nil]
   omega
  have hno:nonceN (n:Int) msg<9223372036854775808:=by have:=gV (hashN (nonceP (n:Int) msg));unfold nonceN;omega
  have hha:=jV (T:=9) (c:=3) (xs:=nonceP (n:Int) msg)
  have hex:=nu 37 (nonceN (n:Int) msg) hno
  have hch:=sy (expV 37 (nonceN (n:Int) msg)) (expV 37 n) msg (by have:=nw 37 (nonceN (n:Int) msg);omega) ac hm
  repeat' (first|(refine ag (hc:=hrk) ?_)|refine gs ?_|refine gs1 fun _=>?_|(refine gp ?_ ?_<;>intro hx_ this)|fail)
  rename_i b2 b4
  (refine ao ⟨[1,2,4],[(0,⟨[],[(3,⟨[],[(5,⟨[],[(6,⟨[],[(7,⟨[],[(8,⟨[9],[]⟩)]⟩)]⟩)]⟩)]⟩)]⟩)]⟩ [cel b4 40 Ef.zero.cells,cel b2 59 (Eg.mk (n:Int) (expV 37 n:Nat)).cells] Xg (h:=?_))
  all_goals repeat' (first|refine ag (hc:=ei _ (by first|omega|decide)) ?_|refine ag (hc:=d9 _ ac) ?_|(refine kn (hc:=jV _ 9 3 (nonceP (n:Int) msg) (show 3≤3 by decide) (show 3≤1000 by decide) hsz) (hX:=fun w h hr=>⟨hr _ ay,h⟩) ?_)|refine ag (hc:=lX (hashN (nonceP (n:Int) msg)) (oK _)) ?_|refine gd ?_|refine aF ?_ (h':=?_)|exact aG|(refine bG fun _=>?_)|refine gs1 fun _=>?_|(refine gq ?_ ?_<;>intro hx_ this)|fail)
  repeat' (first|refine gs ?_|refine gs1 fun _=>?_|(refine gp ?_ ?_<;>intro hx_ this)|fail)
  (refine ao ⟨[0,2,3,4],[(1,⟨[],[(5,⟨[6],[]⟩)]⟩)]⟩ [cel b4 40 Ef.zero.cells,cel b2 59 (Eg.mk (n:Int) (expV 37 n:Nat)).cells] Xg (h:=?_))
  all_goals repeat' (first|(refine ag (hc:=hex) ?_)|(refine ag (hc:=hch) ?_)|refine gd ?_|refine aF ?_ (h':=?_)|exact aG|refine gs1 fun _=>?_|(refine gq ?_ ?_<;>intro hx_ this)|fail)
  have hm1:=zw (sigE ⟨(n:Int),(expV 37 n:Nat)⟩ msg) n
  have hm2:=zx (nonceN (n:Int) msg) (sigE ⟨(n:Int),(expV 37 n:Nat)⟩ msg*n%2305843009213693950)
  repeat' (first|(refine ag (hc:=hm1) ?_)|(refine ag (hc:=hm2) ?_)|refine gs ?_|refine gs1 fun _=>?_|(refine aL (cs:=Ef.cells ⟨(sigE ⟨(n:Int),(expV 37 n:Nat)⟩ msg:Nat),(sigS ⟨(n:Int),(expV 37 n:Nat)⟩ msg:Nat)⟩) (hf:=by rfl) ?_)|(refine gp ?_ ?_<;>intro hx_ this)|fail)
  exact ae (aI rfl rfl aC (by rfl)) rfl
def keyP (seed:ByteArray):List ByteArray:=[textV ⟨#[107,101,121]⟩,textV seed]
def keyN (seed:ByteArray):Nat:=reduceN (hashN (keyP seed))
def keyOf (seed:ByteArray):Eg:=⟨(keyN seed:Nat),(expV 37 (keyN seed):Nat)⟩
theorem eu (seed:ByteArray):rightK (keyOf seed)=true:=by
 have h1:=ju (hashN (keyP seed))
 have h2:=gV (hashN (keyP seed))
 refine rightK_iff.2 ⟨?_,?_,rfl⟩
 · show (1:Int)≤((reduceN (hashN (keyP seed)):Nat):Int);omega
 · show ((reduceN (hashN (keyP seed)):Nat):Int)≤2305843009213693949;omega
theorem kp (seed:ByteArray) (hm:seed.size≤1000000000000):Pu Tryz.prog 34 #[.string seed] Xg (keyOf seed).v:=by
 refine aq Tryz.func34 Tryz.ntmps34 fun av bor w0=>?_
 have h1:=ju (hashN (keyP seed))
 have h2:=gV (hashN (keyP seed))
 have hk:ofK ((keyN seed:Nat):Int)=keyOf seed:=mZ (by show (1:Int)≤((reduceN (hashN (keyP seed)):Nat):Int);omega) (by show ((reduceN (hashN (keyP seed)):Nat):Int)≤2305843009213693949;omega)
 have hof:=lR ((keyN seed:Nat):Int)
 rw [hk] at hof
 have hsz:(catB (keyP seed)).size≤1099511627776:=by
  have e1:=aB ⟨#[107,101,121]⟩
  have e4:=aB seed
  have e5:(⟨#[107,101,121]⟩:ByteArray).size=3:=rfl
  rw [ef]
  simp only [keyP,List.map_cons,List.map_nil,List.sum_cons,List.sum_nil]
  omega
 repeat' (first|refine ag (hc:=ei _ (by first|omega|decide)) ?_|(refine kn (hc:=jV _ 9 2 (keyP seed) (show 2≤2 by decide) (show 2≤1000 by decide) hsz) (hX:=fun w h hr=>⟨hr _ ay,h⟩) ?_)|refine ag (hc:=lX (hashN (keyP seed)) (oK _)) ?_|(refine ag (hc:=hof) ?_)|refine gs ?_|refine gs1 fun _=>?_|(refine gp ?_ ?_<;>intro hx_ this)|fail)
 exact ae (aI rfl rfl aC (by rfl)) rfl
end Go.Proofs.YtgffbiobmamobaaGreatDoor
namespace Go.Proofs.YtgffbiobmamobaaGreatDoor
open Go Go.Proofs Sy
structure KeyD where
 from_:Int
 public_:Int
 home:Int
def KeyD.zero:KeyD:=⟨0,0,0⟩
namespace Sy
section
variable {P:Program} {N:Nat} {av bor:List Nat} {w0:World} {ops:Array Oper} {rest:List Oper} {E:Env} {loc:List Xl} {X:World→Prop} {k:St→Prop} {ty:TypeId} {pos:String} {af:Array Edge} {g:Option (Nat×Bool)} {bb want:Bool}
end
end Sy
end Go.Proofs.YtgffbiobmamobaaGreatDoor
namespace Go.Proofs.YtgffbiobmamobaaGreatDoor
open Go Go.Proofs Sy
section
variable {P:Program} {N:Nat} {av bor:List Nat} {w0:World} {x y:Operand} {t t2:TypeId} {ty:TypeId} {st:St} {k:IntKind} {a b:Int}
theorem be [hI:Xu P t k] (v:Bool) (hx:ev st.env x=some (.int k a)) (hy:ev st.env y=some (.int k b)) (hv:decide (a<b)=v):Sy.Yields P N av bor w0 st (.binOp .lss t x y t2) ty (.bool v):=hv▸q9 hx hy
theorem j4 [hI:Xu P t k] (v:Bool) (hx:ev st.env x=some (.int k a)) (hy:ev st.env y=some (.int k b)) (hv:decide (b≤a)=v):Sy.Yields P N av bor w0 st (.binOp .geq t x y t2) ty (.bool v):=hv▸rc hx hy
theorem bg [hI:Xu P t k] (v:Bool) (hx:ev st.env x=some (.int k a)) (hy:ev st.env y=some (.int k b)) (hv:decide (a=b)=v):Sy.Yields P N av bor w0 st (.binOp .eql t x y t2) ty (.bool v):=hv▸j6 hx hy
theorem cw [hI:Xu P t k] (v:Bool) (hx:ev st.env x=some (.int k a)) (hy:ev st.env y=some (.int k b)) (hv:(!decide (a=b))=v):Sy.Yields P N av bor w0 st (.binOp .neq t x y t2) ty (.bool v):=hv▸q8 hx hy
theorem cS [hI:X8 P t] {a b:ByteArray} (v:Bool) (hx:ev st.env x=some (.string a)) (hy:ev st.env y=some (.string b)) (hv:seqB a b=v):Sy.Yields P N av bor w0 st (.binOp .eql t x y t2) ty (.bool v):=hv▸j0 hx hy
theorem eA {a b:ByteArray} (v:Bool) (hx:ev st.env x=some (.string a)) (hy:ev st.env y=some (.string b)) (hv:(!seqB a b)=v):Sy.Yields P N av bor w0 st (.binOp .neq t x y t2) ty (.bool v):=hv▸mw hx hy
end
end Go.Proofs.YtgffbiobmamobaaGreatDoor
namespace Go.Proofs.YtgffbiobmamobaaGreatDoor
open Go Go.Proofs Sy
def keyF (kl:List KeyD) (i:Int):Nat→Option KeyD
 | 0=>none
 | j+1=>bif decide ((kl.getD j KeyD.zero).from_≤i) then some (kl.getD j KeyD.zero) else keyF kl i j
structure KeyI (kl:List KeyD) (i:Int) where
 k:Nat
 hk:k≤kl.length
 hs:keyF kl i kl.length=keyF kl i k
end Go.Proofs.YtgffbiobmamobaaGreatDoor

namespace Go.Proofs.YtgffbiobmamobaaGreatDoor
open Go Go.Proofs Sy Go.Shelf Go.Maps Go.Sort
theorem compS_c:CompC Tryz.prog 69 encStr [] Lib.compact where
 some_:=fun blk off cap ss w h1 h2 h3=>Any.slices_Compact_string Tryz.compS blk off cap ss w h1 h2 h3
 none_:=fun p cap w=>Any.slices_Compact_string_empty Tryz.compS p cap w
 len:=fun ss=>Lib.compact_length_le ss
end Go.Proofs.YtgffbiobmamobaaGreatDoor
namespace Go.Proofs.YtgffbiobmamobaaGreatDoor
open Go Go.Proofs Sy
def gOk (a:Xc) (sc:Int) (g:ByteArray) (nx:Nat):Bool:=decide (a.kind=16)&&decide (a.scope=sc)&&seqB a.group g&&decide (a.epoch=(nx:Int))
def grantF (l:List Xc) (sc:Int) (g:ByteArray):Nat→Nat×Nat
 | 0=>(0,0)
 | i+1=>bif gOk (l.getD i Xc.zero) sc g (grantF l sc g i).2 then (i,(grantF l sc g i).2+1) else grantF l sc g i
def grantV (l:List Xc) (n sc:Int) (g:ByteArray):Nat×Nat:=grantF l sc g (limN n l.length)
def epochO (l:List Xc) (n sc:Int) (g:ByteArray):Option Xc:=bif decide ((0:Int)<((grantV l n sc g).2:Nat)) then l[(grantV l n sc g).1]? else none
theorem xF {e n:Nat} {v:Value} {ss:List ByteArray}:Ct Tryz.prog 69 #[v] [orow e 1 v n (ss.map encB)] (fun _=>True) fun u R _=>∃ A c,u=.slice A (compB ss).length c∧R=[orow e 1 u (compB ss).length ((compB ss).map encB)]:=by
 have h:=compS_c.ct (e:=e) (n:=n) (v:=v) (ss:=ss.map bl)
 rw [oF ss]
 refine h.mono fun u R X' ⟨A,c,h1,h2⟩=>⟨A,c,?_,?_⟩
 · rw [h1];simp [compB]
 · rw [h2,kL,compB];simp
def circF (l:List Xc) (g:ByteArray):Nat→Option Xc
 | 0=>none
 | i+1=>bif decide ((l.getD i Xc.zero).kind=15)&&seqB (l.getD i Xc.zero).group g then some (l.getD i Xc.zero) else circF l g i
def listOf (c:Xa) (n sc:Int) (g:ByteArray) (toL:List ByteArray):List ByteArray :=
 bif decide (sc=1) then sortB (tieV c.actsL n).a else bif decide (sc=2) then ((circF c.actsL g (limN n c.actsL.length)).map (·.toL)).getD [] else bif decide (sc=3) then toL else []
def keepM (c:Xa) (bs:List ByteArray) (x:ByteArray):Bool:=!seqB x c.id&&!hasS bs x
def membersV (c:Xa) (n sc:Int) (g:ByteArray) (toL:List ByteArray):List ByteArray:=compB (sortB ((listOf c n sc g toL).filter (keepM c (sortB (tieV c.actsL n).b))))
structure FilS (m:Nat) where
 k:Nat
 hk:k≤m
 A:Option Addr
 c:Nat
theorem gT:∀ l:List ByteArray,(cats (l.map textV)).size≤10*l.length+(l.map ByteArray.size).sum
 | []=>by simp [cats]
 | a::l=>by
  have h1:=gT l
  have h2:=aB a
  rw [List.map_cons,cats,ByteArray.size_append,List.length_cons,List.map_cons,List.sum_cons]
  omega
def Fits40 (l:List ByteArray):Prop:=l.length≤1000∧(l.map ByteArray.size).sum≤1000000000000
theorem Fits40.le {l:List ByteArray} (h:Fits40 l):(listV l).size≤1099511627776:=by
 have h1:=gT l
 have h2:=h.1
 have h3:=h.2
 have h4:=ar (l.length:Nat)
 rw [listV,ByteArray.size_append]
 omega
structure StI (n m:Nat) (Rs:List Nat→List Xl→Prop) where
 k:Nat
 hk:m*k≤n
 R:List Xl
 hR:Rs (List.range (m*k)) R
structure StJ (n o:Nat) (Rs:List Nat→List Xl→Prop) where
 j:Nat
 hj:j≤32
 hk:o+j≤n
 R:List Xl
 hR:Rs (List.range (o+j)) R
end Go.Proofs.YtgffbiobmamobaaGreatDoor
namespace Go.Proofs.YtgffbiobmamobaaGreatDoor.Sy
open Go Go.RowKit
def ngo (K:Exit→St→Prop):Exit→St→Prop
 | .goto _,_=>False
 | e,st=>K e st
section
variable {P:Program} {N:Nat} {av bor:List Nat} {w0:World} {st:St} {K:Exit→St→Prop}
theorem xD {c:Code} (h:Cw P N av bor w0 c st (ngo K)):Cw P N av bor w0 (.scope c) st K:=Cw.mk fun a w ok =>
 wp_scope_straight (Code.wp_mono (fun e a w q=>by
  cases e with
  | panic _=>exact q
  | outgrown=>exact q
  | normal=>exact q
  | exit _=>exact q
  | goto _=>obtain ⟨s,h1,h2⟩:=q;exact h1.elim
  | ret=>exact q) (h.run a w ok))
theorem xE {l:Nat} (h:K .normal st):Cw P N av bor w0 (.label l) st K:=Cw.mk fun a w ok=>wp_label ⟨st,h,ok⟩
end
end Go.Proofs.YtgffbiobmamobaaGreatDoor.Sy
namespace Go.Proofs.YtgffbiobmamobaaGreatDoor
open Go Go.Proofs Sy
def SlBox (s:Xi) (b:Nat) (w:World):Prop:=w.heap[b]?=some (.cells [s.v].toArray 62 (0,0))
theorem SlBox.cell {s:Xi} {b:Nat} {w:World} (h:SlBox s b w):w.cell? ⟨b,0,none⟩=some s.v:=by
 simp [World.cell?,show w.heap[b]?=_ from h]
theorem zo (s:Xi):Mk Tryz.prog 66 #[s.v] (fun _=>True) fun u X'=>∃ b,u=.func (.func 109) #[] #[.pointer (some ⟨b,0,none⟩)]∧∀ w,X' w→SlBox s b w:=by
 refine bS Tryz.func66 Tryz.ntmps66 fun av bor w0=>?_
 repeat' (first|refine gs ?_|refine gs1 fun _=>?_|(refine fj ?_)|(refine gp ?_ ?_<;>intro hx_ this)|fail)
 exact ae (aj rfl rfl) ⟨_,rfl,fun w h=>h.2 _ ay⟩
def encA (c:Xa) (j:Nat):List Value:=[.int .i64 (j:Int),(c.actsL.getD j Xc.zero).v]
def downL (n:Nat):List Nat:=(List.range n).reverse
theorem zc {n k:Nat} (h:k<n):∃ suf,downL n=(downL n).take k++(n-1-k)::suf:=by
 have hk:k<(downL n).length:=by rw [downL,List.length_reverse,List.length_range];exact h
 refine ⟨(downL n).drop (k+1),?_⟩
 have e:(downL n)[k]=n-1-k:=by simp [downL]
 rw [←e,List.getElem_cons_drop,List.take_append_drop]
theorem uw {n k:Nat} (h:k<n):(downL n).take (k+1)=(downL n).take k++[n-1-k]:=by
 have hk:k<(downL n).length:=by rw [downL,List.length_reverse,List.length_range];exact h
 rw [List.take_succ_eq_append_getElem hk]
 simp [downL]
structure BckI (n:Nat) (Rs:List Nat→List Xl→Prop) where
 k:Nat
 hk:k≤n
 R:List Xl
 hR:Rs ((downL n).take k) R
theorem zp (c:Xa) (b:Nat):Itx Tryz.prog 109 [.pointer (some ⟨b,0,none⟩)] (fun w=>SlBox c.acts b w∧c.at_ w) (encA c) false (downL c.actsL.length):=by
 intro l X Rs Rx hX hY _ R0 h0
 refine dZ Tryz.func109 Tryz.ntmps109 fun av bor w0=>?_
 refine aD (p:=c.acts.n=c.actsL.length∧c.acts.n≤maxLen∧(0<c.actsL.length→c.acts.p.isSome=true)) (fun w h=>⟨(hX w h).2.len_,(hX w h).2.max_,(hX w h).2.some_⟩) fun ⟨hcn,hcm,hcp⟩=>?_
 simp only [maxLen] at hcm
 refine iG (st':=⟨[(1,.pointer (some ⟨b,0,none⟩)),(0,.func (.yield l) #[] #[])],R0++[],X⟩) (by rw [List.append_nil];exact ak an (al _) fun _ h=>h) ?_
 repeat' (first|refine gs ?_|(refine vr (v:=c.acts.v) (hF:=fun w h=>(hX w h).1.cell) ?_)|(refine gp ?_ ?_<;>intro hx_ this)|fail)
 refine az (ι:=BckI c.actsL.length Rs) (fun i=>⟨[(0,.func (.yield l) #[] #[]),(1,.pointer (some ⟨b,0,none⟩)),(3,.int .i64 ((c.actsL.length:Int)-1-(i.k:Nat)))],i.R++[],X⟩) (fun i=>c.actsL.length-i.k) ⟨0,Nat.zero_le _,R0,h0⟩
  (ak ⟨rfl,rfl,by rw [hcn];exact congrArg (fun z:Int=>some (Value.int .i64 z)) (show (c.actsL.length:Int)-1=(c.actsL.length:Int)-1-((0:Nat):Int) by omega),trivial⟩ (al _) fun _ h=>h) fun i=>?_
 have hik:=i.hk
 by_cases hlt:i.k<c.actsL.length
 · obtain ⟨suf,hsuf⟩:=zc hlt
   have hcp':=hcp ac
   obtain ⟨x,hx⟩:∃ x,c.actsL[c.actsL.length-1-i.k]?=some x:=⟨_,List.getElem?_eq_getElem ac⟩
   have hxD:c.actsL.getD (c.actsL.length-1-i.k) Xc.zero=x:=by rw [List.getD_eq_getElem?_getD,hx];rfl
   have hj:(c.actsL.length:Int)-1-(i.k:Nat)=((c.actsL.length-1-i.k:Nat):Int):=by omega
   rw [hj]
   have hend:∀ R',Rs ((downL c.actsL.length).take i.k++[c.actsL.length-1-i.k]) R'→Rs ((downL c.actsL.length).take (i.k+1)) R':=fun R' h=>by rw [uw hlt];exact h
   have hjn:((c.actsL.length-1-i.k:Nat):Int)-1=(c.actsL.length:Int)-1-((i.k+1:Nat):Int):=by omega
   have hyy:=hY _ _ _ _ hsuf i.hR
   rw [encA,hxD] at hyy
   obtain ⟨j,hjd⟩:∃ j,c.actsL.length-1-i.k=j:=⟨_,rfl⟩
   rw [hjd] at hx hyy hend hjn hsuf ⊢
   repeat' (first|(refine zg (id:=3) ?_;refine Ak (pre:=[_,_,_,_,_,_]) (rest:=[_,_]) rfl ?_)|refine gs ?_|(refine vr (v:=c.acts.v) (hF:=fun w h=>(hX w h).1.cell) ?_)|(refine aA (q:=j*20) ?_)|(refine aY (cs:=x.cells) (hF:=fun w h=>Acts.get (hX w h).2 hx) ?_)|(refine gp ?_ ?_<;>intro hx_ this)|fail)
   · refine yk (pre:=i.R) (fr:=[]) (args:=[.int .i64 (j:Int),x.v]) rfl rfl rfl rfl rfl hyy (fun _ h=>h) fun v R' X' hv=>?_
     rcases hv with ⟨rfl,hR'⟩|⟨rfl,hR'⟩
     · refine nT rfl ?_
       repeat' (first|refine gs ?_|(refine gp ?_ ?_<;>intro hx_ this)|fail)
       exact ⟨(⟨i.k+1,hlt,R',hend R' hR'⟩:BckI c.actsL.length Rs),(by show c.actsL.length-(i.k+1)<c.actsL.length-i.k;omega),ak ⟨rfl,rfl,congrArg (fun z:Int=>some (Value.int .i64 z)) hjn,trivial⟩ (al _) fun _ h=>h.1⟩
     · refine nT rfl ?_
       repeat' (first|refine gs ?_|(refine gp ?_ ?_<;>intro hx_ this)|fail)
       exact ae (aS rfl) (.inr ⟨_,_,suf,hsuf,by rw [List.append_nil];exact hR'⟩)
   all_goals (exfalso;omega)
 · have hk:i.k=c.actsL.length:=by omega
   have hall:=i.hR
   rw [List.take_of_length_le (by rw [downL,List.length_reverse,List.length_range];omega)] at hall
   repeat' (first|refine gs ?_|(refine gp ?_ ?_<;>intro hx_ this)|fail)
   · exfalso;omega
   exact br (aS rfl) (.inl (by rw [List.append_nil];exact hall))
end Go.Proofs.YtgffbiobmamobaaGreatDoor
namespace Go.Proofs.YtgffbiobmamobaaGreatDoor
open Go Go.Proofs Sy
def voteB (ap:ByteArray) (a:Xc):Bool:=decide (a.kind=22)&&seqB a.object ap
def voteJ (c:Xa) (ap:ByteArray):Option Nat:=(downL c.actsL.length).find? fun j=>voteB ap (c.actsL.getD j Xc.zero)
def voteN (cs:List Xa) (ap m:ByteArray):Option Int:=match findC cs m with
 | none=>none
 | some c=>(voteJ c ap).map fun j=>(c.actsL.getD j Xc.zero).n
def votesS (cs:List Xa) (ap:ByteArray) (st:Int×Int) (m:ByteArray):Int×Int:=match voteN cs ap m with
 | none=>st
 | some n=>bif decide (n=0) then (st.1,st.2+1) else (st.1+1,st.2)
def votesV (cs:List Xa) (M:List ByteArray) (ap:ByteArray):Int×Int:=M.foldl (votesS cs ap) (0,0)
structure VotI (cs:List Xa) (M:List ByteArray) (ap:ByteArray) where
 k:Nat
 hk:k≤M.length
 u:Int
 o:Int
 hst:(u,o)=votesV cs (M.take k) ap
 hu:0≤u
 ho:0≤o
 hs:u+o≤k
theorem nP {cs:List Xa} {M:List ByteArray} {ap m:ByteArray} {k:Nat} (h:M[k]?=some m):votesV cs (M.take (k+1)) ap=votesS cs ap (votesV cs (M.take k) ap) m:=by
 rw [votesV,List.take_add_one,h,List.foldl_append]
 rfl
set_option maxRecDepth 20000 in
theorem nO (s sM:Xi) (cs:List Xa) (M:List ByteArray) (ap:ByteArray):Pu Tryz.prog 31 #[s.v,sM.v,.string ap] (fun w=>Chains w s cs∧Strs w sM M) (.tuple #[.int .i64 (votesV cs M ap).1,.int .i64 (votesV cs M ap).2]):=by
 refine aq Tryz.func31 Tryz.ntmps31 fun av bor w0=>?_
 refine aD (p:=sM.n=M.length∧sM.n≤maxLen∧(0<M.length→sM.p.isSome=true)) (fun w h=>⟨h.2.len_,Nat.le_trans (Xe.cap h.2) (Xe.max h.2),h.2.some_⟩) fun ⟨hMn,hMm,hMp⟩=>?_
 simp only [maxLen] at hMm
 repeat' (first|refine gs ?_|refine gs1 fun _=>?_|(refine xD ?_)|(refine xE ?_)|(refine gp ?_ ?_<;>intro hx_ this)|fail)
 rename_i b5 b8 b9
 refine az (ι:=VotI cs M ap) (fun i=>⟨[(0,s.v),(5,.pointer (some ⟨b5,0,none⟩)),(8,.pointer (some ⟨b8,0,none⟩)),(9,.pointer (some ⟨b9,0,none⟩)),(16,sM.v),(17,.int .i64 (sM.n:Nat)),(18,.int .i64 (i.k:Nat))],[cel b9 3 [.int .i64 i.o],cel b8 3 [.int .i64 i.u],cel b5 9 [.string ap]],fun w=>Chains w s cs∧Strs w sM M⟩) (fun i=>M.length-i.k) ⟨0,Nat.zero_le _,0,0,rfl,Int.le_refl _,Int.le_refl _,Int.le_refl _⟩ (ak an (al _) fun w h=>h) fun i=>?_
 obtain ⟨k,hk,u,o,hst,hu,ho,hs⟩:=i
 simp only
 by_cases hlt:k<M.length
 · have hMp':=hMp ac
   obtain ⟨m,hm⟩:∃ m,M[k]?=some m:=⟨_,List.getElem?_eq_getElem hlt⟩
   have hfi:=r5 s cs m
   unfold findP at hfi
   have hnx:=nP (cs:=cs) (ap:=ap) hm
   rw [←hst,votesS,voteN] at hnx
   cases hf:findC cs m with
   | none =>
    rw [hf] at hfi hnx
    simp only [Option.getD_none,Option.isSome_none] at hfi hnx
    repeat' (first|(refine ag (hc:=hfi) ?_)|refine gs ?_|refine gs1 fun _=>?_|(refine aA (q:=k) ?_)|(refine bE (q:=k) (u:=.string m) (hF:=fun w h=>h.2.at_ hm) ?_)|(refine gp ?_ ?_<;>intro hx_ this)|fail)
    all_goals first
     | (exfalso;omega)
     | exact ⟨(⟨k+1,hlt,u,o,hnx.symm,hu,ho,by omega⟩:VotI cs M ap),(by show M.length-(k+1)<M.length-k;omega),ak an (.cons _ (al _)) fun _ h=>h⟩
   | some c =>
    rw [hf] at hfi hnx
    simp only [Option.getD_some,Option.isSome_some] at hfi hnx
    have hcm:c∈cs:=List.mem_of_find?_eq_some hf
    have hba:=zo c.acts
    repeat' (first|(refine ag (hc:=hfi) ?_)|(refine aT (hc:=hba) fun v1 X1 h1=>?_;obtain ⟨bB,rfl,hbx⟩:=h1)|refine gs ?_|refine gs1 fun _=>?_|(refine aA (q:=k) ?_)|(refine bE (q:=k) (u:=.string m) (hF:=fun w h=>h.2.at_ hm) ?_)|(refine gp ?_ ?_<;>intro hx_ this)|fail)
    rotate_right
    all_goals try (exfalso;omega)
    rename_i b12
    obtain ⟨L0,hL0⟩:∃ L0:Int→Int→List Xl,L0=fun u o=>[cel b12 65 c.cells,cel b9 3 [.int .i64 o],cel b8 3 [.int .i64 u],cel b5 9 [.string ap]]:=⟨_,rfl⟩
    refine uA (ps:=[33,34]) (inf:=false) (xs:=downL c.actsL.length) (enc:=encA c) (X1:=fun w=>SlBox c.acts bB w∧c.at_ w) rfl ⟨ai⟩ (zp c bB) (fun w h=>⟨hbx w h.2,h.1.1.2 c hcm⟩) (fun _=>rfl) rfl
     (fun pre loc1=>(∀ y∈pre,voteB ap (c.actsL.getD y Xc.zero)=false)∧loc1=L0 u o)
     (fun c' pre loc1=>c'=.exit 1∧∃ q y,pre=q++[y]∧(∀ z∈q,voteB ap (c.actsL.getD z Xc.zero)=false)∧voteB ap (c.actsL.getD y Xc.zero)=true∧loc1=bif decide ((c.actsL.getD y Xc.zero).n=0) then L0 u (o+1) else L0 (u+1) o)
     ⟨(fun y hy=>(List.not_mem_nil hy).elim),by rw [hL0]⟩ (fun h=>by cases h) ?_ ?_ ?_
    · rintro lo pre x suf loc1 hsp ⟨hpn,rfl⟩ av bor w0
      subst hL0
      rw [encA]
      obtain ⟨y,hy⟩:∃ y,c.actsL.getD x Xc.zero=y:=⟨_,rfl⟩
      rw [hy]
      have hno:voteB ap y=false→∀ z∈pre++[x],voteB ap (c.actsL.getD z Xc.zero)=false:=fun hv z hz=>by
       rcases List.mem_append.1 hz with h|h
       · exact hpn z h
       · rw [List.mem_singleton.1 h,hy]
         exact hv
      repeat' (first|apply ba|apply Rd.cw_seq|refine Rd.cw_reg (h:=?_)|refine bA ?_|refine aW ?_|refine bM ?_|refine cg ?_|refine aQ ?_|refine dp ?_|refine dq ?_|refine bR ?_|refine cV ?_|refine fx ?_|refine cU ?_|refine cA ?_|refine eC ?_|refine bz ?_|refine bL ?_|refine aO ?_|refine bN (h:=?_)|refine df ?_|refine di ?_|refine de ?_|refine bc fun _=>?_|refine bX fun _=>?_|refine bD ?_|refine aR ?_|refine Rd.cw_cond_t (ht:=?_)|refine Rd.cw_cond_f (hf:=?_)|apply Rd.cw_skip|apply Rd.cw_block|apply Rd.cw_ret|apply Rd.cw_exit|refine sy_beql (h:=?_)|refine eD ?_|refine bC ?_|refine bx ?_)
      intro av bor w0
      cases e1:decide (y.kind=22) with
      | false =>
       repeat' (first|refine aw ?_ (cw _ rfl rfl (by rw [e1]))|apply ba|apply Rd.cw_seq|refine Rd.cw_reg (h:=?_)|refine bA ?_|refine aW ?_|refine bM ?_|refine cg ?_|refine aQ ?_|refine dp ?_|refine dq ?_|refine bR ?_|refine cV ?_|refine fx ?_|refine cU ?_|refine cA ?_|refine eC ?_|refine bz ?_|refine bL ?_|refine aO ?_|refine bN (h:=?_)|refine df ?_|refine di ?_|refine de ?_|refine bc fun _=>?_|refine bX fun _=>?_|refine bD ?_|refine aR ?_|refine Rd.cw_cond_t (ht:=?_)|refine Rd.cw_cond_f (hf:=?_)|apply Rd.cw_skip|apply Rd.cw_block|apply Rd.cw_ret|apply Rd.cw_exit|refine sy_beql (h:=?_)|refine eD ?_|refine bC ?_|refine bx ?_|((fail_if_success (refine fP ?_));refine dR (ht:=?_) (hf:=?_);all_goals (intro hx_;first|have:=bm hx_|have:=bT hx_|skip))|(refine Rd.cw_cond (ht:=?_) (hf:=?_);all_goals (intro hx_;first|have:=bm hx_|have:=bT hx_|skip)))
       exact ⟨_,List.sublist_cons_self _ _,hno (by rw [voteB,e1];rfl),rfl⟩
      | true =>
       cases e2:seqB y.object ap with
       | false =>
        repeat' (first|refine aw ?_ (cw _ rfl rfl (by rw [e1]))|refine aw ?_ (eA _ rfl rfl (by rw [e2]))|apply ba|apply Rd.cw_seq|refine Rd.cw_reg (h:=?_)|refine bA ?_|refine aW ?_|refine bM ?_|refine cg ?_|refine aQ ?_|refine dp ?_|refine dq ?_|refine bR ?_|refine cV ?_|refine fx ?_|refine cU ?_|refine cA ?_|refine eC ?_|refine bz ?_|refine bL ?_|refine aO ?_|refine bN (h:=?_)|refine df ?_|refine di ?_|refine de ?_|refine bc fun _=>?_|refine bX fun _=>?_|refine bD ?_|refine aR ?_|refine Rd.cw_cond_t (ht:=?_)|refine Rd.cw_cond_f (hf:=?_)|apply Rd.cw_skip|apply Rd.cw_block|apply Rd.cw_ret|apply Rd.cw_exit|refine sy_beql (h:=?_)|refine eD ?_|refine bC ?_|refine bx ?_|((fail_if_success (refine fP ?_));refine dR (ht:=?_) (hf:=?_);all_goals (intro hx_;first|have:=bm hx_|have:=bT hx_|skip))|(refine Rd.cw_cond (ht:=?_) (hf:=?_);all_goals (intro hx_;first|have:=bm hx_|have:=bT hx_|skip)))
        exact ⟨_,List.sublist_cons_self _ _,hno (by rw [voteB,e1,e2];rfl),rfl⟩
       | true =>
        have hyes:voteB ap (c.actsL.getD x Xc.zero)=true:=by rw [hy,voteB,e1,e2];rfl
        cases e3:decide (y.n=0) with
        | true =>
         repeat' (first|refine aw ?_ (cw _ rfl rfl (by rw [e1]))|refine aw ?_ (eA _ rfl rfl (by rw [e2]))|refine aw ?_ (bg _ rfl rfl e3)|refine bN (c:=o+1) rfl rfl (IntWalk.i64_in _ ac) rfl ax rfl ?_|apply ba|apply Rd.cw_seq|refine Rd.cw_reg (h:=?_)|refine bA ?_|refine aW ?_|refine bM ?_|refine cg ?_|refine aQ ?_|refine dp ?_|refine dq ?_|refine bR ?_|refine cV ?_|refine fx ?_|refine cU ?_|refine cA ?_|refine eC ?_|refine bz ?_|refine bL ?_|refine aO ?_|refine bN (h:=?_)|refine df ?_|refine di ?_|refine de ?_|refine bc fun _=>?_|refine bX fun _=>?_|refine bD ?_|refine aR ?_|refine Rd.cw_cond_t (ht:=?_)|refine Rd.cw_cond_f (hf:=?_)|apply Rd.cw_skip|apply Rd.cw_block|apply Rd.cw_ret|apply Rd.cw_exit|refine sy_beql (h:=?_)|refine eD ?_|refine bC ?_|refine bx ?_|((fail_if_success (refine fP ?_));refine dR (ht:=?_) (hf:=?_);all_goals (intro hx_;first|have:=bm hx_|have:=bT hx_|skip))|(refine Rd.cw_cond (ht:=?_) (hf:=?_);all_goals (intro hx_;first|have:=bm hx_|have:=bT hx_|skip)))
         exact ⟨_,List.sublist_cons_self _ _,rfl,pre,x,rfl,hpn,hyes,by rw [hy,e3];rfl⟩
        | false =>
         repeat' (first|refine aw ?_ (cw _ rfl rfl (by rw [e1]))|refine aw ?_ (eA _ rfl rfl (by rw [e2]))|refine aw ?_ (bg _ rfl rfl e3)|refine bN (c:=u+1) rfl rfl (IntWalk.i64_in _ ac) rfl ax rfl ?_|apply ba|apply Rd.cw_seq|refine Rd.cw_reg (h:=?_)|refine bA ?_|refine aW ?_|refine bM ?_|refine cg ?_|refine aQ ?_|refine dp ?_|refine dq ?_|refine bR ?_|refine cV ?_|refine fx ?_|refine cU ?_|refine cA ?_|refine eC ?_|refine bz ?_|refine bL ?_|refine aO ?_|refine bN (h:=?_)|refine df ?_|refine di ?_|refine de ?_|refine bc fun _=>?_|refine bX fun _=>?_|refine bD ?_|refine aR ?_|refine Rd.cw_cond_t (ht:=?_)|refine Rd.cw_cond_f (hf:=?_)|apply Rd.cw_skip|apply Rd.cw_block|apply Rd.cw_ret|apply Rd.cw_exit|refine sy_beql (h:=?_)|refine eD ?_|refine bC ?_|refine bx ?_|((fail_if_success (refine fP ?_));refine dR (ht:=?_) (hf:=?_);all_goals (intro hx_;first|have:=bm hx_|have:=bT hx_|skip))|(refine Rd.cw_cond (ht:=?_) (hf:=?_);all_goals (intro hx_;first|have:=bm hx_|have:=bT hx_|skip)))
         exact ⟨_,List.sublist_cons_self _ _,rfl,pre,x,rfl,hpn,hyes,by rw [hy,e3];rfl⟩
    · rintro loc1 ⟨hpn,rfl⟩
      subst hL0
      have hj:voteJ c ap=none:=by
       rw [voteJ,List.find?_eq_none]
       intro z hz
       rw [hpn z hz]
       decide
      rw [hj] at hnx
      repeat' (first|refine gs ?_|refine gs1 fun _=>?_|(refine gp ?_ ?_<;>intro hx_ this)|fail)
      exact ⟨(⟨k+1,hlt,u,o,hnx.symm,hu,ho,by omega⟩:VotI cs M ap),(by show M.length-(k+1)<M.length-k;omega),ak an (.cons _ (al _)) fun _ h=>h.1⟩
    · rintro c' pre x suf loc1 hsp ⟨rfl,q,y,hq,hqn,hy,rfl⟩
      have hqx:=List.append_inj' hq rfl
      obtain ⟨rfl,h2⟩:=hqx
      obtain rfl:x=y:=(List.cons.inj h2).1
      have hj:voteJ c ap=some x:=by
       rw [voteJ,hsp,List.find?_append,List.find?_eq_none.2 (fun z hz=>by rw [hqn z hz];decide),List.find?_cons,hy]
       rfl
      rw [hj] at hnx
      subst hL0
      refine cw_exit ?_
      obtain ⟨nn,hnn⟩:∃ nn,(c.actsL.getD x Xc.zero).n=nn:=⟨_,rfl⟩
      simp only [Option.map_some,hnn] at hnx ⊢
      cases e3:decide (nn=0) with
      | true =>
       rw [e3] at hnx
       repeat' (first|refine gs ?_|refine gs1 fun _=>?_|(refine gp ?_ ?_<;>intro hx_ this)|fail)
       exact ⟨(⟨k+1,hlt,u,o+1,hnx.symm,hu,by omega,by omega⟩:VotI cs M ap),(by show M.length-(k+1)<M.length-k;omega),ak an (.cons _ (al _)) fun _ h=>h.1⟩
      | false =>
       rw [e3] at hnx
       repeat' (first|refine gs ?_|refine gs1 fun _=>?_|(refine gp ?_ ?_<;>intro hx_ this)|fail)
       exact ⟨(⟨k+1,hlt,u+1,o,hnx.symm,by omega,ho,by omega⟩:VotI cs M ap),(by show M.length-(k+1)<M.length-k;omega),ak an (.cons _ (al _)) fun _ h=>h.1⟩
 · have hke:k=M.length:=by omega
   rw [hke,List.take_length] at hst
   rw [←hst]
   repeat' (first|refine gs ?_|refine gs1 fun _=>?_|(refine gp ?_ ?_<;>intro hx_ this)|fail)
   · exfalso;omega
   (refine ao ⟨[0,1,2,3],[]⟩ [cel b9 3 [.int .i64 o],cel b8 3 [.int .i64 u],cel b5 9 [.string ap]] (fun w=>Chains w s cs∧Strs w sM M) (h:=?_))
   all_goals repeat' (first|refine gdz ?_|refine aF ?_ (h':=?_)|exact aG|refine gs1 fun _=>?_|(refine gq ?_ ?_<;>intro hx_ this)|fail)
   all_goals
    repeat' (first|refine gs ?_|refine gs1 fun _=>?_|(refine gp ?_ ?_<;>intro hx_ this)|fail)
    exact ae (cP rfl rfl rfl) rfl
structure Xm where
 actor:ByteArray
 base:Int
 prev:ByteArray
 gen:Int
 home:Int
 pub:Int
 time:Int
 e:Int
 s:Int
structure Xj where
 server:Int
 actor:ByteArray
 gen:Int
 claim:ByteArray
 time:Int
 e:Int
 s:Int
structure Xf where
 server:Int
 number:Int
 kind:Int
 actor:ByteArray
 object:ByteArray
 text:ByteArray
 to:Xi
 n:Int
 from_:Int
 until_:Int
 e:Int
 s:Int
 toL:List ByteArray
structure Xb where
 kind:Int
 act:Xc
 claim:Xm
 ballot:Xj
 dec:Xf
def Xm.cells (c:Xm):List Value:=[.string c.actor,.int .i64 c.base,.string c.prev,.int .i64 c.gen,.int .i64 c.home,.int .i64 c.pub,.int .i64 c.time,.int .i64 c.e,.int .i64 c.s]
def Xm.v (c:Xm):Value:=.agg c.cells.toArray
def Xm.zero:Xm:=⟨⟨#[]⟩,0,⟨#[]⟩,0,0,0,0,0,0⟩
def Xj.cells (b:Xj):List Value:=[.int .i64 b.server,.string b.actor,.int .i64 b.gen,.string b.claim,.int .i64 b.time,.int .i64 b.e,.int .i64 b.s]
def Xj.v (b:Xj):Value:=.agg b.cells.toArray
def Xj.zero:Xj:=⟨0,⟨#[]⟩,0,⟨#[]⟩,0,0,0⟩
def Xf.cells (d:Xf):List Value:=[.int .i64 d.server,.int .i64 d.number,.int .i64 d.kind,.string d.actor,.string d.object,.string d.text,d.to.v,.int .i64 d.n,.int .i64 d.from_,.int .i64 d.until_,.int .i64 d.e,.int .i64 d.s]
def Xf.v (d:Xf):Value:=.agg d.cells.toArray
def Xf.zero:Xf:=⟨0,0,0,⟨#[]⟩,⟨#[]⟩,⟨#[]⟩,⟨none,0,0⟩,0,0,0,0,0,[]⟩
def Xf.at_ (w:World) (d:Xf):Prop:=Strs w d.to d.toL
def Xb.cells (i:Xb):List Value:=.int .i64 i.kind::(i.act.cells++i.claim.cells++i.ballot.cells++i.dec.cells)
def Xb.v (i:Xb):Value:=.agg i.cells.toArray
def Xb.at_ (w:World) (i:Xb):Prop:=Xc.at_ w i.act∧Xf.at_ w i.dec
def ofActI (a:Xc):Xb:=⟨0,a,Xm.zero,Xj.zero,Xf.zero⟩
def Xb.zero:Xb:=ofActI Xc.zero
def Items (w:World) (s:Xi) (l:List Xb):Prop:=Xe w 49 s (l.map Xb.cells)∧∀ i∈l,Xb.at_ w i
theorem Items.len_ {w:World} {s:Xi} {l:List Xb} (h:Items w s l):s.n=l.length:=by simpa using Xe.len h.1
theorem Items.max_ {w:World} {s:Xi} {l:List Xb} (h:Items w s l):s.n≤maxLen:=Nat.le_trans (Xe.cap h.1) (Xe.max h.1)
theorem Items.get {w:World} {s:Xi} {l:List Xb} (h:Items w s l) {k:Nat} {x:Xb} (hx:l[k]?=some x):x.cells.length=49∧s.p.isSome=true∧∀ j u,x.cells[j]?=some u→CellAt w s.p (k*49+j) u:=Xe.row h.1 k x.cells (by simp [hx])
theorem Items.some_ {w:World} {s:Xi} {l:List Xb} (h:Items w s l) (h0:0<l.length):s.p.isSome=true:=(h.get (k:=0) (x:=l[0]) (List.getElem?_eq_getElem h0)).2.1
theorem cv {P:Program} {d:Nat} {xs ys:Array Value} {f:Field} {fs:List Field} {a b:Value} {r q:Bool} {w:World}
  (hn:f.name≠ "_") (ha:(part f.type xs f.offset).run P w=.ok a w) (hb:(part f.type ys f.offset).run P w=.ok b w)
  (hr:(Op.equalIn d f.type a b).run P w=.ok r w) (hq:(Op.eqFields d xs ys fs).run P w=.ok q w) :
  (Op.eqFields d xs ys (f::fs)).run P w=.ok (r&&q) w:=by
 rw [Op.eqFields,if_pos hn]
 simp only [Sem.run_bind,ha,hb,hr,Result.andThen_ok]
 cases r<;>simp [hq]
theorem ny {P:Program} {d:Nat} {xs ys:Array Value} {w:World}:(Op.eqFields d xs ys []).run P w=.ok true w:=by simp [Op.eqFields]
theorem bp {P:Program} {t:TypeId} {cs:Array Value} {o:Nat} {v:Value} {w:World} [h1:Xv P t] (hx:cs[o]?=some v):(part t cs o).run P w=.ok v w:=by
 have hag:=(bI (Xv.out (P:=P) (t:=t)) w).1
 simp [part,hag,hx]
theorem dD {P:Program} {d:Nat} {t:TypeId} {k:IntKind} {a b:Int} {w:World} [Xu P t k]:(Op.equalIn (d+1) t (.int k a) (.int k b)).run P w=.ok (decide (a=b)) w:=by
 rw [run_equalIn_int (P:=P) w d t k k a b Xu.out]
 congr 1
theorem iD {P:Program} {d:Nat} {t:TypeId} {a b:ByteArray} {w:World} [X8 P t]:(Op.equalIn (d+1) t (.string a) (.string b)).run P w=.ok (seqB a b) w :=
 run_equalIn_string (P:=P) w d t a b X8.out
theorem nU:Tryz.prog.underlying 40=some (.struct (Tryz.prog.fieldsOf 40)):=by kernel_rfl
theorem pR:Tryz.prog.stoodInHeld 40=false:=by kernel_rfl
theorem vA (w:World):(isAgg 40).run Tryz.prog w=.ok true w:=by kernel_rfl
theorem sV (w:World):(Go.sizeOf 40).run Tryz.prog w=.ok 2 w:=by kernel_rfl
theorem gu {cs:Array Value} {o:Nat} {w:World}:(part 40 cs o).run Tryz.prog w=.ok (.agg (cs.extract o (o+2))) w:=by
 simp [part,vA,sV]
theorem lf {d:Nat} {a b c e:Int} {w:World}:(Op.equalIn (d+2) 40 (.agg #[.int .i64 a,.int .i64 b]) (.agg #[.int .i64 c,.int .i64 e])).run Tryz.prog w=.ok (decide (a=c)&&(decide (b=e)&&true)) w:=by
 rw [run_equalIn_agg w (d+1) _ _ _ nU pR]
 have hf:(Tryz.prog.fieldsOf 40).toList.map (fun f=>(f.name,f.type,f.offset))=[("E",3,0),("S",3,1)]:=by kernel_rfl
 generalize (Tryz.prog.fieldsOf 40).toList=l at hf
 rcases l with _|⟨⟨n1,t1,o1,_⟩,_|⟨⟨n2,t2,o2,_⟩,_|⟨f3,l⟩⟩⟩
 case cons.cons.nil =>
  simp only [List.map_cons,List.map_nil,List.cons.injEq,Prod.mk.injEq,and_true] at hf
  obtain ⟨⟨rfl,rfl,rfl⟩,rfl,rfl,rfl⟩:=hf
  exact cv (by dsimp only;decide) (bp rfl) (bp rfl) dD (cv (by dsimp only;decide) (bp rfl) (bp rfl) dD ny)
 all_goals (have:=congrArg List.length hf;simp at this)
def claimEq (a b:Xm):Bool:=seqB a.actor b.actor&&(decide (a.base=b.base)&&(seqB a.prev b.prev&&(decide (a.gen=b.gen)&&(decide (a.home=b.home)&&(decide (a.pub=b.pub)&&(decide (a.time=b.time)&&((decide (a.e=b.e)&&(decide (a.s=b.s)&&true))&&true)))))))
theorem lm:Tryz.prog.underlying 74=some (.struct (Tryz.prog.fieldsOf 74)):=by kernel_rfl
theorem lH:Tryz.prog.stoodInHeld 74=false:=by kernel_rfl
theorem lI:Tryz.prog.eqGuardType Tryz.prog.depth 74=false:=by kernel_rfl
theorem nZ (w:World) (a b:Xm):(Op.equalIn 10000 74 (.agg a.cells.toArray) (.agg b.cells.toArray)).run Tryz.prog w=.ok (claimEq a b) w:=by
 rw [show (10000:Nat)=9999+1 from rfl,run_equalIn_agg w 9999 _ _ _ lm lH]
 have hf:(Tryz.prog.fieldsOf 74).toList.map (fun f=>(f.name,f.type,f.offset))=[("Actor",9,0),("Base",3,1),("Prev",9,2),("Gen",3,3),("Home",3,4),("Public",3,5),("Time",3,6),("Sig",40,7)]:=by kernel_rfl
 generalize (Tryz.prog.fieldsOf 74).toList=l at hf
 rcases l with _|⟨⟨n1,t1,o1,_⟩,_|⟨⟨n2,t2,o2,_⟩,_|⟨⟨n3,t3,o3,_⟩,_|⟨⟨n4,t4,o4,_⟩,_|⟨⟨n5,t5,o5,_⟩,_|⟨⟨n6,t6,o6,_⟩,_|⟨⟨n7,t7,o7,_⟩,_|⟨⟨n8,t8,o8,_⟩,_|⟨g,l⟩⟩⟩⟩⟩⟩⟩⟩⟩
 case cons.cons.cons.cons.cons.cons.cons.cons.nil =>
  simp only [List.map_cons,List.map_nil,List.cons.injEq,Prod.mk.injEq,and_true] at hf
  obtain ⟨⟨rfl,rfl,rfl⟩,⟨rfl,rfl,rfl⟩,⟨rfl,rfl,rfl⟩,⟨rfl,rfl,rfl⟩,⟨rfl,rfl,rfl⟩,⟨rfl,rfl,rfl⟩,⟨rfl,rfl,rfl⟩,rfl,rfl,rfl⟩:=hf
  exact cv (by dsimp only;decide) (bp rfl) (bp rfl) iD (cv (by dsimp only;decide) (bp rfl) (bp rfl) dD (cv (by dsimp only;decide) (bp rfl) (bp rfl) iD (cv (by dsimp only;decide) (bp rfl) (bp rfl) dD (cv (by dsimp only;decide) (bp rfl) (bp rfl) dD (cv (by dsimp only;decide) (bp rfl) (bp rfl) dD (cv (by dsimp only;decide) (bp rfl) (bp rfl) dD (cv (by dsimp only;decide) gu gu lf (ny))))))))
 all_goals (have:=congrArg List.length hf;simp at this)
theorem lz {N:Nat} {av bor:List Nat} {w0:World} {st:St} {ty t2:TypeId} {x y:Operand} {a b:Xm} (hx:ev st.env x=some (.agg a.cells.toArray)) (hy:ev st.env y=some (.agg b.cells.toArray)) :
  Sy.Yields Tryz.prog N av bor w0 st (.binOp .eql 74 x y t2) ty (.bool (claimEq a b)):=Sy.Yields.mk fun A w ok d pos af g=>by
 have h1:=run_eql_struct (P:=Tryz.prog) w 74 a.cells.toArray b.cells.toArray
 rw [nZ w a b] at h1
 simp [execOp,ok.eval (st:=st) hx,ok.eval (st:=st) hy,run_eqGuard_agg _ _ _ _ _ _ _ lI,h1]
def ballotEq (a b:Xj):Bool:=decide (a.server=b.server)&&(seqB a.actor b.actor&&(decide (a.gen=b.gen)&&(seqB a.claim b.claim&&(decide (a.time=b.time)&&((decide (a.e=b.e)&&(decide (a.s=b.s)&&true))&&true)))))
theorem jN:Tryz.prog.underlying 76=some (.struct (Tryz.prog.fieldsOf 76)):=by kernel_rfl
theorem ls:Tryz.prog.stoodInHeld 76=false:=by kernel_rfl
theorem lu:Tryz.prog.eqGuardType Tryz.prog.depth 76=false:=by kernel_rfl
theorem mV (w:World) (a b:Xj):(Op.equalIn 10000 76 (.agg a.cells.toArray) (.agg b.cells.toArray)).run Tryz.prog w=.ok (ballotEq a b) w:=by
 rw [show (10000:Nat)=9999+1 from rfl,run_equalIn_agg w 9999 _ _ _ jN ls]
 have hf:(Tryz.prog.fieldsOf 76).toList.map (fun f=>(f.name,f.type,f.offset))=[("Server",3,0),("Actor",9,1),("Gen",3,2),("Claim",9,3),("Time",3,4),("Sig",40,5)]:=by kernel_rfl
 generalize (Tryz.prog.fieldsOf 76).toList=l at hf
 rcases l with _|⟨⟨n1,t1,o1,_⟩,_|⟨⟨n2,t2,o2,_⟩,_|⟨⟨n3,t3,o3,_⟩,_|⟨⟨n4,t4,o4,_⟩,_|⟨⟨n5,t5,o5,_⟩,_|⟨⟨n6,t6,o6,_⟩,_|⟨g,l⟩⟩⟩⟩⟩⟩⟩
 case cons.cons.cons.cons.cons.cons.nil =>
  simp only [List.map_cons,List.map_nil,List.cons.injEq,Prod.mk.injEq,and_true] at hf
  obtain ⟨⟨rfl,rfl,rfl⟩,⟨rfl,rfl,rfl⟩,⟨rfl,rfl,rfl⟩,⟨rfl,rfl,rfl⟩,⟨rfl,rfl,rfl⟩,rfl,rfl,rfl⟩:=hf
  exact cv (by dsimp only;decide) (bp rfl) (bp rfl) dD (cv (by dsimp only;decide) (bp rfl) (bp rfl) iD (cv (by dsimp only;decide) (bp rfl) (bp rfl) dD (cv (by dsimp only;decide) (bp rfl) (bp rfl) iD (cv (by dsimp only;decide) (bp rfl) (bp rfl) dD (cv (by dsimp only;decide) gu gu lf (ny))))))
 all_goals (have:=congrArg List.length hf;simp at this)
theorem j7 {N:Nat} {av bor:List Nat} {w0:World} {st:St} {ty t2:TypeId} {x y:Operand} {a b:Xj} (hx:ev st.env x=some (.agg a.cells.toArray)) (hy:ev st.env y=some (.agg b.cells.toArray)) :
  Sy.Yields Tryz.prog N av bor w0 st (.binOp .eql 76 x y t2) ty (.bool (ballotEq a b)):=Sy.Yields.mk fun A w ok d pos af g=>by
 have h1:=run_eql_struct (P:=Tryz.prog) w 76 a.cells.toArray b.cells.toArray
 rw [mV w a b] at h1
 simp [execOp,ok.eval (st:=st) hx,ok.eval (st:=st) hy,run_eqGuard_agg _ _ _ _ _ _ _ lu,h1]
def hexDg:ByteArray:=⟨#[48,49,50,51,52,53,54,55,56,57,97,98,99,100,101,102]⟩
def hexB (s:ByteArray) (i:Nat):List Int:=[byteAt hexDg (shrV .u8 (byteAt s i) 4).toNat,byteAt hexDg (bitsV .and .u8 (byteAt s i) 15).toNat]
def hexF (s:ByteArray) (n:Nat):List Int:=(List.range n).flatMap (hexB s)
def hexV (s:ByteArray):ByteArray:=ofInts (hexF s s.size)
theorem ma (s:ByteArray) (n:Nat):hexF s (n+1)=hexF s n++hexB s n:=by
 rw [hexF,List.range_succ,List.flatMap_append]
 simp [hexF]
theorem yN:∀ b:Nat,b<256→(0≤shrV .u8 (b:Int) 4∧shrV .u8 (b:Int) 4<16)∧(0≤bitsV .and .u8 (b:Int) 15∧bitsV .and .u8 (b:Int) 15<16):=by decide +kernel
theorem uI (s:ByteArray) (i:Nat):∃ b:Nat,b<256∧byteAt s i=(b:Int):=⟨(s.data.toList.getD i 0).toNat,UInt8.toNat_lt _,rfl⟩
def hexN (d:Nat):Nat:=if d<10 then 48+d else 87+d
def hexL (l:List Nat):List Nat:=l.flatMap fun b=>[hexN (b/16),hexN (b%16)]
theorem yX:∀ b:Nat,b<256→byteAt hexDg (shrV .u8 (b:Int) 4).toNat=(hexN (b/16):Nat)∧byteAt hexDg (bitsV .and .u8 (b:Int) 15).toNat=(hexN (b%16):Nat):=by decide +kernel
structure HexI where
 k:Nat
 hk:k≤32
 A:Option Addr
 c:Nat
theorem AN (s:ByteArray) (hs:s.size=32):Pu Tryz.prog 125 #[.string s] (fun _=>True) (.string (hexV s)):=by
 refine aq Tryz.func125 Tryz.ntmps125 fun av bor w0=>?_
 repeat' (first|refine gj (c:=64) (hc:=by rw [hs];rfl) (h:=?_)|refine gs ?_|refine gs1 fun _=>?_|(refine jR (c:=64) (hm:=rfl) (hm2:=rfl) fun q=>?_)|(refine gp ?_ ?_<;>intro hx_ this)|fail)
 refine az (ι:=HexI) (fun i=>⟨[(0,.string s),(3,.slice i.A (2*i.k) i.c),(10,.int .i64 s.size),(11,.int .i64 i.k)],[orow 5 1 (.slice i.A (2*i.k) i.c) (2*i.k) (u8s (hexF s i.k))],fun _=>True⟩) (fun i=>32-i.k) ⟨0,Nat.zero_le _,_,_⟩
  (ak an (al _) fun _ h=>h) fun i=>?_
 have hik:=i.hk
 repeat' (first|refine gs ?_|refine gs1 fun _=>?_|(refine gp ?_ ?_<;>intro hx_ this)|fail)
 · have hlt:i.k<32:=by omega
   obtain ⟨b,hb,hbe⟩:=uI s i.k
   obtain ⟨⟨n1,n2⟩,n3,n4⟩:=yN b hb
   rw [←hbe] at n1 n2 n3 n4
   (refine ao ⟨[0,1,2,3,4,5,6,7,8,9,10],[(11,⟨[],[(12,⟨[13],[]⟩)]⟩)]⟩ [] (fun _=>True) (h:=?_))
   all_goals repeat' (first|refine gd ?_|refine aJ (hy:=by first|(apply pB;rfl;rfl;(first|omega|assumption);(first|omega|assumption))) ?_|refine aF ?_ (h':=?_)|exact aG|refine bG (len:=2) (vs:=u8s (hexB s i.k)) fun _=>?_|(refine fI ?_;refine aH (size:=1) (z:=.int .u8 0) (news:=u8s (hexB s i.k)) (q:=2) rfl rfl rfl rfl (fun _=>At.there _ (At.here _)) (fun w G=>bu G ay rfl rfl 2) ac (by simp only [maxLen];omega) rfl ?_ rfl ?_;(first|with_reducible rfl|with_reducible assumption|with_reducible exact Bool.not_false|with_reducible exact Bool.not_true);intro A2 c2)|refine gs1 fun _=>?_|(refine gq ?_ ?_<;>intro hx_ this)|fail)
   rw [←bV,←ma]
   repeat' (first|refine gs ?_|refine gs1 fun _=>?_|(refine gp ?_ ?_<;>intro hx_ this)|fail)
   exact ⟨⟨i.k+1,hlt,A2,c2⟩,(by show 32-(i.k+1)<32-i.k;omega),ak an (List.sublist_cons_self _ _) fun _ h=>h⟩
 · have hk:i.k=s.size:=by omega
   repeat' (first|refine gs ?_|refine gs1 fun _=>?_|(refine ew (ns:=hexF s i.k) (hm:=by exact aC) ?_)|(refine gp ?_ ?_<;>intro hx_ this)|fail)
   apply ae;apply aj;rfl;rfl
   rw [hk]
   rfl
theorem rY (d:Nat) (h:d<16):hexN d<256:=by
 unfold hexN
 split<;>omega
theorem rZ {l:List Nat} (h:∀ x∈l,x<256):∀ x∈hexL l,x<256:=fun x hx=>by
 rw [hexL,List.mem_flatMap] at hx
 obtain ⟨b,hb,hx⟩:=hx
 have hb':=h b hb
 rcases List.mem_cons.1 hx with rfl|hx
 · exact rY _ ac
 · rw [List.mem_singleton] at hx
   subst hx
   exact rY _ (Nat.mod_lt _ (by decide))
theorem nk (s:ByteArray):∀ n,n≤s.size→hexF s n=(hexL ((nl s).take n)).map fun (n:Nat)=>(n:Int)
 | 0,_=>rfl
 | n+1,h=>by
  have hn:n<(nl s).length:=by rw [cu];omega
  have hb:=jX (kK s) n
  have he:(nl s)[n]=(nl s).getD n 0:=by rw [List.getD_eq_getElem?_getD,List.getElem?_eq_getElem hn];rfl
  rw [ma,nk s n ac,List.take_succ_eq_append_getElem hn,hexL,hexL,List.flatMap_append,List.map_append]
  congr 1
  obtain ⟨h1,h2⟩:=yX _ hb
  rw [hexB,sB s n ac,h1,h2,he]
  rfl
theorem AO (s:ByteArray):nl (hexV s)=hexL (nl s):=by
 rw [hexV,nk s s.size (Nat.le_refl _),List.take_of_length_le (by rw [cu];exact Nat.le_refl _)]
 exact fH _ (rZ (kK s))
theorem l9 (s:ByteArray):(hexV s).size=2*s.size:=by
 rw [←cu,hexV,nk s s.size (Nat.le_refl _),List.take_of_length_le (by rw [cu];exact Nat.le_refl _),fH _ (rZ (kK s)),hexL]
 rw [←cu]
 generalize nl s=l
 induction l with
 | nil=>rfl
 | cons a l ih=>rw [List.flatMap_cons,List.length_append,ih];simp only [List.length_cons,List.length_nil];omega
def idText (p:Int):ByteArray:=textV ⟨#[97,99,116,111,114]⟩++numV p
def idV (p:Int):ByteArray:=(hexV (shaV (idText p))).extract 0 16
theorem kS (p:Int):(idV p).size=16:=by
 rw [idV,ByteArray.size_extract,l9,eN]
 rfl
theorem qt (p:Int) (hp:p<9223372036854775808):Pu Tryz.prog 87 #[.int .i64 p] Xg (.string (idV p)):=by
 refine aq Tryz.func87 Tryz.ntmps87 fun av bor w0=>?_
 have h1:=aB ⟨#[97,99,116,111,114]⟩
 have h2:=ar p
 have h5:(⟨#[97,99,116,111,114]⟩:ByteArray).size=5:=rfl
 have hsz:(idText p).size≤1099511627776:=by rw [idText,ByteArray.size_append];omega
 have hhx:=l9 (shaV (idText p))
 rw [eN] at hhx
 repeat' (first|refine ag (hc:=ei _ (by first|omega|decide)) ?_|refine ag (hc:=d9 _ hp) ?_|(refine ag (hc:=mS (idText p) hsz) ?_)|(refine ag (hc:=AN (shaV (idText p)) (eN _)) ?_)|refine gs ?_|(refine mK ?_)|(refine yb (h1:=by omega) ?_)|(refine gp ?_ ?_<;>intro hx_ this)|fail)
 apply ae;apply aj;rfl;rfl
 rfl
def Xc.sig (a:Xc) (g:Ef):Xc:={ a with e:=g.e,s:=g.s }
def actSignV (k:Eg) (a:Xc):Xc:=bif rightB (a.sig Ef.zero)&&rightK k then a.sig (signV k (coreV (a.sig Ef.zero))) else Xc.zero
theorem rA {a:Xc} (h:a.Rng) {g:Ef} (h1:g.e<9223372036854775808) (h2:g.s<9223372036854775808):(a.sig g).Rng:=by
 obtain ⟨⟨i1,i2,i3,i4,i5,i6,i7,i8,i9⟩,h2',h3,h4⟩:=h
 exact ⟨⟨i1,i2,i3,i4,i5,i6,i7,h1,h2⟩,h2',h3,h4⟩
theorem lQ (k:Eg) (msg:ByteArray):(signV k msg).e<9223372036854775808∧(signV k msg).s<9223372036854775808:=by
 rw [signV]
 cases rightK k with
 | false=>exact ⟨(show (0:Int)<9223372036854775808 by decide),(show (0:Int)<9223372036854775808 by decide)⟩
 | true =>
  have h1:=xG (expV 37 (nonceN k.s msg)) k.p.toNat msg
  have h2:=Nat.mod_lt (nonceN k.s msg+sigE k msg*k.s.toNat%2305843009213693950) (show 2305843009213693950>0 by decide)
  refine ⟨?_,?_⟩
  · show ((sigE k msg:Nat):Int)<_
    unfold sigE
    omega
  · show ((sigS k msg:Nat):Int)<_
    unfold sigS
    omega
def ActTo (b:Xc) (u:Value) (X:World→Prop):Prop:=∃ s1 s2:Xi,u=(b.re s1 s2).v∧s1.n=b.to.n∧s2.n=b.wraps.n∧∀ w,X w→(b.re s1 s2).at_ w
set_option maxRecDepth 20000 in
theorem ii (k:Eg) (a:Xc) (hr:a.Rng) (hs:a.Sm):Mk Tryz.prog 37 #[k.v,a.v] (fun w=>a.at_ w∧Xg w) (ActTo (actSignV k a)):=by
 refine bS Tryz.func37 Tryz.ntmps37 fun av bor w0=>?_
 have hr0:(a.sig Ef.zero).Rng:=rA hr (by decide) (by decide)
 have hri:=dN (a.sig Ef.zero)
 have hrk:=io k
 cases hb:rightB (a.sig Ef.zero) with
 | false =>
  rw [hb] at hri
  rw [show actSignV k a=Xc.zero from by rw [actSignV,hb];rfl]
  repeat' (first|(refine ag (hc:=hri) ?_)|refine gs ?_|refine gs1 fun _=>?_|(refine aL (cs:=Ef.zero.cells) (hf:=by rfl) ?_)|(refine aZ (a.sig Ef.zero).cells (h:=?_))|(refine aL (cs:=Xc.zero.cells) (hf:=by rfl) ?_)|(refine gp ?_ ?_<;>intro hx_ this)|fail)
  refine ae (aI rfl rfl aC (by rfl)) ⟨⟨none,0,0⟩,⟨none,0,0⟩,rfl,rfl,rfl,fun w _=>⟨aN w 1,aN w 5⟩⟩
 | true =>
  rw [hb] at hri
  cases hk:rightK k with
  | false =>
   rw [hk] at hrk
   rw [show actSignV k a=Xc.zero from by rw [actSignV,hb,hk];rfl]
   repeat' (first|(refine ag (hc:=hri) ?_)|(refine ag (hc:=hrk) ?_)|refine gs ?_|refine gs1 fun _=>?_|(refine aL (cs:=Ef.zero.cells) (hf:=by rfl) ?_)|(refine aZ (a.sig Ef.zero).cells (h:=?_))|(refine aL (cs:=Xc.zero.cells) (hf:=by rfl) ?_)|(refine gp ?_ ?_<;>intro hx_ this)|fail)
   refine ae (aI rfl rfl aC (by rfl)) ⟨⟨none,0,0⟩,⟨none,0,0⟩,rfl,rfl,rfl,fun w _=>⟨aN w 1,aN w 5⟩⟩
  | true =>
   rw [hk] at hrk
   rw [show actSignV k a=a.sig (signV k (coreV (a.sig Ef.zero))) from by rw [actSignV,hb,hk];rfl]
   have hco:=sx (a.sig Ef.zero) (fun h=>dW hr0 h)
   rw [hb] at hco
   have hcs:=ia (dW hr0 hb)
   have hsi:=ry k (coreV (a.sig Ef.zero)) ac
   generalize hg:signV k (coreV (a.sig Ef.zero))=g at *
   repeat' (first|(refine ag (hc:=hri) ?_)|(refine ag (hc:=hrk) ?_)|refine gs ?_|refine gs1 fun _=>?_|(refine aL (cs:=Ef.zero.cells) (hf:=by rfl) ?_)|(refine aZ (a.sig Ef.zero).cells (h:=?_))|(refine gp ?_ ?_<;>intro hx_ this)|fail)
   rename_i b2 b3 b4
   (refine ao ⟨[0],[(1,⟨[],[(2,⟨[],[(3,⟨[4],[(5,⟨[],[]⟩)]⟩)]⟩)]⟩)]⟩ [cel b2 59 k.cells] (fun w=>a.at_ w∧Xg w) (h:=?_))
   all_goals repeat' (first|(refine ag (hc:=hco) ?_)|(refine ag (hc:=hsi) ?_)|refine gd ?_|refine aF ?_ (h':=?_)|exact aG|(refine aZ (a.sig g).cells (h:=?_))|refine gs1 fun _=>?_|(refine gq ?_ ?_<;>intro hx_ this)|fail)
   repeat' (first|refine gs ?_|refine gs1 fun _=>?_|(refine gp ?_ ?_<;>intro hx_ this)|fail)
   refine aT (hc:=eO a.to (strs a.toL) hs.to (fun cs hcs=>by simp only [strs,List.mem_map] at hcs;obtain ⟨x,_,rfl⟩:=hcs;rfl)) (hX:=fun w h=>h.1.1) fun v1 X1 h1=>?_
   obtain ⟨s1,rfl,hn1,hw1⟩:=h1
   repeat' (first|refine gs ?_|refine gs1 fun _=>?_|(refine gp ?_ ?_<;>intro hx_ this)|fail)
   refine aT (hc:=ji a.wraps (a.wrapsL.map X6.cells) hs.wraps (fun cs hcs=>by simp only [List.mem_map] at hcs;obtain ⟨x,_,rfl⟩:=hcs;rfl)) (hX:=fun w h=>h.1.1.2) fun v2 X2 h2=>?_
   obtain ⟨s2,rfl,hn2,hw2⟩:=h2
   repeat' (first|refine gs ?_|refine gs1 fun _=>?_|(refine gp ?_ ?_<;>intro hx_ this)|fail)
   refine ae (aI rfl rfl aC (by rfl)) ⟨s1,s2,rfl,?_,?_,fun w h=>⟨hw1 w h.1.1.2,hw2 w h.1.2⟩⟩
   · show s1.n=a.to.n
     rw [hn1,hr.to_len]
     simp [strs]
   · show s2.n=a.wraps.n
     rw [hn2,hr.wraps_len]
     simp
def ordV (n:Int):Bool:=decide (0≤n)&&decide (n<2305843009213693950)
theorem kP (n:Int):Pu Tryz.prog 151 #[.int .i64 n] (fun _=>True) (.bool (ordV n)):=by
 refine aq Tryz.func151 Tryz.ntmps151 fun av bor w0=>?_
 repeat' (first|refine gs ?_|(refine gp ?_ ?_<;>intro hx_ this)|fail)
 (all_goals (apply ae;apply aj;rfl;rfl));all_goals first|rfl|(simp only [ordV, *,decide_true,decide_false,cond_true,cond_false,Bool.and_true,Bool.true_and,Bool.and_false,Bool.false_and,Bool.not_true,Bool.not_false,Bool.or_true,Bool.true_or,Bool.or_false,Bool.false_or];done)|(simp_all [ordV];done)
def verN (p:Int) (msg:ByteArray) (e s:Int):Bool :=
 bif decide (p<1)||decide (2305843009213693951≤p)||!ordV e||!ordV s then false
 else decide (e=(chalN (expV 37 s.toNat * expV p.toNat (2305843009213693950-e.toNat)%2305843009213693951) p.toNat msg:Nat))
theorem lK (p:Int) (msg:ByteArray) (e s:Int) (hm:msg.size≤1000000000000):Pu Tryz.prog 105 #[.int .i64 p,.string msg,(Ef.v ⟨e,s⟩)] Xg (.bool (verN p msg e s)):=by
 refine aq Tryz.func105 Tryz.ntmps105 fun av bor w0=>?_
 have hoe:=kP e
 have hos:=kP s
 cases hbad:(decide (p<1)||decide (2305843009213693951≤p)||!ordV e||!ordV s) with
 | true =>
  rw [show verN p msg e s=false from by rw [verN,hbad];rfl]
  repeat' (first|(refine ag (hc:=hoe) ?_)|(refine ag (hc:=hos) ?_)|refine gs ?_|refine gs1 fun _=>?_|(refine gp ?_ ?_<;>intro hx_ this)|fail)
  all_goals first
   | (apply ae;apply aj;rfl;rfl;rfl)
   | (exfalso;simp_all;done)
 | false =>
  have hb:=hbad
  simp only [Bool.or_eq_false_iff,decide_eq_false_iff_not,Bool.not_eq_false'] at hb
  obtain ⟨⟨⟨h1,h2⟩,h3⟩,h4⟩:=hb
  have h3':=h3
  have h4':=h4
  simp only [ordV,Bool.and_eq_true,decide_eq_true_eq] at h3' h4'
  rw [h3] at hoe
  rw [h4] at hos
  obtain ⟨pn,rfl⟩:∃ n:Nat,p=(n:Int):=⟨p.toNat,by omega⟩
  obtain ⟨en,rfl⟩:∃ n:Nat,e=(n:Int):=⟨e.toNat,by omega⟩
  obtain ⟨sn,rfl⟩:∃ n:Nat,s=(n:Int):=⟨s.toNat,by omega⟩
  obtain ⟨d,hd⟩:∃ d,2305843009213693950-en=d:=⟨_,rfl⟩
  have hsub:IntKind.i64.wrap ((2305843009213693950:Int)-(en:Int))=(d:Int):=by
   rw [show (2305843009213693950:Int)-(en:Int)=(d:Int) from by omega]
   exact IntWalk.i64_in _ ac
  have he1:=nu 37 sn ac
  have he2:=nu pn d ac
  obtain ⟨x1,hx1⟩:∃ x,expV 37 sn=x:=⟨_,rfl⟩
  obtain ⟨x2,hx2⟩:∃ x,expV pn d=x:=⟨_,rfl⟩
  rw [hx1] at he1
  rw [hx2] at he2
  have hmu:=q6 x1 x2
  obtain ⟨r,hr⟩:∃ r,x1*x2%2305843009213693951=r:=⟨_,rfl⟩
  have hrl:r<2305843009213693951:=by rw [←hr];exact Nat.mod_lt _ (by decide)
  rw [hr] at hmu
  have hch:=sy r pn msg ac ac hm
  have hV:verN (pn:Int) msg (en:Int) (sn:Int)=decide (((en:Nat):Int)=(chalN r pn msg:Nat)):=by
   rw [verN,hbad,cond_false,Int.toNat_natCast,Int.toNat_natCast,Int.toNat_natCast,hd,hx1,hx2,hr]
  rw [hV]
  have hbg:¬ (2305843009213693951:Int)≤(pn:Int):=h2
  have hbl:¬ (pn:Int)<1:=h1
  clear hbad hV hr hx1 hx2 hd
  generalize hcn:chalN r pn msg=cn at hch
  repeat' (first|refine aw ?_ (be false rfl rfl (decide_eq_false hbl))|refine aw ?_ (j4 false rfl rfl (decide_eq_false hbg))|(refine ag (hc:=hoe) ?_)|(refine ag (hc:=hos) ?_)|refine gs ?_|refine gs1 fun _=>?_|(refine gp ?_ ?_<;>intro hx_ this)|fail)
  rename_i bs
  (refine ao ⟨[0,1,3,4,5,6],[(2,⟨[],[(7,⟨[],[(8,⟨[9],[]⟩)]⟩)]⟩)]⟩ [cel bs 40 (Ef.cells ⟨(en:Int),(sn:Int)⟩)] Xg (h:=?_))
  all_goals repeat' (first|refine aJ (hy:=by first|(apply q7 (c:=(d:Int));rfl;rfl;exact hsub)) ?_|(refine ag (hc:=he1) (hX:=fun _ h=>by first|trivial|exact h) ?_)|(refine ag (hc:=he2) (hX:=fun _ h=>by first|trivial|exact h) ?_)|(refine ag (hc:=hmu) (hX:=fun _ h=>by first|trivial|exact h) ?_)|refine gd ?_|refine aF ?_ (h':=?_)|exact aG|refine gs1 fun _=>?_|(refine gq ?_ ?_<;>intro hx_ this)|fail)
  all_goals
   repeat' (first|refine gs ?_|refine gs1 fun _=>?_|(refine gp ?_ ?_<;>intro hx_ this)|fail)
   (refine ao ⟨[0,1,2,3,4],[(5,⟨[6,7],[]⟩)]⟩ [cel bs 40 (Ef.cells ⟨(en:Int),(sn:Int)⟩)] Xg (h:=?_))
   all_goals repeat' (first|(refine ag (hc:=hch) ?_)|refine gd ?_|refine aF ?_ (h':=?_)|exact aG|refine gs1 fun _=>?_|(refine gq ?_ ?_<;>intro hx_ this)|fail)
   all_goals
    repeat' (first|refine gs ?_|refine gs1 fun _=>?_|(refine gp ?_ ?_<;>intro hx_ this)|fail)
    exact ae (aj rfl rfl) rfl
namespace Sy
section
variable {P:Program} {N:Nat} {av bor:List Nat} {w0:World} {ops:Array Oper} {rest:List Oper} {E:Env} {loc:List Xl} {X:World→Prop} {k:St→Prop}
end
end Sy
def U8s (w:World) (s:Xi) (l:List Nat):Prop:=Xe w 1 s (l.map fun (n:Nat)=>[.int .u8 (n:Int)])
section
variable {P:Program} {N:Nat} {av bor:List Nat} {w0:World} {st:St} {ty:TypeId} {x y:Operand} {t t2:TypeId} {a b:Nat}
end
end Go.Proofs.YtgffbiobmamobaaGreatDoor
namespace Go.Proofs.YtgffbiobmamobaaGreatDoor.Sy
open Go Go.Proofs
section
variable {P:Program} {N:Nat} {av bor:List Nat} {w0:World} {st:St} {ty:TypeId} {x y:Operand} {t t2:TypeId}
variable {E:Env} {loc:List Xl} {X:World→Prop} {ops:Array Oper} {kk:St→Prop} {n:Nat} {pos:String} {af:Array Edge} {g:Option (Nat×Bool)} {rest:List Oper} {bb want:Bool} {K:Exit→St→Prop} {c:Code}
theorem cY {p:Prop} {r:Xl} (hm:r∈loc:=by exact aC) (hp:∀ w,r.F w→p) (h:p→Cw P N av bor w0 c ⟨E,loc,X⟩ K):Cw P N av bor w0 c ⟨E,loc,X⟩ K:=Cw.mk fun a w ok=>(h (hp w (ok.gam.here r hm).now)).run a w ok
theorem cG {w:World} {e size n c:Nat} {A:Option Addr} {xs:List Value} (h:ORow w e size (.slice A n c) n xs) (hn:0<n):A.isSome=true:=by
 rcases h.2 with ⟨h1,h2⟩|⟨g,cap,cur,fz,h1,hg,_⟩
 · omega
 · simp only [Value.slice.injEq] at h1
   obtain ⟨rfl,_⟩:=h1
   rfl
theorem eP {e size m i c:Nat} [h:Xs P t size] {A:Option Addr} {xs:List (List Value)} {cs:List Value} (hx:ev st.env x=some (elP A (i*size))) (hm:orow e size (.slice A m c) m xs.flatten∈st.loc) (hn:m=xs.length) (hs:∀ r∈xs,r.length=size) (hi:xs[i]?=some cs) :
  Yields P N av bor w0 st (.load t x) ty (.agg cs.toArray):=Sy.Yields.mk fun B w ok d pos af g=>by
 have hr:=aM (ok.gam.here _ hm).now hn hs
 obtain ⟨h1,hp,hc⟩:=Xe.row hr i cs hi
 obtain ⟨a,rfl⟩:=Option.isSome_iff_exists.1 hp
 have:=dc (P:=P) (t:=t) h.out (w:=w) (A:=a.add (i*size)) h1 (fun j v hj=>by rw [eL];exact (hc j v hj).2 a rfl)
 simp [execOp,ok.eval hx,elP,Instr.loadAt,Instr.sureAddr,this]
theorem lL (l vs:List Value) (o s M:Nat) (hv:vs.length=s) (h1:o+s≤M) (h2:M≤l.length):(l.take o++vs++l.drop (o+s)).take M=(l.take M).take o++vs++(l.take M).drop (o+s):=by
 have e1:(l.take o++vs).length=o+s:=by rw [List.length_append,List.length_take,hv];omega
 rw [List.take_append,e1,List.take_of_length_le ac,List.take_take,Nat.min_eq_left ac,List.drop_take]
theorem ip (l vs:List Value) (o s M:Nat) (hv:vs.length=s) (h1:o+s≤M) (hl:l.length=M):(l.take o++vs++l.drop (o+s)).length=M:=by
 simp only [List.length_append,List.length_take,List.length_drop,hv,hl]
 omega
theorem mL {d:Option Tmp} {loc':List Xl} {e size m i c:Nat} {A:Option Addr} {xs vs xs':List Value} {v:Value} (hsz:(P.info? t).map (·.size)=some size) (hx:ev E x=some (elP A (i*size)):=by rfl) (hy:ev E y=some v:=by rfl) (hv:v.cells.toList=vs) (h1:(vs.all (·.oneCell'))=true:=by rfl) (hvl:vs.length=size) (hi:i<m:=by omega)
  (hxs:xs.take (i*size)++vs++xs.drop (i*size+size)=xs') (hA:At (orow e size (.slice A m c) m xs) (orow e size (.slice A m c) m xs') loc loc':=by (repeat (first|exact At.here _|apply At.there))) (hg:gdB ops E g=some (bb,want):=by rfl) (hb:bb=want:=by exact ax) (hd:Sy.inB N d=true)
  (h:Sw P N av bor w0 ops rest ⟨putE E d undef,loc',X⟩ kk):Sw P N av bor w0 ops (⟨d,.store t x y,ty,pos,af,g⟩::rest) ⟨E,loc,X⟩ kk:=Sw.mk fun a w ok=>by
 have ho:ORow w e size (.slice A m c) m xs:=(ok.gam.here _ hA.mem).now
 rcases ho.2 with ⟨_,h0⟩|⟨b,cap,cur,fz,hs,hb',hnc,hcm,hcs,htake,hfz⟩
 · omega
 simp only [Value.slice.injEq] at hs
 obtain ⟨rfl,_,rfl⟩:=hs
 have hm1:i*size+size≤m*size:=by rw [←Nat.succ_mul];exact Nat.mul_le_mul_right _ hi
 have hm2:m*size≤cur.size:=by rw [hcs];exact Nat.mul_le_mul_right _ hnc
 have hst:=dt P b (i*size) e fz vs 0 cur w hb' hfz ac (by simpa using h1)
 have hadd:(⟨b,0,none⟩:Addr).add (i*size)=⟨b,i*size,none⟩:=by unfold Addr.add;split<;>simp_all
 simp only [wpList]
 rw [bt ok (o:=⟨d,.store t x y,ty,pos,af,g⟩) hg]
 subst hb
 simp only [beq_self_eq_true,if_true]
 left
 unfold Oper.wp
 have hs:v.cells.size=size:=by rw [←hvl,←hv];simp
 generalize hnew:(cur.toList.take (i*size)++vs++cur.toList.drop (i*size+size)).toArray=new at *
 have hr:(execOp a.eval ⟨d,.store t x y,ty,pos,af,g⟩).run P w=.ok .skip (w.setRow b new):=by
  simp only [Nat.add_zero,hvl,hnew] at hst
  simp [execOp,ok.eval (st:=⟨E,loc,X⟩) hx,ok.eval (st:=⟨E,loc,X⟩) hy,elP,hadd,Instr.storeAt,Instr.sureAddr,storeVar,run_sizeOf hsz,hs,hv,hst]
 rw [hr]
 have hsn:new.size=cur.size:=by
  rw [←hnew]
  simpa using ip cur.toList vs (i*size) size cur.size hvl ac (by simp)
 have ho':ORow (w.setRow b new) e size (.slice (some ⟨b,0,none⟩) m c) m xs':=by
  refine ⟨by rw [←hxs];exact ip xs vs (i*size) size (m*size) hvl hm1 ho.1,.inr ⟨b,c,new,fz,rfl,Go.setRow_heap w b cur new e fz hb',hnc,hcm,hsn.trans hcs,?_,by rw [hsn];exact hfz⟩⟩
  rw [←hnew,←hxs,←htake]
  exact lL cur.toList vs (i*size) size (m*size) hvl hm1 (by simpa using hm2)
 have ok':Ok N av bor w0 ⟨E,loc',X⟩ a (w.setRow b new):=(ok.via fun M G=>G.swap (hA.app M) rfl rfl rfl (by rw [Go.setRow_size];exact Nat.le_refl _) (fun j _ hj=>Go.setRow_other w b j new (by rintro rfl;exact hj (by simp [orow,Value.ownBlock]))) (by simp [orow,Value.ownBlock]) (fun j hj=>by
  have hj:j=b:=by simpa [orow,Value.ownBlock] using hj
  subst hj
  exact ⟨by rw [Go.setRow_size];exact (Array.getElem?_eq_some_iff.1 hb').1,.inl (by simp [orow,Value.ownBlock])⟩) (eX ho'))
 exact h.run _ _ (cW d _▸ok'.put hd _)
end
end Go.Proofs.YtgffbiobmamobaaGreatDoor.Sy
namespace Go.Proofs.YtgffbiobmamobaaGreatDoor
open Go Go.Proofs Sy
structure RowU (n:Nat) where
 k:Nat
 hk:k≤n
 A:Option Addr
 c:Nat
structure S8.Lt (s:S8):Prop where
 a:s.a<4294967296
 b:s.b<4294967296
 c:s.c<4294967296
 d:s.d<4294967296
 e:s.e<4294967296
 f:s.f<4294967296
 g:s.g<4294967296
 h:s.h<4294967296
theorem eqbB (a b:ByteArray):Xq.eqb a b=seqB a b:=Bool.eq_iff_iff.2 ((Xq.eqb_iff a b).trans seqB_iff.symm)
def postK (k:Int):Bool:=decide (k=1)||decide (k=2)||decide (k=3)
theorem bj (k:Int):Pu Tryz.prog 77 #[.int .i64 k] (fun _=>True) (.bool (postK k)):=by
 refine aq Tryz.func77 Tryz.ntmps77 fun av bor w0=>?_
 repeat' (first|refine gs ?_|(refine gp ?_ ?_<;>intro hx_ this)|fail)
 all_goals
  apply ae;apply aj;rfl;rfl
  simp only [postK, *,decide_true,decide_false,cond_true,cond_false,Bool.and_true,Bool.true_and,Bool.and_false,Bool.false_and,Bool.not_true,Bool.not_false,Bool.or_true,Bool.true_or,Bool.or_false,Bool.false_or]
def ChBox (c:Xa) (b:Nat) (w:World):Prop:=w.heap[b]?=some (.cells c.cells.toArray 65 (0,0))
theorem ChBox.cell {c:Xa} {b:Nat} {w:World} (h:ChBox c b w):∀ j v,c.cells[j]?=some v→w.cell? ⟨b,j,none⟩=some v:=fun j v hj=>by
 simp [World.cell?,show w.heap[b]?=_ from h,hj]
structure Xd where
 id:ByteArray
 author:ByteArray
 pos:Nat
 kind:Int
 scope:Int
 group:ByteArray
 to:Xi
 object:ByteArray
 time:Int
 ed:Xi
 gone:Bool
 toL:List ByteArray
 edL:List Int
def Xd.cells (p:Xd):List Value:=[.string p.id,.string p.author,.int .i64 (p.pos:Nat),.int .i64 p.kind,.int .i64 p.scope,.string p.group,p.to.v,.string p.object,.int .i64 p.time,p.ed.v,.bool p.gone]
def Xd.v (p:Xd):Value:=.agg p.cells.toArray
def Xd.zero:Xd:=⟨⟨#[]⟩,⟨#[]⟩,0,0,0,⟨#[]⟩,⟨none,0,0⟩,⟨#[]⟩,0,⟨none,0,0⟩,false,[],[]⟩
theorem cells11 (L:List Xd):∀ r∈L.map Xd.cells,r.length=11:=fun r hr=>by
 obtain ⟨c,_,rfl⟩:=List.mem_map.1 hr
 rfl
def edR (p:Xd):Xl:=orow 3 1 (.slice p.ed.p p.ed.n p.ed.c) p.ed.n (p.edL.map fun n=>.int .i64 n)
def Xd.can (p:Xd):Xd:={ p with to:=⟨none,0,0⟩,ed:=⟨none,0,0⟩ }
def newP (id:ByteArray) (i:Nat) (a:Xc):Xd:=⟨digV a,id,i,a.kind,a.scope,a.group,⟨none,0,0⟩,a.object,a.time,⟨none,0,0⟩,false,a.toL,[]⟩
def openF (c:Xa):Nat→List Xd
 | 0=>[]
 | i+1=>openF c i++(bif postK (c.actsL.getD i Xc.zero).kind then [newP c.id i (c.actsL.getD i Xc.zero)] else [])
def posP (P:List Xd) (j:Nat):Option Nat:=P.findIdx? fun p=>p.pos==j
def refV (l:List Xc) (P:List Xd) (i:Nat):Option Nat:=match idxV l (l.getD i Xc.zero).object with
 | some j=>bif decide (j<i) then posP P j else none
 | none=>none
def goneP (p:Xd):Xd:={ p with gone:=true }
def editB (a:Xc) (p:Xd):Bool:=!p.gone&&decide (a.scope=p.scope)&&seqB a.group p.group&&eqL a.toL p.toL
def editP (a:Xc) (i:Nat) (p:Xd):Xd:=bif editB a p then { p with edL:=p.edL++[(i:Int)] } else p
def modP (P:List Xd) (o:Option Nat) (f:Xd→Xd):List Xd:=match o with
 | some n=>P.set n (f (P.getD n Xd.zero))
 | none=>P
def stepP (l:List Xc) (i:Nat) (P:List Xd):List Xd :=
 bif decide ((l.getD i Xc.zero).kind=13) then modP P (refV l P i) goneP else bif decide ((l.getD i Xc.zero).kind=14) then modP P (refV l P i) (editP (l.getD i Xc.zero) i) else P
def ofP (c:Xa):Nat→List Xd
 | 0=>openF c c.actsL.length
 | i+1=>stepP c.actsL i (ofP c i)
def postsV (c:Xa):List Xd:=ofP c c.actsL.length
theorem wa (P:List Xd) (j:Nat):posP (P.map Xd.can) j=posP P j:=by
 rw [posP,posP,List.findIdx?_map]
 rfl
theorem om (l:List Xc) (P:List Xd) (i:Nat):refV l (P.map Xd.can) i=refV l P i:=by
 rw [refV,refV]
 cases idxV l (l.getD i Xc.zero).object with
 | none=>rfl
 | some j=>simp only [wa]
theorem tP (P:List Xd) (n:Nat):(P.map Xd.can).getD n Xd.zero=(P.getD n Xd.zero).can:=by
 rw [List.getD_eq_getElem?_getD,List.getD_eq_getElem?_getD,List.getElem?_map]
 cases P[n]?<;>rfl
theorem iY (c:Xa):∀ i,(openF c i).length≤i
 | 0=>Nat.le_refl _
 | i+1=>by
  have ih:=iY c i
  rw [openF,List.length_append]
  cases postK (c.actsL.getD i Xc.zero).kind with
  | true=>simp only [cond_true,List.length_singleton];omega
  | false=>simp only [cond_false,List.length_nil];omega
theorem yH {P:List Xd} {j n:Nat} (h:posP P j=some n):n<P.length:=by
 rw [posP,List.findIdx?_eq_some_iff_getElem] at h
 exact h.1
theorem l0 (c:Xa):∀ i,∀ p∈openF c i,p.pos<i
 | 0,p,h=>(List.not_mem_nil h).elim
 | i+1,p,h=>by
  rw [openF] at h
  rcases List.mem_append.1 h with h|h
  · have:=l0 c i p h
    omega
  · revert h
    cases postK (c.actsL.getD i Xc.zero).kind with
    | true=>intro h;rw [cond_true,List.mem_singleton] at h;subst h;exact Nat.lt_succ_self i
    | false=>intro h;exact (List.not_mem_nil h).elim
theorem gY {κ β:Type} [Xq κ]:∀ (b:List (κ×β)) (k a:κ) (v:β),mget (mput b k v) a=bif Xq.eqb a k then some v else mget b a
 | [],k,a,v=>rfl
 | (k',v')::r,k,a,v=>by
  have ih:=gY r k a v
  simp only [mput]
  cases hk:Xq.eqb k k' with
  | true =>
   obtain rfl:=(Xq.eqb_iff k k').1 hk
   simp only [cond_true,mget]
   cases Xq.eqb a k<;>rfl
  | false =>
   simp only [cond_false,mget,ih]
   cases ha:Xq.eqb a k' with
   | true =>
    obtain rfl:=(Xq.eqb_iff a k').1 ha
    have hne:Xq.eqb a k=false:=by
     rw [←Bool.not_eq_true]
     intro e
     rw [(Xq.eqb_iff a k).1 e,(Xq.eqb_iff k k).2 rfl] at hk
     cases hk
    rw [hne]
    rfl
   | false=>rfl
theorem tL {l:List Xc} {k:Nat} {x:Xc} (hx:l[k]?=some x) (d:ByteArray):idxV (l.take (k+1)) d=(idxV (l.take k) d).or (bif seqB (digV x) d then some k else none):=by
 have hk:k<l.length:=(List.getElem?_eq_some_iff.1 hx).1
 have hl:(l.take k).length=k:=by rw [List.length_take];omega
 rw [idxV,idxV,List.take_add_one,hx,Option.toList_some,List.findIdx?_append,hl]
 congr 1
 rw [List.findIdx?_singleton]
 cases seqB (digV x) d with
 | true=>simp
 | false=>simp
theorem oo (P:List Xd) (p:Xd) (j:Nat):posP (P++[p]) j=(posP P j).or (bif p.pos==j then some P.length else none):=by
 rw [posP,posP,List.findIdx?_append]
 congr 1
 rw [List.findIdx?_singleton]
 cases p.pos==j with
 | true=>simp
 | false=>simp
theorem tp {P:List Xd} {j:Nat} (h:∀ p∈P,p.pos≠j):posP P j=none:=by
 rw [posP,List.findIdx?_eq_none_iff]
 intro p hp
 simpa using h p hp
theorem eqbI (a b:Int):Xq.eqb a b=decide (a=b):=rfl
end Go.Proofs.YtgffbiobmamobaaGreatDoor
namespace Go.Proofs.YtgffbiobmamobaaGreatDoor
open Go Go.Proofs Sy
abbrev postR (s:Xi) (P:List Xd):Xl:=orow 116 11 (.slice s.p s.n s.c) s.n (P.map Xd.cells).flatten
theorem dV:∀ (L:List Xd) (p:Nat) (x:Xd),p<L.length→(L.map Xd.cells).flatten.take (p*11)++x.cells++(L.map Xd.cells).flatten.drop (p*11+11)=((L.set p x).map Xd.cells).flatten
 | [],p,x,h=>absurd h (by simp)
 | c::L,0,x,h=>by
  have h6:c.cells.length=11:=rfl
  rw [List.set_cons_zero,List.map_cons,List.map_cons,List.flatten_cons,List.flatten_cons,Nat.zero_mul,Nat.zero_add,List.take_zero,List.nil_append,List.drop_append,h6,List.drop_of_length_le (by omega)]
  rfl
 | c::L,p+1,x,h=>by
  have h6:c.cells.length=11:=rfl
  have ih:=dV L p x (by simpa using h)
  rw [List.set_cons_succ,List.map_cons,List.map_cons,List.flatten_cons,List.flatten_cons,←ih,List.take_append,List.drop_append,h6,List.take_of_length_le ac,List.drop_of_length_le ac,
   show (p+1)*11-11=p*11 from by omega,show (p+1)*11+11-11=p*11+11 from by omega,List.nil_append,List.append_assoc,List.append_assoc,List.append_assoc]
theorem eM {P:List Xd} {i j:Nat} {x y:Xd} (hi:P[i]?=some x) (hj:P[j]?=some y):((P.set i y).set j x).Perm P:=by
 obtain ⟨h1,rfl⟩:=List.getElem?_eq_some_iff.1 hi
 obtain ⟨h2,rfl⟩:=List.getElem?_eq_some_iff.1 hj
 exact List.set_set_perm h1 h2
namespace Sy
section
variable {N:Nat} {av bor:List Nat} {w0:World} {st:St} {ty:TypeId} {x y:Operand} {E:Env} {loc:List Xl} {X:World→Prop} {ops:Array Oper} {kk:St→Prop} {pos:String} {af:Array Edge} {g:Option (Nat×Bool)} {rest:List Oper} {bb want:Bool}
theorem dB {A:Option Addr} {m c i:Nat} {P:List Xd} {p:Xd} (hx:ev st.env x=some (elP A (i*11))) (hm:orow 116 11 (.slice A m c) m (P.map Xd.cells).flatten∈st.loc) (hn:m=P.length) (hi:P[i]?=some p) :
  Yields Tryz.prog N av bor w0 st (.load 116 x) ty p.v:=eP (xs:=P.map Xd.cells) (cs:=p.cells) hx hm (by simp [hn]) (cells11 P) (by simp [hi])
theorem eT {d:Option Tmp} {loc':List Xl} {A:Option Addr} {m c i:Nat} {P:List Xd} {p:Xd} (hx:ev E x=some (elP A (i*11)):=by rfl) (hy:ev E y=some p.v:=by rfl) (hi:i<m:=by omega) (hn:m=P.length)
  (hA:At (orow 116 11 (.slice A m c) m (P.map Xd.cells).flatten) (orow 116 11 (.slice A m c) m ((P.set i p).map Xd.cells).flatten) loc loc':=by (repeat (first|exact At.here _|apply At.there))) (hg:gdB ops E g=some (bb,want):=by rfl) (hb:bb=want:=by exact ax) (hd:inB N d=true:=by rfl)
  (h:Sw Tryz.prog N av bor w0 ops rest ⟨putE E d undef,loc',X⟩ kk):Sw Tryz.prog N av bor w0 ops (⟨d,.store 116 x y,ty,pos,af,g⟩::rest) ⟨E,loc,X⟩ kk :=
 mL (i:=i) (size:=11) (vs:=p.cells) ai hx hy rfl rfl rfl hi (dV P i p ac) hA hg hb hd h
variable {n:Nat} {t t2:TypeId}
theorem db [hI:Xu Tryz.prog t .i64] {p q:Nat} (h:Sw Tryz.prog N av bor w0 ops rest ⟨(n,.int .i64 ((p+q:Nat):Int))::E,loc,X⟩ kk) (hx:ev E x=some (.int .i64 (p:Nat)):=by rfl) (hy:ev E y=some (.int .i64 (q:Nat)):=by rfl) (hq:p+q<9223372036854775808) (hg:gdB ops E g=some (bb,want):=by rfl) (hbb:bb=want:=by exact ax) (hd:Nat.blt n N=true:=by rfl) :
  Sw Tryz.prog N av bor w0 ops (⟨some n,.binOp .add t x y t2,ty,pos,af,g⟩::rest) ⟨E,loc,X⟩ kk:=bN (c:=((p+q:Nat):Int)) hx hy (by rw [←Int.natCast_add];exact IntWalk.i64_in _ ac) hg hbb hd h
theorem dP [hI:Xu Tryz.prog t .i64] {p q:Nat} (h:Sw Tryz.prog N av bor w0 ops rest ⟨(n,.int .i64 ((p-q:Nat):Int))::E,loc,X⟩ kk) (hx:ev E x=some (.int .i64 (p:Nat)):=by rfl) (hy:ev E y=some (.int .i64 (q:Nat)):=by rfl) (hq:q≤p∧p<9223372036854775808) (hg:gdB ops E g=some (bb,want):=by rfl) (hbb:bb=want:=by exact ax) (hd:Nat.blt n N=true:=by rfl) :
  Sw Tryz.prog N av bor w0 ops (⟨some n,.binOp .sub t x y t2,ty,pos,af,g⟩::rest) ⟨E,loc,X⟩ kk:=fw (c:=((p-q:Nat):Int)) hx hy (by rw [show (p:Int)-(q:Int)=((p-q:Nat):Int) by omega];exact IntWalk.i64_in _ ac) hg hbb hd h
end
end Sy
def PermAt (s:Xi) (P:List Xd) (u:Value) (R:List Xl) (X:World→Prop):Prop:=u=.tuple #[]∧∃ Q:List Xd,Q.Perm P∧R=[postR s Q]
structure PermI (P:List Xd) (n:Nat) where
 k:Nat
 hk:k≤n
 Q:List Xd
 hQ:Q.Perm P
theorem fO (s:Xi) (P:List Xd) (a b n:Nat) (fv:Value) (hs:s.n=P.length) (hm:s.n≤1000000) (ha:a+n≤s.n) (hb:b+n≤s.n) :
  Ct Tryz.prog 192 #[s.v,.int .i64 (a:Nat),.int .i64 (b:Nat),.int .i64 (n:Nat),fv] [postR s P] (fun _=>True) (PermAt s P):=by
 refine dZ Tryz.func192 Tryz.ntmps192 fun av bor w0=>?_
 refine cY (r:=postR s P) ay (p:=0<s.n→s.p.isSome=true) (fun w h hn=>cG h hn) fun hp=>?_
 repeat' (first|refine gs ?_|fail)
 refine az (ι:=PermI P n) (fun i=>⟨[(0,s.v),(1,.int .i64 (a:Nat)),(2,.int .i64 (b:Nat)),(3,.int .i64 (n:Nat)),(10,.int .i64 (i.k:Nat))],[postR s i.Q],fun _=>True⟩) (fun i=>n-i.k) ⟨0,Nat.zero_le _,P,List.Perm.refl _⟩ (ak an (al _) fun _ h=>h) fun i=>?_
 obtain ⟨k,hk,Q,hQ⟩:=i
 simp only
 have hl:=hQ.length_eq
 repeat' (first|refine gs ?_|(refine gp ?_ ?_<;>intro hx_ this)|fail)
 · have hlt:k<n:=by omega
   have hp':=hp ac
   obtain ⟨x,hx⟩:∃ x,Q[a+k]?=some x:=⟨_,List.getElem?_eq_getElem ac⟩
   obtain ⟨y,hy⟩:∃ y,Q[b+k]?=some y:=⟨_,List.getElem?_eq_getElem ac⟩
   (refine ao ⟨[0,1,2,3,4,5,6,7,8,9,10,11,12,14,15,16,17,18],[(13,⟨[],[(19,⟨[20],[(21,⟨[22],[(23,⟨[],[]⟩)]⟩)]⟩)]⟩),(19,⟨[],[(13,⟨[20],[(21,⟨[22],[(23,⟨[],[]⟩)]⟩)]⟩)]⟩)]⟩ [] (fun _=>True) (h:=?_))
   all_goals repeat' (first|refine gd ?_|refine aJ (hy:=by first|(apply bk (q:=(a+k)*11);rfl;rfl;omega;omega;assumption;(first|rfl|omega))|(apply bk (q:=(b+k)*11);rfl;rfl;omega;omega;assumption;(first|rfl|omega))) ?_|refine aF ?_ (h':=?_)|exact aG|(refine am (dB (i:=a+k) (P:=Q) rfl ay ac hx) rfl rfl rfl ?_)|(refine am (dB (i:=b+k) (P:=Q) rfl ay ac hy) rfl rfl rfl ?_)|((refine eT (i:=a+k) (p:=y) rfl rfl ac (by first|omega|(simp only [List.length_set];omega)) (At.here _) rfl ax rfl ?_))|((refine eT (i:=b+k) (p:=x) rfl rfl ac (by first|omega|(simp only [List.length_set];omega)) (At.here _) rfl ax rfl ?_))|(refine gq ?_ ?_<;>intro hx_ this)|fail)
   all_goals
    repeat' (first|refine gs ?_|(refine gp ?_ ?_<;>intro hx_ this)|fail)
    exact ⟨(⟨k+1,hlt,(Q.set (a+k) y).set (b+k) x,(eM hx hy).trans hQ⟩:PermI P n),(by show n-(k+1)<n-k;omega),ak an (al _) fun _ h=>h⟩
 · exact br (aS rfl) ⟨rfl,Q,hQ,rfl⟩
section
variable {N:Nat} {av bor:List Nat} {w0:World} {ops:Array Oper} {rest:List Oper} {k:St→Prop} {E:Env} {X:World→Prop} {d:Option Tmp} {ty:TypeId} {pos:String} {af:Array Edge} {g:Option (Nat×Bool)} {bb want:Bool}
theorem fF {x:Operand} {xs:List Operand} {ats:Array TypeId} {f:FuncId} {args:List Value} {s:Xi} {Q:List Xd}
  (hx:ev E x=some (.func (.func f) #[] #[]):=by rfl) (ha:evs E xs=some args:=by rfl) (hg:gdB ops E g=some (bb,want):=by rfl) (hb:bb=want:=by exact ax) (hd:inB N d=true:=by rfl) (hf:Eb Tryz.prog f:=by first|infer_instance|exact ⟨ai⟩)
  (hc:Ct Tryz.prog f args.toArray [postR s Q] (fun _=>True) (PermAt s Q))
  (h:∀ Q':List Xd,Q'.Perm Q→Sw Tryz.prog N av bor w0 ops rest ⟨putE E d (.tuple #[]),[postR s Q'],X⟩ k) :
  Sw Tryz.prog N av bor w0 ops (⟨d,.call ⟨.value x,xs.toArray,ats⟩,ty,pos,af,g⟩::rest) ⟨E,[postR s Q],X⟩ k :=
 ci (pre:=[postR s Q]) (fr:=[]) (first:=#[]) (caps:=#[]) (Post:=PermAt s Q) hx ha rfl hg hb hd hf (by simpa using hc) (fun _ _=>trivial) fun u R X' ⟨h1,Q',h2,h3⟩=>by
  subst h1
  subst h3
  refine rr (fun a w ok=>?_) (h Q' h2)
  exact ok.via fun M G=>G.imp fun _ h=>h.1
end
structure RotI (P:List Xd) (p q:Nat) where
 i:Nat
 j:Nat
 h1:1≤i
 h2:i≤p
 h3:1≤j
 h4:j≤q
 Q:List Xd
 hQ:Q.Perm P
theorem tj (s:Xi) (P:List Xd) (a m b:Nat) (fv:Value) (hs:s.n=P.length) (hm:s.n≤1000000) (ha:a<m) (hb:m<b) (hbs:b≤s.n) :
  Ct Tryz.prog 173 #[s.v,.int .i64 (a:Nat),.int .i64 (m:Nat),.int .i64 (b:Nat),fv] [postR s P] (fun _=>True) (PermAt s P):=by
 refine dZ Tryz.func173 Tryz.ntmps173 fun av bor w0=>?_
 repeat' (first|refine dP (hq:=by omega) ?_|refine gs ?_|(refine gp ?_ ?_<;>intro hx_ this)|fail)
 refine az (ι:=RotI P (m-a) (b-m)) (fun r=>⟨[(0,s.v),(2,.int .i64 (m:Nat)),(4,fv),(10,.int .i64 (r.i:Nat)),(11,.int .i64 (r.j:Nat))],[postR s r.Q],fun _=>True⟩) (fun r=>r.i+r.j) ⟨m-a,b-m,by omega,by omega,by omega,by omega,P,List.Perm.refl _⟩ (ak an (al _) fun _ h=>h) fun r=>?_
 obtain ⟨i,j,h1,h2,h3,h4,Q,hQ⟩:=r
 simp only
 have hl:=hQ.length_eq
 by_cases hij:i=j
 · repeat' (first|refine il ?_|refine dP (hq:=by omega) ?_|refine gs ?_|(refine fF (hc:=fO s Q (m-i) m i fv ac hm ac ac) (h:=fun Q2 hQ2=>?_))|(refine gp ?_ ?_<;>intro hx_ this)|fail)
   exact br (aS rfl) ⟨rfl,Q2,hQ2.trans hQ,rfl⟩
 · repeat' (first|refine dP (hq:=by omega) ?_|refine db (hq:=by omega) ?_|refine gs ?_|(refine fF (hc:=fO s Q (m-i) m j fv ac hm ac ac) (h:=fun Q2 hQ2=>?_))|(refine fF (hc:=fO s Q (m-i) (m+j-i) i fv ac hm ac ac) (h:=fun Q2 hQ2=>?_))|(refine gp ?_ ?_<;>intro hx_ this)|fail)
   · exact ⟨(⟨i-j,j,by omega,by omega,h3,h4,Q2,hQ2.trans hQ⟩:RotI P (m-a) (b-m)),(by show i-j+j<i+j;omega),ak an (al _) fun _ h=>h⟩
   · exact ⟨(⟨i,j-i,h1,h2,by omega,by omega,Q2,hQ2.trans hQ⟩:RotI P (m-a) (b-m)),(by show i+(j-i)<i+j;omega),ak an (al _) fun _ h=>h⟩
   · have h9:(i:Int)=(j:Int):=by simpa using hx_
     exact absurd (show i=j by omega) hij
def cmpB (x y:ByteArray):Int:=bif Op.bytesLess x.toList y.toList then -1 else bif !(Op.bytesLess x.toList y.toList||seqB x y) then 1 else 0
theorem wB (x:ByteArray):Pu Tryz.prog 86 #[.string x] (fun _=>True) (.bool false):=by
 refine aq Tryz.func86 Tryz.ntmps86 fun av bor w0=>?_
 have h:=c8 x
 repeat' (first|refine gs ?_|(refine gp ?_ ?_<;>intro hx_ this)|fail)
 apply ae;apply aj;rfl;rfl
 rw [h]
 rfl
theorem qU (x y:ByteArray):Pu Tryz.prog 48 #[.string x,.string y] (fun _=>True) (.int .i64 (cmpB x y)):=by
 refine aq Tryz.func48 Tryz.ntmps48 fun av bor w0=>?_
 repeat' (first|refine ag (hc:=wB _) ?_|refine gs ?_|(refine rl ?_)|(refine rm ?_)|(refine gp ?_ ?_<;>intro hx_ this)|fail)
 (all_goals (apply ae;apply aj;rfl;rfl));all_goals first|rfl|(simp only [cmpB, *,decide_true,decide_false,cond_true,cond_false,Bool.and_true,Bool.true_and,Bool.and_false,Bool.false_and,Bool.not_true,Bool.not_false,Bool.or_true,Bool.true_or,Bool.or_false,Bool.false_or];done)|(simp_all [cmpB];done)
theorem jg (x y:Xd):Pu Tryz.prog 47 #[x.v,y.v] (fun _=>True) (.int .i64 (cmpB x.id y.id)):=by
 refine aq Tryz.func47 Tryz.ntmps47 fun av bor w0=>?_
 have h:=qU x.id y.id
 generalize cmpB x.id y.id=k at *
 repeat' (first|(refine ag (hc:=h) ?_)|refine gs ?_|refine gs1 fun _=>?_|(refine gp ?_ ?_<;>intro hx_ this)|fail)
 exact ae (aj rfl rfl) rfl
def cmpF:Value:=.func (.func 47) #[] #[]
end Go.Proofs.YtgffbiobmamobaaGreatDoor
namespace Go.Proofs.YtgffbiobmamobaaGreatDoor
open Go Go.Proofs Sy
instance:TyMap Tryz.prog 158 3 (keyD Int):=⟨ai⟩
instance:TyMap Tryz.prog 159 3 (keyD ByteArray):=⟨ai⟩
structure RegI (c:Xa) where
 k:Nat
 hk:k≤c.actsL.length
 P:List Xd
 hP:P.map Xd.can=openF c k
 hz:∀ p∈P,p.ed=⟨none,0,0⟩∧p.edL=[]
 pl:List (ByteArray×Value)
 hpl:∀ d,mget pl d=(idxV (c.actsL.take k) d).map fun (j:Nat)=>Value.int .i64 (j:Int)
 num:List (Int×Value)
 hnum:∀ j:Nat,mget num (j:Int)=(posP P j).map fun (n:Nat)=>Value.int .i64 (n:Int)
 n:Nat
 hn:n=P.length
 xs:List Value
 hxs:xs=(P.map Xd.cells).flatten
 A:Option Addr
 cp:Nat
def RegI.s {c:Xa} (r:RegI c):Xi:=⟨r.A,r.n,r.cp⟩
def regC (c:Xa) (u:Value) (q1 q2:Nat):List Value:=c.cells++[u,.map (some q1),.map (some q2)]
def RegAt (c:Xa) (u:Value) (R:List Xl) (X:World→Prop):Prop:=∃ (r:RegI c) (b b1 q1 q2:Nat),r.k=c.actsL.length∧u=.pointer (some ⟨b,0,none⟩)∧R=[cel b 161 (regC c r.s.v q1 q2),mapr q2 r.pl,mapr q1 r.num,cel b1 65 c.cells,postR r.s r.P]∧∀ w,X w→∀ p∈r.P,Strs w p.to p.toL
end Go.Proofs.YtgffbiobmamobaaGreatDoor
namespace Go.Proofs.YtgffbiobmamobaaGreatDoor
open Go Go.Proofs Sy
theorem gS:∀ (L:List Xd) (n j:Nat) (p p':Xd) (v:Value),L[n]?=some p→j<11→p'.cells=p.cells.take j++[v]++p.cells.drop (j+1)→(L.map Xd.cells).flatten.take (n*11+j)++[v]++(L.map Xd.cells).flatten.drop (n*11+j+1)=((L.set n p').map Xd.cells).flatten
 | [],n,j,p,p',v,h,_,_=>by simp at h
 | c::L,0,j,p,p',v,h,hj,hc=>by
  have h6:c.cells.length=11:=rfl
  obtain rfl:c=p:=by simpa using h
  rw [List.set_cons_zero,List.map_cons,List.map_cons,List.flatten_cons,List.flatten_cons,Nat.zero_mul,Nat.zero_add,List.take_append_of_le_length ac,List.drop_append_of_le_length ac,hc,List.append_assoc,List.append_assoc,List.append_assoc]
 | c::L,n+1,j,p,p',v,h,hj,hc=>by
  have h6:c.cells.length=11:=rfl
  have ih:=gS L n j p p' v (by simpa using h) hj hc
  rw [List.set_cons_succ,List.map_cons,List.map_cons,List.flatten_cons,List.flatten_cons,←ih,List.take_append,List.drop_append,h6,List.take_of_length_le ac,List.drop_of_length_le ac,
   show (n+1)*11+j-11=n*11+j from by omega,show (n+1)*11+j+1-11=n*11+j+1 from by omega,List.nil_append,List.append_assoc,List.append_assoc,List.append_assoc]
namespace Sy
section
variable {N:Nat} {av bor:List Nat} {w0:World} {st:St} {ty:TypeId} {x y:Operand} {E:Env} {loc:List Xl} {X:World→Prop} {ops:Array Oper} {kk:St→Prop} {pos:String} {af:Array Edge} {g:Option (Nat×Bool)} {rest:List Oper} {bb want:Bool} {t:TypeId}
theorem iN {A:Option Addr} {q:Nat} {ad:Addr} (hx:ev st.env x=some (elP A q)) (hp:A=some ad):Yields Tryz.prog N av bor w0 st (.nilCheck x) ty (elP A q):=by
 subst hp
 exact fM (a:=ad.add q) hx
theorem mH {n:Nat} {A:Option Addr} {q:Nat} {ad:Addr} (h:Sw Tryz.prog N av bor w0 ops rest ⟨(n,elP A q)::E,loc,X⟩ kk) (hx:ev E x=some (elP A q):=by rfl) (hp:A=some ad) (hg:gdB ops E g=some (bb,want):=by rfl) (hbb:bb=want:=by exact ax) (hd:Nat.blt n N=true:=by rfl) :
  Sw Tryz.prog N av bor w0 ops (⟨some n,.nilCheck x,ty,pos,af,g⟩::rest) ⟨E,loc,X⟩ kk:=am (iN hx hp) hg hbb hd h
theorem dH [h:Xv Tryz.prog t] {A:Option Addr} {m c i j:Nat} {P:List Xd} {p:Xd} {u:Value} (hx:ev st.env x=some (elP A (i*11+j))) (hm:orow 116 11 (.slice A m c) m (P.map Xd.cells).flatten∈st.loc) (hn:m=P.length) (hi:P[i]?=some p) (hj:p.cells[j]?=some u) :
  Yields Tryz.prog N av bor w0 st (.load t x) ty u:=Sy.Yields.mk fun B w ok d pos af g=>by
 have hr:=aM (ok.gam.here _ hm).now (by simp [hn]) (cells11 P)
 obtain ⟨h1,hp,hc⟩:=Xe.row hr i p.cells (by simp [hi])
 obtain ⟨a,rfl⟩:=Option.isSome_iff_exists.1 hp
 simp [execOp,ok.eval hx,elP,Instr.loadAt,Instr.sureAddr,loadVar,(bI h.out w).1,(hc j u hj).2 a rfl]
theorem Aj {P:Program} {d:Option Tmp} {loc':List Xl} {e size m q c:Nat} {A:Option Addr} {xs xs':List Value} {v:Value} (hsz:(P.info? t).map (·.size)=some 1) (hx:ev E x=some (elP A q):=by rfl) (hy:ev E y=some v:=by rfl) (hv:v.cells.toList=[v]) (h1:v.oneCell'=true:=by rfl) (hq:q<m*size)
  (hxs:xs.take q++[v]++xs.drop (q+1)=xs') (hA:At (orow e size (.slice A m c) m xs) (orow e size (.slice A m c) m xs') loc loc':=by (repeat (first|exact At.here _|apply At.there))) (hg:gdB ops E g=some (bb,want):=by rfl) (hb:bb=want:=by exact ax) (hd:inB N d=true:=by rfl)
  (h:Sw P N av bor w0 ops rest ⟨putE E d undef,loc',X⟩ kk):Sw P N av bor w0 ops (⟨d,.store t x y,ty,pos,af,g⟩::rest) ⟨E,loc,X⟩ kk:=Sw.mk fun a w ok=>by
 have ho:ORow w e size (.slice A m c) m xs:=(ok.gam.here _ hA.mem).now
 rcases ho.2 with ⟨_,h0⟩|⟨b,cap,cur,fz,hs,hb',hnc,hcm,hcs,htake,hfz⟩
 · rw [h0] at hq
   omega
 simp only [Value.slice.injEq] at hs
 obtain ⟨rfl,_,rfl⟩:=hs
 have hm2:m*size≤cur.size:=by rw [hcs];exact Nat.mul_le_mul_right _ hnc
 have hst:=dt P b q e fz [v] 0 cur w hb' hfz (by simp;omega) (by simpa using h1)
 have hadd:(⟨b,0,none⟩:Addr).add q=⟨b,q,none⟩:=by unfold Addr.add;split<;>simp_all
 simp only [wpList]
 rw [bt ok (o:=⟨d,.store t x y,ty,pos,af,g⟩) hg]
 subst hb
 simp only [beq_self_eq_true,if_true]
 left
 unfold Oper.wp
 have hs:v.cells.size=1:=by have:=congrArg List.length hv;simpa using this
 generalize hnew:(cur.toList.take q++[v]++cur.toList.drop (q+1)).toArray=new at *
 have hr:(execOp a.eval ⟨d,.store t x y,ty,pos,af,g⟩).run P w=.ok .skip (w.setRow b new):=by
  try simp only [Nat.add_zero,List.length_singleton,hnew] at hst
  simp [execOp,ok.eval (st:=⟨E,loc,X⟩) hx,ok.eval (st:=⟨E,loc,X⟩) hy,elP,hadd,Instr.storeAt,Instr.sureAddr,storeVar,run_sizeOf hsz,hs,hv,hst]
 rw [hr]
 have hsn:new.size=cur.size:=by
  rw [←hnew]
  simpa using ip cur.toList [v] q 1 cur.size rfl ac (by simp)
 have ho':ORow (w.setRow b new) e size (.slice (some ⟨b,0,none⟩) m c) m xs':=by
  refine ⟨by rw [←hxs];exact ip xs [v] q 1 (m*size) rfl ac ho.1,.inr ⟨b,c,new,fz,rfl,Go.setRow_heap w b cur new e fz hb',hnc,hcm,hsn.trans hcs,?_,by rw [hsn];exact hfz⟩⟩
  rw [←hnew,←hxs,←htake]
  exact lL cur.toList [v] q 1 (m*size) rfl ac (by simpa using hm2)
 have ok':Ok N av bor w0 ⟨E,loc',X⟩ a (w.setRow b new):=(ok.via fun M G=>G.swap (hA.app M) rfl rfl rfl (by rw [Go.setRow_size];exact Nat.le_refl _) (fun j _ hj=>Go.setRow_other w b j new (by rintro rfl;exact hj (by simp [orow,Value.ownBlock]))) (by simp [orow,Value.ownBlock]) (fun j hj=>by
  have hj:j=b:=by simpa [orow,Value.ownBlock] using hj
  subst hj
  exact ⟨by rw [Go.setRow_size];exact (Array.getElem?_eq_some_iff.1 hb').1,.inl (by simp [orow,Value.ownBlock])⟩) (eX ho'))
 exact h.run _ _ (cW d _▸ok'.put hd _)
theorem rs {d:Option Tmp} {loc':List Xl} {A:Option Addr} {m c i j:Nat} {P:List Xd} (p':Xd) {p:Xd} {v:Value} (hi:P[i]?=some p) (hj:j<11) (hc:p'.cells=p.cells.take j++[v]++p.cells.drop (j+1)) (hn:m=P.length) (hsz:(Tryz.prog.info? t).map (·.size)=some 1) (hx:ev E x=some (elP A (i*11+j)):=by rfl) (hy:ev E y=some v:=by rfl) (hv:v.cells.toList=[v]) (h1:v.oneCell'=true:=by rfl)
  (hA:At (orow 116 11 (.slice A m c) m (P.map Xd.cells).flatten) (orow 116 11 (.slice A m c) m ((P.set i p').map Xd.cells).flatten) loc loc':=by (repeat (first|exact At.here _|apply At.there))) (hg:gdB ops E g=some (bb,want):=by rfl) (hb:bb=want:=by exact ax) (hd:inB N d=true:=by rfl)
  (h:Sw Tryz.prog N av bor w0 ops rest ⟨putE E d undef,loc',X⟩ kk):Sw Tryz.prog N av bor w0 ops (⟨d,.store t x y,ty,pos,af,g⟩::rest) ⟨E,loc,X⟩ kk:=by
 have hil:=(List.getElem?_eq_some_iff.1 hi).1
 exact Aj hsz hx hy hv h1 ac (gS P i j p p' v hi hj hc) hA hg hb hd h
end
end Sy
end Go.Proofs.YtgffbiobmamobaaGreatDoor
