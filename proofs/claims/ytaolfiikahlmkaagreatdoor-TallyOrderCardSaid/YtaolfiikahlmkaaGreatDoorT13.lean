/- Joined. -/
import Derived.Test.YtaolfiikahlmkaaGreatDoorT12
set_option linter.unusedVariables false
set_option linter.unusedSimpArgs false
set_option maxHeartbeats 16000000
namespace Go.Proofs.YtaolfiikahlmkaaGreatDoor
open Go Go.Proofs Sy Tryz
theorem cS (x:ByteArray) (l:List ByteArray):textsV (x::l)=textV x++textsV l:=rfl
theorem dc:textsV []=ByteArray.empty:=rfl
theorem dJ (x:Int) (l:List Int):numsV (x::l)=numV x++numsV l:=rfl
theorem er:numsV []=ByteArray.empty:=rfl
structure Xg.Sm (c:Xg):Prop where
 actor:c.actor.size≤1000000
 prev:c.prev.size≤1000000
structure Xh.Sm (c:Xh):Prop where
 actor:c.actor.size≤1000000
 claim:c.claim.size≤1000000
structure Xu.Sm (c:Xu):Prop where
 actor:c.actor.size≤1000000
 object:c.object.size≤1000000
 text:c.text.size≤1000000
 to:(listV c.toL).size≤1000000
theorem pS (c:Xg) (hl:c.Lt) (hs:c.Sm):Pu prog 158 #[c.v] (fun _=>True) (.string (coreCl c)):=by
 refine aw func158 ntmps158 fun av bor w0=>?_
 have h1:=hs.actor
 have h2:=hs.prev
 have s1:=az c.actor
 have s2:=az c.prev
 have n1:=ap c.base
 have n2:=ap c.gen
 have n3:=ap c.home
 have n4:=ap c.pub
 have n5:=ap c.time
 obtain ⟨i1,i2,i3,i4,i5,_,_⟩:=hl
 repeat' (first|refine gs ?_|refine gs1 fun _=>?_|fail)
 (refine aW ⟨[0,1,3,4,7,8,11,12,15,16,19,20,23,24],[(2,⟨[],[(5,⟨[6],[(9,⟨[10],[(13,⟨[14],[(17,⟨[18],[(21,⟨[22],[(25,⟨[26,27],[]⟩)]⟩)]⟩)]⟩)]⟩)]⟩)]⟩)]⟩ (h:=?_))
 all_goals repeat' (first|refine ag (hc:=ca _ aa) ?_|refine ag (hc:=cN _ aa) ?_|refine gd ?_|refine ax (hy:=by (apply cZ;rfl;rfl;(try simp only [Za]);omega)) ?_|refine aA ?_ (h':=?_)|exact aB|fail)
 all_goals
  repeat' (first|refine gs ?_|fail)
  refine ab (ae rfl rfl) ?_
  simp only [coreCl,cS,dc,dJ,er,Qj,Zy]
theorem jg (c:Xh) (hl:c.Lt) (hs:c.Sm):Pu prog 154 #[c.v] (fun _=>True) (.string (coreBa c)):=by
 refine aw func154 ntmps154 fun av bor w0=>?_
 have h1:=hs.actor
 have h2:=hs.claim
 have s1:=az c.actor
 have s2:=az c.claim
 have n1:=ap c.server
 have n2:=ap c.gen
 have n3:=ap c.time
 obtain ⟨i1,i2,i3,_,_⟩:=hl
 repeat' (first|refine gs ?_|refine gs1 fun _=>?_|fail)
 (refine aW ⟨[0,1,3,4,7,8,11,12,15,16],[(2,⟨[],[(5,⟨[6],[(9,⟨[10],[(13,⟨[14],[(17,⟨[18,19],[]⟩)]⟩)]⟩)]⟩)]⟩)]⟩ (h:=?_))
 all_goals repeat' (first|refine ag (hc:=ca _ aa) ?_|refine ag (hc:=cN _ aa) ?_|refine gd ?_|refine ax (hy:=by (apply cZ;rfl;rfl;(try simp only [Za]);omega)) ?_|refine aA ?_ (h':=?_)|exact aB|fail)
 all_goals
  repeat' (first|refine gs ?_|fail)
  refine ab (ae rfl rfl) ?_
  simp only [coreBa,cS,dc,dJ,er,Qj,Zy]
theorem jf (c:Xu) (hl:c.Lt) (hs:c.Sm):Pu prog 155 #[c.v] (fun w=>c.at_ w) (.string (coreDe c)):=by
 refine aw func155 ntmps155 fun av bor w0=>?_
 have h1:=hs.actor
 have h2:=hs.object
 have h3:=hs.text
 have h4:=hs.to
 have s1:=az c.actor
 have s2:=az c.object
 have s3:=az c.text
 have n1:=ap c.server
 have n2:=ap c.number
 have n3:=ap c.kind
 have n4:=ap c.n
 have n5:=ap c.from_
 have n6:=ap c.until_
 have hli:=mC c.to c.toL aa
 obtain ⟨i1,i2,i3,i4,i5,i6,_,_⟩:=hl
 repeat' (first|refine gs ?_|refine gs1 fun _=>?_|fail)
 (refine aW ⟨[0,1,3,4,7,8,11,12,15,16,19,20],[(2,⟨[],[(5,⟨[6],[(9,⟨[10],[(13,⟨[14],[(17,⟨[18],[(21,⟨[22,23],[]⟩)]⟩)]⟩)]⟩)]⟩)]⟩)]⟩ (h:=?_))
 all_goals repeat' (first|refine ag (hc:=ca _ aa) ?_|refine ag (hc:=cN _ aa) ?_|refine gd ?_|refine ax (hy:=by (apply cZ;rfl;rfl;(try simp only [Za]);omega)) ?_|refine aA ?_ (h':=?_)|exact aB|fail)
 all_goals
  repeat' (first|refine gs ?_|fail)
  (refine aW ⟨[0,1,2,5,6,9,10,13,14],[(3,⟨[4],[(7,⟨[8],[(11,⟨[12],[(15,⟨[16,17],[]⟩)]⟩)]⟩)]⟩)]⟩ (h:=?_))
  all_goals repeat' (first|refine ag (hc:=ca _ aa) ?_|(refine ag (hc:=hli) ?_)|refine gd ?_|refine ax (hy:=by (apply cZ;rfl;rfl;(try simp only [Za]);omega)) ?_|refine aA ?_ (h':=?_)|exact aB|fail)
  all_goals
   repeat' (first|refine gs ?_|fail)
   refine ab (ae rfl rfl) ?_
   simp only [coreDe,cS,dc,dJ,er,Qj,Zy]
theorem iA (e s:Int) (he:e<9223372036854775808) (hs:s<9223372036854775808):Pu prog 159 #[.agg #[.int .i64 e,.int .i64 s]] (fun _=>True) (.string (numsV [e,s])):=by
 refine aw func159 ntmps159 fun av bor w0=>?_
 have n1:=ap e
 have n2:=ap s
 repeat' (first|refine gs ?_|refine gs1 fun _=>?_|fail)
 (refine aW ⟨[0,1,3,4],[(2,⟨[],[(5,⟨[6,7],[]⟩)]⟩)]⟩ (h:=?_))
 all_goals repeat' (first|refine ag (hc:=ca _ aa) ?_|refine gd ?_|refine ax (hy:=by (apply cZ;rfl;rfl;(try simp only [Za]);omega)) ?_|refine aA ?_ (h':=?_)|exact aB|fail)
 all_goals
  repeat' (first|refine gs ?_|fail)
  refine ab (ae rfl rfl) ?_
  simp only [dJ,er,Qj]
theorem ci {n l h:Int} (w:withinB n l h=true):l≤n∧n≤h:=by
 simpa only [withinB,Zp,Zw] using w
theorem tv {e s:Int} (w:sigB e s=true):(0≤e∧e≤2305843009213693949)∧0≤s∧s≤2305843009213693949:=by
 rw [sigB,Zp] at w
 exact ⟨ci w.1,ci w.2⟩
theorem ii {s:ByteArray} (h:isId s=true):s.size=16:=by
 rw [isId,Zp,Zw] at h
 exact_mod_cast h.1
theorem iH {s:ByteArray} (h:isDigestB s=true):s.size=32:=by
 rw [isDigestB,Zw] at h
 exact_mod_cast h
theorem dq {s:ByteArray} (h:seqB s ⟨#[]⟩=true):s.size=0:=by
 rw [seqB_iff.1 h];rfl
theorem im {c:Xg} (h:claimR c=true):c.Lt∧c.Sm:=by
 simp only [claimR,Zp] at h
 obtain ⟨h1,h2,h3,h4,h5,h6,h7,h8⟩:=h
 have e1:=ii h1
 have e2:=ci h2
 have e3:=iH h3
 have e4:=ci h4
 have e5:=ci h5
 have e6:=ci h6
 have e7:=ci h7
 have e8:=tv h8
 exact ⟨⟨by omega,by omega,by omega,by omega,by omega,by omega,by omega⟩,⟨by omega,by omega⟩⟩
theorem gE {c:Xh} (h:ballotR c=true):c.Lt∧c.Sm:=by
 simp only [ballotR,Zp] at h
 obtain ⟨h2,h1,h4,h3,h7,h8⟩:=h
 have e1:=ii h1
 have e2:=ci h2
 have e3:=iH h3
 have e4:=ci h4
 have e7:=ci h7
 have e8:=tv h8
 exact ⟨⟨by omega,by omega,by omega,by omega,by omega⟩,⟨by omega,by omega⟩⟩
theorem oZ {m:Nat}:∀ {l:List ByteArray},(∀ x∈l,x.size≤m)→(cats l).size≤l.length*m
 | [],_=>by simp [cats]
 | a::l,h=>by
  have h1:=h a am
  have h2:=oZ (m:=m) (l:=l) fun x hx=>h x (Zv _ hx)
  rw [cats,Za,ZB,QF]
  omega
theorem tY {l:List ByteArray} (h:isIds l=true):(listV l).size≤2000:=by
 rw [isIds,Zp,Bool.not_eq_true',Qd] at h
 have hl:l.length≤64:=by omega
 have he:∀ x∈l,x.size=16:=fun x hx=>by
  obtain ⟨k,hk,rfl⟩:=Qx hx
  have h2:=h.2
  rw [allB,List.all_eq_true] at h2
  have h3:=h2 k (List.mem_range.2 hk)
  rw [Bool.not_eq_true',badIds,Ql,Bool.not_eq_false'] at h3
  have h4:=h3.1
  rw [Zo,Zb hk,Qe] at h4
  exact ii h4
 have h1:=ap (l.length:Int)
 have h2:=oZ (m:=26) (l:=l.map textV) fun x hx=>by
  obtain ⟨y,hy,rfl⟩:=QJ.1 hx
  have:=ap (y.size:Int)
  rw [textV,Za,he y hy]
  have:=ap ((16:Nat):Int)
  omega
 rw [ZF] at h2
 rw [listV,Za]
 omega
theorem xF:(listV []).size≤2000:=by
 have h1:=ap ((0:Nat):Int)
 rw [listV,Za]
 simp only [List.map_nil,cats,ByteArray.size_empty,ZR]
 omega
theorem iC {d:Xu} (hn:d.to.n=d.toL.length) (h:plainD d=true):(listV d.toL).size≤2000∧d.n=0:=by
 rw [plainD,Zp,Zw,Zw] at h
 have:d.toL=[]:=List.length_eq_zero_iff.1 aa
 rw [this]
 exact ⟨xF,h.2⟩
theorem gN {d:Xu} (h:reasonD d=true):d.text.size≤500:=by
 rw [reasonD,Zw] at h
 omega
theorem td {d:Xu} (hn:d.to.n=d.toL.length) (h:termsB d=true):d.Sm∧0≤d.n∧d.n≤64∧d.kind<10:=by
 rw [termsB] at h
 cases hA:kindA d.kind with
 | true =>
  rw [hA,Zf] at h
  simp only [Zp] at h
  have e1:=ii h.1
  have e2:=dq h.2.1
  have e3:=gN h.2.2.1
  have e4:=iC hn h.2.2.2
  simp only [kindA,Bool.or_eq_true,Zw] at hA
  exact ⟨⟨by omega,by omega,by omega,by omega⟩,by omega,by omega,by omega⟩
 | false =>
  rw [hA,Ze] at h
  cases hO:kindO d.kind with
  | true =>
   rw [hO,Zf] at h
   simp only [Zp] at h
   have e1:=dq h.1
   have e2:=iH h.2.1
   have e3:=gN h.2.2.1
   have e4:=iC hn h.2.2.2
   simp only [kindO,Bool.or_eq_true,Zw] at hO
   exact ⟨⟨by omega,by omega,by omega,by omega⟩,by omega,by omega,by omega⟩
  | false =>
   rw [hO,Ze] at h
   cases h8:decide (d.kind=8) with
   | true =>
    rw [h8,Zf] at h
    simp only [Zp] at h
    have e1:=dq h.1
    have e2:=dq h.2.1
    have e3:=gN h.2.2.1
    have e4:=tY h.2.2.2.1
    have e5:=ci h.2.2.2.2
    have e6:=bz h8
    have e7:d.toL.length≤64:=by
     have:=h.2.2.2.1
     rw [isIds,Zp,Bool.not_eq_true',Qd] at this
     omega
    exact ⟨⟨by omega,by omega,by omega,by omega⟩,by omega,by omega,by omega⟩
   | false =>
    rw [h8,Ze] at h
    cases h9:decide (d.kind=9) with
    | true =>
     rw [h9,Zf] at h
     simp only [Zp] at h
     have e1:=dq h.1
     have e2:=dq h.2.1
     have e3:=bz h.2.2.1
     have e4:=iC hn h.2.2.2
     have e6:=bz h9
     exact ⟨⟨by omega,by omega,by omega,by omega⟩,by omega,by omega,by omega⟩
    | false=>rw [h9] at h;cases h
theorem lk {d:Xu} (hn:d.to.n=d.toL.length) (h:decR d=true):d.Lt∧d.Sm:=by
 simp only [decR,Zp] at h
 obtain ⟨h1,h2,h3,h4,h5,h6,h7⟩:=h
 have e1:=ci h1
 have e2:=ci h2
 have e3:=ci h3
 have e4:=ci h4
 obtain ⟨e6,e7,e8,e9⟩:=td hn h6
 have e10:=tv h7
 exact ⟨⟨by omega,by omega,by omega,by omega,by omega,by omega,by omega,by omega⟩,e6⟩
theorem fB {c:Xg} (hs:c.Sm):(coreCl c).size≤3000000:=by
 have h1:=hs.actor
 have h2:=hs.prev
 have s1:=az c.actor
 have s2:=az c.prev
 have n1:=ap c.base
 have n2:=ap c.gen
 have n3:=ap c.home
 have n4:=ap c.pub
 have n5:=ap c.time
 simp only [coreCl,cS,dc,dJ,er,Qj,Za]
 omega
theorem eR {c:Xh} (hs:c.Sm):(coreBa c).size≤3000000:=by
 have h1:=hs.actor
 have h2:=hs.claim
 have s1:=az c.actor
 have s2:=az c.claim
 have n1:=ap c.server
 have n2:=ap c.gen
 have n3:=ap c.time
 simp only [coreBa,cS,dc,dJ,er,Qj,Za]
 omega
theorem eQ {c:Xu} (hs:c.Sm):(coreDe c).size≤5000000:=by
 have h1:=hs.actor
 have h2:=hs.object
 have h3:=hs.text
 have h4:=hs.to
 have s1:=az c.actor
 have s2:=az c.object
 have s3:=az c.text
 have n1:=ap c.server
 have n2:=ap c.number
 have n3:=ap c.kind
 have n4:=ap c.n
 have n5:=ap c.from_
 have n6:=ap c.until_
 simp only [coreDe,cS,dc,dJ,er,Qj,Za]
 omega
theorem mO {nm p:ByteArray} (h:nm.size≤20) (hp:p.size≤5000000):(textsV [nm]++p).size≤6000000:=by
 have s1:=az nm
 simp only [cS,dc,Qj,Za]
 omega
theorem di (e s:Int):(numsV [e,s]).size≤20:=by
 have n1:=ap e
 have n2:=ap s
 simp only [dJ,er,Qj,Za]
 omega
def bodyIt (i:Xe):ByteArray:=bif decide (i.kind=0) then actBytes i.act else bif decide (i.kind=1) then coreCl i.claim++numsV [i.claim.e,i.claim.s] else bif decide (i.kind=2) then coreBa i.ballot++numsV [i.ballot.e,i.ballot.s] else coreDe i.dec++numsV [i.dec.e,i.dec.s]
def bytesIt (i:Xe):ByteArray:=bif rightIt i then numV i.kind++bodyIt i else ⟨#[]⟩
def digIt (i:Xe):ByteArray:=bif seqB (bytesIt i) ⟨#[]⟩ then ⟨#[]⟩ else shaV (bytesIt i)
theorem dP {i:Xe} (h:rightIt i=true):i.kind=0∧rightB i.act=true∨i.kind=1∧claimR i.claim=true∨i.kind=2∧ballotR i.ballot=true∨i.kind=3∧decR i.dec=true:=by
 rw [rightIt,Zp] at h
 have h:=h.1
 rw [rightK2] at h
 by_cases h0:i.kind=0
 · rw [Zd h0] at h;exact .inl ⟨h0,h⟩
 by_cases h1:i.kind=1
 · rw [Zc h0,Zd h1] at h;exact .inr (.inl ⟨h1,h⟩)
 by_cases h2:i.kind=2
 · rw [Zc h0,Zc h1,Zd h2] at h;exact .inr (.inr (.inl ⟨h2,h⟩))
 by_cases h3:i.kind=3
 · rw [Zc h0,Zc h1,Zc h2,Zd h3] at h;exact .inr (.inr (.inr ⟨h3,h⟩))
 rw [Zc h0,Zc h1,Zc h2,Zc h3] at h
 cases h
theorem rk {i:Xe} (h:i.kind=0) (hr:rightIt i=true):rightB i.act=true:=by
 rcases dP hr with h1|h1|h1|h1
 · exact h1.2
 all_goals (rw [h] at h1;exact absurd h1.1 (by decide))
theorem gX {i:Xe} (hr:i.act.Rng) (hn:i.dec.to.n=i.dec.toL.length) (h:rightIt i=true):(bodyIt i).size≤300000000025:=by
 rw [bodyIt]
 rcases dP h with ⟨h0,h1⟩|⟨h0,h1⟩|⟨h0,h1⟩|⟨h0,h1⟩
 · have:=fL hr
   rw [h0]
   show (actBytes i.act).size≤_
   omega
 · have:=fB (im h1).2
   have:=di i.claim.e i.claim.s
   rw [h0]
   show (coreCl i.claim++numsV [i.claim.e,i.claim.s]).size≤_
   rw [Za]
   omega
 · have:=eR (gE h1).2
   have:=di i.ballot.e i.ballot.s
   rw [h0]
   show (coreBa i.ballot++numsV [i.ballot.e,i.ballot.s]).size≤_
   rw [Za]
   omega
 · have:=eQ (lk hn h1).2
   have:=di i.dec.e i.dec.s
   rw [h0]
   show (coreDe i.dec++numsV [i.dec.e,i.dec.s]).size≤_
   rw [Za]
   omega
theorem jD {i:Xe} (hr:i.act.Rng) (hn:i.dec.to.n=i.dec.toL.length):(bytesIt i).size≤300000000040:=by
 rw [bytesIt]
 cases h:rightIt i with
 | false=>rw [Ze];simp [ByteArray.size]
 | true =>
  have:=gX hr hn h
  have:=ap i.kind
  rw [Zf,Za]
  omega
set_option maxRecDepth 20000 in
theorem nN (i:Xe) (hr:i.act.Rng) (hdn:i.dec.to.n=i.dec.toL.length):Pu prog 53 #[i.v] (fun w=>i.at_ w) (.string (bytesIt i)):=by
 have hri:=iv i
 have hbs:=@gX i hr hdn
 rw [bytesIt]
 cases hrB:rightIt i with
 | false =>
  rw [hrB] at hri
  refine aw func53 ntmps53 fun av bor w0=>?_
  repeat' (first|(refine ag (hc:=hri) ?_)|refine gs ?_|refine gs1 fun _=>?_|fail)
  all_goals exact ab (ae rfl rfl) rfl
 | true =>
 rw [hrB] at hri
 have hk:=dP hrB
 replace hbs:=hbs hrB
 have hkl:i.kind<9223372036854775808:=by rcases hk with h|h|h|h<;>omega
 refine aw func53 ntmps53 fun av bor w0=>?_
 repeat' (first|(refine ag (hc:=hri) ?_)|refine gs ?_|refine gs1 fun _=>?_|fail)
 rename_i bi bb bs
 have hS:(⟨#[]⟩:ByteArray)++numsV [i.kind]=numV i.kind:=by
  show ByteArray.empty++(numV i.kind++ByteArray.empty)=numV i.kind
  rw [Qj,ByteArray.empty_append]
 have hnk:=ap i.kind
 have hns:(⟨#[]⟩:ByteArray).size+(numsV [i.kind]).size≤1099511627776:=by
  rw [←Za,hS]
  omega
 refine bI ?_
 refine fP 5 1 ?_
 refine cJ (l:=bld bb none 0 ⟨#[]⟩++[cel bi 60 i.cells]) (List.Perm.swap _ _ _) ?_
 refine bN (pre:=bld bb none 0 ⟨#[]⟩) (fr:=[cel bi 60 i.cells]) (hc:=dY bb none 0 ⟨#[]⟩ ⟨some ⟨bs,0,none⟩,1,1⟩ [i.kind] (by simpa using hkl) hns) (hX:=fun w h=>aV (xs:=[[.int .i64 i.kind]]) h.2 rfl (by decide) (by simp)) (h:=?_)
 rintro v R X' ⟨A1,c1,rfl,rfl⟩
 refine cH (X':=fun w=>i.at_ w) (fun w h=>h.1.1) ?_
 rw [hS]
 generalize hs1:numV i.kind=s1 at *
 rw [bodyIt] at hbs ⊢
 rcases hk with ⟨h0,h1⟩|⟨h0,h1⟩|⟨h0,h1⟩|⟨h0,h1⟩
 · rw [Zd h0,Zf] at hbs ⊢
   have hab:=kT i.act (dR hr) ⟨hr.ints.2.2.2.2.2.2.2.1,hr.ints.2.2.2.2.2.2.2.2⟩
   generalize actBytes i.act=body at *
   unfold bld
   repeat' (first|refine aE (hab:=h0) ?_|refine gs ?_|fail)
   simp only [ZK,ZL]
   (refine aq ⟨[0,2,3],[(1,⟨[],[(4,⟨[],[(5,⟨[6],[(7,⟨[],[]⟩)]⟩)]⟩)]⟩),(4,⟨[],[(1,⟨[],[(5,⟨[6],[(7,⟨[],[]⟩)]⟩)]⟩)]⟩)]⟩ [cel bi 60 i.cells] (fun w=>i.at_ w) (h:=?_))
   all_goals repeat' (first|(refine ag (hc:=hab) ?_)|refine gdz ?_|refine ax (hsub:=by exact aI) (hy:=by (apply cg (vs:=i.act.cells);rfl;exact .head _;rfl;rfl)) ?_|refine aA ?_ (h':=?_)|exact aB|(refine iF ?_;refine aJ (size:=1) (z:=.int .u8 0) rfl rfl rfl rfl (fun _=>At.there _ (At.here _)) (fun w G=>ia aa) aa (by simp only [maxLen];omega) rfl ?_ rfl ?_;(with_reducible rfl);intro A2 c2)|fail)
   all_goals
    repeat' (first|refine gs ?_|fail)
    rw [←bT,←dr]
    refine eU (hm:=Zv _ am) ?_
    repeat' (first|refine gs ?_|fail)
    apply ab;apply ae;rfl;rfl
    simp only [cK,Zf]
 · rw [Zc (show ¬ i.kind=0 by omega),Ze,Zd h0,Zf] at hbs ⊢
   obtain ⟨hl,hsm⟩:=im h1
   have hfo:=m5 i h0
   have hcs:=fB hsm
   have hn2:=di i.claim.e i.claim.s
   have hc1:=fun (A:Option Addr) (c:Nat)=>oX bb A c s1 i hl aa
   have hc2:=fun (A:Option Addr) (c:Nat) (p:ByteArray) (hp:p.size≤6000000) (sl:Xl)=>dY bb A c p sl [i.claim.e,i.claim.s] (by simp;exact ⟨hl.e,hl.s⟩) aa
   generalize coreCl i.claim=core at *
   generalize numsV [i.claim.e,i.claim.s]=sg at *
   unfold bld
   repeat' (first|refine aG ?_|(refine ag (hc:=hfo) ?_)|refine gs ?_|refine gs1 fun _=>?_|fail)
   rename_i bf
   refine cJ (l:=bld bb A1 c1 s1++[cel bf 164 (formCells nameC 174 i.claim.e i.claim.s),cel bi 60 i.cells]) (show List.Perm ([_]++[_,_]++[_]) ([_,_]++[_]++[_]) from List.perm_append_comm.append_right _) ?_
   refine bN (pre:=bld bb A1 c1 s1) (fr:=[cel bf 164 (formCells nameC 174 i.claim.e i.claim.s),cel bi 60 i.cells]) (hc:=hc1 A1 c1) (hX:=fun _ _=>trivial) (h:=?_)
   rintro v R X' ⟨A2,c2,rfl,rfl⟩
   refine cH (X':=fun w=>i.at_ w) (fun w h=>h.1) ?_
   unfold bld
   repeat' (first|refine gs ?_|refine gs1 fun _=>?_|fail)
   rename_i bs2
   refine bI ?_
   refine bN (pre:=bld bb A2 c2 (s1++core)) (fr:=[cel bf 164 (formCells nameC 174 i.claim.e i.claim.s),cel bi 60 i.cells]) (hc:=hc2 A2 c2 (s1++core) (by rw [Za];omega) ⟨some ⟨bs2,0,none⟩,2,2⟩) (hX:=fun w h=>aV (xs:=[[.int .i64 i.claim.e],[.int .i64 i.claim.s]]) h.2 rfl (by decide) (by simp)) (h:=?_)
   rintro v R X' ⟨A3,c3,rfl,rfl⟩
   unfold bld
   repeat' (first|refine gs ?_|fail)
   refine eU (hm:=Zv _ am) ?_
   repeat' (first|refine gs ?_|fail)
   all_goals
    apply ab;apply ae;rfl;rfl
    simp only [cK,Zf,Zy]
 · rw [Zc (show ¬ i.kind=0 by omega),Ze,Zc (show ¬ i.kind=1 by omega),Ze,Zd h0,Zf] at hbs ⊢
   obtain ⟨hl,hsm⟩:=gE h1
   have hfo:=Bq i h0
   have hcs:=eR hsm
   have hn2:=di i.ballot.e i.ballot.s
   have hc1:=fun (A:Option Addr) (c:Nat)=>uw bb A c s1 i hl aa
   have hc2:=fun (A:Option Addr) (c:Nat) (p:ByteArray) (hp:p.size≤6000000) (sl:Xl)=>dY bb A c p sl [i.ballot.e,i.ballot.s] (by simp;exact ⟨hl.e,hl.s⟩) aa
   generalize coreBa i.ballot=core at *
   generalize numsV [i.ballot.e,i.ballot.s]=sg at *
   unfold bld
   repeat' (first|refine aG ?_|(refine ag (hc:=hfo) ?_)|refine gs ?_|refine gs1 fun _=>?_|fail)
   rename_i bf
   refine cJ (l:=bld bb A1 c1 s1++[cel bf 164 (formCells nameB 175 i.ballot.e i.ballot.s),cel bi 60 i.cells]) (show List.Perm ([_]++[_,_]++[_]) ([_,_]++[_]++[_]) from List.perm_append_comm.append_right _) ?_
   refine bN (pre:=bld bb A1 c1 s1) (fr:=[cel bf 164 (formCells nameB 175 i.ballot.e i.ballot.s),cel bi 60 i.cells]) (hc:=hc1 A1 c1) (hX:=fun _ _=>trivial) (h:=?_)
   rintro v R X' ⟨A2,c2,rfl,rfl⟩
   refine cH (X':=fun w=>i.at_ w) (fun w h=>h.1) ?_
   unfold bld
   repeat' (first|refine gs ?_|refine gs1 fun _=>?_|fail)
   rename_i bs2
   refine bI ?_
   refine bN (pre:=bld bb A2 c2 (s1++core)) (fr:=[cel bf 164 (formCells nameB 175 i.ballot.e i.ballot.s),cel bi 60 i.cells]) (hc:=hc2 A2 c2 (s1++core) (by rw [Za];omega) ⟨some ⟨bs2,0,none⟩,2,2⟩) (hX:=fun w h=>aV (xs:=[[.int .i64 i.ballot.e],[.int .i64 i.ballot.s]]) h.2 rfl (by decide) (by simp)) (h:=?_)
   rintro v R X' ⟨A3,c3,rfl,rfl⟩
   unfold bld
   repeat' (first|refine gs ?_|fail)
   refine eU (hm:=Zv _ am) ?_
   repeat' (first|refine gs ?_|fail)
   all_goals
    apply ab;apply ae;rfl;rfl
    simp only [cK,Zf,Zy]
 · rw [Zc (show ¬ i.kind=0 by omega),Ze,Zc (show ¬ i.kind=1 by omega),Ze,Zc (show ¬ i.kind=2 by omega),Ze] at hbs ⊢
   obtain ⟨hl,hsm⟩:=lk hdn h1
   have hfo:=Bp i h0
   have hcs:=eQ hsm
   have hn2:=di i.dec.e i.dec.s
   have hc1:=fun (A:Option Addr) (c:Nat)=>qe bb A c s1 i hl aa
   have hc2:=fun (A:Option Addr) (c:Nat) (p:ByteArray) (hp:p.size≤6000000) (sl:Xl)=>dY bb A c p sl [i.dec.e,i.dec.s] (by simp;exact ⟨hl.e,hl.s⟩) aa
   generalize coreDe i.dec=core at *
   generalize numsV [i.dec.e,i.dec.s]=sg at *
   unfold bld
   repeat' (first|refine aG ?_|(refine ag (hc:=hfo) ?_)|refine gs ?_|refine gs1 fun _=>?_|fail)
   rename_i bf
   refine cJ (l:=bld bb A1 c1 s1++[cel bf 164 (formCells nameD 176 i.dec.e i.dec.s),cel bi 60 i.cells]) (show List.Perm ([_]++[_,_]++[_]) ([_,_]++[_]++[_]) from List.perm_append_comm.append_right _) ?_
   refine bN (pre:=bld bb A1 c1 s1) (fr:=[cel bf 164 (formCells nameD 176 i.dec.e i.dec.s),cel bi 60 i.cells]) (hc:=hc1 A1 c1) (hX:=fun w h=>h) (h:=?_)
   rintro v R X' ⟨A2,c2,rfl,rfl⟩
   refine cH (X':=fun w=>i.at_ w) (fun w h=>h.1) ?_
   unfold bld
   repeat' (first|refine gs ?_|refine gs1 fun _=>?_|fail)
   rename_i bs2
   refine bI ?_
   refine bN (pre:=bld bb A2 c2 (s1++core)) (fr:=[cel bf 164 (formCells nameD 176 i.dec.e i.dec.s),cel bi 60 i.cells]) (hc:=hc2 A2 c2 (s1++core) (by rw [Za];omega) ⟨some ⟨bs2,0,none⟩,2,2⟩) (hX:=fun w h=>aV (xs:=[[.int .i64 i.dec.e],[.int .i64 i.dec.s]]) h.2 rfl (by decide) (by simp)) (h:=?_)
   rintro v R X' ⟨A3,c3,rfl,rfl⟩
   unfold bld
   repeat' (first|refine gs ?_|fail)
   refine eU (hm:=Zv _ am) ?_
   repeat' (first|refine gs ?_|fail)
   all_goals
    apply ab;apply ae;rfl;rfl
    simp only [cK,Zf,Zy]
theorem gQ (i:Xe) (hr:i.act.Rng) (hdn:i.dec.to.n=i.dec.toL.length):Pu prog 18 #[i.v] (fun w=>i.at_ w∧Xi w) (.string (digIt i)):=by
 refine aw func18 ntmps18 fun av bor w0=>?_
 have hsz:=jD hr hdn
 have hb:=nN i hr hdn
 repeat' (first|(refine ag (hc:=hb) ?_)|refine ag (hc:=pJ _ aa) ?_|refine gs ?_|refine gs1 fun _=>?_|(refine gp ?_ ?_<;>intro hx_ this)|fail)
 all_goals (apply ab;apply ae;rfl;rfl)
 · simp only [digIt,hx_,Zf]
 · simp only [digIt,hx_,Ze]
theorem yb {i:Xe} (h:i.kind=0) (hr:rightIt i=true):digIt i=digV i.act:=by
 have e:bytesIt i=bytesV i.act:=by rw [bytesIt,bytesV,hr,rk h hr,Zf,Zf,bodyIt,h];rfl
 rw [digIt,digV,e]
theorem un (p:Int) (c:Xg) (h:claimR c=true):Pu prog 116 #[.int .i64 p,c.v] Xi (.bool (sgnC p c)):=by
 refine aw func116 ntmps116 fun av bor w0=>?_
 obtain ⟨hl,hsm⟩:=im h
 have hsi:=pI p (ofClaimI c) rfl hl (ZY (mO (by decide) (ZY (fB hsm) (by decide))) (by decide))
 have hat:∀ w,(ofClaimI c).at_ w:=fun w=>⟨⟨cj w 1,cj w 5⟩,cj w 1⟩
 repeat' (first|(refine ag (hc:=gm c) ?_)|(refine ag (hc:=hsi) (hX:=fun w h=>⟨hat w,h⟩) ?_)|refine gs ?_|refine gs1 fun _=>?_|fail)
 exact ab (ae rfl rfl) rfl
def signedIt (L:List Int) (i:Xe):Bool:=rightIt i&&bif decide (i.kind=2) then decide (i.ballot.server<(L.length:Nat))&&sgnB (L.getD i.ballot.server.toNat 0) i.ballot else bif decide (i.kind=3) then decide (i.dec.server<(L.length:Nat))&&sgnD (L.getD i.dec.server.toNat 0) i.dec else true
def actsFor (L:List Xa) (k:PosK):List Xa:=L.filter fun a=>decide (a.seq=k.1)&&seqB a.prev k.2
structure Ea (q:Nat) (G:List (PosK×Xl)) (L:List Xa) (w:World):Prop where
 map:SMapAt prog 129 w q (G.map fun g=>(g.1,g.2.v))
 rows:∀ k,Acts w ((dget G k).getD ⟨none,0,0⟩) (actsFor L k)
theorem gT {κ β γ:Type} [DecidableEq κ] (f:β→γ):∀ (l:List (κ×β)) (k:κ),dget (l.map fun p=>(p.1,f p.2)) k=(dget l k).map f
 | [],_=>rfl
 | (k',v')::r,k=>by
  simp only [Z1,dget,gT f r k]
  cases decide (k=k')<;>rfl
theorem Bs {st:Eb} {h:BldH} {sa sk:Xl} {id:ByteArray} (hid:h.id=id) (hn:sa.n=st.acts.length) (a:Xa) (pl:Option Nat):fitsV ⟨h.id,sa,sk,st.prev,(st.gen:Nat),h.fork,st.acts⟩ a pl=fitsV (st.ch id) a pl:=by
 subst hid
 obtain ⟨p,n,c⟩:=sa
 simp only at hn
 subst hn
 rfl
theorem oM (l:List Xq):∀ r∈l.map Xq.cells,r.length=3:=fun r hr=>by
 obtain ⟨c,_,rfl⟩:=QJ.1 hr
 rfl
theorem oA {l:List Xa} (h:l.length≠1):oneA l=none:=by
 match l,h with
 | [],_=>rfl
 | [x],h=>exact absurd rfl h
 | x::y::r,_=>rfl
structure CanI (M:List Xa) (B:Xa→Bool) where
 k:Nat
 hk:k≤M.length
 A:Option Addr
 c:Nat
 n:Nat
 hn:n=((M.take k).filter B).length
 xs:List Value
 hxs:xs=(((M.take k).filter B).map Xa.cells).flatten
theorem qf (b:Nat) (h:BldH) (sa sk:Xl) (st:Eb) (pl:List (ByteArray×Value)) (ok:BldOk sa sk st pl) (W:El) (G:List (PosK×Xl)) (hI:InvS W st) (hid:h.id=W.id)
  (hok:Xx W.L) (hL:W.L.length≤100000) (hB:W.B≤100000)
  (hver:∀ a∈W.L,∀ p:Int,Pu prog 64 #[.int .i64 p,a.v] (fun w=>a.at_ w∧Xi w) (.bool (W.ver p a))) :
  Ct prog 68 #[.pointer (some ⟨b,0,none⟩)] (bldR b h sa sk st pl) (fun w=>(Ea h.q1 G W.L w∧∀ a∈W.L,a.at_ w)∧Xi w)
   (fun u R _=>(∀ a,oneA (candL W st)=some a→BldAt b h (addS st a) (.bool true) u R)∧(oneA (candL W st)=none→BldAt b { h with fork:=decide (1<(candL W st).length) } st (.bool false) u R)):=by
 have hlen:=hI.len
 have hkn:=hI.keyn
 have hgen:=hI.gen
 have ok':=ok
 obtain ⟨hn,hk,hp⟩:=ok
 refine eu (args:=[_]) _ func68 rfl ntmps68 rfl fun av bor w0=>?_
 obtain ⟨K,hK⟩:∃ K,st.keys[st.keys.length-1]?=some K:=⟨_,Zb (by have:=hI.key;omega)⟩
 have hKey:st.key=K.public_:=by rw [Eb.key,Zo,hK];rfl
 have hk0:=hI.key
 obtain ⟨M,hM⟩:∃ M,actsFor W.L ((sa.n:Int),st.prev)=M:=⟨_,rfl⟩
 have hcand:candL W st=M.filter (candB W st):=by rw [candL,←hM,actsFor,hn];rfl
 have hMm:∀ a∈M,a∈W.L:=fun a ha=>by rw [←hM] at ha;exact (QN.1 ha).1
 have hMl:M.length≤W.L.length:=by rw [←hM];exact Qa _ _
 obtain ⟨s,hs⟩:∃ s,(dget G ((sa.n:Int),st.prev)).getD ⟨none,0,0⟩=s:=⟨_,rfl⟩
 have hgl:∃ o,dget (G.map fun g=>(g.1,g.2.v)) ((sa.n:Int),st.prev)=o∧o.getD (.slice none 0 0)=s.v:=by
  refine ⟨_,rfl,?_⟩
  rw [gT,←hs]
  cases dget G ((sa.n:Int),st.prev)<;>rfl
 obtain ⟨o,ho,hov⟩:=hgl
 refine aR (p:=s.n=M.length∧s.n≤maxLen∧(0<M.length→s.p.isSome=true)) (fun w h=>by
  have h1:=h.1.1.rows ((sa.n:Int),st.prev)
  rw [hs,hM] at h1
  exact ⟨h1.len_,h1.max_,h1.some_⟩) fun ⟨hsn,hsm,hsp⟩=>?_
 simp only [maxLen] at hsm
 have hro:∀ w,((Ea h.q1 G W.L w∧∀ a∈W.L,a.at_ w)∧Xi w)→Acts w s M:=fun w h=>by
  have h1:=h.1.1.rows ((sa.n:Int),st.prev)
  rwa [hs,hM] at h1
 unfold bldR keyR actR
 refine bP (r:=orow 133 3 (.slice sk.p sk.n sk.c) sk.n (st.keys.map Xq.cells).flatten) aQ (p:=sk.p.isSome=true) (fun w h=>bF h aa) fun hkp=>?_
 repeat' (first|refine gs ?_|refine gs1 fun _=>?_|fail)
 rename_i b1
 have hLOC:True:=trivial
 (refine aq ⟨[0,1,2,3,4,5,6,7,8,9,10,11,12,13],[]⟩ [cel b1 122 [.pointer (some ⟨b,0,none⟩)],cel b 126 (bldC h sa sk st.prev (st.gen:Nat)),orow 46 20 (.slice sa.p sa.n sa.c) sa.n (st.acts.map Xa.cells).flatten,orow 133 3 (.slice sk.p sk.n sk.c) sk.n (st.keys.map Xq.cells).flatten,mapr h.q2 pl] (fun w=>(Ea h.q1 G W.L w∧∀ a∈W.L,a.at_ w)∧Xi w) (h:=?_))
 all_goals repeat' (first|refine gdz ?_|refine ax (hsub:=by exact aI) (hy:=by first|(apply ay (q:=(sk.n-1)*3);rfl;rfl;omega;omega;assumption;omega)|(apply dt;rfl;assumption;rfl)|(apply gc (xs:=st.keys.map Xq.cells) (cs:=K.cells) (i:=sk.n-1) (j:=1) (u:=.int .i64 K.public_);rfl;(repeat (first|exact am|apply Zv));(simp [hk]);exact oM st.keys;(simp [hk,hK]);rfl)) ?_|fail)
 repeat' (first|refine gs ?_|(refine ea ?_)|fail)
 (refine aq ⟨[0,1,2,3,4,5,6,7,8,9,10,11,12,13,16],[(14,⟨[15],[]⟩)]⟩ [cel b1 122 [.pointer (some ⟨b,0,none⟩)],cel b 126 (bldC h sa sk st.prev (st.gen:Nat)),orow 46 20 (.slice sa.p sa.n sa.c) sa.n (st.acts.map Xa.cells).flatten,orow 133 3 (.slice sk.p sk.n sk.c) sk.n (st.keys.map Xq.cells).flatten,mapr h.q2 pl] (fun w=>(Ea h.q1 G W.L w∧∀ a∈W.L,a.at_ w)∧Xi w) (h:=?_))
 all_goals repeat' (first|refine gdz ?_|refine ax (hsub:=by exact aI) (hy:=by (apply dv (cs:=[.int .i64 (sa.n:Nat),.string st.prev]);rfl;rfl)) ?_|refine aA ?_ (h':=?_)|exact aB|(refine ak (nU (κ:=PosK) (kk:=((sa.n:Int),st.prev)) (z:=.slice none 0 0) (o:=o) (v:=s.v) rfl rfl (qV fun w h=>h.1.1.map) ho hov) rfl rfl rfl ?_)|fail)
 apply QU
 refine cD 46 20 ?_
 refine ao (ι:=CanI M (candB W st)) (fun i=>⟨[(1,.pointer (some ⟨b1,0,none⟩)),(3,.pointer (some ⟨b,2,none⟩)),(4,.int .i64 K.public_),(5,.func (.func 118) #[] #[.pointer (some ⟨b1,0,none⟩)]),(6,.slice i.A i.n i.c),(40,s.v),(41,.int .i64 (s.n:Nat)),(42,.int .i64 (i.k:Nat))],[orow 46 20 (.slice i.A i.n i.c) i.n i.xs,cel b1 122 [.pointer (some ⟨b,0,none⟩)],cel b 126 (bldC h sa sk st.prev (st.gen:Nat)),orow 46 20 (.slice sa.p sa.n sa.c) sa.n (st.acts.map Xa.cells).flatten,orow 133 3 (.slice sk.p sk.n sk.c) sk.n (st.keys.map Xq.cells).flatten,mapr h.q2 pl],(fun w=>(Ea h.q1 G W.L w∧∀ a∈W.L,a.at_ w)∧Xi w)⟩) (fun i=>M.length-i.k) ⟨0,Z4 _,none,0,0,rfl,[],rfl⟩ (ai al (aj _) fun _ h=>h) fun i=>?_
 obtain ⟨k,hk',A,cc,n,hn',xs,hxs⟩:=i
 simp only
 have hnl:n≤100000:=by have h1:=Qa (candB W st) (M.take k);rw [←hn',Qi] at h1;omega
 repeat' (first|refine gs ?_|(refine gp ?_ ?_<;>intro hx_ this)|fail)
 · have hlt:k<M.length:=by omega
   have hsp':=hsp aa
   obtain ⟨a,ha⟩:∃ a,M[k]?=some a:=⟨_,Zb hlt⟩
   have ham:a∈M:=Z6 ha
   repeat' (first|refine gs ?_|refine gs1 fun _=>?_|(refine aD (q:=k*20) ?_)|(refine aM (cs:=a.cells) (hF:=fun w h=>Acts.get (hro w h) ha) ?_)|fail)
   rename_i b8
   have hf:=DL ⟨h.id,sa,sk,st.prev,(st.gen:Nat),h.fork,st.acts⟩ a 118 [.pointer (some ⟨b1,0,none⟩)] (idxV st.acts a.object) _ (BJ b b1 h sa sk st pl hp a.object) (fun j hj=>p9 hj)
   rw [Bs hid hn] at hf
   have hXf:∀ w,((Ea h.q1 G W.L w∧∀ a∈W.L,a.at_ w)∧Xi w)→(∀ r∈[cel b8 46 a.cells,orow 46 20 (.slice A n cc) n xs,cel b1 122 [.pointer (some ⟨b,0,none⟩)],cel b 126 (bldC h sa sk st.prev (st.gen:Nat)),orow 46 20 (.slice sa.p sa.n sa.c) sa.n (st.acts.map Xa.cells).flatten,orow 133 3 (.slice sk.p sk.n sk.c) sk.n (st.keys.map Xq.cells).flatten,mapr h.q2 pl],r.F w)→(Xb.at_ w ⟨h.id,sa,sk,st.prev,(st.gen:Nat),h.fork,st.acts⟩∧a.at_ w∧CelD b1 [.pointer (some ⟨b,0,none⟩)] w∧CelD b (bldC h sa sk st.prev (st.gen:Nat)) w∧MapAt w h.q2 pl):=fun w hw hr =>
    ⟨ff (hr _ (.tail _ (.tail _ (.tail _ (.tail _ (.head _)))))) hn (fun x hx=>hw.1.2 x (hI.mem x hx)),hw.1.2 a (hMm a ham),fd (hr _ (.tail _ (.tail _ (.head _)))),fd (hr _ (.tail _ (.tail _ (.tail _ (.head _))))),hr _ (.tail _ (.tail _ (.tail _ (.tail _ (.tail _ (.tail _ (.head _)))))))⟩
   have hv:=hver a (hMm a ham) K.public_
   have htk:((M.take (k+1)).filter (candB W st))=(M.take k).filter (candB W st)++(bif candB W st a then [a] else []):=by
    rw [Qg,ha,Qv,Qu]
    congr 1
   have hcb:candB W st a=(fitsV (st.ch W.id) a (idxV st.acts a.object)&&W.ver K.public_ a):=by rw [candB,hKey]
   cases hfv:fitsV (st.ch W.id) a (idxV st.acts a.object) with
   | false =>
    rw [hfv] at hf hcb
    have hno:(M.take (k+1)).filter (candB W st)=(M.take k).filter (candB W st):=by simp [htk,hcb]
    (refine aq ⟨[0,1,2,3,4],[(5,⟨[6,7,8],[(9,⟨[10],[]⟩)]⟩)]⟩ [cel b8 46 a.cells,orow 46 20 (.slice A n cc) n xs,cel b1 122 [.pointer (some ⟨b,0,none⟩)],cel b 126 (bldC h sa sk st.prev (st.gen:Nat)),orow 46 20 (.slice sa.p sa.n sa.c) sa.n (st.acts.map Xa.cells).flatten,orow 133 3 (.slice sk.p sk.n sk.c) sk.n (st.keys.map Xq.cells).flatten,mapr h.q2 pl] (fun w=>(Ea h.q1 G W.L w∧∀ a∈W.L,a.at_ w)∧Xi w) (h:=?_))
    all_goals repeat' (first|(refine pD (hc:=hf) (hX:=hXf) ?_)|refine gdz ?_|refine ax (hsub:=by exact aI) (hy:=by (apply cg (vs:=[.string h.id,.slice sa.p sa.n sa.c,.slice sk.p sk.n sk.c,.string st.prev,.int .i64 (st.gen:Nat),.bool h.fork]);rfl;(repeat (first|exact am|apply Zv));rfl;rfl)) ?_|refine aA ?_ (h':=?_)|exact aB|fail)
    all_goals
     repeat' (first|refine gs ?_|fail)
     exact ⟨(⟨k+1,hlt,A,cc,n,by rw [hno];exact hn',xs,by rw [hno];exact hxs⟩:CanI M (candB W st)),(by show M.length-(k+1)<M.length-k;omega),ai al (Z2 _ (aj _)) fun _ h=>h⟩
   | true =>
    rw [hfv] at hf hcb
    cases hve:W.ver K.public_ a with
    | false =>
     rw [hve] at hv hcb
     have hno:(M.take (k+1)).filter (candB W st)=(M.take k).filter (candB W st):=by simp [htk,hcb]
     (refine aq ⟨[0,1,2,3,4],[(5,⟨[6,7,8],[(9,⟨[10],[]⟩)]⟩)]⟩ [cel b8 46 a.cells,orow 46 20 (.slice A n cc) n xs,cel b1 122 [.pointer (some ⟨b,0,none⟩)],cel b 126 (bldC h sa sk st.prev (st.gen:Nat)),orow 46 20 (.slice sa.p sa.n sa.c) sa.n (st.acts.map Xa.cells).flatten,orow 133 3 (.slice sk.p sk.n sk.c) sk.n (st.keys.map Xq.cells).flatten,mapr h.q2 pl] (fun w=>(Ea h.q1 G W.L w∧∀ a∈W.L,a.at_ w)∧Xi w) (h:=?_))
     all_goals repeat' (first|(refine pD (hc:=hf) (hX:=hXf) ?_)|(refine ag (hc:=hv) (hX:=fun w h=>⟨h.1.2 a (hMm a ham),h.2⟩) ?_)|refine gdz ?_|refine ax (hsub:=by exact aI) (hy:=by (apply cg (vs:=[.string h.id,.slice sa.p sa.n sa.c,.slice sk.p sk.n sk.c,.string st.prev,.int .i64 (st.gen:Nat),.bool h.fork]);rfl;(repeat (first|exact am|apply Zv));rfl;rfl)) ?_|refine aA ?_ (h':=?_)|exact aB|fail)
     all_goals
      repeat' (first|refine gs ?_|fail)
      exact ⟨(⟨k+1,hlt,A,cc,n,by rw [hno];exact hn',xs,by rw [hno];exact hxs⟩:CanI M (candB W st)),(by show M.length-(k+1)<M.length-k;omega),ai al (Z2 _ (aj _)) fun _ h=>h⟩
    | true =>
     rw [hve] at hv hcb
     have hyes:(M.take (k+1)).filter (candB W st)=(M.take k).filter (candB W st)++[a]:=by rw [htk,hcb];rfl
     (refine aq ⟨[0,1,2,3,4],[(5,⟨[6,7,8],[(9,⟨[10],[]⟩)]⟩)]⟩ [cel b8 46 a.cells,orow 46 20 (.slice A n cc) n xs,cel b1 122 [.pointer (some ⟨b,0,none⟩)],cel b 126 (bldC h sa sk st.prev (st.gen:Nat)),orow 46 20 (.slice sa.p sa.n sa.c) sa.n (st.acts.map Xa.cells).flatten,orow 133 3 (.slice sk.p sk.n sk.c) sk.n (st.keys.map Xq.cells).flatten,mapr h.q2 pl] (fun w=>(Ea h.q1 G W.L w∧∀ a∈W.L,a.at_ w)∧Xi w) (h:=?_))
     all_goals repeat' (first|(refine pD (hc:=hf) (hX:=hXf) ?_)|(refine ag (hc:=hv) (hX:=fun w h=>⟨h.1.2 a (hMm a ham),h.2⟩) ?_)|refine gdz ?_|refine ax (hsub:=by exact aI) (hy:=by (apply cg (vs:=[.string h.id,.slice sa.p sa.n sa.c,.slice sk.p sk.n sk.c,.string st.prev,.int .i64 (st.gen:Nat),.bool h.fork]);rfl;(repeat (first|exact am|apply Zv));rfl;rfl)) ?_|refine aA ?_ (h':=?_)|exact aB|fail)
     all_goals
      repeat' (first|refine cA (size:=20) (vs:=[a.v]) (css:=a.cells) (hsz:=by rfl) (hcs:=by rfl) fun _=>?_|refine gs ?_|fail)
      refine aJ (size:=20) (news:=a.cells) (q:=1) rfl rfl rfl rfl (fun _=>At.there _ (At.there _ (At.here _))) (fun w G=>bA G am rfl rfl 1) aa (by simp only [maxLen];omega) rfl ?_ rfl ?_
      · (with_reducible rfl)
      intro A2 c2
      repeat' (first|refine gs ?_|fail)
      exact ⟨(⟨k+1,hlt,A2,c2,n+1,by rw [hyes,ZA,←hn'];rfl,xs++a.cells,by rw [hyes,hxs];simp⟩:CanI M (candB W st)),(by show M.length-(k+1)<M.length-k;omega),ai al (Z2 _ (Z2 _ (aj _))) fun _ h=>h⟩
 have hkE:k=M.length:=by omega
 have hfin:candL W st=(M.take k).filter (candB W st):=by rw [hcand,hkE,Qh]
 have hnc:n=(candL W st).length:=by rw [hfin];exact hn'
 · have hn1:n≠1:=by
    intro e
    rw [e] at hx_
    exact absurd hx_ (by decide)
   have hone:oneA (candL W st)=none:=oA aa
   have hdc:decide ((1:Int)<(n:Int))=decide (1<(candL W st).length):=by
    rw [←hnc]
    by_cases h1:1<n
    · rw [Zd h1,Zd (by omega)]
    · rw [Zc h1,Zc (by omega)]
   refine ab (ae rfl rfl) ⟨bldR b { h with fork:=decide ((1:Int)<(n:Int)) } sa sk st pl,Z2 _ (Z2 _ (aj _)),fun a ha=>?_,fun _=>?_⟩
   · rw [hone] at ha
     cases ha
   · rw [←hdc]
     exact ⟨rfl,sa,sk,pl,ok',rfl⟩
 have hkE:k=M.length:=by omega
 have hfin:candL W st=(M.take k).filter (candB W st):=by rw [hcand,hkE,Qh]
 have hnc:n=(candL W st).length:=by rw [hfin];exact hn'
 have hn1:n=1:=by
  by_cases e:n=1
  · exact e
  · exact absurd hx_ (by simp;omega)
 obtain ⟨a,ha⟩:∃ a,candL W st=[a]:=List.length_eq_one_iff.1 aa
 have ham:a∈W.L:=(nq (show a∈candL W st from by rw [ha];exact Z5.2 rfl)).1
 have hxa:xs=a.cells:=by rw [hxs,←hfin,ha];simp
 subst hxa
 subst hn1
 refine bP (r:=orow 46 20 (.slice A 1 cc) 1 a.cells) aQ (p:=A.isSome=true) (fun w h=>bF h (by decide)) fun hAp=>?_
 have had:=BZ b h sa sk st pl ok' a (hok.rng a ham) (hok.sm a ham) aa aa
 (refine aq ⟨[1,2],[(0,⟨[],[(3,⟨[],[(4,⟨[],[]⟩)]⟩)]⟩),(3,⟨[],[(0,⟨[],[(4,⟨[],[]⟩)]⟩)]⟩)]⟩ [] (fun _=>True) (h:=?_))
 all_goals repeat' (first|refine gd ?_|refine ax (hy:=by (apply ay (q:=0);rfl;rfl;omega;omega;assumption;rfl)) ?_|refine aA ?_ (h':=?_)|exact aB|((refine ak (gb (size:=20) (m:=1) (i:=0) (xs:=[a.cells]) (cs:=a.cells) rfl (by exact am) rfl (fun r hr=>by rw [Z5.1 hr];rfl) rfl) rfl rfl rfl ?_))|((refine cJ (l:=bldR b h sa sk st pl++[orow 46 20 (.slice A 1 cc) 1 a.cells,cel b1 122 [.pointer (some ⟨b,0,none⟩)]]) (QR (l₁:=[orow 46 20 (.slice A 1 cc) 1 a.cells,cel b1 122 [.pointer (some ⟨b,0,none⟩)]]) (l₂:=bldR b h sa sk st pl)) ?_;refine bN (pre:=bldR b h sa sk st pl) (fr:=[orow 46 20 (.slice A 1 cc) 1 a.cells,cel b1 122 [.pointer (some ⟨b,0,none⟩)]]) (first:=#[]) (caps:=#[]) (hc:=had) (hX:=fun w hw=>⟨hw.1.2 a ham,hw.2⟩) (h:=?_);rintro v R X' ⟨rfl,sa2,sk2,pl2,ok2,rfl⟩;simp only [bldR,ZK,ZL]))|fail)
 all_goals
  repeat' (first|refine gs ?_|fail)
  refine ab (ae rfl rfl) ⟨bldR b h sa2 sk2 (addS st a) pl2,QE _ _,fun a' ha'=>?_,fun ho=>?_⟩
  · rw [ha,oneA,ZM] at ha'
    subst ha'
    exact ⟨rfl,sa2,sk2,pl2,ok2,rfl⟩
  · rw [ha] at ho
    cases ho
end Go.Proofs.YtaolfiikahlmkaaGreatDoor
namespace Go.Proofs.YtaolfiikahlmkaaGreatDoor
open Go Go.Proofs Sy Tryz
structure Grp where
 s:Xl
 l:List Xa
def grpR (g:PosK×Grp):Xm:=actR g.2.s g.2.l
theorem sD {κ β γ:Type} [DecidableEq κ] (f:β→γ):∀ (l:List (κ×β)) (k:κ) (v:β),(dput l k v).map (fun p=>(p.1,f p.2))=dput (l.map fun p=>(p.1,f p.2)) k (f v)
 | [],_,_=>rfl
 | (k',v')::r,k,v=>by
  simp only [dput,Z1,←sD f r k v]
  cases decide (k=k')<;>rfl
theorem si {κ β:Type} [DecidableEq κ] (R:κ×β→Xm):∀ (G:List (κ×β)) (k:κ),∃ rest:List Xm,(∀ g',((dput G k g').map R).Perm (R (k,g')::rest))∧(∀ g,dget G k=some g→(G.map R).Perm (R (k,g)::rest))∧(dget G k=none→rest=G.map R)
 | [],k=>⟨[],fun g'=>Qn _,fun g h=>(by cases h),fun _=>rfl⟩
 | (k',v')::r,k=>by
  by_cases e:k=k'
  · subst e
    refine ⟨r.map R,fun g'=>?_,fun g h=>?_,fun h=>?_⟩
    · simp [dput]
    · simp only [dget,Zt,Zf,ZM] at h
      subst h
      exact Qn _
    · simp [dget] at h
  · obtain ⟨rest,h1,h2,h3⟩:=si R r k
    refine ⟨R (k',v')::rest,fun g'=>?_,fun g h=>?_,fun h=>?_⟩
    · have:=(h1 g').cons (R (k',v'))
      simp only [dput,e,Zr,Ze,Z1]
      exact this.trans (List.Perm.swap _ _ _)
    · simp only [dget,e,Zr,Ze] at h
      exact ((h2 g h).cons (R (k',v'))).trans (List.Perm.swap _ _ _)
    · simp only [dget,e,Zr,Ze] at h
      rw [h3 h]
      rfl
theorem permG {x O:Xm} {C rest R:List Xm} (h:R.Perm (O::rest)):(x::O::(C++rest)).Perm (x::(C++R)):=((List.perm_middle.symm).trans (h.symm.append_left C)).cons x
theorem permH {c m sm c4:Xm} {R:List Xm}:([c,m,sm,c4]++R).Perm ((sm::R)++[c,m,c4]):=(List.perm_middle (l₁:=[c,m])).trans (List.Perm.cons sm (QR (l₁:=[c,m,c4])))
theorem permK {an kb o c m c4:Xm}:[an,kb,o,c,m,c4].Perm [c,an,kb,m,o,c4]:=(List.perm_middle (l₁:=[an,kb,o])).trans (.cons _ (.cons _ (.cons _ (.swap _ _ _))))
def grpL (o:Option Grp):List Xa:=(o.map Grp.l).getD []
def grpS (o:Option Grp):Xl:=(o.map Grp.s).getD ⟨none,0,0⟩
structure GrpOk (G:List (PosK×Grp)) (L:List Xa):Prop where
 all:∀ k,grpL (dget G k)=actsFor L k
 len:∀ k g,dget G k=some g→g.s.n=g.l.length
theorem qs (L:List Xa) (a:Xa) (k:PosK):actsFor (L++[a]) k=actsFor L k++(bif decide (k=((a.seq,a.prev):PosK)) then [a] else []):=by
 rw [actsFor,actsFor,Qv]
 congr 1
 obtain ⟨n,p⟩:=k
 by_cases h1:a.seq=n
 · by_cases h2:a.prev=p
   · subst h1;subst h2;simp [List.filter,cG]
   · have hb:seqB a.prev p=false:=by
      cases h:seqB a.prev p with
      | false=>rfl
      | true=>exact absurd (seqB_iff.1 h) h2
     have hne:¬ ((n,p):PosK)=(a.seq,a.prev):=fun e=>h2 (congrArg Prod.snd e).symm
     simp [List.filter,hb,hne]
 · have hne:¬ ((n,p):PosK)=(a.seq,a.prev):=fun e=>h1 (congrArg Prod.fst e).symm
   simp [List.filter,h1,hne]
theorem GrpOk.step {G:List (PosK×Grp)} {L:List Xa} (h:GrpOk G L) (a:Xa) (s':Xl) (hs:s'.n=(grpL (dget G ((a.seq,a.prev):PosK))).length+1) :
  GrpOk (dput G ((a.seq,a.prev):PosK) ⟨s',grpL (dget G ((a.seq,a.prev):PosK))++[a]⟩) (L++[a]):=by
 refine ⟨fun k=>?_,fun k g hg=>?_⟩
 · rw [qs,kf]
   by_cases e:k=((a.seq,a.prev):PosK)
   · subst e
     simp only [Zt,Zf]
     rw [←h.all]
     rfl
   · rw [Zc e,Ze,Ze,ZJ]
     exact h.all k
 · rw [kf] at hg
   by_cases e:k=((a.seq,a.prev):PosK)
   · subst e
     simp only [Zt,Zf,ZM] at hg
     subst hg
     rw [ZA]
     exact hs
   · rw [Zc e,Ze] at hg
     exact h.len k g hg
namespace Sy
section
variable {P:Program} {N:Nat} {av bor:List Nat} {w0:World} {E:Env} {loc:List Xm} {X:World→Prop} {K:Exit→St→Prop} {c:Code}
theorem Xr.giveL {w:World}:∀ (L:List Xm) {X:World→Prop},Xr av bor w0 (L++loc) X w→Xr av bor w0 loc (fun w=>X w∧∀ r∈L,r.F w) w
  | [],X,G=>G.imp fun _ h=>⟨h,by simp⟩
  | r :: L,X,G=>(Xr.giveL L (Xr.give (r:=r) (loc:=L++loc) G)).imp fun w h=>⟨h.1.1,fun q hq=>by
      rcases ZI.1 hq with rfl|hq
      · exact h.1.2
      · exact h.2 q hq⟩
theorem zQ {ops:Array Oper} {rest:List Oper} {k:St→Prop} (L:List Xm) (h:Sw P N av bor w0 ops rest ⟨E,loc,fun w=>X w∧∀ r∈L,r.F w⟩ k):Sw P N av bor w0 ops rest ⟨E,L++loc,X⟩ k:=Sw.mk fun a w ok=>h.run a w (ok.via fun M G=>by
 rw [ZC] at G
 exact G.giveL L)
theorem BI {b e:Nat} {cs:List Value} (size m:Nat) (hl:cs.length=m*size:=by rfl) (hm:m≤maxLen) (h:Cw P N av bor w0 c ⟨E,orow e size (.slice (some ⟨b,0,none⟩) m m) m cs::loc,X⟩ K):Cw P N av bor w0 c ⟨E,cel b e cs::loc,X⟩ K:=Cw.mk fun a w ok=>h.run a w (ok.via fun M G=>G.orow hl hm)
theorem nj {l:List Xm} (hs:loc.Perm l) (h:Cw P N av bor w0 c ⟨E,l,X⟩ K):Cw P N av bor w0 c ⟨E,loc,X⟩ K:=Cw.mk fun a w ok=>h.run a w (ok.via fun M G=>G.perm (hs.append_right M))
end
end Sy
section
variable {N:Nat} {av bor:List Nat} {w0:World} {E:Env} {X:World→Prop} {K:Exit→St→Prop} {c:Code}
theorem F1 {G:List (PosK×Grp)} {k:PosK} {rest:List Xm} (C:List Xm) (h2:∀ g,dget G k=some g→(G.map grpR).Perm (grpR (k,g)::rest)) (h3:dget G k=none→rest=G.map grpR)
  (h:Cw prog N av bor w0 c ⟨E,actR (grpS (dget G k)) (grpL (dget G k))::(C++rest),X⟩ K):Cw prog N av bor w0 c ⟨E,C++G.map grpR,X⟩ K:=by
 cases hd:dget G k with
 | none =>
  rw [hd,h3 hd] at h
  exact cD 46 20 h
 | some g =>
  rw [hd] at h
  exact nj (((h2 g hd).append_left C).trans List.perm_middle) h
end
theorem Dt {q:Nat} {G:List (PosK×Grp)} {L:List Xa} (h:GrpOk G L) {w:World} (hm:SMapAt prog 129 w q (G.map fun g=>(g.1,g.2.s.v))) (hr:∀ r∈G.map grpR,r.F w) (ha:∀ a∈L,a.at_ w) :
  Ea q (G.map fun g=>(g.1,g.2.s)) L w:=by
 refine ⟨by rw [Z0];exact hm,fun k=>?_⟩
 rw [gT,←h.all k]
 have hsub:∀ a∈grpL (dget G k),a.at_ w:=fun a h1=>by
  rw [h.all k] at h1
  exact ha a (QN.1 h1).1
 cases hd:dget G k with
 | none=>exact ⟨cj w 20,fun a h=>by cases h⟩
 | some g =>
  rw [hd] at hsub
  have hg:=hr (grpR (k,g)) (List.mem_map_of_mem (sE hd))
  exact ff hg (h.len k g hd) hsub
end Go.Proofs.YtaolfiikahlmkaaGreatDoor
namespace Go.Proofs.YtaolfiikahlmkaaGreatDoor
open Go Go.Proofs Sy Tryz
def El.at (W:El) (L:List Xa):El:={ W with L:=L }
def OfRes (W:El) (st:Eb) (fork:Bool):Prop:=match oneA (firstL W) with
 | some a=>st=finS W a∧fork=decide (1<(candL W (finS W a)).length)
 | none=>st=⟨[],[],⟨#[]⟩,0⟩∧fork=decide (1<(firstL W).length)
def OfAt19 (W:El) (PL:List Xa→Prop) (u:Value) (X:World→Prop):Prop:=∃ (L:List Xa) (sa sk:Xl) (st:Eb) (fork:Bool),PL L∧OfRes (W.at L) st fork∧u=(⟨W.id,sa,sk,st.prev,(st.gen:Nat),fork,st.acts⟩:Xb).v∧∀ w,X w→Acts w sa st.acts∧Keyz w sk st.keys
structure OfHyp (ks ki:Xl) (W:El) (PL:List Xa→Prop) (Y:World→Prop):Prop where
 acts:Mk prog 62 #[.agg #[ks.v,ki.v],.string W.id] (fun w=>Y w∧Xi w) (fun u X'=>∃ (s:Xl) (L:List Xa),u=s.v∧PL L∧∀ w,X' w→Acts w s L)
 ok:∀ L,PL L→Xx L∧L.length≤100000
 bB:W.B≤100000
 won:∀ g:Nat,g≤W.B→Pu prog 115 #[.agg #[ks.v,ki.v],.string W.id,.int .i64 (g:Nat)] (fun w=>Y w∧Xi w) (.tuple #[((W.won g).getD Xg.zero).v,.bool (W.won g).isSome])
 bnd:∀ g c,W.won g=some c→g<W.B
 clm:∀ g c,W.won g=some c→∀ p:Int,Pu prog 116 #[.int .i64 p,c.v] (fun w=>Y w∧Xi w) (.bool (W.clm p c))
 dg:∀ g c,W.won g=some c→Pu prog 18 #[(ofClaimI c).v] (fun w=>Y w∧Xi w) (.string (W.dgC c))
 ver:∀ L,PL L→∀ a∈L,∀ p:Int,Pu prog 64 #[.int .i64 p,a.v] (fun w=>a.at_ w∧Xi w) (.bool (W.ver p a))
def chZ (id:ByteArray):List Value:=[.string id,.slice none 0 0,.slice none 0 0,.string ⟨#[]⟩,.int .i64 0,.bool false]
def bldH0 (ks ki:Xl) (id:ByteArray) (q1 q2:Nat):BldH:=⟨ks,ki,id,false,q1,q2,Xg.zero,false⟩
structure GroI (L:List Xa) where
 k:Nat
 hk:k≤L.length
 G:List (PosK×Grp)
 hG:GrpOk G (L.take k)
theorem rD {ks ki:Xl} {W:El} {PL:List Xa→Prop} {Y:World→Prop} (H:OfHyp ks ki W PL Y) (L:List Xa) (b q1 q2:Nat) (sa sk:Xl) (st:Eb) (pl:List (ByteArray×Value)) (ok:BldOk sa sk st pl)
  (hl:st.acts.length≤1000000) (hl2:st.keys.length≤1000000) :
  Ct prog 67 #[.pointer (some ⟨b,0,none⟩)] (bldR b ((bldH0 ks ki W.id q1 q2).look (W.won st.gen)) sa sk st pl) (fun w=>Y w∧Xi w)
   (fun u R _=>(∀ s,regS (W.at L) st=some s→BldAt b ((bldH0 ks ki W.id q1 q2).look (W.won s.gen)) s (.bool true) u R)∧(regS (W.at L) st=none→BldAt b ((bldH0 ks ki W.id q1 q2).look (W.won st.gen)) st (.bool false) u R)):=by
 have hwA:(W.at L).won=W.won:=rfl
 cases hw:W.won st.gen with
 | none =>
  refine (nJ b ((bldH0 ks ki W.id q1 q2).look none) sa sk st pl ok rfl _).mono fun v R X' h=>⟨fun s hs=>?_,fun _=>h⟩
  rw [regS,hwA,hw] at hs
  cases hs
 | some c =>
  have hg:=H.bnd _ _ hw
  have hB:=H.bB
  refine (nI b ((bldH0 ks ki W.id q1 q2).look (some c)) sa sk st pl ok (W.at L) c hw rfl rfl Y hl hl2 aa (H.clm _ _ hw) (H.dg _ _ hw) (H.won (st.gen+1) hg)).mono fun v R X' h=>⟨fun s hs=>?_,h.2⟩
  obtain ⟨_,_,_,e,_⟩:=ow hs
  rw [e]
  exact h.1 s hs
structure RunI (W:El) (a:Xa) where
 st:Eb
 sa:Xl
 sk:Xl
 pl:List (ByteArray×Value)
 ok:BldOk sa sk st pl
 inv:InvS W st
 j:Nat
 hj:muS W st≤j
 hr:runS W j st=finS W a
theorem RunI.next {W:El} (hB:∀ g c,W.won g=some c→g<W.B) {a:Xa} {st s:Eb} {j:Nat} (hI:InvS W st) (hj:muS W st≤j) (hr:runS W j st=finS W a) (hs:stepS W st=some s):InvS W s∧muS W s<muS W st∧muS W s≤j-1∧runS W (j-1) s=finS W a:=by
 obtain ⟨h1,h2⟩:=qR hB hI hs
 cases j with
 | zero=>omega
 | succ j=>exact ⟨h1,by omega,by rw [Nat.add_sub_cancel];omega,by rw [qZ hs] at hr;exact hr⟩
theorem Dq (ks ki:Xl) (W:El) (PL:List Xa→Prop) (Y:World→Prop) (H:OfHyp ks ki W PL Y) :
  Mk prog 27 #[.agg #[ks.v,ki.v],.string W.id] (fun w=>Y w∧Xi w) (OfAt19 W PL):=by
 refine dE func27 ntmps27 fun av bor w0=>?_
 repeat' (first|refine aK (cs:=chZ W.id) (hf:=by rfl) ?_|refine gs ?_|refine gs1 fun _=>?_|fail)
 refine qP PosK 129 (h:=fun q1=>?_)
 refine d7 ByteArray (h:=fun q2=>?_)
 repeat' (first|refine aK (cs:=bldC (bldH0 ks ki W.id q1 q2) ⟨none,0,0⟩ ⟨none,0,0⟩ ⟨#[]⟩ ((0:Nat):Int)) (hf:=by rfl) ?_|(refine cd (hc:=H.acts) fun v1 X1 h1=>?_;obtain ⟨s,L,rfl,hPL,hw1⟩:=h1)|refine gs ?_|refine gs1 fun _=>?_|fail)
 rename_i b2 b4 b
 refine aR (p:=s.n=L.length∧s.n≤maxLen∧(0<L.length→s.p.isSome=true)) (fun w h=>⟨(hw1 w h.2).len_,(hw1 w h.2).max_,(hw1 w h.2).some_⟩) fun ⟨hsn,hsm,hsp⟩=>?_
 simp only [maxLen] at hsm
 obtain ⟨hok,hL⟩:=H.ok L hPL
 refine ao (ι:=GroI L) (fun i=>⟨[(1,.string W.id),(4,.pointer (some ⟨b4,0,none⟩)),(5,.pointer (some ⟨b,0,none⟩)),(21,s.v),(22,.int .i64 (s.n:Nat)),(23,.int .i64 (i.k:Nat))],[cel b 126 (bldC (bldH0 ks ki W.id q1 q2) ⟨none,0,0⟩ ⟨none,0,0⟩ ⟨#[]⟩ ((0:Nat):Int)),mapr q2 ([]:List (ByteArray×Value)),smapr prog 129 q1 (i.G.map fun g=>(g.1,g.2.s.v)),cel b4 35 (chZ ⟨#[]⟩)]++i.G.map grpR,fun w=>(Y w∧Xi w)∧X1 w⟩) (fun i=>L.length-i.k) ⟨0,Z4 _,[],⟨fun _=>rfl,fun _ _ h=>by cases h⟩⟩ ?_ fun i=>?_
 · exact ai al (.cons_cons _ (.cons_cons _ (.cons_cons _ (.cons_cons _ (Zu _))))) fun _ h=>h
 obtain ⟨k,hk,G,hG⟩:=i
 simp only
 repeat' (first|refine gs ?_|(refine gp ?_ ?_<;>intro hx_ this)|fail)
 · have hlt:k<L.length:=by omega
   have hsp':=hsp aa
   obtain ⟨a,ha⟩:∃ a,L[k]?=some a:=⟨_,Zb hlt⟩
   have ham:=Z6 ha
   repeat' (first|refine gs ?_|refine gs1 fun _=>?_|(refine aD (q:=k*20) ?_)|(refine aM (cs:=a.cells) (hF:=fun w h=>Acts.get (hw1 w h.2) ha) ?_)|(refine aK (cs:=[.int .i64 a.seq,.string a.prev]) (hf:=by rfl) ?_)|fail)
   rename_i b7 b8
   obtain ⟨rest,hp1,hp2,hp3⟩:=si grpR G ((a.seq,a.prev):PosK)
   obtain ⟨l,hl⟩:∃ l,grpL (dget G ((a.seq,a.prev):PosK))=l:=⟨_,rfl⟩
   have hns:(grpS (dget G ((a.seq,a.prev):PosK))).n=l.length:=by
    rw [←hl]
    cases hd:dget G ((a.seq,a.prev):PosK) with
    | none=>rfl
    | some g=>exact hG.len _ g hd
   have hll:l.length≤100000:=by
    rw [←hl,hG.all]
    have h1:=Qa (fun x:Xa=>decide (x.seq=a.seq)&&seqB x.prev a.prev) (L.take k)
    rw [Qi] at h1
    exact ZY h1 aa
   have hof:(dget (G.map fun g=>(g.1,g.2.s.v)) ((a.seq,a.prev):PosK)).getD (.slice none 0 0)=(grpS (dget G ((a.seq,a.prev):PosK))).v:=by
    rw [gT (fun g:Grp=>g.s.v)]
    cases dget G ((a.seq,a.prev):PosK)<;>rfl
   have hst:=fun (s':Xl) (h:s'.n=l.length+1)=>hG.step a s' (by rw [hl];exact h)
   rw [hl] at hst
   obtain ⟨⟨A,n,c⟩,hs⟩:∃ s',grpS (dget G ((a.seq,a.prev):PosK))=s':=⟨_,rfl⟩
   rw [hs] at hns hof
   simp only at hns
   refine F1 (k:=((a.seq,a.prev):PosK)) (rest:=rest) [cel b8 129 [.int .i64 a.seq,.string a.prev],cel b7 46 a.cells,cel b 126 (bldC (bldH0 ks ki W.id q1 q2) ⟨none,0,0⟩ ⟨none,0,0⟩ ⟨#[]⟩ ((0:Nat):Int)),mapr q2 ([]:List (ByteArray×Value)),smapr prog 129 q1 (G.map fun g=>(g.1,g.2.s.v)),cel b4 35 (chZ ⟨#[]⟩)] hp2 hp3 ?_
   rw [hs,hl]
   unfold actR
   simp only [ZK,ZL]
   (refine aq ⟨[0,1,2,3,4,5],[(6,⟨[],[(7,⟨[8,10],[(9,⟨[],[(11,⟨[],[]⟩)]⟩)]⟩)]⟩)]⟩ [cel b8 129 [.int .i64 a.seq,.string a.prev],cel b7 46 a.cells,cel b 126 (bldC (bldH0 ks ki W.id q1 q2) ⟨none,0,0⟩ ⟨none,0,0⟩ ⟨#[]⟩ ((0:Nat):Int))] (fun w=>(Y w∧Xi w)∧X1 w) (h:=?_))
   all_goals repeat' (first|refine gdz ?_|refine aA ?_ (h':=?_)|exact aB|refine cA (size:=20) (vs:=[a.v]) (css:=a.cells) (hsz:=by rfl) (hcs:=by rfl) fun _=>?_|(refine pF (κ:=PosK) (kk:=((a.seq,a.prev):PosK)) (z:=.slice none 0 0) (u:=.slice A n c) rfl rfl rfl hof (fun _=>At.there _ (At.there _ (At.there _ (At.there _ (At.there _ (At.there _ (At.here _))))))) rfl rfl rfl (fun _=>?_))|(refine iF ?_;refine aJ (size:=20) (news:=a.cells) (q:=1) rfl rfl rfl rfl (fun _=>At.there _ (At.here _)) (fun w G=>bA G am rfl rfl 1) aa (by simp only [maxLen];omega) rfl ?_ rfl ?_;(with_reducible rfl);intro A2 c2)|(refine ms (κ:=PosK) (kk:=((a.seq,a.prev):PosK)) rfl rfl rfl (At.there _ (At.there _ (At.there _ (At.there _ (At.there _ (At.there _ (At.here _))))))) rfl rfl rfl ?_)|fail)
   all_goals
    have hmp:dput (dput (G.map fun g=>(g.1,g.2.s.v)) ((a.seq,a.prev):PosK) (.slice A n c)) ((a.seq,a.prev):PosK) (.slice A2 (n+1) c2)=(dput G ((a.seq,a.prev):PosK) ⟨⟨A2,n+1,c2⟩,l++[a]⟩).map (fun g=>(g.1,g.2.s.v)):=by
     rw [kc]
     exact (sD (fun g:Grp=>g.s.v) G ((a.seq,a.prev):PosK) ⟨⟨A2,n+1,c2⟩,l++[a]⟩).symm
    have hfl:((l++[a]).map Xa.cells).flatten=(l.map Xa.cells).flatten++a.cells:=by simp
    rw [hmp,←hfl]
    refine nj (permG (C:=[cel b8 129 [.int .i64 a.seq,.string a.prev],cel b7 46 a.cells,cel b 126 (bldC (bldH0 ks ki W.id q1 q2) ⟨none,0,0⟩ ⟨none,0,0⟩ ⟨#[]⟩ ((0:Nat):Int)),mapr q2 ([]:List (ByteArray×Value)),smapr prog 129 q1 ((dput G ((a.seq,a.prev):PosK) ⟨⟨A2,n+1,c2⟩,l++[a]⟩).map (fun g=>(g.1,g.2.s.v))),cel b4 35 (chZ ⟨#[]⟩)]) (hp1 ⟨⟨A2,n+1,c2⟩,l++[a]⟩)) ?_
    repeat' (first|refine gs ?_|fail)
    exact ⟨(⟨k+1,hlt,dput G ((a.seq,a.prev):PosK) ⟨⟨A2,n+1,c2⟩,l++[a]⟩,by rw [Qg,ha];exact hst _ (by show n+1=_;rw [hns])⟩:GroI L),(by show L.length-(k+1)<L.length-k;omega),ai al (.cons _ (.cons _ (.cons _ (aj _)))) fun w h=>h⟩
 have hkE:k=L.length:=by omega
 rw [hkE,Qh] at hG
 refine cJ permH ?_
 refine zQ _ ?_
 refine cH (X':=fun w=>(Y w∧Xi w)∧(Ea q1 (G.map fun g=>(g.1,g.2.s)) L w∧∀ a∈L,a.at_ w)) (fun w h=>⟨h.1.1,Dt hG (h.2 _ (.head _)) (fun r hr=>h.2 r (.tail _ hr)) (hw1 w h.1.2).2,(hw1 w h.1.2).2⟩) ?_
 clear hsp hsn hk
 obtain ⟨M,hM⟩:∃ M,actsFor L ((0:Int),⟨#[]⟩)=M:=⟨_,rfl⟩
 have hfl:firstL (W.at L)=M.filter (firstB (W.at L)):=by rw [←hM];rfl
 have hMm:∀ a∈M,a∈L:=fun a ha=>by rw [←hM] at ha;exact (QN.1 ha).1
 have hMl:M.length≤L.length:=by rw [←hM];exact Qa _ _
 obtain ⟨G',hG'⟩:∃ G',(G.map fun g=>(g.1,g.2.s))=G':=⟨_,rfl⟩
 rw [hG']
 obtain ⟨s0,hs0⟩:∃ s0,(dget G' ((0:Int),⟨#[]⟩)).getD ⟨none,0,0⟩=s0:=⟨_,rfl⟩
 have hgl:∃ o,dget (G'.map fun g=>(g.1,g.2.v)) ((0:Int),⟨#[]⟩)=o∧o.getD (.slice none 0 0)=s0.v:=by
  refine ⟨_,rfl,?_⟩
  rw [gT,←hs0]
  cases dget G' ((0:Int),⟨#[]⟩)<;>rfl
 obtain ⟨o,ho,hov⟩:=hgl
 have hro:∀ w,((Y w∧Xi w)∧(Ea q1 G' L w∧∀ a∈L,a.at_ w))→Acts w s0 M:=fun w h=>by
  have h1:=h.2.1.rows ((0:Int),⟨#[]⟩)
  rwa [hs0,hM] at h1
 repeat' (first|refine gs ?_|(refine aK (cs:=[.int .i64 0,.string ⟨#[]⟩]) (hf:=by rfl) ?_)|(refine ak (nU (κ:=PosK) (kk:=((0:Int),⟨#[]⟩)) (z:=.slice none 0 0) (o:=o) (v:=s0.v) rfl rfl (qV fun w h=>h.2.1.map) ho hov) rfl rfl rfl ?_)|fail)
 refine aR (p:=s0.n=M.length∧s0.n≤maxLen∧(0<M.length→s0.p.isSome=true)) (fun w h=>⟨(hro w h).len_,(hro w h).max_,(hro w h).some_⟩) fun ⟨hsn,hsm,hsp⟩=>?_
 simp only [maxLen] at hsm
 refine cD 46 20 ?_
 refine ao (ι:=CanI M (firstB (W.at L))) (fun i=>⟨[(1,.string W.id),(4,.pointer (some ⟨b4,0,none⟩)),(5,.pointer (some ⟨b,0,none⟩)),(9,.slice i.A i.n i.c),(49,s0.v),(50,.int .i64 (s0.n:Nat)),(51,.int .i64 (i.k:Nat))],[orow 46 20 (.slice i.A i.n i.c) i.n i.xs,cel b 126 (bldC (bldH0 ks ki W.id q1 q2) ⟨none,0,0⟩ ⟨none,0,0⟩ ⟨#[]⟩ ((0:Nat):Int)),mapr q2 ([]:List (ByteArray×Value)),cel b4 35 (chZ ⟨#[]⟩)],fun w=>(Y w∧Xi w)∧(Ea q1 G' L w∧∀ a∈L,a.at_ w)⟩) (fun i=>M.length-i.k) ⟨0,Z4 _,none,0,0,rfl,[],rfl⟩ (ai al (aj _) fun _ h=>h) fun i=>?_
 clear hkE this
 obtain ⟨k,hk',A,cc,n,hn',xs,hxs⟩:=i
 simp only
 have hnl:n≤100000:=by have h1:=Qa (firstB (W.at L)) (M.take k);rw [←hn',Qi] at h1;omega
 repeat' (first|refine gs ?_|(refine gp ?_ ?_<;>intro hx_ this)|fail)
 · have hlt:k<M.length:=by omega
   have hsp':=hsp aa
   obtain ⟨a,ha⟩:∃ a,M[k]?=some a:=⟨_,Zb hlt⟩
   have ham:a∈M:=Z6 ha
   have hamL:=hMm a ham
   have hnn:a.n<9223372036854775808:=(hok.rng a hamL).ints.2.2.2.2.2.1
   have hv:=H.ver L hPL a hamL a.n
   have htk:((M.take (k+1)).filter (firstB (W.at L)))=(M.take k).filter (firstB (W.at L))++(bif firstB (W.at L) a then [a] else []):=by
    rw [Qg,ha,Qv,Qu]
    congr 1
   have hfb:firstB (W.at L) a=(decide (a.kind=0)&&seqB (idV a.n) W.id&&W.ver a.n a):=rfl
   by_cases h0:a.kind=0
   · cases hid:seqB (idV a.n) W.id with
     | false =>
      have hno:(M.take (k+1)).filter (firstB (W.at L))=(M.take k).filter (firstB (W.at L)):=by simp [htk,hfb,hid]
      repeat' (first|refine aE (hab:=h0) ?_|refine bo ?_ (eL _ rfl rfl hid)|(refine ag (hc:=iI a.n hnn) (hX:=fun w h=>h.1.2) ?_)|refine gs ?_|refine gs1 fun _=>?_|(refine aD (q:=k*20) ?_)|(refine aM (cs:=a.cells) (hF:=fun w h=>Acts.get (hro w h) ha) ?_)|fail)
      exact ⟨(⟨k+1,hlt,A,cc,n,by rw [hno];exact hn',xs,by rw [hno];exact hxs⟩:CanI M (firstB (W.at L))),(by show M.length-(k+1)<M.length-k;omega),ai al (Z2 _ (aj _)) fun _ h=>h⟩
     | true =>
      cases hve:W.ver a.n a with
      | false =>
       rw [hve] at hv
       have hno:(M.take (k+1)).filter (firstB (W.at L))=(M.take k).filter (firstB (W.at L)):=by simp [htk,hfb,hve]
       repeat' (first|refine aE (hab:=h0) ?_|refine bo ?_ (eL _ rfl rfl hid)|(refine ag (hc:=iI a.n hnn) (hX:=fun w h=>h.1.2) ?_)|(refine ag (hc:=hv) (hX:=fun w h=>⟨h.2.2 a hamL,h.1.2⟩) ?_)|refine gs ?_|refine gs1 fun _=>?_|(refine aD (q:=k*20) ?_)|(refine aM (cs:=a.cells) (hF:=fun w h=>Acts.get (hro w h) ha) ?_)|fail)
       exact ⟨(⟨k+1,hlt,A,cc,n,by rw [hno];exact hn',xs,by rw [hno];exact hxs⟩:CanI M (firstB (W.at L))),(by show M.length-(k+1)<M.length-k;omega),ai al (Z2 _ (aj _)) fun _ h=>h⟩
      | true =>
       rw [hve] at hv
       have hyes:(M.take (k+1)).filter (firstB (W.at L))=(M.take k).filter (firstB (W.at L))++[a]:=by rw [htk,hfb,hid,hve,Zd h0];rfl
       repeat' (first|refine cA (size:=20) (vs:=[a.v]) (css:=a.cells) (hsz:=by rfl) (hcs:=by rfl) fun _=>?_|refine aE (hab:=h0) ?_|refine bo ?_ (eL _ rfl rfl hid)|(refine ag (hc:=iI a.n hnn) (hX:=fun w h=>h.1.2) ?_)|(refine ag (hc:=hv) (hX:=fun w h=>⟨h.2.2 a hamL,h.1.2⟩) ?_)|refine gs ?_|refine gs1 fun _=>?_|(refine aD (q:=k*20) ?_)|(refine aM (cs:=a.cells) (hF:=fun w h=>Acts.get (hro w h) ha) ?_)|fail)
       refine aJ (size:=20) (news:=a.cells) (q:=1) rfl rfl rfl rfl (fun _=>At.there _ (At.there _ (At.here _))) (fun w G=>bA G am rfl rfl 1) aa (by simp only [maxLen];omega) rfl ?_ rfl ?_
       · (with_reducible rfl)
       intro A2 c2
       repeat' (first|refine gs ?_|fail)
       exact ⟨(⟨k+1,hlt,A2,c2,n+1,by rw [hyes,ZA,←hn'];rfl,xs++a.cells,by rw [hyes,hxs];simp⟩:CanI M (firstB (W.at L))),(by show M.length-(k+1)<M.length-k;omega),ai al (Z2 _ (Z2 _ (aj _))) fun _ h=>h⟩
   · have hno:(M.take (k+1)).filter (firstB (W.at L))=(M.take k).filter (firstB (W.at L)):=by simp [htk,hfb,h0]
     repeat' (first|refine aG (hab:=h0) ?_|refine gs ?_|refine gs1 fun _=>?_|(refine aD (q:=k*20) ?_)|(refine aM (cs:=a.cells) (hF:=fun w h=>Acts.get (hro w h) ha) ?_)|fail)
     exact ⟨(⟨k+1,hlt,A,cc,n,by rw [hno];exact hn',xs,by rw [hno];exact hxs⟩:CanI M (firstB (W.at L))),(by show M.length-(k+1)<M.length-k;omega),ai al (Z2 _ (aj _)) fun _ h=>h⟩
 have hkE:k=M.length:=by omega
 have hfin:firstL (W.at L)=(M.take k).filter (firstB (W.at L)):=by rw [hfl,hkE,Qh]
 have hnc:n=(firstL (W.at L)).length:=by rw [hfin];exact hn'
 · have hn1:n≠1:=by
    intro e
    rw [e] at hx_
    exact absurd hx_ (by decide)
   have hone:oneA (firstL (W.at L))=none:=oA aa
   have hdc:decide ((1:Int)<(n:Int))=decide (1<(firstL (W.at L)).length):=by
    rw [←hnc]
    by_cases h1:1<n
    · rw [Zd h1,Zd (by omega)]
    · rw [Zc h1,Zc (by omega)]
   repeat' (first|refine gs ?_|(refine aC (vs:=[.string W.id,.slice none 0 0,.slice none 0 0,.string ⟨#[]⟩,.int .i64 0,.bool (decide ((1:Int)<(n:Int)))]) (hv:=rfl) ?_)|fail)
   exact ab (cM rfl rfl aQ (by rfl)) ⟨L,⟨none,0,0⟩,⟨none,0,0⟩,⟨[],[],⟨#[]⟩,0⟩,decide ((1:Int)<(n:Int)),hPL,(by rw [OfRes,hone];exact ⟨rfl,hdc⟩),rfl,fun w h=>⟨⟨cj w 20,fun a h=>by cases h⟩,cj w 3⟩⟩
 have hkE:k=M.length:=by omega
 have hfin:firstL (W.at L)=(M.take k).filter (firstB (W.at L)):=by rw [hfl,hkE,Qh]
 have hnc:n=(firstL (W.at L)).length:=by rw [hfin];exact hn'
 have hn1:n=1:=by
  by_cases e:n=1
  · exact e
  · exact absurd hx_ (by simp;omega)
 obtain ⟨a,ha⟩:∃ a,firstL (W.at L)=[a]:=List.length_eq_one_iff.1 aa
 have ham:a∈firstL (W.at L):=by rw [ha];exact Z5.2 rfl
 have hamL:a∈L:=hMm a (by rw [hfl] at ham;exact (QN.1 ham).1)
 have hxa:xs=a.cells:=by rw [hxs,←hfin,ha];simp
 subst hxa
 subst hn1
 refine bP (r:=orow 46 20 (.slice A 1 cc) 1 a.cells) aQ (p:=A.isSome=true) (fun w h=>bF h (by decide)) fun hAp=>?_
 have hcr:orow 46 20 (.slice A 1 cc) 1 a.cells∈[orow 46 20 (.slice A 1 cc) 1 a.cells]:=.head _
 (refine aq ⟨[0,1,2,3,4,5,6,7,8,9],[(10,⟨[11,12,13],[(14,⟨[],[]⟩)]⟩)]⟩ [orow 46 20 (.slice A 1 cc) 1 a.cells] (fun w=>(Y w∧Xi w)∧(Ea q1 G' L w∧∀ a∈L,a.at_ w)) (h:=?_))
 all_goals repeat' (first|refine gdz ?_|refine ax (hsub:=by exact aI) (hy:=by first|(apply ay (q:=0);rfl;rfl;omega;omega;assumption;rfl)|(apply dt;rfl;assumption;rfl)|(apply gc (size:=20) (i:=0) (j:=16) (xs:=[a.cells]) (cs:=a.cells) (u:=.int .i64 a.n);rfl;exact .head _;rfl;exact (fun r hr=>by rw [Z5.1 hr];rfl);rfl;rfl)|(apply gc (size:=20) (i:=0) (j:=17) (xs:=[a.cells]) (cs:=a.cells) (u:=.int .i64 a.m);rfl;exact .head _;rfl;exact (fun r hr=>by rw [Z5.1 hr];rfl);rfl;rfl)|(apply dv (cs:=Xq.cells ⟨0,a.n,a.m⟩);rfl;rfl)) ?_|refine aA ?_ (h':=?_)|exact aB|refine cA (size:=3) (vs:=[Xq.v ⟨0,a.n,a.m⟩]) (css:=Xq.cells ⟨0,a.n,a.m⟩) (hsz:=by rfl) (hcs:=by rfl) fun bk=>?_|fail)
 refine BI 3 1 rfl (by decide) ?_
 refine cD 46 20 ?_
 refine nj permK ?_
 have hadd:=BZ b (bldH0 ks ki W.id q1 q2) ⟨none,0,0⟩ ⟨some ⟨bk,0,none⟩,1,1⟩ (⟨[],[⟨0,a.n,a.m⟩],⟨#[]⟩,0⟩:Eb) [] ⟨rfl,rfl,fun d=>rfl⟩ a (hok.rng a hamL) (hok.sm a hamL) (by simp) (by simp)
 repeat' (first|refine gs ?_|(refine aD (q:=0) ?_)|(refine ak (gb (size:=20) (m:=1) (i:=0) (xs:=[a.cells]) (cs:=a.cells) rfl (.tail _ (.tail _ (.tail _ (.tail _ (.head _))))) rfl (fun r hr=>by rw [Z5.1 hr];rfl) rfl) rfl rfl rfl ?_)|fail)
 refine bN (pre:=bldR b (bldH0 ks ki W.id q1 q2) ⟨none,0,0⟩ ⟨some ⟨bk,0,none⟩,1,1⟩ (⟨[],[⟨0,a.n,a.m⟩],⟨#[]⟩,0⟩:Eb) []) (fr:=[orow 46 20 (.slice A 1 cc) 1 a.cells,cel b4 35 (chZ ⟨#[]⟩)]) (first:=#[]) (caps:=#[]) (hc:=hadd) (hX:=fun w h=>⟨h.2.2 a hamL,h.1.2⟩) (h:=?_)
 rintro v R X' ⟨rfl,sa,sk,pl,ok,rfl⟩
 refine cH (X':=fun w=>(Y w∧Xi w)∧(Ea q1 G' L w∧∀ a∈L,a.at_ w)) (fun w h=>h.1) ?_
 repeat' (first|refine gs ?_|fail)
 have hlook:=vy b (bldH0 ks ki W.id q1 q2) sa sk (begS a) (W.won 0) (fun w=>Y w∧Xi w) (H.won 0 (Z4 _))
 refine bN (pre:=[bldCel b (bldH0 ks ki W.id q1 q2) sa sk (begS a)]) (fr:=[actR sa (begS a).acts,keyR sk (begS a).keys,mapr q2 pl,orow 46 20 (.slice A 1 cc) 1 a.cells,cel b4 35 (chZ ⟨#[]⟩)]) (first:=#[]) (caps:=#[]) (hc:=hlook) (hX:=fun w h=>h.1) (h:=?_)
 rintro v R X' ⟨rfl,rfl⟩
 repeat' (first|refine gs ?_|fail)
 have hbI:=vO ham
 refine ao (ι:=RunI (W.at L) a) (fun i=>⟨[(4,.pointer (some ⟨b4,0,none⟩)),(5,.pointer (some ⟨b,0,none⟩))],bldR b ((bldH0 ks ki W.id q1 q2).look (W.won i.st.gen)) i.sa i.sk i.st i.pl++[cel b4 35 (chZ ⟨#[]⟩)],fun w=>(Y w∧Xi w)∧(Ea q1 G' L w∧∀ a∈L,a.at_ w)⟩) (fun i=>muS (W.at L) i.st) ⟨begS a,sa,sk,pl,ok,hbI.1,L.length+W.B,Nat.le_of_succ_le hbI.2,rfl⟩ (ai al (.cons_cons _ (.cons_cons _ (.cons_cons _ (.cons_cons _ (.cons _ (aj _)))))) fun w h=>h.1) fun i=>?_
 clear ok hlook hadd
 obtain ⟨st,sa2,sk2,pl2,ok2,inv,j,hj,hr⟩:=i
 simp only
 have hlen:=inv.len
 have hlen':st.acts.length≤L.length:=hlen
 have hkn:=inv.keyn
 have hgn:st.gen≤W.B:=inv.gen
 have hbB:=H.bB
 have hreg:=rD H L b q1 q2 sa2 sk2 st pl2 ok2 aa aa
 repeat' (first|refine gs ?_|fail)
 refine bN (pre:=bldR b ((bldH0 ks ki W.id q1 q2).look (W.won st.gen)) sa2 sk2 st pl2) (fr:=[cel b4 35 (chZ ⟨#[]⟩)]) (first:=#[]) (caps:=#[]) (hc:=hreg) (hX:=fun w h=>h.1) (h:=?_)
 rintro v R X' ⟨h1,h2⟩
 refine cH (X':=fun w=>(Y w∧Xi w)∧(Ea q1 G' L w∧∀ a∈L,a.at_ w)) (fun w h=>h.1) ?_
 cases hrg:regS (W.at L) st with
 | some s1 =>
  obtain ⟨rfl,sa3,sk3,pl3,ok3,rfl⟩:=h1 s1 hrg
  have hstep:stepS (W.at L) st=some s1:=by rw [stepS,hrg]
  obtain ⟨n1,n2,n3,n4⟩:=RunI.next (W:=W.at L) H.bnd inv hj hr hstep
  repeat' (first|refine gs ?_|fail)
  exact ⟨(⟨s1,sa3,sk3,pl3,ok3,n1,j-1,n3,n4⟩:RunI (W.at L) a),n2,ai al (aj _) fun w h=>h⟩
 | none =>
  obtain ⟨rfl,sa3,sk3,pl3,ok3,rfl⟩:=h2 hrg
  have hct:=qf b ((bldH0 ks ki W.id q1 q2).look (W.won st.gen)) sa3 sk3 st pl3 ok3 (W.at L) G' inv rfl hok hL H.bB (H.ver L hPL)
  repeat' (first|refine gs ?_|fail)
  refine bN (pre:=bldR b ((bldH0 ks ki W.id q1 q2).look (W.won st.gen)) sa3 sk3 st pl3) (fr:=[cel b4 35 (chZ ⟨#[]⟩)]) (first:=#[]) (caps:=#[]) (hc:=hct) (hX:=fun w h=>⟨h.2,h.1.2⟩) (h:=?_)
  rintro v R X' ⟨g1,g2⟩
  refine cH (X':=fun w=>(Y w∧Xi w)∧(Ea q1 G' L w∧∀ a∈L,a.at_ w)) (fun w h=>h.1) ?_
  cases ho2:oneA (candL (W.at L) st) with
  | some a2 =>
   obtain ⟨rfl,sa4,sk4,pl4,ok4,rfl⟩:=g1 a2 ho2
   have hstep:stepS (W.at L) st=some (addS st a2):=by rw [stepS,hrg,ho2];rfl
   obtain ⟨n1,n2,n3,n4⟩:=RunI.next (W:=W.at L) H.bnd inv hj hr hstep
   repeat' (first|refine gs ?_|fail)
   exact ⟨(⟨addS st a2,sa4,sk4,pl4,ok4,n1,j-1,n3,n4⟩:RunI (W.at L) a),n2,ai al (aj _) fun w h=>h⟩
  | none =>
   obtain ⟨rfl,sa4,sk4,pl4,ok4,rfl⟩:=g2 ho2
   have hstep:stepS (W.at L) st=none:=by rw [stepS,hrg,ho2];rfl
   rw [qY hstep] at hr
   repeat' (first|refine gs ?_|(refine aC (vs:=[.string W.id,.slice sa4.p sa4.n sa4.c,.slice sk4.p sk4.n sk4.c,.string st.prev,.int .i64 (st.gen:Nat),.bool (decide (1<(candL (W.at L) st).length))]) (hv:=rfl) ?_)|fail)
   refine ab (cM rfl rfl aQ (by rfl)) ⟨L,sa4,sk4,st,decide (1<(candL (W.at L) st).length),hPL,?_,rfl,fun w h=>⟨?_,?_⟩⟩
   · rw [OfRes,show oneA (firstL (W.at L))=some a from by rw [ha];rfl]
     exact ⟨hr,by rw [←hr]⟩
   · exact ff (h.2 (actR sa4 st.acts) (.tail _ (.head _))) ok4.hn fun x hx=>h.1.2.2 x (inv.mem x hx)
   · exact bm (h.2 (keyR sk4 st.keys) (.tail _ (.tail _ (.head _)))) (by rw [ZF];exact ok4.hk) (oM _)
structure KnR (L:List Int) (I:List Xe):Prop where
 sv:L.length≤20
 len:I.length≤100
 rng:∀ i∈I,i.act.Rng
 sm:∀ i∈I,i.act.Sm
 dn:∀ i∈I,i.dec.to.n=i.dec.toL.length
 right:∀ i∈I,rightIt i=true
 asc:Asc (I.map digIt)
theorem vL {P:Program} {f:FuncId} {args:Array Value} {pre:List Xm} {X X':World→Prop} {Post:Value→List Xm→(World→Prop)→Prop} (h:Ct P f args pre X Post) (hx:∀ w,X' w→X w):Ct P f args pre X' Post :=
 Ct.mk fun w av G=>h.run w av (G.imp hx)
theorem pV {P:Program} {f:FuncId} {args:Array Value} {X X':World→Prop} {v:Value} (h:Pu P f args X v) (hx:∀ w,X' w→X w):Pu P f args X' v:=by
 unfold Pu at *
 exact vL h hx
theorem Dx {P:Program} {f:FuncId} {args:Array Value} {X X':World→Prop} {Φ:Value→(World→Prop)→Prop} (h:Mk P f args X Φ) (hx:∀ w,X' w→X w):Mk P f args X' Φ:=by
 unfold Mk at *
 exact vL h hx
theorem yq:Xa.zero.Rng:=⟨by decide,fun w hw=>(Qk hw).elim,rfl,rfl⟩
theorem vN {x y:ByteArray} (h:ltB x y=true):¬ SrG.cmp2 0 0 y x<0:=by
 have h1:ltB y x=false:=by
  cases hh:ltB y x with
  | false=>rfl
  | true =>
   have:=ie h hh
   rw [cY] at this
   cases this
 have h2:Op.bytesLess y.toList x.toList=false:=h1
 rw [SrG.cmp2,SrG.cmpI_self]
 show ¬ SrG.cmpB_g y x<0
 rw [SrG.cmpB_g,h2]
 cases seqB y x<;>decide
theorem qr {l:List ByteArray} (h:Asc l) {i j:Nat} {x y:ByteArray} (hij:i<j) (hi:l[i]?=some x) (hj:l[j]?=some y):ltB x y=true:=by
 obtain ⟨h1,rfl⟩:=QL.1 hi
 obtain ⟨h2,rfl⟩:=QL.1 hj
 exact List.pairwise_iff_getElem.1 h i j h1 h2 hij
theorem vR {l m:List ByteArray} (h:Asc l) (hs:m.Sublist l):Asc m:=List.Pairwise.sublist hs h
theorem srtC {L:List Int} {I:List Xe} (h:KnR L I) (au:ByteArray):SrC.Srt (selFC au rightIt digIt I):=by
 have ha:Asc ((selFC au rightIt digIt I).map Xp.dg):=by
  rw [selFC,Z0]
  exact vR h.asc (List.filter_sublist.map digIt)
 have hr:∀ x∈selFC au rightIt digIt I,x.rank=0:=fun x hx=>by
  rw [selFC] at hx
  obtain ⟨i,_,rfl⟩:=QJ.1 hx
  rfl
 intro i j x y hij hi hj
 rw [SrC.cmpX,hr x (Z6 hi),hr y (Z6 hj)]
 exact vN (qr ha hij (by rw [Z7,hi];rfl) (by rw [Z7,hj];rfl))
theorem srtB {L:List Int} {I:List Xe} (h:KnR L I) (au:ByteArray) (gn:Int):SrB.Srt (selFB au gn rightIt digIt I):=by
 have ha:Asc ((selFB au gn rightIt digIt I).map Xs.dg):=by
  rw [selFB,Z0]
  exact vR h.asc (List.filter_sublist.map digIt)
 have hr:∀ x∈selFB au gn rightIt digIt I,x.rank=0:=fun x hx=>by
  rw [selFB] at hx
  obtain ⟨i,_,rfl⟩:=QJ.1 hx
  rfl
 intro i j x y hij hi hj
 rw [SrB.cmpX,hr x (Z6 hi),hr y (Z6 hj)]
 exact vN (qr ha hij (by rw [Z7,hi];rfl) (by rw [Z7,hj];rfl))
def claimsV (I:List Xe) (au:ByteArray):List Xg:=selC au rightIt I
def dgCl (c:Xg):ByteArray:=digIt (ofClaimI c)
def wonK (sv:Nat) (I:List Xe) (au:ByteArray) (gn:Int):Option Xg:=wonO sv (claimsV I au) dgCl (selB2 au gn rightIt I) gn
theorem lB {sv:Nat} {I:List Xe} {au:ByteArray} {gn:Int} {c:Xg} (h:wonK sv I au gn=some c):c∈claimsV I au∧c.gen=gn:=by
 have h1:=List.find?_some h
 rw [wonB,Zp,Zw] at h1
 exact ⟨Qz h,h1.1⟩
theorem qg {I:List Xe} {au:ByteArray} {c:Xg} (h:c∈claimsV I au):claimR c=true:=by
 rw [claimsV,selC] at h
 obtain ⟨i,hi,rfl⟩:=QJ.1 h
 have h1:=(QN.1 hi).2
 rw [selBC,Zp,wantC,Zp,Zw] at h1
 rcases dP h1.2 with h2|h2|h2|h2
 · rw [h1.1.1] at h2;exact absurd h2.1 (by decide)
 · exact h2.2
 · rw [h1.1.1] at h2;exact absurd h2.1 (by decide)
 · rw [h1.1.1] at h2;exact absurd h2.1 (by decide)
def lnone (f:Nat→Option Xg):Nat→Nat→Nat
 | 0,g=>g
 | n+1,g=>match f g with
  | none=>g
  | some _=>lnone f n (g+1)
theorem mS (f:Nat→Option Xg):∀ n g i,g≤i→i<lnone f n g→(f i).isSome=true
 | 0,g,i,h1,h2=>by rw [lnone] at h2;omega
 | n+1,g,i,h1,h2=>by
  rw [lnone] at h2
  cases hf:f g with
  | none=>rw [hf] at h2;simp only at h2;omega
  | some c =>
   rw [hf] at h2
   simp only at h2
   rcases Nat.lt_or_eq_of_le h1 with h3|rfl
   · exact mS f n (g+1) i h3 h2
   · rw [hf];rfl
theorem mR (f:Nat→Option Xg):∀ n g,lnone f n g<g+n→f (lnone f n g)=none
 | 0,g,h=>by rw [lnone] at h;omega
 | n+1,g,h=>by
  rw [lnone] at h ⊢
  cases hf:f g with
  | none=>exact hf
  | some c =>
   rw [hf] at h
   simp only at h ⊢
   exact mR f n (g+1) aa
def genB (sv:Nat) (I:List Xe) (au:ByteArray):Nat:=lnone (fun g=>wonK sv I au (g:Nat)) ((claimsV I au).length+1) 0
theorem qc (sv:Nat) (I:List Xe) (au:ByteArray):genB sv I au≤(claimsV I au).length:=by
 have h:=j1 (n:=genB sv I au) (l:=(claimsV I au).map Xg.gen) fun i hi=>by
  have h1:=mS (fun g=>wonK sv I au (g:Nat)) _ 0 i (Z4 _) hi
  cases hw:wonK sv I au (i:Nat) with
  | none=>rw [hw] at h1;cases h1
  | some c =>
   obtain ⟨h2,h3⟩:=lB hw
   exact QJ.2 ⟨c,h2,h3⟩
 simpa using h
theorem xP (sv:Nat) (I:List Xe) (au:ByteArray):wonK sv I au (genB sv I au:Nat)=none :=
 mR (fun g=>wonK sv I au (g:Nat)) ((claimsV I au).length+1) 0 (by have:=qc sv I au;rw [genB] at this;omega)
def OfWK (sv:Nat) (I:List Xe) (au:ByteArray):El:=⟨[],au,fun g=>bif decide (g<genB sv I au) then wonK sv I au (g:Nat) else none,sgnC,dgCl,verV,genB sv I au⟩
theorem E4 {sv:Nat} {I:List Xe} {au:ByteArray} {g:Nat} (hg:g≤genB sv I au):(OfWK sv I au).won g=wonK sv I au (g:Nat):=by
 show (bif decide (g<genB sv I au) then _ else _)=_
 rcases Nat.lt_or_eq_of_le hg with h|rfl
 · rw [Zd h,Zf]
 · rw [Zc (Nat.lt_irrefl _),Ze,xP]
theorem iO {sv:Nat} {I:List Xe} {au:ByteArray} {g:Nat} {c:Xg} (h:(OfWK sv I au).won g=some c):g<genB sv I au∧wonK sv I au (g:Nat)=some c:=by
 change (bif decide (g<genB sv I au) then wonK sv I au (g:Nat) else none)=some c at h
 cases hd:decide (g<genB sv I au) with
 | true=>rw [hd] at h;exact ⟨bz hd,h⟩
 | false=>rw [hd] at h;cases h
theorem AS (hso:∀ n,n≤1000000→SortA n) (ks ki:Xl) {L:List Int} {I:List Xe} (h:KnR L I) (au:ByteArray) :
  OfHyp ks ki (OfWK L.length I au) (fun A=>A.Perm (selA au rightIt I)) (fun w=>Ints w ks L∧Items w ki I):=by
 have hR:∀ it∈I,Pu prog 73 #[it.v] (fun w=>it.at_ w) (.bool (rightIt it)):=fun it hi=>iv it
 have hD:∀ it∈I,Pu prog 18 #[it.v] (fun w=>it.at_ w∧Xi w) (.string (digIt it)):=fun it hi=>gQ it (h.rng it hi) (h.dn it hi)
 have hI:I.length≤1000:=ZY h.len (by decide)
 have hcl:(claimsV I au).length≤I.length:=by rw [claimsV,selC,ZF];exact Qa _ _
 have hgl:=qc L.length I au
 have hlen:=h.len
 have hdc:∀ c∈claimsV I au,Pu prog 18 #[(ofClaimI c).v] Xi (.string (dgCl c)):=fun c hc =>
  pV (gQ (ofClaimI c) yq rfl) fun w hw=>⟨⟨⟨cj w 1,cj w 5⟩,cj w 1⟩,hw⟩
 have hmem:∀ A:List Xa,A.Perm (selA au rightIt I)→∀ a∈A,∃ i∈I,i.act=a:=fun A hA a ha=>by
  have h1:=hA.subset ha
  rw [selA] at h1
  obtain ⟨i,hi,e⟩:=QJ.1 h1
  exact ⟨i,(QN.1 hi).1,e⟩
 exact {
  acts:=Dx (p7 ks ki I au rightIt digIt hR hD hI (hso _ aa)) fun w hw=>⟨hw.1.2,hw.2⟩
  ok:=fun A hA=>⟨⟨fun a ha=>by obtain ⟨i,hi,rfl⟩:=hmem A hA a ha;exact h.rng i hi,fun a ha=>by obtain ⟨i,hi,rfl⟩:=hmem A hA a ha;exact h.sm i hi⟩,by
   rw [hA.length_eq,selA,ZF]
   have:=Qa (selB au rightIt) I
   omega⟩
  bB:=by show genB L.length I au≤_;omega
  won:=fun g hg=>by
   rw [E4 hg]
   exact E3 ks ki L I au (g:Nat) (claimsV I au) (selB2 au (g:Nat) rightIt I) dgCl (by rw [selB2,ZF];have:=Qa (selBB au (g:Nat) rightIt) I;omega) (by have:=h.sv;omega)
    (kY ks ki I au rightIt digIt hR hD hI (srtC h au)) (j7 ks ki I au (g:Nat) rightIt digIt hR hD hI (srtB h au _)) hdc
  bnd:=fun g c hw=>(iO hw).1
  clm:=fun g c hw p=>pV (un p c (qg (lB (iO hw).2).1)) fun w hw=>hw.2
  dg:=fun g c hw=>pV (hdc c (lB (iO hw).2).1) fun w hw=>hw.2
  ver:=fun A hA a ha p=>by
   obtain ⟨i,hi,rfl⟩:=hmem A hA a ha
   exact qu p i.act (h.rng i hi) }
theorem FD (hso:∀ n,n≤1000000→SortA n) (ks ki:Xl) {L:List Int} {I:List Xe} (h:KnR L I) (au:ByteArray) :
  Mk prog 27 #[.agg #[ks.v,ki.v],.string au] (fun w=>(Ints w ks L∧Items w ki I)∧Xi w) (OfAt19 (OfWK L.length I au) fun A=>A.Perm (selA au rightIt I)) :=
 Dq ks ki (OfWK L.length I au) _ _ (AS hso ks ki h au)
end Go.Proofs.YtaolfiikahlmkaaGreatDoor
namespace Go.Proofs.YtaolfiikahlmkaaGreatDoor
open Go Go.Proofs Sy SrG Tryz
namespace SrA
def p22 (i:Nat):Nat:=i*22
theorem du (i:Nat):p22 i=i*22:=rfl
attribute [irreducible] p22
structure FndX where
 rank:Int
 dg:ByteArray
 r:List Value
 hr:r.length=20
 h1:r.all (·.oneCell')=true
def FndX.cells (f:FndX):List Value:=.int .i64 f.rank::.string f.dg::f.r
theorem FndX.len (f:FndX):f.cells.length=22:=by simp [FndX.cells,f.hr]
theorem FndX.one (f:FndX):f.cells.all (·.oneCell')=true:=by rw [FndX.cells,List.all_cons,List.all_cons,f.h1];rfl
theorem cellsF (P:List FndX):∀ r∈P.map FndX.cells,r.length=22:=fun r hr=>by
 obtain ⟨c,_,rfl⟩:=QJ.1 hr
 exact c.len
abbrev postR (s:Xl) (P:List FndX):Xm:=orow 243 22 (.slice s.p s.n s.c) s.n (P.map FndX.cells).flatten
theorem cv:∀ (L:List FndX) (p:Nat) (x:FndX),p<L.length→(L.map FndX.cells).flatten.take (p*22)++x.cells++(L.map FndX.cells).flatten.drop (p*22+22)=((L.set p x).map FndX.cells).flatten
 | [],p,x,h=>absurd h (by simp)
 | c::L,0,x,h=>by
  have h6:c.cells.length=22:=c.len
  rw [List.set_cons_zero,Z1,Z1,Qb,Qb,Nat.zero_mul,ZU,List.take_zero,ZL,List.drop_append,h6,Qw (by omega)]
  rfl
 | c::L,p+1,x,h=>by
  have h6:c.cells.length=22:=c.len
  have ih:=cv L p x (by simpa using h)
  rw [List.set_cons_succ,Z1,Z1,Qb,Qb,←ih,List.take_append,List.drop_append,h6,Qf aa,Qw aa,
   show (p+1)*22-22=p*22 from by omega,show (p+1)*22+22-22=p*22+22 from by omega,ZL,ZC,ZC,ZC]
theorem cL {P:List FndX} {i j:Nat} {x y:FndX} (hi:P[i]?=some x) (hj:P[j]?=some y):((P.set i y).set j x).Perm P:=by
 obtain ⟨h1,rfl⟩:=QL.1 hi
 obtain ⟨h2,rfl⟩:=QL.1 hj
 exact List.set_set_perm h1 h2
section
variable {N:Nat} {av bor:List Nat} {w0:World} {st:St} {ty:TypeId} {x y:Operand} {E:Env} {loc:List Xm} {X:World→Prop} {ops:Array Oper} {kk:St→Prop} {pos:String} {af:Array Edge} {g:Option (Nat×Bool)} {rest:List Oper} {bb want:Bool}
theorem br {A:Option Addr} {m c i:Nat} {P:List FndX} {p:FndX} (hx:ev st.env x=some (elP A (p22 i))) (hm:orow 243 22 (.slice A m c) m (P.map FndX.cells).flatten∈st.loc) (hn:m=P.length) (hi:P[i]?=some p) :
  Sy.Yields prog N av bor w0 st (.load 243 x) ty (.agg p.cells.toArray):=gb (xs:=P.map FndX.cells) (cs:=p.cells) (du i▸hx) hm (by simp [hn]) (cellsF P) (by simp [hi])
theorem bV {d:Option Tmp} {loc':List Xm} {A:Option Addr} {m c i:Nat} {P:List FndX} {p:FndX} (hx:ev E x=some (elP A (p22 i)):=by rfl) (hy:ev E y=some (.agg p.cells.toArray):=by rfl) (hi:i<m:=by omega) (hn:m=P.length)
  (hA:At (orow 243 22 (.slice A m c) m (P.map FndX.cells).flatten) (orow 243 22 (.slice A m c) m ((P.set i p).map FndX.cells).flatten) loc loc':=by (repeat (first|exact At.here _|apply At.there))) (hg:gdB ops E g=some (bb,want):=by rfl) (hb:bb=want:=by exact ar) (hd:inB N d=true:=by rfl)
  (h:Sw prog N av bor w0 ops rest ⟨putE E d undef,loc',X⟩ kk):Sw prog N av bor w0 ops (⟨d,.store 243 x y,ty,pos,af,g⟩::rest) ⟨E,loc,X⟩ kk :=
 mq (i:=i) (size:=22) (vs:=p.cells) ac (du i▸hx) hy rfl p.one p.len hi (cv P i p aa) hA hg hb hd h
end
def PermAt (s:Xl) (P:List FndX) (u:Value) (R:List Xm) (X:World→Prop):Prop:=u=.tuple #[]∧∃ Q:List FndX,Q.Perm P∧R=[postR s Q]
structure PermI (P:List FndX) (n:Nat) where
 k:Nat
 hk:k≤n
 Q:List FndX
 hQ:Q.Perm P
theorem bL (s:Xl) (P:List FndX) (a b n:Nat) (fv:Value) (hs:s.n=P.length) (hm:s.n≤1000000) (ha:a+n≤s.n) (hb:b+n≤s.n) :
  Ct prog 311 #[s.v,.int .i64 (a:Nat),.int .i64 (b:Nat),.int .i64 (n:Nat),fv] [postR s P] (fun _=>True) (PermAt s P):=by
 refine cF func311 ntmps311 fun av bor w0=>?_
 refine bP (r:=postR s P) am (p:=0<s.n→s.p.isSome=true) (fun w h hn=>bF h hn) fun hp=>?_
 repeat' (first|refine gs ?_|fail)
 refine ao (ι:=PermI P n) (fun i=>⟨[(0,s.v),(1,.int .i64 (a:Nat)),(2,.int .i64 (b:Nat)),(3,.int .i64 (n:Nat)),(10,.int .i64 (i.k:Nat))],[postR s i.Q],fun _=>True⟩) (fun i=>n-i.k) ⟨0,Z4 _,P,Qn _⟩ (ai al (aj _) fun _ h=>h) fun i=>?_
 obtain ⟨k,hk,Q,hQ⟩:=i
 simp only
 have hl:=hQ.length_eq
 repeat' (first|refine gs ?_|(refine gp ?_ ?_<;>intro hx_ this)|fail)
 · have hlt:k<n:=by omega
   have hp':=hp aa
   obtain ⟨x,hx⟩:∃ x,Q[a+k]?=some x:=⟨_,Zb aa⟩
   obtain ⟨y,hy⟩:∃ y,Q[b+k]?=some y:=⟨_,Zb aa⟩
   (refine aq ⟨[0,1,2,3,4,5,6,7,8,9,10,11,12,14,15,16,17,18],[(13,⟨[],[(19,⟨[20],[(21,⟨[22],[(23,⟨[],[]⟩)]⟩)]⟩)]⟩),(19,⟨[],[(13,⟨[20],[(21,⟨[22],[(23,⟨[],[]⟩)]⟩)]⟩)]⟩)]⟩ [] (fun _=>True) (h:=?_))
   all_goals repeat' (first|refine gd ?_|refine ax (hy:=by first|(apply ay (q:=p22 (a+k));rfl;rfl;omega;omega;assumption;(rw [du];omega))|(apply ay (q:=p22 (b+k));rfl;rfl;omega;omega;assumption;(rw [du];omega))) ?_|refine aA ?_ (h':=?_)|exact aB|(refine ak (br (i:=a+k) (P:=Q) rfl am aa hx) rfl rfl rfl ?_)|(refine ak (br (i:=b+k) (P:=Q) rfl am aa hy) rfl rfl rfl ?_)|((refine bV (i:=a+k) (p:=y) rfl rfl aa (by first|omega|(simp only [Z9];omega)) (At.here _) rfl ar rfl ?_))|((refine bV (i:=b+k) (p:=x) rfl rfl aa (by (simp only [Z9];omega)) (At.here _) rfl ar rfl ?_))|fail)
   all_goals
    repeat' (first|refine gs ?_|fail)
    exact ⟨(⟨k+1,hlt,(Q.set (a+k) y).set (b+k) x,(cL hx hy).trans hQ⟩:PermI P n),(by show n-(k+1)<n-k;omega),ai al (aj _) fun _ h=>h⟩
 · exact aN (aF rfl) ⟨rfl,Q,hQ,rfl⟩
section
variable {N:Nat} {av bor:List Nat} {w0:World} {ops:Array Oper} {rest:List Oper} {k:St→Prop} {E:Env} {X:World→Prop} {d:Option Tmp} {ty:TypeId} {pos:String} {af:Array Edge} {g:Option (Nat×Bool)} {bb want:Bool}
theorem bS {x:Operand} {xs:List Operand} {ats:Array TypeId} {f:FuncId} {args:List Value} {s:Xl} {Q:List FndX}
  (hx:ev E x=some (.func (.func f) #[] #[]):=by rfl) (ha:evs E xs=some args:=by rfl) (hg:gdB ops E g=some (bb,want):=by rfl) (hb:bb=want:=by exact ar) (hd:inB N d=true:=by rfl) (hf:Xc prog f:=by infer_instance)
  (hc:Ct prog f args.toArray [postR s Q] (fun _=>True) (PermAt s Q))
  (h:∀ Q':List FndX,Q'.Perm Q→Sw prog N av bor w0 ops rest ⟨putE E d (.tuple #[]),[postR s Q'],X⟩ k) :
  Sw prog N av bor w0 ops (⟨d,.call ⟨.value x,xs.toArray,ats⟩,ty,pos,af,g⟩::rest) ⟨E,[postR s Q],X⟩ k :=
 bN (pre:=[postR s Q]) (fr:=[]) (first:=#[]) (caps:=#[]) (Post:=PermAt s Q) hx ha rfl hg hb hd hf (by simpa using hc) (fun _ _=>trivial) fun u R X' ⟨h1,Q',h2,h3⟩=>by
  subst h1
  subst h3
  refine iq (fun a w ok=>?_) (h Q' h2)
  exact ok.via fun M G=>G.imp fun _ h=>h.1
end
structure RotI (P:List FndX) (p q:Nat) where
 i:Nat
 j:Nat
 h1:1≤i
 h2:i≤p
 h3:1≤j
 h4:j≤q
 Q:List FndX
 hQ:Q.Perm P
theorem eJ (s:Xl) (P:List FndX) (a m b:Nat) (fv:Value) (hs:s.n=P.length) (hm:s.n≤1000000) (ha:a<m) (hb:m<b) (hbs:b≤s.n) :
  Ct prog 295 #[s.v,.int .i64 (a:Nat),.int .i64 (m:Nat),.int .i64 (b:Nat),fv] [postR s P] (fun _=>True) (PermAt s P):=by
 refine cF func295 ntmps295 fun av bor w0=>?_
 repeat' (first|refine aX (hq:=by omega) ?_|refine gs ?_|fail)
 refine ao (ι:=RotI P (m-a) (b-m)) (fun r=>⟨[(0,s.v),(2,.int .i64 (m:Nat)),(4,fv),(10,.int .i64 (r.i:Nat)),(11,.int .i64 (r.j:Nat))],[postR s r.Q],fun _=>True⟩) (fun r=>r.i+r.j) ⟨m-a,b-m,by omega,by omega,by omega,by omega,P,Qn _⟩ (ai al (aj _) fun _ h=>h) fun r=>?_
 obtain ⟨i,j,h1,h2,h3,h4,Q,hQ⟩:=r
 simp only
 have hl:=hQ.length_eq
 by_cases hij:i=j
 · repeat' (first|refine eX ?_|refine aX (hq:=by omega) ?_|refine gs ?_|(refine bS (hc:=bL s Q (m-i) m i fv aa hm aa aa) (h:=fun Q2 hQ2=>?_))|fail)
   exact aN (aF rfl) ⟨rfl,Q2,hQ2.trans hQ,rfl⟩
 · repeat' (first|refine aX (hq:=by omega) ?_|refine aL (hq:=by omega) ?_|refine gs ?_|(refine bS (hc:=bL s Q (m-i) m j fv aa hm aa aa) (h:=fun Q2 hQ2=>?_))|(refine bS (hc:=bL s Q (m-i) (m+j-i) i fv aa hm aa aa) (h:=fun Q2 hQ2=>?_))|(refine gp ?_ ?_<;>intro hx_ this)|fail)
   · exact ⟨(⟨i-j,j,by omega,by omega,h3,h4,Q2,hQ2.trans hQ⟩:RotI P (m-a) (b-m)),(by show i-j+j<i+j;omega),ai al (aj _) fun _ h=>h⟩
   · exact ⟨(⟨i,j-i,h1,h2,by omega,by omega,Q2,hQ2.trans hQ⟩:RotI P (m-a) (b-m)),(by show i+(j-i)<i+j;omega),ai al (aj _) fun _ h=>h⟩
   · have h9:(i:Int)=(j:Int):=by simpa using hx_
     exact absurd (show i=j by omega) hij
def cmpX (x y:FndX):Int:=cmp2 x.rank y.rank x.dg y.dg
theorem dj (x y:FndX):Pu prog 184 #[.agg x.cells.toArray,.agg y.cells.toArray] (fun _=>True) (.int .i64 (cmpX x y)):=by
 refine aw func184 ntmps184 fun av bor w0=>?_
 have h1:=gV x.rank y.rank
 have h2:=gD x.dg y.dg
 rw [cmpX,cmp2]
 generalize cmpI x.rank y.rank=k at *
 generalize SrG.cmpB_g x.dg y.dg=l at *
 have h3:=fun s=>tR s k l
 repeat' (first|refine gs ?_|refine gs1 fun _=>?_|fail)
 rename_i b2 b3
 (refine aq ⟨[0,1,2,3,5,6,7,8],[(4,⟨[],[(9,⟨[],[(10,⟨[],[(11,⟨[12],[]⟩)]⟩)]⟩)]⟩)]⟩ [cel b3 243 y.cells,cel b2 243 x.cells] (fun _=>True) (h:=?_))
 all_goals repeat' (first|(refine ag (hc:=h1) ?_)|(refine ag (hc:=h2) ?_)|(refine ag (hc:=h3 ⟨some ⟨bs,0,none⟩,2,2⟩) (hX:=fun w h=>aV (xs:=[[.int .i64 k],[.int .i64 l]]) h.2 rfl (by decide) (by simp)) ?_)|refine gdz ?_|refine aA ?_ (h':=?_)|exact aB|((refine eD (len:=2) (vs:=[.int .i64 k,.int .i64 l]) fun bs=>?_;refine bI ?_))|fail)
 all_goals
  repeat' (first|refine gs ?_|fail)
  exact ab (ae rfl rfl) rfl
def cmpF:Value:=.func (.func 184) #[] #[]
def Srt (P:List FndX):Prop:=∀ (i j:Nat) (x y:FndX),i<j→P[i]?=some x→P[j]?=some y→¬ cmpX y x<0
def Rel (P Q:List FndX):Prop:=Q.Perm P∧(Srt P→Q=P)
theorem Rel.refl (P:List FndX):Rel P P:=⟨Qn _,fun _=>rfl⟩
theorem Rel.trans {P Q R:List FndX} (h:Rel P Q) (k:Rel Q R):Rel P R:=⟨k.1.trans h.1,fun hs=>by rw [k.2 (h.2 hs▸hs),h.2 hs]⟩
theorem Rel.swap {P Q:List FndX} (h:Rel P Q) {i j:Nat} {x y:FndX} (hi:Q[i]?=some x) (hj:Q[j]?=some y) (hno:Srt P→False):Rel P ((Q.set i y).set j x):=⟨(cL hi hj).trans h.1,fun hs=>(hno hs).elim⟩
theorem Rel.srt {P Q:List FndX} (h:Rel P Q) (hs:Srt P):Srt Q:=by rw [h.2 hs];exact hs
theorem Rel.perm {P Q Q':List FndX} (h:Rel P Q) (k:Q'.Perm Q) (hno:Srt P→False):Rel P Q':=⟨k.trans h.1,fun hs=>(hno hs).elim⟩
def RelAt (s:Xl) (P:List FndX) (u:Value) (R:List Xm) (X:World→Prop):Prop:=u=.tuple #[]∧∃ Q:List FndX,Rel P Q∧R=[postR s Q]
end SrA
namespace SrA
structure InsI (P:List FndX) (a b:Nat) where
 k:Nat
 h1:a+1≤k
 h2:k≤b∨k=a+1
 Q:List FndX
 hQ:Rel P Q
structure InsJ (P:List FndX) (a k:Nat) where
 j:Nat
 h1:a≤j
 h2:j≤k
 Q:List FndX
 hQ:Rel P Q
theorem cu (s:Xl) (P:List FndX) (a b:Nat) (hs:s.n=P.length) (hm:s.n≤1000000) (ha:a≤s.n) (hb:b≤s.n) :
  Ct prog 282 #[s.v,.int .i64 (a:Nat),.int .i64 (b:Nat),cmpF] [postR s P] (fun _=>True) (RelAt s P):=by
 refine cF func282 ntmps282 fun av bor w0=>?_
 refine bP (r:=postR s P) am (p:=0<s.n→s.p.isSome=true) (fun w h hn=>bF h hn) fun hp=>?_
 repeat' (first|refine aL (q:=1) (hq:=by omega) ?_|refine gs ?_|fail)
 refine ao (ι:=InsI P a b) (fun i=>⟨[(0,s.v),(1,.int .i64 (a:Nat)),(2,.int .i64 (b:Nat)),(3,cmpF),(8,.int .i64 (i.k:Nat))],[postR s i.Q],fun _=>True⟩) (fun i=>b-i.k) ⟨a+1,ZX _,.inr rfl,P,Rel.refl _⟩ (ai al (aj _) fun _ h=>h) fun i=>?_
 obtain ⟨k,h1,h2,Q,hQ⟩:=i
 simp only
 have hl:=hQ.1.length_eq
 repeat' (first|refine gs ?_|(refine gp ?_ ?_<;>intro hx_ this)|fail)
 · have hkb:k<b:=by omega
   refine ao (ι:=InsJ P a k) (fun i=>⟨[(0,s.v),(1,.int .i64 (a:Nat)),(2,.int .i64 (b:Nat)),(3,cmpF),(8,.int .i64 (k:Nat)),(9,.int .i64 (i.j:Nat))],[postR s i.Q],fun _=>True⟩) (fun i=>i.j) ⟨k,by omega,ZX _,Q,hQ⟩ (ai al (aj _) fun _ h=>h) fun i=>?_
   obtain ⟨j,h3,h4,Q2,hQ2⟩:=i
   simp only
   have hl2:=hQ2.1.length_eq
   have hp':=hp aa
   by_cases hja:a<j
   · obtain ⟨x,hx⟩:∃ x,Q2[j]?=some x:=⟨_,Zb aa⟩
     obtain ⟨y,hy⟩:∃ y,Q2[j-1]?=some y:=⟨_,Zb aa⟩
     have hcm:=dj x y
     have hsx:Srt P→¬ cmpX x y<0:=fun hs=>hQ2.srt hs (j-1) j y x aa hy hx
     generalize cmpX x y=z at *
     apply QS
     apply QS
     unfold cmpF
     (refine aq ⟨[0,1,2,3,4,5,6,7,9,10,11,12],[(8,⟨[],[(13,⟨[],[(14,⟨[15,16],[]⟩)]⟩)]⟩),(13,⟨[],[(8,⟨[],[(14,⟨[15,16],[]⟩)]⟩)]⟩)]⟩ [] (fun _=>True) (h:=?_))
     all_goals repeat' (first|refine ax (hy:=by (apply y_gtrT_g;rfl;rfl;omega)) ?_|(refine ag (hc:=hcm) ?_)|refine gd ?_|refine ax (hy:=by first|(apply ay (q:=p22 (j));rfl;rfl;omega;omega;assumption;(rw [du];omega))|(apply ay (q:=p22 (j-1));rfl;rfl;omega;omega;assumption;(rw [du];omega))) ?_|refine aA ?_ (h':=?_)|exact aB|(refine ak (br (i:=j) (P:=Q2) rfl am aa hx) rfl rfl rfl ?_)|(refine ak (br (i:=j-1) (P:=Q2) rfl am aa hy) rfl rfl rfl ?_)|fail)
     all_goals
      repeat' (first|refine gs ?_|(refine gp ?_ ?_<;>intro hx_ this)|fail)
      · (refine aq ⟨[0,1,2,3,4,5,6,7,8,10,11,12],[(9,⟨[],[(13,⟨[14],[(15,⟨[16],[(17,⟨[],[]⟩)]⟩)]⟩)]⟩),(13,⟨[],[(9,⟨[14],[(15,⟨[16],[(17,⟨[],[]⟩)]⟩)]⟩)]⟩)]⟩ [] (fun _=>True) (h:=?_))
        all_goals repeat' (first|refine gd ?_|refine ax (hy:=by first|(apply ay (q:=p22 (j));rfl;rfl;omega;omega;assumption;(rw [du];omega))|(apply ay (q:=p22 (j-1));rfl;rfl;omega;omega;assumption;(rw [du];omega))) ?_|refine aA ?_ (h':=?_)|exact aB|(refine ak (br (i:=j) (P:=Q2) rfl am aa hx) rfl rfl rfl ?_)|(refine ak (br (i:=j-1) (P:=Q2) rfl am aa hy) rfl rfl rfl ?_)|((refine bV (i:=j) (p:=y) rfl rfl aa (by first|omega|(simp only [Z9];omega)) (At.here _) rfl ar rfl ?_))|((refine bV (i:=j-1) (p:=x) rfl rfl aa (by (simp only [Z9];omega)) (At.here _) rfl ar rfl ?_))|fail)
        all_goals
         repeat' (first|refine aX (q:=1) (hq:=by omega) ?_|refine gs ?_|fail)
         exact ⟨(⟨j-1,by omega,by omega,(Q2.set j y).set (j-1) x,hQ2.swap hx hy (fun hs=>hsx hs (by assumption))⟩:InsJ P a k),(by show j-1<j;omega),ai al (aj _) fun _ h=>h⟩
      · repeat' (first|refine aL (q:=1) (hq:=by omega) ?_|fail)
        exact ⟨(⟨k+1,by omega,by omega,Q2,hQ2⟩:InsI P a b),(by show b-(k+1)<b-k;omega),ai al (aj _) fun _ h=>h⟩
   · apply QS
     apply QS
     unfold cmpF
     (refine aq ⟨[0,1,2,3,4,5,6,7,9,10,11,12],[(8,⟨[],[(13,⟨[],[(14,⟨[15,16],[]⟩)]⟩)]⟩),(13,⟨[],[(8,⟨[],[(14,⟨[15,16],[]⟩)]⟩)]⟩)]⟩ [] (fun _=>True) (h:=?_))
     all_goals repeat' (first|refine ax (hy:=by (apply y_gtrF_g;rfl;rfl;omega)) ?_|refine gd ?_|refine aA ?_ (h':=?_)|exact aB|fail)
     all_goals
      repeat' (first|refine aL (q:=1) (hq:=by omega) ?_|refine gs ?_|fail)
      exact ⟨(⟨k+1,by omega,by omega,Q2,hQ2⟩:InsI P a b),(by show b-(k+1)<b-k;omega),ai al (aj _) fun _ h=>h⟩
 · exact aN (aF rfl) ⟨rfl,Q,hQ,rfl⟩
section
variable {N:Nat} {av bor:List Nat} {w0:World} {ops:Array Oper} {rest:List Oper} {k:St→Prop} {E:Env} {X:World→Prop} {d:Option Tmp} {ty:TypeId} {pos:String} {af:Array Edge} {g:Option (Nat×Bool)} {bb want:Bool}
theorem gI {x:Operand} {xs:List Operand} {ats:Array TypeId} {f:FuncId} {args:List Value} {s:Xl} {Q:List FndX}
  (hx:ev E x=some (.func (.func f) #[] #[]):=by rfl) (ha:evs E xs=some args:=by rfl) (hg:gdB ops E g=some (bb,want):=by rfl) (hb:bb=want:=by exact ar) (hd:inB N d=true:=by rfl) (hf:Xc prog f:=by infer_instance)
  (hc:Ct prog f args.toArray [postR s Q] (fun _=>True) (RelAt s Q))
  (h:∀ Q':List FndX,Rel Q Q'→Sw prog N av bor w0 ops rest ⟨putE E d (.tuple #[]),[postR s Q'],X⟩ k) :
  Sw prog N av bor w0 ops (⟨d,.call ⟨.value x,xs.toArray,ats⟩,ty,pos,af,g⟩::rest) ⟨E,[postR s Q],X⟩ k :=
 bN (pre:=[postR s Q]) (fr:=[]) (first:=#[]) (caps:=#[]) (Post:=RelAt s Q) hx ha rfl hg hb hd hf (by simpa using hc) (fun _ _=>trivial) fun u R X' ⟨h1,Q',h2,h3⟩=>by
  subst h1
  subst h3
  refine iq (fun a w ok=>?_) (h Q' h2)
  exact ok.via fun M G=>G.imp fun _ h=>h.1
theorem cq {x:Operand} {xs:List Operand} {ats:Array TypeId} {f:FuncId} {args:List Value} {s:Xl} {P Q:List FndX} (hQ:Rel P Q)
  (hx:ev E x=some (.func (.func f) #[] #[]):=by rfl) (ha:evs E xs=some args:=by rfl) (hg:gdB ops E g=some (bb,want):=by rfl) (hb:bb=want:=by exact ar) (hd:inB N d=true:=by rfl) (hf:Xc prog f:=by infer_instance)
  (hc:∀ Q:List FndX,Rel P Q→Ct prog f args.toArray [postR s Q] (fun _=>True) (RelAt s Q))
  (h:∀ Q':List FndX,Rel P Q'→Sw prog N av bor w0 ops rest ⟨putE E d (.tuple #[]),[postR s Q'],X⟩ k) :
  Sw prog N av bor w0 ops (⟨d,.call ⟨.value x,xs.toArray,ats⟩,ty,pos,af,g⟩::rest) ⟨E,[postR s Q],X⟩ k:=gI hx ha hg hb hd hf (hc Q hQ) fun Q' h1=>h Q' (hQ.trans h1)
theorem iS {x:Operand} {xs:List Operand} {ats:Array TypeId} {f:FuncId} {args:List Value} {s:Xl} {P Q:List FndX} (hQ:Rel P Q) (hno:Srt P→False)
  (hx:ev E x=some (.func (.func f) #[] #[]):=by rfl) (ha:evs E xs=some args:=by rfl) (hg:gdB ops E g=some (bb,want):=by rfl) (hb:bb=want:=by exact ar) (hd:inB N d=true:=by rfl) (hf:Xc prog f:=by infer_instance)
  (hc:∀ Q:List FndX,Rel P Q→Ct prog f args.toArray [postR s Q] (fun _=>True) (PermAt s Q))
  (h:∀ Q':List FndX,Rel P Q'→Sw prog N av bor w0 ops rest ⟨putE E d (.tuple #[]),[postR s Q'],X⟩ k) :
  Sw prog N av bor w0 ops (⟨d,.call ⟨.value x,xs.toArray,ats⟩,ty,pos,af,g⟩::rest) ⟨E,[postR s Q],X⟩ k:=bS hx ha hg hb hd hf (hc Q hQ) fun Q' h1=>h Q' (hQ.perm h1 hno)
end
structure BinL (P:List FndX) (lo hi:Nat) extends BinI_g lo hi where
 hs:Srt P→i=lo
structure BinR (P:List FndX) (lo hi:Nat) extends BinI_g lo hi where
 hs:Srt P→j=hi
structure MerO (P:List FndX) (a m b mid:Nat) extends MerI_g a m b mid where
 hs:Srt P→j=(if mid<m then mid else m)
structure UpI (P:List FndX) (a:Nat) where
 k:Nat
 h1:a≤k
 Q:List FndX
 hQ:Rel P Q
structure DownI (P:List FndX) (i m:Nat) where
 k:Nat
 h1:i≤k
 h2:k≤m
 Q:List FndX
 hQ:Rel P Q
set_option maxRecDepth 20000 in
theorem bU:∀ (d:Nat) (s:Xl) (P:List FndX) (a m b:Nat),b-a≤d→s.n=P.length→s.n≤1000000→a<m→m<b→b≤s.n →
  Ct prog 283 #[s.v,.int .i64 (a:Nat),.int .i64 (m:Nat),.int .i64 (b:Nat),cmpF] [postR s P] (fun _=>True) (RelAt s P)
 | 0,s,P,a,m,b,hd,hs,hm,ha,hb,hbs=>absurd hd aa
 | d+1,s,P,a,m,b,hd,hs,hm,ha,hb,hbs=>by
  have ih:=bU d
  have hP:Rel P P:=Rel.refl P
  refine cF func283 ntmps283 fun av bor w0=>?_
  refine bP (r:=postR s P) am (p:=0<s.n→s.p.isSome=true) (fun w h hn=>bF h hn) fun hp=>?_
  have hp':=hp aa
  by_cases hA:m-a=1
  · repeat' (first|refine aX (hq:=by omega) ?_|refine aE ?_|refine gs ?_|fail)
    refine ao (ι:=BinL P m b) (fun r=>⟨[(0,s.v),(1,.int .i64 (a:Nat)),(4,cmpF),(10,.int .i64 (r.i:Nat)),(11,.int .i64 (r.j:Nat))],[postR s P],fun _=>True⟩) (fun r=>r.j-r.i) ⟨⟨m,b,by omega,by omega,by omega⟩,fun _=>rfl⟩ (ai al (aj _) fun _ h=>h) fun r=>?_
    obtain ⟨⟨i,j,h1,h2,h3⟩,hso⟩:=r
    simp only at hso
    simp only
    repeat' (first|refine aL (hq:=by omega) ?_|refine sy_toU_g (hq:=by omega) ?_|refine cR ?_|refine sy_toI_g (hq:=by omega) ?_|refine gs ?_|(refine gp ?_ ?_<;>intro hx_ this)|fail)
    · have hlt:i<j:=by omega
      obtain ⟨x,hx⟩:∃ x,P[(i+j)/2]?=some x:=⟨_,Zb aa⟩
      obtain ⟨y,hy⟩:∃ y,P[a]?=some y:=⟨_,Zb aa⟩
      have hcm:=dj x y
      have hsx:Srt P→¬ cmpX x y<0:=fun hs=>hs a ((i+j)/2) y x aa hy hx
      generalize cmpX x y=z at *
      unfold cmpF
      (refine aq ⟨[0,1,2,3,5,6,7],[(4,⟨[],[(8,⟨[],[(9,⟨[10],[]⟩)]⟩)]⟩),(8,⟨[],[(4,⟨[],[(9,⟨[10],[]⟩)]⟩)]⟩)]⟩ [] (fun _=>True) (h:=?_))
      all_goals repeat' (first|(refine ag (hc:=hcm) ?_)|refine gd ?_|refine ax (hy:=by first|(apply ay (q:=p22 (((i+j)/2)));rfl;rfl;omega;omega;assumption;(rw [du];omega))|(apply ay (q:=p22 (a));rfl;rfl;omega;omega;assumption;(rw [du];omega))) ?_|refine aA ?_ (h':=?_)|exact aB|(refine ak (br (i:=(i+j)/2) (P:=P) rfl am aa hx) rfl rfl rfl ?_)|(refine ak (br (i:=a) (P:=P) rfl am aa hy) rfl rfl rfl ?_)|fail)
      all_goals
       repeat' (first|refine aL (q:=1) (hq:=by omega) ?_|refine gs ?_|(refine gp ?_ ?_<;>intro hx_ this)|fail)
       · exact ⟨(⟨⟨(i+j)/2+1,j,by omega,by omega,h3⟩,fun hs=>absurd (show z<0 by assumption) (hsx hs)⟩:BinL P m b),(by show j-((i+j)/2+1)<j-i;omega),ai al (aj _) fun _ h=>h⟩
       · exact ⟨(⟨⟨i,(i+j)/2,h1,by omega,by omega⟩,hso⟩:BinL P m b),(by show (i+j)/2-i<j-i;omega),ai al (aj _) fun _ h=>h⟩
    · refine ao (ι:=UpI P a) (fun r=>⟨[(0,s.v),(10,.int .i64 (i:Nat)),(13,.int .i64 (r.k:Nat))],[postR s r.Q],fun _=>True⟩) (fun r=>i-r.k) ⟨a,ZX _,P,hP⟩ (ai al (aj _) fun _ h=>h) fun r=>?_
      obtain ⟨k,h4,Q,hQ⟩:=r
      simp only
      have hl:=hQ.1.length_eq
      repeat' (first|refine aX (q:=1) (hq:=by omega) ?_|refine gs ?_|(refine gp ?_ ?_<;>intro hx_ this)|fail)
      · have hlt:k+1<i:=by omega
        obtain ⟨x,hx⟩:∃ x,Q[k]?=some x:=⟨_,Zb aa⟩
        obtain ⟨y,hy⟩:∃ y,Q[k+1]?=some y:=⟨_,Zb aa⟩
        (refine aq ⟨[0,1,2,3,4,5,6,7,8,10,11,12],[(9,⟨[],[(13,⟨[14],[(15,⟨[16],[(17,⟨[],[]⟩)]⟩)]⟩)]⟩),(13,⟨[],[(9,⟨[14],[(15,⟨[16],[(17,⟨[],[]⟩)]⟩)]⟩)]⟩)]⟩ [] (fun _=>True) (h:=?_))
        all_goals repeat' (first|refine gd ?_|refine ax (hy:=by first|(apply ay (q:=p22 (k));rfl;rfl;omega;omega;assumption;(rw [du];omega))|(apply ay (q:=p22 (k+1));rfl;rfl;omega;omega;assumption;(rw [du];omega))) ?_|refine aA ?_ (h':=?_)|exact aB|(refine ak (br (i:=k) (P:=Q) rfl am aa hx) rfl rfl rfl ?_)|(refine ak (br (i:=k+1) (P:=Q) rfl am aa hy) rfl rfl rfl ?_)|((refine bV (i:=k) (p:=y) rfl rfl aa (by first|omega|(simp only [Z9];omega)) (At.here _) rfl ar rfl ?_))|((refine bV (i:=k+1) (p:=x) rfl rfl aa (by (simp only [Z9];omega)) (At.here _) rfl ar rfl ?_))|fail)
        all_goals
         repeat' (first|refine aL (q:=1) (hq:=by omega) ?_|refine gs ?_|fail)
         exact ⟨(⟨k+1,by omega,(Q.set k y).set (k+1) x,hQ.swap hx hy (fun hs=>by have:=hso hs;omega)⟩:UpI P a),(by show i-(k+1)<i-k;omega),ai al (aj _) fun _ h=>h⟩
      · exact ab (aF rfl) ⟨rfl,Q,hQ,rfl⟩
  · by_cases hB:b-m=1
    · repeat' (first|refine aX (hq:=by omega) ?_|refine aE ?_|refine aG ?_|refine gs ?_|fail)
      refine ao (ι:=BinR P a m) (fun r=>⟨[(0,s.v),(2,.int .i64 (m:Nat)),(4,cmpF),(14,.int .i64 (r.i:Nat)),(15,.int .i64 (r.j:Nat))],[postR s P],fun _=>True⟩) (fun r=>r.j-r.i) ⟨⟨a,m,by omega,by omega,by omega⟩,fun _=>rfl⟩ (ai al (aj _) fun _ h=>h) fun r=>?_
      obtain ⟨⟨i,j,h1,h2,h3⟩,hso⟩:=r
      simp only at hso
      simp only
      repeat' (first|refine aL (hq:=by omega) ?_|refine sy_toU_g (hq:=by omega) ?_|refine cR ?_|refine sy_toI_g (hq:=by omega) ?_|refine gs ?_|(refine gp ?_ ?_<;>intro hx_ this)|fail)
      · have hlt:i<j:=by omega
        obtain ⟨x,hx⟩:∃ x,P[m]?=some x:=⟨_,Zb aa⟩
        obtain ⟨y,hy⟩:∃ y,P[(i+j)/2]?=some y:=⟨_,Zb aa⟩
        have hcm:=dj x y
        have hsx:Srt P→¬ cmpX x y<0:=fun hs=>hs ((i+j)/2) m y x aa hy hx
        generalize cmpX x y=z at *
        unfold cmpF
        (refine aq ⟨[0,1,2,3,5,6,7],[(4,⟨[],[(8,⟨[],[(9,⟨[10,11],[]⟩)]⟩)]⟩),(8,⟨[],[(4,⟨[],[(9,⟨[10,11],[]⟩)]⟩)]⟩)]⟩ [] (fun _=>True) (h:=?_))
        all_goals repeat' (first|(refine ag (hc:=hcm) ?_)|refine gd ?_|refine ax (hy:=by first|(apply ay (q:=p22 (m));rfl;rfl;omega;omega;assumption;(rw [du];omega))|(apply ay (q:=p22 (((i+j)/2)));rfl;rfl;omega;omega;assumption;(rw [du];omega))) ?_|refine aA ?_ (h':=?_)|exact aB|(refine ak (br (i:=m) (P:=P) rfl am aa hx) rfl rfl rfl ?_)|(refine ak (br (i:=(i+j)/2) (P:=P) rfl am aa hy) rfl rfl rfl ?_)|fail)
        all_goals
         repeat' (first|refine aL (q:=1) (hq:=by omega) ?_|refine gs ?_|(refine gp ?_ ?_<;>intro hx_ this)|fail)
         · exact ⟨(⟨⟨(i+j)/2+1,j,by omega,by omega,h3⟩,hso⟩:BinR P a m),(by show j-((i+j)/2+1)<j-i;omega),ai al (aj _) fun _ h=>h⟩
         · exact ⟨(⟨⟨i,(i+j)/2,h1,by omega,by omega⟩,fun hs=>absurd (show z<0 by (simp_all;done)) (hsx hs)⟩:BinR P a m),(by show (i+j)/2-i<j-i;omega),ai al (aj _) fun _ h=>h⟩
      · refine ao (ι:=DownI P i m) (fun r=>⟨[(0,s.v),(14,.int .i64 (i:Nat)),(17,.int .i64 (r.k:Nat))],[postR s r.Q],fun _=>True⟩) (fun r=>r.k) ⟨m,by omega,ZX _,P,hP⟩ (ai al (aj _) fun _ h=>h) fun r=>?_
        obtain ⟨k,h4,h5,Q,hQ⟩:=r
        simp only
        have hl:=hQ.1.length_eq
        repeat' (first|refine gs ?_|(refine gp ?_ ?_<;>intro hx_ this)|fail)
        · have hlt:i<k:=by omega
          obtain ⟨x,hx⟩:∃ x,Q[k]?=some x:=⟨_,Zb aa⟩
          obtain ⟨y,hy⟩:∃ y,Q[k-1]?=some y:=⟨_,Zb aa⟩
          (refine aq ⟨[0,1,2,3,4,5,6,7,8,10,11,12],[(9,⟨[],[(13,⟨[14],[(15,⟨[16],[(17,⟨[],[]⟩)]⟩)]⟩)]⟩),(13,⟨[],[(9,⟨[14],[(15,⟨[16],[(17,⟨[],[]⟩)]⟩)]⟩)]⟩)]⟩ [] (fun _=>True) (h:=?_))
          all_goals repeat' (first|refine gd ?_|refine ax (hy:=by first|(apply ay (q:=p22 (k));rfl;rfl;omega;omega;assumption;(rw [du];omega))|(apply ay (q:=p22 (k-1));rfl;rfl;omega;omega;assumption;(rw [du];omega))) ?_|refine aA ?_ (h':=?_)|exact aB|(refine ak (br (i:=k) (P:=Q) rfl am aa hx) rfl rfl rfl ?_)|(refine ak (br (i:=k-1) (P:=Q) rfl am aa hy) rfl rfl rfl ?_)|((refine bV (i:=k) (p:=y) rfl rfl aa (by first|omega|(simp only [Z9];omega)) (At.here _) rfl ar rfl ?_))|((refine bV (i:=k-1) (p:=x) rfl rfl aa (by (simp only [Z9];omega)) (At.here _) rfl ar rfl ?_))|fail)
          all_goals
           repeat' (first|refine aX (q:=1) (hq:=by omega) ?_|refine gs ?_|fail)
           exact ⟨(⟨k-1,by omega,by omega,(Q.set k y).set (k-1) x,hQ.swap hx hy (fun hs=>by have:=hso hs;omega)⟩:DownI P i m),(by show k-1<k;omega),ai al (aj _) fun _ h=>h⟩
        · exact ab (aF rfl) ⟨rfl,Q,hQ,rfl⟩
    · obtain ⟨mid,hmid⟩:∃ mid,mid=(a+b)/2:=⟨_,rfl⟩
      have hm1:a<mid:=by omega
      have hm2:mid<b:=by omega
      have hm3:2*mid≤a+b:=by omega
      have hm4:a+b≤2*mid+1:=by omega
      by_cases hmm:mid<m
      all_goals
       repeat' (first|refine aG ?_|refine dN ?_|refine eB ?_|refine aX (q:=1) (hq:=by omega) ?_|refine aX (hq:=by omega) ?_|refine aL (hq:=by omega) ?_|refine sy_toU_g (hq:=by omega) ?_|refine cR ?_|refine sy_toI_g (hq:=by omega) ?_|refine gs ?_|fail)
       rw [←hmid]
       first
        | refine ao (ι:=MerO P a m b mid) (fun r=>⟨[(0,s.v),(1,.int .i64 (a:Nat)),(2,.int .i64 (m:Nat)),(3,.int .i64 (b:Nat)),(4,cmpF),(18,.int .i64 (mid:Nat)),(19,.int .i64 ((mid+m:Nat):Int)),(20,.int .i64 (r.i:Nat)),(21,.int .i64 (r.j:Nat)),(22,.int .i64 ((mid+m-1:Nat):Int))],[postR s P],fun _=>True⟩) (fun r=>r.j-r.i) ⟨⟨mid+m-b,mid,by omega,by omega,by omega⟩,fun _=>by rw [ZO (by assumption)]⟩ (ai al (aj _) fun _ h=>h) fun r=>?_
        | refine ao (ι:=MerO P a m b mid) (fun r=>⟨[(0,s.v),(1,.int .i64 (a:Nat)),(2,.int .i64 (m:Nat)),(3,.int .i64 (b:Nat)),(4,cmpF),(18,.int .i64 (mid:Nat)),(19,.int .i64 ((mid+m:Nat):Int)),(20,.int .i64 (r.i:Nat)),(21,.int .i64 (r.j:Nat)),(22,.int .i64 ((mid+m-1:Nat):Int))],[postR s P],fun _=>True⟩) (fun r=>r.j-r.i) ⟨⟨a,m,by omega,by omega,by omega⟩,fun _=>by rw [ZP (by assumption)]⟩ (ai al (aj _) fun _ h=>h) fun r=>?_
       obtain ⟨⟨i,j,h1,h2,h3⟩,hso⟩:=r
       simp only at hso
       simp only
       have hk1:a≤i:=by omega
       have hk2:j≤m:=by omega
       have hk3:i≤mid+m:=by omega
       by_cases hij:i<j
       · have hk4:(i+j)/2<j:=by omega
         have hk5:i≤(i+j)/2:=by omega
         have hk6:(i+j)/2≤mid+m-1:=by omega
         have hk7:mid+m-1-(i+j)/2<b:=by omega
         repeat' (first|refine sy_lssT_g ?_|refine aL (hq:=by omega) ?_|refine sy_toU_g (hq:=by omega) ?_|refine cR ?_|refine sy_toI_g (hq:=by omega) ?_|refine gs ?_|fail)
         obtain ⟨x,hx⟩:∃ x,P[mid+m-1-(i+j)/2]?=some x:=⟨_,Zb aa⟩
         obtain ⟨y,hy⟩:∃ y,P[(i+j)/2]?=some y:=⟨_,Zb aa⟩
         have hcm:=dj x y
         have hsx:Srt P→¬ cmpX x y<0:=fun hs=>hs ((i+j)/2) (mid+m-1-(i+j)/2) y x aa hy hx
         generalize cmpX x y=z at *
         unfold cmpF
         (refine aq ⟨[0,1,2,3,4,5,7,8,9],[(6,⟨[],[(10,⟨[],[(11,⟨[12,13],[]⟩)]⟩)]⟩),(10,⟨[],[(6,⟨[],[(11,⟨[12,13],[]⟩)]⟩)]⟩)]⟩ [] (fun _=>True) (h:=?_))
         all_goals repeat' (first|(refine ag (hc:=hcm) ?_)|refine gd ?_|refine ax (hy:=by first|(apply ay (q:=p22 ((mid+m-1-(i+j)/2)));rfl;rfl;omega;omega;assumption;(rw [du];omega))|(apply ay (q:=p22 (((i+j)/2)));rfl;rfl;omega;omega;assumption;(rw [du];omega))) ?_|refine aA ?_ (h':=?_)|exact aB|(refine ak (br (i:=mid+m-1-(i+j)/2) (P:=P) rfl am aa hx) rfl rfl rfl ?_)|(refine ak (br (i:=(i+j)/2) (P:=P) rfl am aa hy) rfl rfl rfl ?_)|fail)
         all_goals
          repeat' (first|refine aL (q:=1) (hq:=by omega) ?_|refine gs ?_|(refine gp ?_ ?_<;>intro hx_ this)|fail)
          · exact ⟨(⟨⟨(i+j)/2+1,j,by omega,by omega,by omega⟩,hso⟩:MerO P a m b mid),(by show j-((i+j)/2+1)<j-i;omega),ai al (aj _) fun _ h=>h⟩
          · exact ⟨(⟨⟨i,(i+j)/2,by omega,by omega,by omega⟩,fun hs=>absurd (show z<0 by (simp_all;done)) (hsx hs)⟩:MerO P a m b mid),(by show (i+j)/2-i<j-i;omega),ai al (aj _) fun _ h=>h⟩
       · have hk8:mid+m-i≤b:=by omega
         have hnl:¬ (i:Int)<(j:Int):=by omega
         repeat' (first|refine sy_lssF_g (hab:=by first|exact hnl|omega) ?_|refine sy_lssT_g ?_|refine aX (hq:=by omega) ?_|refine gs ?_|(refine iS (P:=P) (hQ:=by assumption) (hno:=fun hs=>by have:=hso hs;split at this<;>omega) (hc:=fun Q hQ=>eJ s Q i m (mid+m-i) cmpF (hs.trans hQ.1.length_eq.symm) hm aa aa aa) (h:=fun Q2 hQ2=>?_))|(refine cq (P:=P) (hQ:=by assumption) (hc:=fun Q hQ=>ih s Q a i mid aa (hs.trans hQ.1.length_eq.symm) hm aa aa aa) (h:=fun Q2 hQ2=>?_))|(refine cq (P:=P) (hQ:=by assumption) (hc:=fun Q hQ=>ih s Q mid (mid+m-i) b aa (hs.trans hQ.1.length_eq.symm) hm aa aa aa) (h:=fun Q2 hQ2=>?_))|(refine gp ?_ ?_<;>intro hx_ this)|fail)
         all_goals
          refine aN (aF rfl) ⟨rfl,_,?_,rfl⟩
          assumption
end SrA
end Go.Proofs.YtaolfiikahlmkaaGreatDoor
