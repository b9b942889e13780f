/- Joined by program out of: Va Zp Zq Zr Zs Jt Jw Jx Zx. -/
import Derived.Test.YtoefdofbekihdaaGreatDoorV9
set_option linter.unusedVariables false
set_option linter.unusedSimpArgs false
set_option maxHeartbeats 16000000
namespace Go.Proofs.YtoefdofbekihdaaGreatDoor
open Go Go.Proofs Sy Go.RowKit Go.Deep Go.ChangeShapes
structure ClaimD.Str (c:ClaimD):Prop where
 actor:c.actor.size≤maxLen
 prev:c.prev.size≤maxLen
 rng:c.base<9223372036854775808∧c.gen<9223372036854775808∧c.home<9223372036854775808∧c.pub<9223372036854775808∧c.time<9223372036854775808∧c.e<9223372036854775808∧c.s<9223372036854775808
structure BallotD.Str (b:BallotD):Prop where
 actor:b.actor.size≤maxLen
 claim:b.claim.size≤maxLen
 rng:b.server<9223372036854775808∧b.gen<9223372036854775808∧b.time<9223372036854775808∧b.e<9223372036854775808∧b.s<9223372036854775808
structure DecD.Str (d:DecD):Prop where
 actor:d.actor.size≤maxLen
 object:d.object.size≤maxLen
 text:d.text.size≤maxLen
 to:∀ x∈d.toL,x.size≤maxLen
 rng:d.server<9223372036854775808∧d.number<9223372036854775808∧d.kind<9223372036854775808∧d.n<9223372036854775808∧d.from_<9223372036854775808∧d.until_<9223372036854775808∧d.e<9223372036854775808∧d.s<9223372036854775808
structure ItemD.Str (i:ItemD):Prop where
 act:i.act.Str
 rng:i.act.Rng
 claim:i.claim.Str
 ballot:i.ballot.Str
 dec:i.dec.Str
section
variable {H:Type} {enc:TypeId×Value→H} {P:Program} {w:World} {base:Nat} {spare:Nat→Bool} {held:Bool}
theorem tE {fuel:Nat} {cs:List Value} {x:DataW H×List MemPlace} (h:DataW.trod enc Tryz.prog w base spare held fuel 22 cs=some x):∃ (s:SlV) (l:List Int),cs=[s.v]∧Ints w s l∧∀ n∈l,n<9223372036854775808:=by
 obtain ⟨s,l,h1,h2,h3⟩:=fX (α:=Int) Tryz.underlying22 (size:=1) ae (fun n=>[.int .i64 n]) (fun n=>n<9223372036854775808) (fun n cs y hy=>by obtain ⟨s,h1,h2⟩:=aX hy;exact ⟨s,h1,h2⟩) h
 exact ⟨s,l,h1,h2,h3⟩
theorem tF {fuel:Nat} {cs:List Value} {x:DataW H×List MemPlace} (h:DataW.trod enc Tryz.prog w base spare held fuel 57 cs=some x):∃ a:ClaimD,cs=a.cells∧a.Str:=by
 have hl:=fJ Tryz.underlying57 (k:=9) ae h
 obtain ⟨n0,y0,h0⟩:=aI (i:=0) (off:=0) (k:=1) (t':=9) Tryz.underlying57 h rfl rfl rfl ae
 obtain ⟨n1,y1,h1⟩:=aI (i:=1) (off:=1) (k:=1) (t':=3) Tryz.underlying57 h rfl rfl rfl ae
 obtain ⟨n2,y2,h2⟩:=aI (i:=2) (off:=2) (k:=1) (t':=9) Tryz.underlying57 h rfl rfl rfl ae
 obtain ⟨n3,y3,h3⟩:=aI (i:=3) (off:=3) (k:=1) (t':=3) Tryz.underlying57 h rfl rfl rfl ae
 obtain ⟨n4,y4,h4⟩:=aI (i:=4) (off:=4) (k:=1) (t':=3) Tryz.underlying57 h rfl rfl rfl ae
 obtain ⟨n5,y5,h5⟩:=aI (i:=5) (off:=5) (k:=1) (t':=3) Tryz.underlying57 h rfl rfl rfl ae
 obtain ⟨n6,y6,h6⟩:=aI (i:=6) (off:=6) (k:=1) (t':=3) Tryz.underlying57 h rfl rfl rfl ae
 obtain ⟨n7,y7,h7⟩:=aI (i:=7) (off:=7) (k:=2) (t':=48) Tryz.underlying57 h rfl rfl rfl ae
 match cs,hl with
 | [c0,c1,c2,c3,c4,c5,c6,c7,c8],_ =>
  obtain ⟨s0,e0,b0⟩:=bN h0
  obtain ⟨s1,e1,b1⟩:=aX h1
  obtain ⟨s2,e2,b2⟩:=bN h2
  obtain ⟨s3,e3,b3⟩:=aX h3
  obtain ⟨s4,e4,b4⟩:=aX h4
  obtain ⟨s5,e5,b5⟩:=aX h5
  obtain ⟨s6,e6,b6⟩:=aX h6
  obtain ⟨s7,t7,e7,b7,bb7⟩:=jg h7
  simp at e0 e1 e2 e3 e4 e5 e6 e7
  exact ⟨⟨s0,s1,s2,s3,s4,s5,s6,s7,t7⟩,by simp [ClaimD.cells,e0,e1,e2,e3,e4,e5,e6,e7],⟨b0,b2,b1,b3,b4,b5,b6,b7,bb7⟩⟩
theorem ro {fuel:Nat} {cs:List Value} {x:DataW H×List MemPlace} (h:DataW.trod enc Tryz.prog w base spare held fuel 59 cs=some x):∃ a:BallotD,cs=a.cells∧a.Str:=by
 have hl:=fJ Tryz.underlying59 (k:=7) ae h
 obtain ⟨n0,y0,h0⟩:=aI (i:=0) (off:=0) (k:=1) (t':=3) Tryz.underlying59 h rfl rfl rfl ae
 obtain ⟨n1,y1,h1⟩:=aI (i:=1) (off:=1) (k:=1) (t':=9) Tryz.underlying59 h rfl rfl rfl ae
 obtain ⟨n2,y2,h2⟩:=aI (i:=2) (off:=2) (k:=1) (t':=3) Tryz.underlying59 h rfl rfl rfl ae
 obtain ⟨n3,y3,h3⟩:=aI (i:=3) (off:=3) (k:=1) (t':=9) Tryz.underlying59 h rfl rfl rfl ae
 obtain ⟨n4,y4,h4⟩:=aI (i:=4) (off:=4) (k:=1) (t':=3) Tryz.underlying59 h rfl rfl rfl ae
 obtain ⟨n5,y5,h5⟩:=aI (i:=5) (off:=5) (k:=2) (t':=48) Tryz.underlying59 h rfl rfl rfl ae
 match cs,hl with
 | [c0,c1,c2,c3,c4,c5,c6],_ =>
  obtain ⟨s0,e0,b0⟩:=aX h0
  obtain ⟨s1,e1,b1⟩:=bN h1
  obtain ⟨s2,e2,b2⟩:=aX h2
  obtain ⟨s3,e3,b3⟩:=bN h3
  obtain ⟨s4,e4,b4⟩:=aX h4
  obtain ⟨s5,t5,e5,b5,bb5⟩:=jg h5
  simp at e0 e1 e2 e3 e4 e5
  exact ⟨⟨s0,s1,s2,s3,s4,s5,t5⟩,by simp [BallotD.cells,e0,e1,e2,e3,e4,e5],⟨b1,b3,b0,b2,b4,b5,bb5⟩⟩
theorem Aj {fuel:Nat} {cs:List Value} {x:DataW H×List MemPlace} (h:DataW.trod enc Tryz.prog w base spare held fuel 61 cs=some x):∃ a:DecD,cs=a.cells∧DecD.at_ w a∧a.Str:=by
 have hl:=fJ Tryz.underlying61 (k:=12) ae h
 obtain ⟨n0,y0,h0⟩:=aI (i:=0) (off:=0) (k:=1) (t':=3) Tryz.underlying61 h rfl rfl rfl ae
 obtain ⟨n1,y1,h1⟩:=aI (i:=1) (off:=1) (k:=1) (t':=3) Tryz.underlying61 h rfl rfl rfl ae
 obtain ⟨n2,y2,h2⟩:=aI (i:=2) (off:=2) (k:=1) (t':=3) Tryz.underlying61 h rfl rfl rfl ae
 obtain ⟨n3,y3,h3⟩:=aI (i:=3) (off:=3) (k:=1) (t':=9) Tryz.underlying61 h rfl rfl rfl ae
 obtain ⟨n4,y4,h4⟩:=aI (i:=4) (off:=4) (k:=1) (t':=9) Tryz.underlying61 h rfl rfl rfl ae
 obtain ⟨n5,y5,h5⟩:=aI (i:=5) (off:=5) (k:=1) (t':=9) Tryz.underlying61 h rfl rfl rfl ae
 obtain ⟨n6,y6,h6⟩:=aI (i:=6) (off:=6) (k:=1) (t':=28) Tryz.underlying61 h rfl rfl rfl ae
 obtain ⟨n7,y7,h7⟩:=aI (i:=7) (off:=7) (k:=1) (t':=3) Tryz.underlying61 h rfl rfl rfl ae
 obtain ⟨n8,y8,h8⟩:=aI (i:=8) (off:=8) (k:=1) (t':=3) Tryz.underlying61 h rfl rfl rfl ae
 obtain ⟨n9,y9,h9⟩:=aI (i:=9) (off:=9) (k:=1) (t':=3) Tryz.underlying61 h rfl rfl rfl ae
 obtain ⟨n10,y10,h10⟩:=aI (i:=10) (off:=10) (k:=2) (t':=48) Tryz.underlying61 h rfl rfl rfl ae
 match cs,hl with
 | [c0,c1,c2,c3,c4,c5,c6,c7,c8,c9,c10,c11],_ =>
  obtain ⟨s0,e0,b0⟩:=aX h0
  obtain ⟨s1,e1,b1⟩:=aX h1
  obtain ⟨s2,e2,b2⟩:=aX h2
  obtain ⟨s3,e3,b3⟩:=bN h3
  obtain ⟨s4,e4,b4⟩:=bN h4
  obtain ⟨s5,e5,b5⟩:=bN h5
  obtain ⟨s6,l6,e6,r6,b6⟩:=fI h6
  obtain ⟨s7,e7,b7⟩:=aX h7
  obtain ⟨s8,e8,b8⟩:=aX h8
  obtain ⟨s9,e9,b9⟩:=aX h9
  obtain ⟨s10,t10,e10,b10,bb10⟩:=jg h10
  simp at e0 e1 e2 e3 e4 e5 e6 e7 e8 e9 e10
  exact ⟨⟨s0,s1,s2,s3,s4,s5,s6,s7,s8,s9,s10,t10,l6⟩,by simp [DecD.cells,e0,e1,e2,e3,e4,e5,e6,e7,e8,e9,e10],r6,⟨b3,b4,b5,b6,b0,b1,b2,b7,b8,b9,b10,bb10⟩⟩
theorem xe {fuel:Nat} {cs:List Value} {x:DataW H×List MemPlace} (h:DataW.trod enc Tryz.prog w base spare held fuel 63 cs=some x):∃ a:ItemD,cs=a.cells∧ItemD.at_ w a∧a.Str:=by
 have hl:=fJ Tryz.underlying63 (k:=49) ae h
 obtain ⟨n0,y0,h0⟩:=aI (i:=0) (off:=0) (k:=1) (t':=3) Tryz.underlying63 h rfl rfl rfl ae
 obtain ⟨n1,y1,h1⟩:=aI (i:=1) (off:=1) (k:=20) (t':=50) Tryz.underlying63 h rfl rfl rfl ae
 obtain ⟨n2,y2,h2⟩:=aI (i:=2) (off:=21) (k:=9) (t':=57) Tryz.underlying63 h rfl rfl rfl ae
 obtain ⟨n3,y3,h3⟩:=aI (i:=3) (off:=30) (k:=7) (t':=59) Tryz.underlying63 h rfl rfl rfl ae
 obtain ⟨n4,y4,h4⟩:=aI (i:=4) (off:=37) (k:=12) (t':=61) Tryz.underlying63 h rfl rfl rfl ae
 obtain ⟨a0,e0,_⟩:=aX h0
 obtain ⟨a1,e1,q1,r1,_,s1⟩:=xf h1
 obtain ⟨a2,e2,s2⟩:=tF h2
 obtain ⟨a3,e3,s3⟩:=ro h3
 obtain ⟨a4,e4,q4,s4⟩:=Aj h4
 refine ⟨⟨a0,a1,a2,a3,a4⟩,?_,⟨q1,q4⟩,⟨s1,r1,s2,s3,s4⟩⟩
 have h5:cs=cs.take 1++((cs.drop 1).take 20++((cs.drop 21).take 9++((cs.drop 30).take 7++(cs.drop 37).take 12))):=by
  have t1:(cs.drop 37).take 12=cs.drop 37:=List.take_of_length_le (by rw [List.length_drop];omega)
  rw [t1,show cs.drop 37=(cs.drop 30).drop 7 from by rw [List.drop_drop],List.take_append_drop,show cs.drop 30=(cs.drop 21).drop 9 from by rw [List.drop_drop],List.take_append_drop,show cs.drop 21=(cs.drop 1).drop 20 from by rw [List.drop_drop],List.take_append_drop,List.take_append_drop]
 rw [List.drop_zero] at e0
 rw [h5,e0,e1,e2,e3,e4]
 simp [ItemD.cells]
theorem tD {fuel:Nat} {cs:List Value} {x:DataW H×List MemPlace} (h:DataW.trod enc Tryz.prog w base spare held fuel 23 cs=some x):∃ (s:SlV) (l:List ItemD),cs=[s.v]∧Items w s l∧∀ i∈l,i.Str:=by
 haveI:Inhabited ItemD:=⟨ItemD.zero⟩
 obtain ⟨s,l,h1,h2,h3⟩:=fX (α:=ItemD) Tryz.underlying23 (size:=49) ae ItemD.cells (fun a=>ItemD.at_ w a∧a.Str) (fun n cs y hy=>xe hy) h
 exact ⟨s,l,h1,⟨h2,fun a ha=>(h3 a ha).1⟩,fun a ha=>(h3 a ha).2⟩
theorem tC {fuel:Nat} {cs:List Value} {x:DataW H×List MemPlace} (h:DataW.trod enc Tryz.prog w base spare held fuel 25 cs=some x):∃ (s t:SlV) (l:List Int) (I:List ItemD),cs=[s.v,t.v]∧Ints w s l∧Items w t I∧(∀ n∈l,n<9223372036854775808)∧∀ i∈I,i.Str:=by
 have hl:=fJ Tryz.underlying25 (k:=2) ae h
 obtain ⟨n0,y0,h0⟩:=aI (i:=0) (off:=0) (k:=1) (t':=22) Tryz.underlying25 h rfl rfl rfl ae
 obtain ⟨n1,y1,h1⟩:=aI (i:=1) (off:=1) (k:=1) (t':=23) Tryz.underlying25 h rfl rfl rfl ae
 match cs,hl with
 | [c0,c1],_ =>
  obtain ⟨s0,l0,e0,r0,b0⟩:=tE h0
  obtain ⟨s1,l1,e1,r1,b1⟩:=tD h1
  simp at e0 e1
  exact ⟨s0,s1,l0,l1,by rw [e0,e1],r0,r1,b0,b1⟩
end
end Go.Proofs.YtoefdofbekihdaaGreatDoor
set_option maxHeartbeats 16000000
namespace Go.Proofs.YtoefdofbekihdaaGreatDoor
open Go Go.Proofs Sy
theorem gu (n l h:Int):Pu Tryz.prog 147 #[.int .i64 n,.int .i64 l,.int .i64 h] (fun _=>True) (.bool (withinB n l h)):=by
 refine ak (args:=[_,_,_]) _ Tryz.func147 rfl Tryz.ntmps147 rfl fun av bor w0=>?_
 repeat' (first|refine gs ?_|(refine gp ?_ ?_<;>intro hx_ this)|fail)
 (all_goals (apply ad;apply ag;rfl;rfl));all_goals first|rfl|(simp only [withinB, *,ZQ,ZO,ZC,ZB,ZE,ZD,ZH,ZG,ZK,ZI,ZP,ZJ,ZN,ZF];done)|(simp_all [withinB];done)
theorem jQ (e s:Int):Pu Tryz.prog 148 #[.agg #[.int .i64 e,.int .i64 s]] (fun _=>True) (.bool (sigB e s)):=by
 refine ak (args:=[_]) _ Tryz.func148 rfl Tryz.ntmps148 rfl fun av bor w0=>?_
 repeat' (first|refine ab (hc:=gu _ _ _) ?_|refine gs ?_|refine gs1 fun _=>?_|(refine gp ?_ ?_<;>intro hx_ this)|fail)
 (all_goals (apply ad;apply ag;rfl;rfl));all_goals first|rfl|(simp only [sigB, *,ZQ,ZO,ZC,ZB,ZE,ZD,ZH,ZG,ZK,ZI,ZP,ZJ,ZN,ZF];done)|(simp_all [sigB];done)
set_option maxHeartbeats 8000000 in
theorem ny (c:ClaimD) (hs:c.Str):Pu Tryz.prog 79 #[c.v] (fun _=>True) (.bool (claimR c)):=by
 refine ak (args:=[_]) _ Tryz.func79 rfl Tryz.ntmps79 rfl fun av bor w0=>?_
 have hid:=fV c.actor hs.actor
 repeat' (first|(refine ab (hc:=hid) (hX:=fun _ _=>trivial) ?_)|refine ab (hc:=gu _ _ _) ?_|refine ab (hc:=jQ c.e c.s) ?_|refine gs ?_|refine gs1 fun _=>?_|(refine aw (vs:=[.int .i64 c.e,.int .i64 c.s]) (hv:=rfl) ?_)|(refine gp ?_ ?_<;>intro hx_ this)|fail)
 (all_goals (apply ad;apply ag;rfl;rfl));all_goals first|rfl|(simp only [claimR,isDigestB, *,ZQ,ZO,ZC,ZB,ZE,ZD,ZH,ZG,ZK,ZI,ZP,ZJ,ZN,ZF];done)|(simp_all [claimR,isDigestB];done)
set_option maxHeartbeats 8000000 in
theorem ri (b:BallotD) (hs:b.Str):Pu Tryz.prog 80 #[b.v] (fun _=>True) (.bool (ballotR b)):=by
 refine ak (args:=[_]) _ Tryz.func80 rfl Tryz.ntmps80 rfl fun av bor w0=>?_
 have hid:=fV b.actor hs.actor
 repeat' (first|(refine ab (hc:=hid) (hX:=fun _ _=>trivial) ?_)|refine ab (hc:=gu _ _ _) ?_|refine ab (hc:=jQ b.e b.s) ?_|refine gs ?_|refine gs1 fun _=>?_|(refine aw (vs:=[.int .i64 b.e,.int .i64 b.s]) (hv:=rfl) ?_)|(refine gp ?_ ?_<;>intro hx_ this)|fail)
 (all_goals (apply ad;apply ag;rfl;rfl));all_goals first|rfl|(simp only [ballotR,isDigestB, *,ZQ,ZO,ZC,ZB,ZE,ZD,ZH,ZG,ZK,ZI,ZP,ZJ,ZN,ZF];done)|(simp_all [ballotR,isDigestB];done)
def numsD (d:DecD):Bool:=withinB d.server 0 19&&(withinB d.number 0 1073741824&&(withinB d.kind 0 9&&(withinB d.from_ 0 1099511627776&&(withinB d.until_ 0 1099511627776&&decide (d.from_<d.until_)))))
def decF (d:DecD):Bool:=bif !numsD d||!sigB d.e d.s then false
 else bif kindO d.kind then seqB d.actor ⟨#[]⟩&&(isDigestB d.object&&(reasonD d&&plainD d))
 else bif decide (d.kind=8) then seqB d.actor ⟨#[]⟩&&(seqB d.object ⟨#[]⟩&&(reasonD d&&(isIds d.toL&&withinB d.n 1 (d.to.n:Nat))))
 else bif decide (d.kind=9) then seqB d.actor ⟨#[]⟩&&(seqB d.object ⟨#[]⟩&&(decide ((d.text.size:Int)≤4096)&&plainD d))
 else isId d.actor&&(seqB d.object ⟨#[]⟩&&(reasonD d&&plainD d))
theorem AO {k:Int} (h:withinB k 0 9=true) (h1:kindO k=false) (h2:decide (k=8)=false) (h3:decide (k=9)=false):kindA k=true:=by
 simp only [withinB,kindO,kindA,ZM,Bool.or_eq_true,Bool.or_eq_false_iff,ZT,decide_eq_false_iff_not] at *
 omega
theorem Dd {k:Int} (h1:kindO k=true):withinB k 0 9=true∧kindA k=false:=by
 simp only [withinB,kindO,kindA,ZM,Bool.or_eq_true,Bool.or_eq_false_iff,ZT,decide_eq_false_iff_not] at *
 omega
theorem De {k:Int} (h1:kindA k=true):withinB k 0 9=true∧kindO k=false∧decide (k=8)=false∧decide (k=9)=false:=by
 simp only [withinB,kindO,kindA,ZM,Bool.or_eq_true,Bool.or_eq_false_iff,ZT,decide_eq_false_iff_not] at *
 omega
theorem DR (d:DecD):decF d=decR d:=by
 rw [decF,decR,numsD,termsB]
 cases hA:kindA d.kind with
 | true =>
  obtain ⟨h1,h2,h3,h4⟩:=De hA
  rw [h1,h2,h3,h4]
  generalize withinB d.server 0 19=b1
  generalize withinB d.number 0 1073741824=b2
  generalize withinB d.from_ 0 1099511627776=b3
  generalize withinB d.until_ 0 1099511627776=b4
  generalize decide (d.from_<d.until_)=b5
  generalize sigB d.e d.s=b6
  simp only [ZC,ZB]
  generalize (isId d.actor&&(seqB d.object ⟨#[]⟩&&(reasonD d&&plainD d)))=b7
  cases b1<;>cases b2<;>cases b3<;>cases b4<;>cases b5<;>cases b6<;>cases b7<;>rfl
 | false =>
  cases hO:kindO d.kind with
  | true =>
   rw [(Dd hO).1]
   generalize withinB d.server 0 19=b1
   generalize withinB d.number 0 1073741824=b2
   generalize withinB d.from_ 0 1099511627776=b3
   generalize withinB d.until_ 0 1099511627776=b4
   generalize decide (d.from_<d.until_)=b5
   generalize sigB d.e d.s=b6
   simp only [ZC,ZB]
   generalize (seqB d.actor ⟨#[]⟩&&(isDigestB d.object&&(reasonD d&&plainD d)))=b7
   cases b1<;>cases b2<;>cases b3<;>cases b4<;>cases b5<;>cases b6<;>cases b7<;>rfl
  | false =>
   cases h8:decide (d.kind=8) with
   | true =>
    have hw:withinB d.kind 0 9=true:=by rw [aM h8];rfl
    rw [hw]
    generalize withinB d.server 0 19=b1
    generalize withinB d.number 0 1073741824=b2
    generalize withinB d.from_ 0 1099511627776=b3
    generalize withinB d.until_ 0 1099511627776=b4
    generalize decide (d.from_<d.until_)=b5
    generalize sigB d.e d.s=b6
    simp only [ZC,ZB]
    generalize (seqB d.actor ⟨#[]⟩&&(seqB d.object ⟨#[]⟩&&(reasonD d&&(isIds d.toL&&withinB d.n 1 (d.to.n:Nat)))))=b7
    cases b1<;>cases b2<;>cases b3<;>cases b4<;>cases b5<;>cases b6<;>cases b7<;>rfl
   | false =>
    cases h9:decide (d.kind=9) with
    | true =>
     have hw:withinB d.kind 0 9=true:=by rw [aM h9];rfl
     rw [hw]
     generalize withinB d.server 0 19=b1
     generalize withinB d.number 0 1073741824=b2
     generalize withinB d.from_ 0 1099511627776=b3
     generalize withinB d.until_ 0 1099511627776=b4
     generalize decide (d.from_<d.until_)=b5
     generalize sigB d.e d.s=b6
     simp only [ZC,ZB]
     generalize (seqB d.actor ⟨#[]⟩&&(seqB d.object ⟨#[]⟩&&(decide ((d.text.size:Int)≤4096)&&plainD d)))=b7
     cases b1<;>cases b2<;>cases b3<;>cases b4<;>cases b5<;>cases b6<;>cases b7<;>rfl
    | false =>
     cases hw:withinB d.kind 0 9 with
     | true=>rw [AO hw hO h8 h9] at hA;cases hA
     | false=>simp
set_option maxHeartbeats 16000000 in
theorem nw (d:DecD) (hs:d.Str):Pu Tryz.prog 81 #[d.v] (fun w=>d.at_ w) (.bool (decR d)):=by
 refine ak (args:=[_]) _ Tryz.func81 rfl Tryz.ntmps81 rfl fun av bor w0=>?_
 rw [←DR]
 have hid:=fV d.actor hs.actor
 have hids:=jT d.to d.toL hs.to
 repeat' (first|(refine ab (hc:=hid) (hX:=fun _ _=>trivial) ?_)|(refine ab (hc:=hids) (hX:=fun w h=>h) ?_)|refine ab (hc:=gu _ _ _) ?_|refine ab (hc:=jQ d.e d.s) ?_|refine gs ?_|refine gs1 fun _=>?_|(refine aw (vs:=[.int .i64 d.e,.int .i64 d.s]) (hv:=rfl) ?_)|(refine gp ?_ ?_<;>intro hx_ this)|fail)
 all_goals (apply ad;apply ag;rfl;rfl)
 all_goals first
  | rfl
  | (simp_all [decF,numsD,plainD,reasonD,kindO,isDigestB];done)
  | (simp_all [decF,numsD,plainD,reasonD,kindO,isDigestB];intros;omega)
theorem dc (x:ByteArray) (l:List ByteArray):textsV (x::l)=textV x++textsV l:=rfl
theorem dw:textsV []=ByteArray.empty:=rfl
theorem dP (x:Int) (l:List Int):numsV (x::l)=numV x++numsV l:=rfl
theorem ew:numsV []=ByteArray.empty:=rfl
structure ClaimD.Sm (c:ClaimD):Prop where
 actor:c.actor.size≤1000000
 prev:c.prev.size≤1000000
structure BallotD.Sm (c:BallotD):Prop where
 actor:c.actor.size≤1000000
 claim:c.claim.size≤1000000
structure DecD.Sm (c:DecD):Prop where
 actor:c.actor.size≤1000000
 object:c.object.size≤1000000
 text:c.text.size≤1000000
 to:(listV c.toL).size≤1000000
theorem pr (c:ClaimD) (hl:c.Lt) (hs:c.Sm):Pu Tryz.prog 90 #[c.v] (fun _=>True) (.string (coreCl c)):=by
 refine ak (args:=[_]) _ Tryz.func90 rfl Tryz.ntmps90 rfl fun av bor w0=>?_
 have h1:=hs.actor
 have h2:=hs.prev
 have s1:=ay c.actor
 have s2:=ay c.prev
 have n1:=ao c.base
 have n2:=ao c.gen
 have n3:=ao c.home
 have n4:=ao c.pub
 have n5:=ao c.time
 obtain ⟨i1,i2,i3,i4,i5,_,_⟩:=hl
 repeat' (first|refine gs ?_|refine gs1 fun _=>?_|(refine gp ?_ ?_<;>intro hx_ this)|fail)
 (refine aS ⟨[0,1,3,4,7,8,11,12,15,16,19,20,23,24],[(2,⟨[],[(5,⟨[6],[(9,⟨[10],[(13,⟨[14],[(17,⟨[18],[(21,⟨[22],[(25,⟨[26,27],[]⟩)]⟩)]⟩)]⟩)]⟩)]⟩)]⟩)]⟩ (h:=?_))
 all_goals repeat' (first|refine ab (hc:=cj _ aa) ?_|refine ab (hc:=cW _ aa) ?_|refine gd ?_|refine ax (hy:=by first|(apply dq;rfl;rfl;(try simp only [Zl]);omega)) ?_|refine az ?_ (h':=?_)|exact aA|refine gs1 fun _=>?_|(refine gq ?_ ?_<;>intro hx_ this)|fail)
 all_goals
  repeat' (first|refine gs ?_|refine gs1 fun _=>?_|(refine gp ?_ ?_<;>intro hx_ this)|fail)
  refine ad (ag rfl rfl) ?_
  simp only [coreCl,dc,dw,dP,ew,ByteArray.append_empty,ZV]
theorem jd (c:BallotD) (hl:c.Lt) (hs:c.Sm):Pu Tryz.prog 86 #[c.v] (fun _=>True) (.string (coreBa c)):=by
 refine ak (args:=[_]) _ Tryz.func86 rfl Tryz.ntmps86 rfl fun av bor w0=>?_
 have h1:=hs.actor
 have h2:=hs.claim
 have s1:=ay c.actor
 have s2:=ay c.claim
 have n1:=ao c.server
 have n2:=ao c.gen
 have n3:=ao c.time
 obtain ⟨i1,i2,i3,_,_⟩:=hl
 repeat' (first|refine gs ?_|refine gs1 fun _=>?_|(refine gp ?_ ?_<;>intro hx_ this)|fail)
 (refine aS ⟨[0,1,3,4,7,8,11,12,15,16],[(2,⟨[],[(5,⟨[6],[(9,⟨[10],[(13,⟨[14],[(17,⟨[18,19],[]⟩)]⟩)]⟩)]⟩)]⟩)]⟩ (h:=?_))
 all_goals repeat' (first|refine ab (hc:=cj _ aa) ?_|refine ab (hc:=cW _ aa) ?_|refine gd ?_|refine ax (hy:=by first|(apply dq;rfl;rfl;(try simp only [Zl]);omega)) ?_|refine az ?_ (h':=?_)|exact aA|refine gs1 fun _=>?_|(refine gq ?_ ?_<;>intro hx_ this)|fail)
 all_goals
  repeat' (first|refine gs ?_|refine gs1 fun _=>?_|(refine gp ?_ ?_<;>intro hx_ this)|fail)
  refine ad (ag rfl rfl) ?_
  simp only [coreBa,dc,dw,dP,ew,ByteArray.append_empty,ZV]
theorem jc (c:DecD) (hl:c.Lt) (hs:c.Sm):Pu Tryz.prog 87 #[c.v] (fun w=>c.at_ w) (.string (coreDe c)):=by
 refine ak (args:=[_]) _ Tryz.func87 rfl Tryz.ntmps87 rfl fun av bor w0=>?_
 have h1:=hs.actor
 have h2:=hs.object
 have h3:=hs.text
 have h4:=hs.to
 have s1:=ay c.actor
 have s2:=ay c.object
 have s3:=ay c.text
 have n1:=ao c.server
 have n2:=ao c.number
 have n3:=ao c.kind
 have n4:=ao c.n
 have n5:=ao c.from_
 have n6:=ao c.until_
 have hli:=ms c.to c.toL aa
 obtain ⟨i1,i2,i3,i4,i5,i6,_,_⟩:=hl
 repeat' (first|refine gs ?_|refine gs1 fun _=>?_|(refine gp ?_ ?_<;>intro hx_ this)|fail)
 (refine aS ⟨[0,1,3,4,7,8,11,12,15,16,19,20],[(2,⟨[],[(5,⟨[6],[(9,⟨[10],[(13,⟨[14],[(17,⟨[18],[(21,⟨[22,23],[]⟩)]⟩)]⟩)]⟩)]⟩)]⟩)]⟩ (h:=?_))
 all_goals repeat' (first|refine ab (hc:=cj _ aa) ?_|refine ab (hc:=cW _ aa) ?_|refine gd ?_|refine ax (hy:=by first|(apply dq;rfl;rfl;(try simp only [Zl]);omega)) ?_|refine az ?_ (h':=?_)|exact aA|refine gs1 fun _=>?_|(refine gq ?_ ?_<;>intro hx_ this)|fail)
 all_goals
  repeat' (first|refine gs ?_|refine gs1 fun _=>?_|(refine gp ?_ ?_<;>intro hx_ this)|fail)
  (refine aS ⟨[0,1,2,5,6,9,10,13,14],[(3,⟨[4],[(7,⟨[8],[(11,⟨[12],[(15,⟨[16,17],[]⟩)]⟩)]⟩)]⟩)]⟩ (h:=?_))
  all_goals repeat' (first|refine ab (hc:=cj _ aa) ?_|(refine ab (hc:=hli) (hX:=fun w h=>h) ?_)|refine gd ?_|refine ax (hy:=by first|(apply dq;rfl;rfl;(try simp only [Zl]);omega)) ?_|refine az ?_ (h':=?_)|exact aA|refine gs1 fun _=>?_|(refine gq ?_ ?_<;>intro hx_ this)|fail)
  all_goals
   repeat' (first|refine gs ?_|refine gs1 fun _=>?_|(refine gp ?_ ?_<;>intro hx_ this)|fail)
   refine ad (ag rfl rfl) ?_
   simp only [coreDe,dc,dw,dP,ew,ByteArray.append_empty,ZV]
theorem iv (e s:Int) (he:e<9223372036854775808) (hs:s<9223372036854775808):Pu Tryz.prog 91 #[.agg #[.int .i64 e,.int .i64 s]] (fun _=>True) (.string (numsV [e,s])):=by
 refine ak (args:=[_]) _ Tryz.func91 rfl Tryz.ntmps91 rfl fun av bor w0=>?_
 have n1:=ao e
 have n2:=ao s
 repeat' (first|refine gs ?_|refine gs1 fun _=>?_|(refine gp ?_ ?_<;>intro hx_ this)|fail)
 (refine aS ⟨[0,1,3,4],[(2,⟨[],[(5,⟨[6,7],[]⟩)]⟩)]⟩ (h:=?_))
 all_goals repeat' (first|refine ab (hc:=cj _ aa) ?_|refine gd ?_|refine ax (hy:=by first|(apply dq;rfl;rfl;(try simp only [Zl]);omega)) ?_|refine az ?_ (h':=?_)|exact aA|refine gs1 fun _=>?_|(refine gq ?_ ?_<;>intro hx_ this)|fail)
 all_goals
  repeat' (first|refine gs ?_|refine gs1 fun _=>?_|(refine gp ?_ ?_<;>intro hx_ this)|fail)
  refine ad (ag rfl rfl) ?_
  simp only [dP,ew,ByteArray.append_empty]
theorem bX {n l h:Int} (w:withinB n l h=true):l≤n∧n≤h:=by
 simpa only [withinB,ZM,ZT] using w
theorem sY {e s:Int} (w:sigB e s=true):(0≤e∧e≤2305843009213693949)∧0≤s∧s≤2305843009213693949:=by
 rw [sigB,ZM] at w
 exact ⟨bX w.1,bX w.2⟩
theorem ik {s:ByteArray} (h:isId s=true):s.size=16:=by
 rw [isId,ZM,ZT] at h
 exact_mod_cast h.1
theorem iC {s:ByteArray} (h:isDigestB s=true):s.size=32:=by
 rw [isDigestB,ZT] at h
 exact_mod_cast h
theorem dE {s:ByteArray} (h:seqB s ⟨#[]⟩=true):s.size=0:=by
 rw [seqB_iff.1 h];rfl
theorem im {c:ClaimD} (h:claimR c=true):c.Lt∧c.Sm:=by
 simp only [claimR,ZM] at h
 obtain ⟨h1,h2,h3,h4,h5,h6,h7,h8⟩:=h
 have e1:=ik h1
 have e2:=bX h2
 have e3:=iC h3
 have e4:=bX h4
 have e5:=bX h5
 have e6:=bX h6
 have e7:=bX h7
 have e8:=sY h8
 exact ⟨⟨by omega,by omega,by omega,by omega,by omega,by omega,by omega⟩,⟨by omega,by omega⟩⟩
theorem fA {c:BallotD} (h:ballotR c=true):c.Lt∧c.Sm:=by
 simp only [ballotR,ZM] at h
 obtain ⟨h2,h1,h4,h3,h7,h8⟩:=h
 have e1:=ik h1
 have e2:=bX h2
 have e3:=iC h3
 have e4:=bX h4
 have e7:=bX h7
 have e8:=sY h8
 exact ⟨⟨by omega,by omega,by omega,by omega,by omega⟩,⟨by omega,by omega⟩⟩
theorem oG {m:Nat}:∀ {l:List ByteArray},(∀ x∈l,x.size≤m)→(cats l).size≤l.length*m
 | [],_=>by simp [cats]
 | a::l,h=>by
  have h1:=h a ar
  have h2:=oG (m:=m) (l:=l) fun x hx=>h x (ZS _ hx)
  rw [cats,Zl,ZY,Nat.add_mul]
  omega
theorem tJ {l:List ByteArray} (h:isIds l=true):(listV l).size≤2000:=by
 rw [isIds,ZM,Bool.not_eq_true',decide_eq_false_iff_not] at h
 have hl:l.length≤64:=by omega
 have he:∀ x∈l,x.size=16:=fun x hx=>by
  obtain ⟨k,hk,rfl⟩:=List.getElem_of_mem hx
  have h2:=h.2
  rw [allB,List.all_eq_true] at h2
  have h3:=h2 k (List.mem_range.2 hk)
  rw [Bool.not_eq_true',badIds,Bool.or_eq_false_iff,Bool.not_eq_false'] at h3
  have h4:=h3.1
  rw [ZL,Zm hk,Option.getD_some] at h4
  exact ik h4
 have h1:=ao (l.length:Int)
 have h2:=oG (m:=26) (l:=l.map textV) fun x hx=>by
  obtain ⟨y,hy,rfl⟩:=List.mem_map.1 hx
  have:=ao (y.size:Int)
  rw [textV,Zl,he y hy]
  have:=ao ((16:Nat):Int)
  omega
 rw [Z3] at h2
 rw [listV,Zl]
 omega
theorem xo:(listV []).size≤2000:=by
 have h1:=ao ((0:Nat):Int)
 rw [listV,Zl]
 simp only [List.map_nil,cats,ByteArray.size_empty,Qi]
 omega
theorem ix {d:DecD} (hn:d.to.n=d.toL.length) (h:plainD d=true):(listV d.toL).size≤2000∧d.n=0:=by
 rw [plainD,ZM,ZT,ZT] at h
 have:d.toL=[]:=List.length_eq_zero_iff.1 aa
 rw [this]
 exact ⟨xo,h.2⟩
theorem gP {d:DecD} (h:reasonD d=true):d.text.size≤500:=by
 rw [reasonD,ZT] at h
 omega
theorem sK {d:DecD} (hn:d.to.n=d.toL.length) (h:termsB d=true):d.Sm∧0≤d.n∧d.n≤64∧d.kind<10:=by
 rw [termsB] at h
 cases hA:kindA d.kind with
 | true =>
  rw [hA,ZC] at h
  simp only [ZM] at h
  have e1:=ik h.1
  have e2:=dE h.2.1
  have e3:=gP h.2.2.1
  have e4:=ix hn h.2.2.2
  simp only [kindA,Bool.or_eq_true,ZT] at hA
  exact ⟨⟨by omega,by omega,by omega,by omega⟩,by omega,by omega,by omega⟩
 | false =>
  rw [hA,ZB] at h
  cases hO:kindO d.kind with
  | true =>
   rw [hO,ZC] at h
   simp only [ZM] at h
   have e1:=dE h.1
   have e2:=iC h.2.1
   have e3:=gP h.2.2.1
   have e4:=ix hn h.2.2.2
   simp only [kindO,Bool.or_eq_true,ZT] at hO
   exact ⟨⟨by omega,by omega,by omega,by omega⟩,by omega,by omega,by omega⟩
  | false =>
   rw [hO,ZB] at h
   cases h8:decide (d.kind=8) with
   | true =>
    rw [h8,ZC] at h
    simp only [ZM] at h
    have e1:=dE h.1
    have e2:=dE h.2.1
    have e3:=gP h.2.2.1
    have e4:=tJ h.2.2.2.1
    have e5:=bX h.2.2.2.2
    have e6:=aM h8
    have e7:d.toL.length≤64:=by
     have:=h.2.2.2.1
     rw [isIds,ZM,Bool.not_eq_true',decide_eq_false_iff_not] at this
     omega
    exact ⟨⟨by omega,by omega,by omega,by omega⟩,by omega,by omega,by omega⟩
   | false =>
    rw [h8,ZB] at h
    cases h9:decide (d.kind=9) with
    | true =>
     rw [h9,ZC] at h
     simp only [ZM] at h
     have e1:=dE h.1
     have e2:=dE h.2.1
     have e3:=aM h.2.2.1
     have e4:=ix hn h.2.2.2
     have e6:=aM h9
     exact ⟨⟨by omega,by omega,by omega,by omega⟩,by omega,by omega,by omega⟩
    | false=>rw [h9] at h;cases h
theorem jy {d:DecD} (hn:d.to.n=d.toL.length) (h:decR d=true):d.Lt∧d.Sm:=by
 simp only [decR,ZM] at h
 obtain ⟨h1,h2,h3,h4,h5,h6,h7⟩:=h
 have e1:=bX h1
 have e2:=bX h2
 have e3:=bX h3
 have e4:=bX h4
 obtain ⟨e6,e7,e8,e9⟩:=sK hn h6
 have e10:=sY h7
 exact ⟨⟨by omega,by omega,by omega,by omega,by omega,by omega,by omega,by omega⟩,e6⟩
theorem fF {c:ClaimD} (hs:c.Sm):(coreCl c).size≤3000000:=by
 have h1:=hs.actor
 have h2:=hs.prev
 have s1:=ay c.actor
 have s2:=ay c.prev
 have n1:=ao c.base
 have n2:=ao c.gen
 have n3:=ao c.home
 have n4:=ao c.pub
 have n5:=ao c.time
 simp only [coreCl,dc,dw,dP,ew,ByteArray.append_empty,Zl]
 omega
theorem ez {c:BallotD} (hs:c.Sm):(coreBa c).size≤3000000:=by
 have h1:=hs.actor
 have h2:=hs.claim
 have s1:=ay c.actor
 have s2:=ay c.claim
 have n1:=ao c.server
 have n2:=ao c.gen
 have n3:=ao c.time
 simp only [coreBa,dc,dw,dP,ew,ByteArray.append_empty,Zl]
 omega
theorem ex {c:DecD} (hs:c.Sm):(coreDe c).size≤5000000:=by
 have h1:=hs.actor
 have h2:=hs.object
 have h3:=hs.text
 have h4:=hs.to
 have s1:=ay c.actor
 have s2:=ay c.object
 have s3:=ay c.text
 have n1:=ao c.server
 have n2:=ao c.number
 have n3:=ao c.kind
 have n4:=ao c.n
 have n5:=ao c.from_
 have n6:=ao c.until_
 simp only [coreDe,dc,dw,dP,ew,ByteArray.append_empty,Zl]
 omega
theorem gS {nm p:ByteArray} (h:nm.size≤20) (hp:p.size≤5000000):(textsV [nm]++p).size≤6000000:=by
 have s1:=ay nm
 simp only [dc,dw,ByteArray.append_empty,Zl]
 omega
theorem dA (e s:Int):(numsV [e,s]).size≤20:=by
 have n1:=ao e
 have n2:=ao s
 simp only [dP,ew,ByteArray.append_empty,Zl]
 omega
def bodyIt (i:ItemD):ByteArray:=bif decide (i.kind=0) then actBytes i.act else bif decide (i.kind=1) then coreCl i.claim++numsV [i.claim.e,i.claim.s] else bif decide (i.kind=2) then coreBa i.ballot++numsV [i.ballot.e,i.ballot.s] else coreDe i.dec++numsV [i.dec.e,i.dec.s]
def bytesIt (i:ItemD):ByteArray:=bif rightIt i then numV i.kind++bodyIt i else ⟨#[]⟩
def digIt (i:ItemD):ByteArray:=bif seqB (bytesIt i) ⟨#[]⟩ then ⟨#[]⟩ else shaV (bytesIt i)
theorem de {i:ItemD} (h:rightIt i=true):i.kind=0∧rightB i.act=true∨i.kind=1∧claimR i.claim=true∨i.kind=2∧ballotR i.ballot=true∨i.kind=3∧decR i.dec=true:=by
 rw [rightIt,ZM] at h
 have h:=h.1
 rw [rightK2] at h
 by_cases h0:i.kind=0
 · rw [ZA h0] at h;exact .inl ⟨h0,h⟩
 by_cases h1:i.kind=1
 · rw [Zn h0,ZA h1] at h;exact .inr (.inl ⟨h1,h⟩)
 by_cases h2:i.kind=2
 · rw [Zn h0,Zn h1,ZA h2] at h;exact .inr (.inr (.inl ⟨h2,h⟩))
 by_cases h3:i.kind=3
 · rw [Zn h0,Zn h1,Zn h2,ZA h3] at h;exact .inr (.inr (.inr ⟨h3,h⟩))
 rw [Zn h0,Zn h1,Zn h2,Zn h3] at h
 cases h
theorem gO {i:ItemD} (h:i.kind=0) (hr:rightIt i=true):rightB i.act=true:=by
 rcases de hr with h1|h1|h1|h1
 · exact h1.2
 all_goals (rw [h] at h1;exact absurd h1.1 (by decide))
theorem g7 {i:ItemD} (hr:i.act.Rng) (hn:i.dec.to.n=i.dec.toL.length) (h:rightIt i=true):(bodyIt i).size≤300000000025:=by
 rw [bodyIt]
 rcases de h with ⟨h0,h1⟩|⟨h0,h1⟩|⟨h0,h1⟩|⟨h0,h1⟩
 · have:=fK hr
   rw [h0]
   show (actBytes i.act).size≤_
   omega
 · have:=fF (im h1).2
   have:=dA i.claim.e i.claim.s
   rw [h0]
   show (coreCl i.claim++numsV [i.claim.e,i.claim.s]).size≤_
   rw [Zl]
   omega
 · have:=ez (fA h1).2
   have:=dA i.ballot.e i.ballot.s
   rw [h0]
   show (coreBa i.ballot++numsV [i.ballot.e,i.ballot.s]).size≤_
   rw [Zl]
   omega
 · have:=ex (jy hn h1).2
   have:=dA i.dec.e i.dec.s
   rw [h0]
   show (coreDe i.dec++numsV [i.dec.e,i.dec.s]).size≤_
   rw [Zl]
   omega
theorem jB {i:ItemD} (hr:i.act.Rng) (hn:i.dec.to.n=i.dec.toL.length):(bytesIt i).size≤300000000040:=by
 rw [bytesIt]
 cases h:rightIt i with
 | false=>rw [ZB];simp [ByteArray.size]
 | true =>
  have:=g7 hr hn h
  have:=ao i.kind
  rw [ZC,Zl]
  omega
set_option maxRecDepth 20000 in
set_option maxHeartbeats 16000000 in
theorem nz (i:ItemD) (hr:i.act.Rng) (hdn:i.dec.to.n=i.dec.toL.length):Pu Tryz.prog 36 #[i.v] (fun w=>i.at_ w) (.string (bytesIt i)):=by
 have hri:=dF i
 have hbs:=@g7 i hr hdn
 rw [bytesIt]
 cases hrB:rightIt i with
 | false =>
  rw [hrB] at hri
  refine ak (args:=[_]) _ Tryz.func36 rfl Tryz.ntmps36 rfl fun av bor w0=>?_
  repeat' (first|(refine ab (hc:=hri) (hX:=fun w h=>h) ?_)|refine gs ?_|refine gs1 fun _=>?_|(refine gp ?_ ?_<;>intro hx_ this)|fail)
  all_goals exact ad (ag rfl rfl) rfl
 | true =>
 rw [hrB] at hri
 have hk:=de hrB
 replace hbs:=hbs hrB
 have hkl:i.kind<9223372036854775808:=by rcases hk with h|h|h|h<;>omega
 refine ak (args:=[_]) _ Tryz.func36 rfl Tryz.ntmps36 rfl fun av bor w0=>?_
 repeat' (first|(refine ab (hc:=hri) (hX:=fun w h=>h) ?_)|refine gs ?_|refine gs1 fun _=>?_|(refine gp ?_ ?_<;>intro hx_ this)|fail)
 rename_i bi bb bs
 have hS:(⟨#[]⟩:ByteArray)++numsV [i.kind]=numV i.kind:=by
  show ByteArray.empty++(numV i.kind++ByteArray.empty)=numV i.kind
  rw [ByteArray.append_empty,ByteArray.empty_append]
 have hnk:=ao i.kind
 have hns:(⟨#[]⟩:ByteArray).size+(numsV [i.kind]).size≤1099511627776:=by
  rw [←Zl,hS]
  omega
 refine bo ?_
 refine fN 5 1 ?_
 refine cZ (l:=bld bb none 0 ⟨#[]⟩++[cel bi 63 i.cells]) (List.Perm.swap _ _ _) ?_
 refine bY (pre:=bld bb none 0 ⟨#[]⟩) (fr:=[cel bi 63 i.cells]) (hc:=d8 bb none 0 ⟨#[]⟩ ⟨some ⟨bs,0,none⟩,1,1⟩ [i.kind] (by simpa using hkl) hns) (hX:=fun w h=>aN (xs:=[[.int .i64 i.kind]]) h.2 rfl (by decide) (by simp)) (h:=?_)
 rintro v R X' ⟨A1,c1,rfl,rfl⟩
 refine cu (X':=fun w=>i.at_ w) (fun w h=>h.1.1) ?_
 rw [hS]
 generalize hs1:numV i.kind=s1 at *
 rw [bodyIt] at hbs ⊢
 rcases hk with ⟨h0,h1⟩|⟨h0,h1⟩|⟨h0,h1⟩|⟨h0,h1⟩
 · rw [ZA h0,ZC] at hbs ⊢
   have hab:=kL i.act (dk hr) ⟨hr.ints.2.2.2.2.2.2.2.1,hr.ints.2.2.2.2.2.2.2.2⟩
   generalize actBytes i.act=body at *
   unfold bld
   repeat' (first|refine aE (hab:=h0) ?_|refine gs ?_|refine gs1 fun _=>?_|(refine gp ?_ ?_<;>intro hx_ this)|fail)
   simp only [Qa,Qb]
   (refine aq ⟨[0,2,3],[(1,⟨[],[(4,⟨[],[(5,⟨[6],[(7,⟨[],[]⟩)]⟩)]⟩)]⟩),(4,⟨[],[(1,⟨[],[(5,⟨[6],[(7,⟨[],[]⟩)]⟩)]⟩)]⟩)]⟩ [cel bi 63 i.cells] (fun w=>i.at_ w) (h:=?_))
   all_goals repeat' (first|(refine ab (hc:=hab) (hX:=fun w h=>h.1) ?_)|refine gdz ?_|refine ax (hy:=by first|(apply cq (vs:=i.act.cells);rfl;exact .head _;rfl;rfl)) ?_|refine az ?_ (h':=?_)|exact aA|(refine iA ?_;refine aF (size:=1) (z:=.int .u8 0) rfl rfl rfl rfl (fun _=>At.there _ (At.here _)) (fun w G=>ii aa) aa (by simp only [maxLen];omega) rfl ?_ rfl ?_;(first|with_reducible rfl|with_reducible assumption|with_reducible exact ZI|with_reducible exact ZK);intro A2 c2)|refine gs1 fun _=>?_|(refine gq ?_ ?_<;>intro hx_ this)|fail)
   all_goals
    repeat' (first|refine gs ?_|refine gs1 fun _=>?_|(refine gp ?_ ?_<;>intro hx_ this)|fail)
    rw [←bZ,←dG]
    refine eD (hm:=ZS _ ar) ?_
    repeat' (first|refine gs ?_|refine gs1 fun _=>?_|(refine gp ?_ ?_<;>intro hx_ this)|fail)
    apply ad;apply ag;rfl;rfl
    simp only [cB,ZC]
 · rw [Zn (show ¬ i.kind=0 by omega),ZB,ZA h0,ZC] at hbs ⊢
   obtain ⟨hl,hsm⟩:=im h1
   have hfo:=mR i h0
   have hcs:=fF hsm
   have hn2:=dA i.claim.e i.claim.s
   have hc1:=fun (A:Option Addr) (c:Nat)=>oF bb A c s1 i hl aa
   have hc2:=fun (A:Option Addr) (c:Nat) (p:ByteArray) (hp:p.size≤6000000) (sl:SlV)=>d8 bb A c p sl [i.claim.e,i.claim.s] (by simp;exact ⟨hl.e,hl.s⟩) aa
   generalize coreCl i.claim=core at *
   generalize numsV [i.claim.e,i.claim.s]=sg at *
   unfold bld
   repeat' (first|refine aD (hab:=by omega) ?_|(refine ab (hc:=hfo) (hX:=fun _ _=>trivial) ?_)|refine gs ?_|refine gs1 fun _=>?_|(refine gp ?_ ?_<;>intro hx_ this)|fail)
   rename_i bf
   refine cZ (l:=bld bb A1 c1 s1++[cel bf 142 (formCells nameC 139 i.claim.e i.claim.s),cel bi 63 i.cells]) (show List.Perm ([_]++[_,_]++[_]) ([_,_]++[_]++[_]) from List.perm_append_comm.append_right _) ?_
   refine bY (pre:=bld bb A1 c1 s1) (fr:=[cel bf 142 (formCells nameC 139 i.claim.e i.claim.s),cel bi 63 i.cells]) (hc:=hc1 A1 c1) (hX:=fun _ _=>trivial) (h:=?_)
   rintro v R X' ⟨A2,c2,rfl,rfl⟩
   refine cu (X':=fun w=>i.at_ w) (fun w h=>h.1) ?_
   unfold bld
   repeat' (first|refine gs ?_|refine gs1 fun _=>?_|fail)
   rename_i bs2
   refine bo ?_
   refine bY (pre:=bld bb A2 c2 (s1++core)) (fr:=[cel bf 142 (formCells nameC 139 i.claim.e i.claim.s),cel bi 63 i.cells]) (hc:=hc2 A2 c2 (s1++core) (by rw [Zl];omega) ⟨some ⟨bs2,0,none⟩,2,2⟩) (hX:=fun w h=>aN (xs:=[[.int .i64 i.claim.e],[.int .i64 i.claim.s]]) h.2 rfl (by decide) (by simp)) (h:=?_)
   rintro v R X' ⟨A3,c3,rfl,rfl⟩
   unfold bld
   repeat' (first|refine gs ?_|refine gs1 fun _=>?_|fail)
   refine eD (hm:=ZS _ ar) ?_
   repeat' (first|refine gs ?_|refine gs1 fun _=>?_|(refine gp ?_ ?_<;>intro hx_ this)|fail)
   all_goals
    apply ad;apply ag;rfl;rfl
    simp only [cB,ZC,ZV]
 · rw [Zn (show ¬ i.kind=0 by omega),ZB,Zn (show ¬ i.kind=1 by omega),ZB,ZA h0,ZC] at hbs ⊢
   obtain ⟨hl,hsm⟩:=fA h1
   have hfo:=mS i h0
   have hcs:=ez hsm
   have hn2:=dA i.ballot.e i.ballot.s
   have hc1:=fun (A:Option Addr) (c:Nat)=>ng bb A c s1 i hl aa
   have hc2:=fun (A:Option Addr) (c:Nat) (p:ByteArray) (hp:p.size≤6000000) (sl:SlV)=>d8 bb A c p sl [i.ballot.e,i.ballot.s] (by simp;exact ⟨hl.e,hl.s⟩) aa
   generalize coreBa i.ballot=core at *
   generalize numsV [i.ballot.e,i.ballot.s]=sg at *
   unfold bld
   repeat' (first|refine aD (hab:=by omega) ?_|(refine ab (hc:=hfo) (hX:=fun _ _=>trivial) ?_)|refine gs ?_|refine gs1 fun _=>?_|(refine gp ?_ ?_<;>intro hx_ this)|fail)
   rename_i bf
   refine cZ (l:=bld bb A1 c1 s1++[cel bf 142 (formCells nameB 140 i.ballot.e i.ballot.s),cel bi 63 i.cells]) (show List.Perm ([_]++[_,_]++[_]) ([_,_]++[_]++[_]) from List.perm_append_comm.append_right _) ?_
   refine bY (pre:=bld bb A1 c1 s1) (fr:=[cel bf 142 (formCells nameB 140 i.ballot.e i.ballot.s),cel bi 63 i.cells]) (hc:=hc1 A1 c1) (hX:=fun _ _=>trivial) (h:=?_)
   rintro v R X' ⟨A2,c2,rfl,rfl⟩
   refine cu (X':=fun w=>i.at_ w) (fun w h=>h.1) ?_
   unfold bld
   repeat' (first|refine gs ?_|refine gs1 fun _=>?_|fail)
   rename_i bs2
   refine bo ?_
   refine bY (pre:=bld bb A2 c2 (s1++core)) (fr:=[cel bf 142 (formCells nameB 140 i.ballot.e i.ballot.s),cel bi 63 i.cells]) (hc:=hc2 A2 c2 (s1++core) (by rw [Zl];omega) ⟨some ⟨bs2,0,none⟩,2,2⟩) (hX:=fun w h=>aN (xs:=[[.int .i64 i.ballot.e],[.int .i64 i.ballot.s]]) h.2 rfl (by decide) (by simp)) (h:=?_)
   rintro v R X' ⟨A3,c3,rfl,rfl⟩
   unfold bld
   repeat' (first|refine gs ?_|refine gs1 fun _=>?_|fail)
   refine eD (hm:=ZS _ ar) ?_
   repeat' (first|refine gs ?_|refine gs1 fun _=>?_|(refine gp ?_ ?_<;>intro hx_ this)|fail)
   all_goals
    apply ad;apply ag;rfl;rfl
    simp only [cB,ZC,ZV]
 · rw [Zn (show ¬ i.kind=0 by omega),ZB,Zn (show ¬ i.kind=1 by omega),ZB,Zn (show ¬ i.kind=2 by omega),ZB] at hbs ⊢
   obtain ⟨hl,hsm⟩:=jy hdn h1
   have hfo:=mQ i h0
   have hcs:=ex hsm
   have hn2:=dA i.dec.e i.dec.s
   have hc1:=fun (A:Option Addr) (c:Nat)=>jx bb A c s1 i hl aa
   have hc2:=fun (A:Option Addr) (c:Nat) (p:ByteArray) (hp:p.size≤6000000) (sl:SlV)=>d8 bb A c p sl [i.dec.e,i.dec.s] (by simp;exact ⟨hl.e,hl.s⟩) aa
   generalize coreDe i.dec=core at *
   generalize numsV [i.dec.e,i.dec.s]=sg at *
   unfold bld
   repeat' (first|refine aD (hab:=by omega) ?_|(refine ab (hc:=hfo) (hX:=fun _ _=>trivial) ?_)|refine gs ?_|refine gs1 fun _=>?_|(refine gp ?_ ?_<;>intro hx_ this)|fail)
   rename_i bf
   refine cZ (l:=bld bb A1 c1 s1++[cel bf 142 (formCells nameD 141 i.dec.e i.dec.s),cel bi 63 i.cells]) (show List.Perm ([_]++[_,_]++[_]) ([_,_]++[_]++[_]) from List.perm_append_comm.append_right _) ?_
   refine bY (pre:=bld bb A1 c1 s1) (fr:=[cel bf 142 (formCells nameD 141 i.dec.e i.dec.s),cel bi 63 i.cells]) (hc:=hc1 A1 c1) (hX:=fun w h=>h) (h:=?_)
   rintro v R X' ⟨A2,c2,rfl,rfl⟩
   refine cu (X':=fun w=>i.at_ w) (fun w h=>h.1) ?_
   unfold bld
   repeat' (first|refine gs ?_|refine gs1 fun _=>?_|fail)
   rename_i bs2
   refine bo ?_
   refine bY (pre:=bld bb A2 c2 (s1++core)) (fr:=[cel bf 142 (formCells nameD 141 i.dec.e i.dec.s),cel bi 63 i.cells]) (hc:=hc2 A2 c2 (s1++core) (by rw [Zl];omega) ⟨some ⟨bs2,0,none⟩,2,2⟩) (hX:=fun w h=>aN (xs:=[[.int .i64 i.dec.e],[.int .i64 i.dec.s]]) h.2 rfl (by decide) (by simp)) (h:=?_)
   rintro v R X' ⟨A3,c3,rfl,rfl⟩
   unfold bld
   repeat' (first|refine gs ?_|refine gs1 fun _=>?_|fail)
   refine eD (hm:=ZS _ ar) ?_
   repeat' (first|refine gs ?_|refine gs1 fun _=>?_|(refine gp ?_ ?_<;>intro hx_ this)|fail)
   all_goals
    apply ad;apply ag;rfl;rfl
    simp only [cB,ZC,ZV]
theorem du (i:ItemD) (hr:i.act.Rng) (hdn:i.dec.to.n=i.dec.toL.length):Pu Tryz.prog 14 #[i.v] (fun w=>i.at_ w∧Glob w) (.string (digIt i)):=by
 refine ak (args:=[_]) _ Tryz.func14 rfl Tryz.ntmps14 rfl fun av bor w0=>?_
 have hsz:=jB hr hdn
 have hb:=nz i hr hdn
 repeat' (first|(refine ab (hc:=hb) (hX:=fun w h=>h.1) ?_)|refine ab (hc:=pd _ aa) ?_|refine gs ?_|refine gs1 fun _=>?_|(refine gp ?_ ?_<;>intro hx_ this)|fail)
 all_goals (apply ad;apply ag;rfl;rfl)
 · simp only [digIt,hx_,ZC]
 · simp only [digIt,hx_,ZB]
theorem xJ {i:ItemD} (h:i.kind=0) (hr:rightIt i=true):digIt i=digV i.act:=by
 have e:bytesIt i=bytesV i.act:=by rw [bytesIt,bytesV,hr,gO h hr,ZC,ZC,bodyIt,h];rfl
 rw [digIt,digV,e]
theorem tY (p:Int) (c:ClaimD) (h:claimR c=true):Pu Tryz.prog 112 #[.int .i64 p,c.v] Glob (.bool (sgnC p c)):=by
 refine ak (args:=[_,_]) _ Tryz.func112 rfl Tryz.ntmps112 rfl fun av bor w0=>?_
 obtain ⟨hl,hsm⟩:=im h
 have hsi:=pb p (ofClaimI c) rfl hl (Qr (gS (by decide) (Qr (fF hsm) (by decide))) (by decide))
 have hat:∀ w,(ofClaimI c).at_ w:=fun w=>⟨⟨aV w 1,aV w 5⟩,aV w 1⟩
 repeat' (first|(refine ab (hc:=gv c) (hX:=fun _ _=>trivial) ?_)|(refine ab (hc:=hsi) (hX:=fun w h=>⟨hat w,h⟩) ?_)|refine gs ?_|refine gs1 fun _=>?_|(refine gp ?_ ?_<;>intro hx_ this)|fail)
 exact ad (ag rfl rfl) rfl
def signedIt (L:List Int) (i:ItemD):Bool:=rightIt i&&bif decide (i.kind=2) then decide (i.ballot.server<(L.length:Nat))&&sgnB (L.getD i.ballot.server.toNat 0) i.ballot else bif decide (i.kind=3) then decide (i.dec.server<(L.length:Nat))&&sgnD (L.getD i.dec.server.toNat 0) i.dec else true
set_option maxRecDepth 20000 in
set_option maxHeartbeats 16000000 in
theorem gK (s:SlV) (L:List Int) (i:ItemD) (hdn:i.dec.to.n=i.dec.toL.length):Pu Tryz.prog 64 #[s.v,i.v] (fun w=>(Ints w s L∧i.at_ w)∧Glob w) (.bool (signedIt L i)):=by
 refine ak (args:=[_,_]) _ Tryz.func64 rfl Tryz.ntmps64 rfl fun av bor w0=>?_
 refine aJ (p:=s.n=L.length∧s.n≤maxLen∧(0<L.length→s.p.isSome=true)) (fun w h=>⟨h.1.1.len_,Qr (RowsD.cap h.1.1) (RowsD.max h.1.1),h.1.1.some_⟩) fun ⟨hsn,hsm,hsp⟩=>?_
 simp only [maxLen] at hsm
 have hri:=dF i
 cases hrB:rightIt i with
 | false =>
  rw [hrB] at hri
  rw [show signedIt L i=false from by rw [signedIt,hrB];rfl]
  repeat' (first|(refine ab (hc:=hri) (hX:=fun w h=>h.1.2) ?_)|refine gs ?_|refine gs1 fun _=>?_|(refine gp ?_ ?_<;>intro hx_ this)|fail)
  exact ad (ag rfl rfl) rfl
 | true =>
 rw [hrB] at hri
 have hk:=de hrB
 by_cases h2:i.kind=2
 · rcases hk with h|h|h|h
   all_goals first|(exfalso;omega)|skip
   have h1:=h.2
   clear h
   obtain ⟨hl,hz⟩:=fA h1
   have hlo:0≤i.ballot.server:=(bX (by have:=h1;simp only [ballotR,ZM] at this;exact this.1)).1
   have hms:=gS (nm:=nameB) (by decide) (Qr (ez hz) (by decide))
   have hsg:=fun p:Int=>pc p i h2 hl (Qr hms (by decide))
   by_cases hlt:i.ballot.server<(L.length:Nat)
   · have hsp':=hsp aa
     have e:signedIt L i=sgnB (L.getD i.ballot.server.toNat 0) i.ballot:=by rw [signedIt,hrB,ZA h2,ZC,ZA hlt,ZD,ZD]
     rw [e]
     have hget:∀ w,(Ints w s L∧i.at_ w)∧Glob w→CellAt w s.p i.ballot.server.toNat (.int .i64 (L.getD i.ballot.server.toNat 0)):=fun w h=>Ints.get h.1.1 aa
     have hsg1:=hsg (L.getD i.ballot.server.toNat 0)
     generalize L.getD i.ballot.server.toNat 0=pk at *
     repeat' (first|refine aE (hab:=by omega) ?_|refine aD (hab:=by omega) ?_|(refine ab (hc:=hri) (hX:=fun w h=>h.1.2) ?_)|refine gs ?_|refine gs1 fun _=>?_|(refine gp ?_ ?_<;>intro hx_ this)|fail)
     rename_i b3
     (refine aq ⟨[0,1,2,3,4,5,6,7,8,9],[(10,⟨[11,12],[]⟩)]⟩ [cel b3 63 i.cells] (fun w=>(Ints w s L∧i.at_ w)∧Glob w) (h:=?_))
     all_goals repeat' (first|refine ax (hy:=by first|(apply cf true;rfl;rfl;exact ZA aa)) ?_|(refine ab (hc:=hsg1) (hX:=fun w h=>⟨h.1.2,h.2⟩) ?_)|refine gdz ?_|refine ax (hy:=by first|(apply aB (q:=i.ballot.server.toNat);rfl;rfl;omega;omega;assumption;omega)|(apply eI (q:=i.ballot.server.toNat) (u:=.int .i64 pk);rfl;exact hget)) ?_|refine az ?_ (h':=?_)|exact aA|refine gs1 fun _=>?_|(refine gq ?_ ?_<;>intro hx_ this)|fail)
     all_goals
      repeat' (first|refine gs ?_|refine gs1 fun _=>?_|(refine gp ?_ ?_<;>intro hx_ this)|fail)
      exact ad (ag rfl rfl) rfl
   · have e:signedIt L i=false:=by rw [signedIt,hrB,ZA h2,ZC,Zn hlt];rfl
     rw [e]
     repeat' (first|refine aE (hab:=by omega) ?_|refine aD (hab:=by omega) ?_|(refine ab (hc:=hri) (hX:=fun w h=>h.1.2) ?_)|refine gs ?_|refine gs1 fun _=>?_|(refine gp ?_ ?_<;>intro hx_ this)|fail)
     rename_i b3
     (refine aq ⟨[0,1,2,3,4,5,6,7,8,9],[(10,⟨[11,12],[]⟩)]⟩ [cel b3 63 i.cells] (fun w=>(Ints w s L∧i.at_ w)∧Glob w) (h:=?_))
     all_goals repeat' (first|refine ax (hy:=by first|(apply cf false;rfl;rfl;exact Zn aa)) ?_|refine gdz ?_|refine az ?_ (h':=?_)|exact aA|refine gs1 fun _=>?_|(refine gq ?_ ?_<;>intro hx_ this)|fail)
     all_goals
      repeat' (first|refine gs ?_|refine gs1 fun _=>?_|(refine gp ?_ ?_<;>intro hx_ this)|fail)
      exact ad (ag rfl rfl) rfl
 by_cases h3:i.kind=3
 · rcases hk with h|h|h|h
   all_goals first|(exfalso;omega)|skip
   have h1:=h.2
   clear h
   obtain ⟨hl,hz⟩:=jy hdn h1
   have hlo:0≤i.dec.server:=(bX (by have:=h1;simp only [decR,ZM] at this;exact this.1)).1
   have hms:=gS (nm:=nameD) (by decide) (Qr (ex hz) (by decide))
   have hsg:=fun p:Int=>pa p i h3 hl (Qr hms (by decide))
   by_cases hlt:i.dec.server<(L.length:Nat)
   · have hsp':=hsp aa
     have e:signedIt L i=sgnD (L.getD i.dec.server.toNat 0) i.dec:=by rw [signedIt,hrB,Zn h2,ZB,ZA h3,ZC,ZA hlt,ZD,ZD]
     rw [e]
     have hget:∀ w,(Ints w s L∧i.at_ w)∧Glob w→CellAt w s.p i.dec.server.toNat (.int .i64 (L.getD i.dec.server.toNat 0)):=fun w h=>Ints.get h.1.1 aa
     have hsg1:=hsg (L.getD i.dec.server.toNat 0)
     generalize L.getD i.dec.server.toNat 0=pk at *
     repeat' (first|refine aE (hab:=by omega) ?_|refine aD (hab:=by omega) ?_|(refine ab (hc:=hri) (hX:=fun w h=>h.1.2) ?_)|refine gs ?_|refine gs1 fun _=>?_|(refine gp ?_ ?_<;>intro hx_ this)|fail)
     rename_i b3
     (refine aq ⟨[0,1,2,3,4,5,6,7,8,9],[(10,⟨[11,12],[]⟩)]⟩ [cel b3 63 i.cells] (fun w=>(Ints w s L∧i.at_ w)∧Glob w) (h:=?_))
     all_goals repeat' (first|refine ax (hy:=by first|(apply cf true;rfl;rfl;exact ZA aa)) ?_|(refine ab (hc:=hsg1) (hX:=fun w h=>⟨h.1.2,h.2⟩) ?_)|refine gdz ?_|refine ax (hy:=by first|(apply aB (q:=i.dec.server.toNat);rfl;rfl;omega;omega;assumption;omega)|(apply eI (q:=i.dec.server.toNat) (u:=.int .i64 pk);rfl;exact hget)) ?_|refine az ?_ (h':=?_)|exact aA|refine gs1 fun _=>?_|(refine gq ?_ ?_<;>intro hx_ this)|fail)
     all_goals
      repeat' (first|refine gs ?_|refine gs1 fun _=>?_|(refine gp ?_ ?_<;>intro hx_ this)|fail)
      exact ad (ag rfl rfl) rfl
   · have e:signedIt L i=false:=by rw [signedIt,hrB,Zn h2,ZB,ZA h3,ZC,Zn hlt];rfl
     rw [e]
     repeat' (first|refine aE (hab:=by omega) ?_|refine aD (hab:=by omega) ?_|(refine ab (hc:=hri) (hX:=fun w h=>h.1.2) ?_)|refine gs ?_|refine gs1 fun _=>?_|(refine gp ?_ ?_<;>intro hx_ this)|fail)
     rename_i b3
     (refine aq ⟨[0,1,2,3,4,5,6,7,8,9],[(10,⟨[11,12],[]⟩)]⟩ [cel b3 63 i.cells] (fun w=>(Ints w s L∧i.at_ w)∧Glob w) (h:=?_))
     all_goals repeat' (first|refine ax (hy:=by first|(apply cf false;rfl;rfl;exact Zn aa)) ?_|refine gdz ?_|refine az ?_ (h':=?_)|exact aA|refine gs1 fun _=>?_|(refine gq ?_ ?_<;>intro hx_ this)|fail)
     all_goals
      repeat' (first|refine gs ?_|refine gs1 fun _=>?_|(refine gp ?_ ?_<;>intro hx_ this)|fail)
      exact ad (ag rfl rfl) rfl
 have e:signedIt L i=true:=by rw [signedIt,hrB,Zn h2,Zn h3];rfl
 rw [e]
 repeat' (first|refine aD (hab:=by omega) ?_|(refine ab (hc:=hri) (hX:=fun w h=>h.1.2) ?_)|refine gs ?_|refine gs1 fun _=>?_|(refine gp ?_ ?_<;>intro hx_ this)|fail)
 all_goals exact ad (ag rfl rfl) rfl
def actsFor (L:List ActD) (k:PosK):List ActD:=L.filter fun a=>decide (a.seq=k.1)&&seqB a.prev k.2
structure NextD (q:Nat) (G:List (PosK×SlV)) (L:List ActD) (w:World):Prop where
 map:SMapAt Tryz.prog 120 w q (G.map fun g=>(g.1,g.2.v))
 rows:∀ k,Acts w ((dget G k).getD ⟨none,0,0⟩) (actsFor L k)
theorem gX {κ β γ:Type} [DecidableEq κ] (f:β→γ):∀ (l:List (κ×β)) (k:κ),dget (l.map fun p=>(p.1,f p.2)) k=(dget l k).map f
 | [],_=>rfl
 | (k',v')::r,k=>by
  simp only [Qv,dget,gX f r k]
  cases decide (k=k')<;>rfl
theorem A9 {st:ChS} {h:BldH} {sa sk:SlV} {id:ByteArray} (hid:h.id=id) (hn:sa.n=st.acts.length) (a:ActD) (pl:Option Nat):fitsV ⟨h.id,sa,sk,st.prev,(st.gen:Nat),h.fork,st.acts⟩ a pl=fitsV (st.ch id) a pl:=by
 subst hid
 obtain ⟨p,n,c⟩:=sa
 simp only at hn
 subst hn
 rfl
theorem ov (l:List KeyD):∀ r∈l.map KeyD.cells,r.length=3:=fun r hr=>by
 obtain ⟨c,_,rfl⟩:=List.mem_map.1 hr
 rfl
theorem oj {l:List ActD} (h:l.length≠1):oneA l=none:=by
 match l,h with
 | [],_=>rfl
 | [x],h=>exact absurd rfl h
 | x::y::r,_=>rfl
structure CanI (M:List ActD) (B:ActD→Bool) where
 k:Nat
 hk:k≤M.length
 A:Option Addr
 c:Nat
 n:Nat
 hn:n=((M.take k).filter B).length
 xs:List Value
 hxs:xs=(((M.take k).filter B).map ActD.cells).flatten
set_option maxHeartbeats 16000000 in
theorem pR (b:Nat) (h:BldH) (sa sk:SlV) (st:ChS) (pl:List (ByteArray×Value)) (ok:BldOk sa sk st pl) (W:OfW) (G:List (PosK×SlV)) (hI:InvS W st) (hid:h.id=W.id)
  (hok:ActsOk W.L) (hL:W.L.length≤100000) (hB:W.B≤100000)
  (hver:∀ a∈W.L,∀ p:Int,Pu Tryz.prog 54 #[.int .i64 p,a.v] (fun w=>a.at_ w∧Glob w) (.bool (W.ver p a))) :
  Ct Tryz.prog 58 #[.pointer (some ⟨b,0,none⟩)] (bldR b h sa sk st pl) (fun w=>(NextD h.q1 G W.L w∧∀ a∈W.L,a.at_ w)∧Glob w)
   (fun u R _=>(∀ a,oneA (candL W st)=some a→BldAt b h (addS st a) (.bool true) u R)∧(oneA (candL W st)=none→BldAt b { h with fork:=decide (1<(candL W st).length) } st (.bool false) u R)):=by
 have hlen:=hI.len
 have hkn:=hI.keyn
 have hgen:=hI.gen
 have ok':=ok
 obtain ⟨hn,hk,hp⟩:=ok
 refine dV (args:=[_]) _ Tryz.func58 rfl Tryz.ntmps58 rfl fun av bor w0=>?_
 obtain ⟨K,hK⟩:∃ K,st.keys[st.keys.length-1]?=some K:=⟨_,Zm (by have:=hI.key;omega)⟩
 have hKey:st.key=K.public_:=by rw [ChS.key,ZL,hK];rfl
 have hk0:=hI.key
 obtain ⟨M,hM⟩:∃ M,actsFor W.L ((sa.n:Int),st.prev)=M:=⟨_,rfl⟩
 have hcand:candL W st=M.filter (candB W st):=by rw [candL,←hM,actsFor,hn];rfl
 have hMm:∀ a∈M,a∈W.L:=fun a ha=>by rw [←hM] at ha;exact (List.mem_filter.1 ha).1
 have hMl:M.length≤W.L.length:=by rw [←hM];exact List.length_filter_le _ _
 obtain ⟨s,hs⟩:∃ s,(dget G ((sa.n:Int),st.prev)).getD ⟨none,0,0⟩=s:=⟨_,rfl⟩
 have hgl:∃ o,dget (G.map fun g=>(g.1,g.2.v)) ((sa.n:Int),st.prev)=o∧o.getD (.slice none 0 0)=s.v:=by
  refine ⟨_,rfl,?_⟩
  rw [gX,←hs]
  cases dget G ((sa.n:Int),st.prev)<;>rfl
 obtain ⟨o,ho,hov⟩:=hgl
 refine aJ (p:=s.n=M.length∧s.n≤maxLen∧(0<M.length→s.p.isSome=true)) (fun w h=>by
  have h1:=h.1.1.rows ((sa.n:Int),st.prev)
  rw [hs,hM] at h1
  exact ⟨h1.len_,h1.max_,h1.some_⟩) fun ⟨hsn,hsm,hsp⟩=>?_
 simp only [maxLen] at hsm
 have hro:∀ w,((NextD h.q1 G W.L w∧∀ a∈W.L,a.at_ w)∧Glob w)→Acts w s M:=fun w h=>by
  have h1:=h.1.1.rows ((sa.n:Int),st.prev)
  rwa [hs,hM] at h1
 unfold bldR keyR actR
 refine cI (r:=orow 124 3 (.slice sk.p sk.n sk.c) sk.n (st.keys.map KeyD.cells).flatten) aP (p:=sk.p.isSome=true) (fun w h=>ck h aa) fun hkp=>?_
 repeat' (first|refine gs ?_|refine gs1 fun _=>?_|(refine gp ?_ ?_<;>intro hx_ this)|fail)
 rename_i b1
 have hLOC:True:=trivial
 (refine aq ⟨[0,1,2,3,4,5,6,7,8,9,10,11,12,13],[]⟩ [cel b1 113 [.pointer (some ⟨b,0,none⟩)],cel b 117 (bldC h sa sk st.prev (st.gen:Nat)),orow 50 20 (.slice sa.p sa.n sa.c) sa.n (st.acts.map ActD.cells).flatten,orow 124 3 (.slice sk.p sk.n sk.c) sk.n (st.keys.map KeyD.cells).flatten,mapr h.q2 pl] (fun w=>(NextD h.q1 G W.L w∧∀ a∈W.L,a.at_ w)∧Glob w) (h:=?_))
 all_goals repeat' (first|refine gdz ?_|refine ax (hy:=by first|(apply aB (q:=(sk.n-1)*3);rfl;rfl;omega;omega;assumption;omega)|(apply gG;rfl;assumption;rfl)|(apply gb (xs:=st.keys.map KeyD.cells) (cs:=K.cells) (i:=sk.n-1) (j:=1) (u:=.int .i64 K.public_);rfl;(repeat (first|exact ar|apply ZS));(simp [hk]);exact ov st.keys;(simp [hk,hK]);rfl)) ?_|refine az ?_ (h':=?_)|exact aA|refine gs1 fun _=>?_|(refine gq ?_ ?_<;>intro hx_ this)|fail)
 repeat' (first|refine gs ?_|refine gs1 fun _=>?_|(refine ek ?_)|(refine gp ?_ ?_<;>intro hx_ this)|fail)
 (refine aq ⟨[0,1,2,3,4,5,6,7,8,9,10,11,12,13,16],[(14,⟨[15],[]⟩)]⟩ [cel b1 113 [.pointer (some ⟨b,0,none⟩)],cel b 117 (bldC h sa sk st.prev (st.gen:Nat)),orow 50 20 (.slice sa.p sa.n sa.c) sa.n (st.acts.map ActD.cells).flatten,orow 124 3 (.slice sk.p sk.n sk.c) sk.n (st.keys.map KeyD.cells).flatten,mapr h.q2 pl] (fun w=>(NextD h.q1 G W.L w∧∀ a∈W.L,a.at_ w)∧Glob w) (h:=?_))
 all_goals repeat' (first|refine gdz ?_|refine ax (hy:=by first|(apply eQ (cs:=[.int .i64 (sa.n:Nat),.string st.prev]);rfl;rfl)) ?_|refine az ?_ (h':=?_)|exact aA|(refine ai (nG (κ:=PosK) (kk:=((sa.n:Int),st.prev)) (z:=.slice none 0 0) (o:=o) (v:=s.v) rfl rfl (qA fun w h=>h.1.1.map) ho hov) rfl rfl rfl ?_)|refine gs1 fun _=>?_|(refine gq ?_ ?_<;>intro hx_ this)|fail)
 apply Qy
 refine cL 50 20 ?_
 refine ap (ι:=CanI M (candB W st)) (fun i=>⟨[(1,.pointer (some ⟨b1,0,none⟩)),(3,.pointer (some ⟨b,2,none⟩)),(4,.int .i64 K.public_),(5,.func (.func 114) #[] #[.pointer (some ⟨b1,0,none⟩)]),(6,.slice i.A i.n i.c),(40,s.v),(41,.int .i64 (s.n:Nat)),(42,.int .i64 (i.k:Nat))],[orow 50 20 (.slice i.A i.n i.c) i.n i.xs,cel b1 113 [.pointer (some ⟨b,0,none⟩)],cel b 117 (bldC h sa sk st.prev (st.gen:Nat)),orow 50 20 (.slice sa.p sa.n sa.c) sa.n (st.acts.map ActD.cells).flatten,orow 124 3 (.slice sk.p sk.n sk.c) sk.n (st.keys.map KeyD.cells).flatten,mapr h.q2 pl],(fun w=>(NextD h.q1 G W.L w∧∀ a∈W.L,a.at_ w)∧Glob w)⟩) (fun i=>M.length-i.k) ⟨0,Nat.zero_le _,none,0,0,rfl,[],rfl⟩ (aj ⟨rfl,rfl,rfl,rfl,rfl,rfl,rfl,rfl,trivial⟩ (al _) fun _ h=>h) fun i=>?_
 obtain ⟨k,hk',A,cc,n,hn',xs,hxs⟩:=i
 simp only
 have hnl:n≤100000:=by have h1:=List.length_filter_le (candB W st) (M.take k);rw [←hn',List.length_take] at h1;omega
 repeat' (first|refine gs ?_|refine gs1 fun _=>?_|(refine gp ?_ ?_<;>intro hx_ this)|fail)
 · have hlt:k<M.length:=by omega
   have hsp':=hsp aa
   obtain ⟨a,ha⟩:∃ a,M[k]?=some a:=⟨_,Zm hlt⟩
   have ham:a∈M:=List.mem_of_getElem? ha
   repeat' (first|refine gs ?_|refine gs1 fun _=>?_|(refine aH (q:=k*20) ?_)|(refine bP (cs:=a.cells) (hF:=fun w h=>Acts.get (hro w h) ha) ?_)|(refine gp ?_ ?_<;>intro hx_ this)|fail)
   rename_i b8
   have hf:=Dp ⟨h.id,sa,sk,st.prev,(st.gen:Nat),h.fork,st.acts⟩ a 114 [.pointer (some ⟨b1,0,none⟩)] (idxV st.acts a.object) _ (Bt b b1 h sa sk st pl hp a.object) (fun j hj=>Dk hj)
   rw [A9 hid hn] at hf
   have hXf:∀ w,((NextD h.q1 G W.L w∧∀ a∈W.L,a.at_ w)∧Glob w)→(∀ r∈[cel b8 50 a.cells,orow 50 20 (.slice A n cc) n xs,cel b1 113 [.pointer (some ⟨b,0,none⟩)],cel b 117 (bldC h sa sk st.prev (st.gen:Nat)),orow 50 20 (.slice sa.p sa.n sa.c) sa.n (st.acts.map ActD.cells).flatten,orow 124 3 (.slice sk.p sk.n sk.c) sk.n (st.keys.map KeyD.cells).flatten,mapr h.q2 pl],r.F w)→(ChainD.at_ w ⟨h.id,sa,sk,st.prev,(st.gen:Nat),h.fork,st.acts⟩∧a.at_ w∧CelD b1 [.pointer (some ⟨b,0,none⟩)] w∧CelD b (bldC h sa sk st.prev (st.gen:Nat)) w∧MapAt w h.q2 pl):=fun w hw hr =>
    ⟨fj (hr _ (.tail _ (.tail _ (.tail _ (.tail _ (.head _)))))) hn (fun x hx=>hw.1.2 x (hI.mem x hx)),hw.1.2 a (hMm a ham),fi (hr _ (.tail _ (.tail _ (.head _)))),fi (hr _ (.tail _ (.tail _ (.tail _ (.head _))))),hr _ (.tail _ (.tail _ (.tail _ (.tail _ (.tail _ (.tail _ (.head _)))))))⟩
   have hv:=hver a (hMm a ham) K.public_
   have htk:((M.take (k+1)).filter (candB W st))=(M.take k).filter (candB W st)++(bif candB W st a then [a] else []):=by
    rw [List.take_add_one,ha,List.filter_append,Option.toList_some]
    congr 1
   have hcb:candB W st a=(fitsV (st.ch W.id) a (idxV st.acts a.object)&&W.ver K.public_ a):=by rw [candB,hKey]
   cases hfv:fitsV (st.ch W.id) a (idxV st.acts a.object) with
   | false =>
    rw [hfv] at hf hcb
    have hno:(M.take (k+1)).filter (candB W st)=(M.take k).filter (candB W st):=by simp [htk,hcb]
    (refine aq ⟨[0,1,2,3,4],[(5,⟨[6,7,8],[(9,⟨[10],[]⟩)]⟩)]⟩ [cel b8 50 a.cells,orow 50 20 (.slice A n cc) n xs,cel b1 113 [.pointer (some ⟨b,0,none⟩)],cel b 117 (bldC h sa sk st.prev (st.gen:Nat)),orow 50 20 (.slice sa.p sa.n sa.c) sa.n (st.acts.map ActD.cells).flatten,orow 124 3 (.slice sk.p sk.n sk.c) sk.n (st.keys.map KeyD.cells).flatten,mapr h.q2 pl] (fun w=>(NextD h.q1 G W.L w∧∀ a∈W.L,a.at_ w)∧Glob w) (h:=?_))
    all_goals repeat' (first|(refine me (hc:=hf) (hX:=hXf) ?_)|(refine ab (hc:=hv) (hX:=fun w h=>⟨h.1.2 a (hMm a ham),h.2⟩) ?_)|refine gdz ?_|refine ax (hy:=by first|(apply cq (vs:=[.string h.id,.slice sa.p sa.n sa.c,.slice sk.p sk.n sk.c,.string st.prev,.int .i64 (st.gen:Nat),.bool h.fork]);rfl;(repeat (first|exact ar|apply ZS));rfl;rfl)) ?_|refine az ?_ (h':=?_)|exact aA|refine gs1 fun _=>?_|(refine gq ?_ ?_<;>intro hx_ this)|fail)
    all_goals
     repeat' (first|refine gs ?_|refine gs1 fun _=>?_|(refine gp ?_ ?_<;>intro hx_ this)|fail)
     exact ⟨(⟨k+1,hlt,A,cc,n,by rw [hno];exact hn',xs,by rw [hno];exact hxs⟩:CanI M (candB W st)),(by show M.length-(k+1)<M.length-k;omega),aj ⟨rfl,rfl,rfl,rfl,rfl,rfl,rfl,rfl,trivial⟩ (List.Sublist.cons _ (al _)) fun _ h=>h⟩
   | true =>
    rw [hfv] at hf hcb
    cases hve:W.ver K.public_ a with
    | false =>
     rw [hve] at hv hcb
     have hno:(M.take (k+1)).filter (candB W st)=(M.take k).filter (candB W st):=by simp [htk,hcb]
     (refine aq ⟨[0,1,2,3,4],[(5,⟨[6,7,8],[(9,⟨[10],[]⟩)]⟩)]⟩ [cel b8 50 a.cells,orow 50 20 (.slice A n cc) n xs,cel b1 113 [.pointer (some ⟨b,0,none⟩)],cel b 117 (bldC h sa sk st.prev (st.gen:Nat)),orow 50 20 (.slice sa.p sa.n sa.c) sa.n (st.acts.map ActD.cells).flatten,orow 124 3 (.slice sk.p sk.n sk.c) sk.n (st.keys.map KeyD.cells).flatten,mapr h.q2 pl] (fun w=>(NextD h.q1 G W.L w∧∀ a∈W.L,a.at_ w)∧Glob w) (h:=?_))
     all_goals repeat' (first|(refine me (hc:=hf) (hX:=hXf) ?_)|(refine ab (hc:=hv) (hX:=fun w h=>⟨h.1.2 a (hMm a ham),h.2⟩) ?_)|refine gdz ?_|refine ax (hy:=by first|(apply cq (vs:=[.string h.id,.slice sa.p sa.n sa.c,.slice sk.p sk.n sk.c,.string st.prev,.int .i64 (st.gen:Nat),.bool h.fork]);rfl;(repeat (first|exact ar|apply ZS));rfl;rfl)) ?_|refine az ?_ (h':=?_)|exact aA|refine gs1 fun _=>?_|(refine gq ?_ ?_<;>intro hx_ this)|fail)
     all_goals
      repeat' (first|refine gs ?_|refine gs1 fun _=>?_|(refine gp ?_ ?_<;>intro hx_ this)|fail)
      exact ⟨(⟨k+1,hlt,A,cc,n,by rw [hno];exact hn',xs,by rw [hno];exact hxs⟩:CanI M (candB W st)),(by show M.length-(k+1)<M.length-k;omega),aj ⟨rfl,rfl,rfl,rfl,rfl,rfl,rfl,rfl,trivial⟩ (List.Sublist.cons _ (al _)) fun _ h=>h⟩
    | true =>
     rw [hve] at hv hcb
     have hyes:(M.take (k+1)).filter (candB W st)=(M.take k).filter (candB W st)++[a]:=by rw [htk,hcb];rfl
     (refine aq ⟨[0,1,2,3,4],[(5,⟨[6,7,8],[(9,⟨[10],[]⟩)]⟩)]⟩ [cel b8 50 a.cells,orow 50 20 (.slice A n cc) n xs,cel b1 113 [.pointer (some ⟨b,0,none⟩)],cel b 117 (bldC h sa sk st.prev (st.gen:Nat)),orow 50 20 (.slice sa.p sa.n sa.c) sa.n (st.acts.map ActD.cells).flatten,orow 124 3 (.slice sk.p sk.n sk.c) sk.n (st.keys.map KeyD.cells).flatten,mapr h.q2 pl] (fun w=>(NextD h.q1 G W.L w∧∀ a∈W.L,a.at_ w)∧Glob w) (h:=?_))
     all_goals repeat' (first|(refine me (hc:=hf) (hX:=hXf) ?_)|(refine ab (hc:=hv) (hX:=fun w h=>⟨h.1.2 a (hMm a ham),h.2⟩) ?_)|refine gdz ?_|refine ax (hy:=by first|(apply cq (vs:=[.string h.id,.slice sa.p sa.n sa.c,.slice sk.p sk.n sk.c,.string st.prev,.int .i64 (st.gen:Nat),.bool h.fork]);rfl;(repeat (first|exact ar|apply ZS));rfl;rfl)) ?_|refine az ?_ (h':=?_)|exact aA|refine gs1 fun _=>?_|(refine gq ?_ ?_<;>intro hx_ this)|fail)
     all_goals
      repeat' (first|refine cS (size:=20) (vs:=[a.v]) (css:=a.cells) (hsz:=by rfl) (hcs:=by rfl) fun _=>?_|refine gs ?_|refine gs1 fun _=>?_|(refine gp ?_ ?_<;>intro hx_ this)|fail)
      refine aF (size:=20) (news:=a.cells) (q:=1) rfl rfl rfl rfl (fun _=>At.there _ (At.there _ (At.here _))) (fun w G=>bJ G ar rfl rfl 1) aa (by simp only [maxLen];omega) rfl ?_ rfl ?_
      · (first|with_reducible rfl|with_reducible assumption|with_reducible exact ZI|with_reducible exact ZK)
      intro A2 c2
      repeat' (first|refine gs ?_|refine gs1 fun _=>?_|(refine gp ?_ ?_<;>intro hx_ this)|fail)
      exact ⟨(⟨k+1,hlt,A2,c2,n+1,by rw [hyes,ZX,←hn'];rfl,xs++a.cells,by rw [hyes,hxs];simp⟩:CanI M (candB W st)),(by show M.length-(k+1)<M.length-k;omega),aj ⟨rfl,rfl,rfl,rfl,rfl,rfl,rfl,rfl,trivial⟩ (List.Sublist.cons _ (List.Sublist.cons _ (al _))) fun _ h=>h⟩
 have hkE:k=M.length:=by omega
 have hfin:candL W st=(M.take k).filter (candB W st):=by rw [hcand,hkE,List.take_length]
 have hnc:n=(candL W st).length:=by rw [hfin];exact hn'
 · have hn1:n≠1:=by
    intro e
    rw [e] at hx_
    exact absurd hx_ (by decide)
   have hone:oneA (candL W st)=none:=oj aa
   have hdc:decide ((1:Int)<(n:Int))=decide (1<(candL W st).length):=by
    rw [←hnc]
    by_cases h1:1<n
    · rw [ZA h1,ZA (by omega)]
    · rw [Zn h1,Zn (by omega)]
   refine ad (ag rfl rfl) ⟨bldR b { h with fork:=decide ((1:Int)<(n:Int)) } sa sk st pl,List.Sublist.cons _ (List.Sublist.cons _ (al _)),fun a ha=>?_,fun _=>?_⟩
   · rw [hone] at ha
     cases ha
   · rw [←hdc]
     exact ⟨rfl,sa,sk,pl,ok',rfl⟩
 have hkE:k=M.length:=by omega
 have hfin:candL W st=(M.take k).filter (candB W st):=by rw [hcand,hkE,List.take_length]
 have hnc:n=(candL W st).length:=by rw [hfin];exact hn'
 have hn1:n=1:=by
  by_cases e:n=1
  · exact e
  · exact absurd hx_ (by simp;omega)
 obtain ⟨a,ha⟩:∃ a,candL W st=[a]:=List.length_eq_one_iff.1 aa
 have ham:a∈W.L:=(jA (show a∈candL W st from by rw [ha];exact List.mem_singleton.2 rfl)).1
 have hxa:xs=a.cells:=by rw [hxs,←hfin,ha];simp
 subst hxa
 subst hn1
 refine cI (r:=orow 50 20 (.slice A 1 cc) 1 a.cells) aP (p:=A.isSome=true) (fun w h=>ck h (by decide)) fun hAp=>?_
 have had:=BL b h sa sk st pl ok' a (hok.rng a ham) (hok.sm a ham) aa aa
 (refine aq ⟨[1,2],[(0,⟨[],[(3,⟨[],[(4,⟨[],[]⟩)]⟩)]⟩),(3,⟨[],[(0,⟨[],[(4,⟨[],[]⟩)]⟩)]⟩)]⟩ [] (fun _=>True) (h:=?_))
 all_goals repeat' (first|refine gd ?_|refine ax (hy:=by first|(apply aB (q:=0);rfl;rfl;omega;omega;assumption;rfl)) ?_|refine az ?_ (h':=?_)|exact aA|((refine ai (gF (size:=20) (m:=1) (i:=0) (xs:=[a.cells]) (cs:=a.cells) rfl (by exact ar) rfl (fun r hr=>by rw [List.mem_singleton.1 hr];rfl) rfl) rfl rfl rfl ?_))|((refine cZ (l:=bldR b h sa sk st pl++[orow 50 20 (.slice A 1 cc) 1 a.cells,cel b1 113 [.pointer (some ⟨b,0,none⟩)]]) (List.perm_append_comm (l₁:=[orow 50 20 (.slice A 1 cc) 1 a.cells,cel b1 113 [.pointer (some ⟨b,0,none⟩)]]) (l₂:=bldR b h sa sk st pl)) ?_;refine bY (pre:=bldR b h sa sk st pl) (fr:=[orow 50 20 (.slice A 1 cc) 1 a.cells,cel b1 113 [.pointer (some ⟨b,0,none⟩)]]) (first:=#[]) (caps:=#[]) (hc:=had) (hX:=fun w hw=>⟨hw.1.2 a ham,hw.2⟩) (h:=?_);rintro v R X' ⟨rfl,sa2,sk2,pl2,ok2,rfl⟩;simp only [bldR,Qa,Qb]))|refine gs1 fun _=>?_|(refine gq ?_ ?_<;>intro hx_ this)|fail)
 all_goals
  repeat' (first|refine gs ?_|refine gs1 fun _=>?_|(refine gp ?_ ?_<;>intro hx_ this)|fail)
  refine ad (ag rfl rfl) ⟨bldR b h sa2 sk2 (addS st a) pl2,List.sublist_append_left _ _,fun a' ha'=>?_,fun ho=>?_⟩
  · rw [ha,oneA,Qc] at ha'
    subst ha'
    exact ⟨rfl,sa2,sk2,pl2,ok2,rfl⟩
  · rw [ha] at ho
    cases ho
end Go.Proofs.YtoefdofbekihdaaGreatDoor
set_option maxHeartbeats 16000000
namespace Go.Proofs.YtoefdofbekihdaaGreatDoor
open Go Go.Proofs Sy
structure Grp where
 s:SlV
 l:List ActD
def grpR (g:PosK×Grp):Res:=actR g.2.s g.2.l
theorem r3 {κ β γ:Type} [DecidableEq κ] (f:β→γ):∀ (l:List (κ×β)) (k:κ) (v:β),(dput l k v).map (fun p=>(p.1,f p.2))=dput (l.map fun p=>(p.1,f p.2)) k (f v)
 | [],_,_=>rfl
 | (k',v')::r,k,v=>by
  simp only [dput,Qv,←r3 f r k v]
  cases decide (k=k')<;>rfl
theorem rO {κ β:Type} [DecidableEq κ] (R:κ×β→Res):∀ (G:List (κ×β)) (k:κ),∃ rest:List Res,(∀ g',((dput G k g').map R).Perm (R (k,g')::rest))∧(∀ g,dget G k=some g→(G.map R).Perm (R (k,g)::rest))∧(dget G k=none→rest=G.map R)
 | [],k=>⟨[],fun g'=>List.Perm.refl _,fun g h=>(by cases h),fun _=>rfl⟩
 | (k',v')::r,k=>by
  by_cases e:k=k'
  · subst e
    refine ⟨r.map R,fun g'=>?_,fun g h=>?_,fun h=>?_⟩
    · simp [dput]
    · simp only [dget,ZQ,ZC,Qc] at h
      subst h
      exact List.Perm.refl _
    · simp [dget] at h
  · obtain ⟨rest,h1,h2,h3⟩:=rO R r k
    refine ⟨R (k',v')::rest,fun g'=>?_,fun g h=>?_,fun h=>?_⟩
    · have:=(h1 g').cons (R (k',v'))
      simp only [dput,e,ZO,ZB,Qv]
      exact this.trans (List.Perm.swap _ _ _)
    · simp only [dget,e,ZO,ZB] at h
      exact ((h2 g h).cons (R (k',v'))).trans (List.Perm.swap _ _ _)
    · simp only [dget,e,ZO,ZB] at h
      rw [h3 h]
      rfl
theorem permG {x O:Res} {C rest R:List Res} (h:R.Perm (O::rest)):(x::O::(C++rest)).Perm (x::(C++R)):=((List.perm_middle.symm).trans (h.symm.append_left C)).cons x
theorem permH {c m sm c4:Res} {R:List Res}:([c,m,sm,c4]++R).Perm ((sm::R)++[c,m,c4]):=(List.perm_middle (l₁:=[c,m])).trans (List.Perm.cons sm (List.perm_append_comm (l₁:=[c,m,c4])))
theorem permK {an kb o c m c4:Res}:[an,kb,o,c,m,c4].Perm [c,an,kb,m,o,c4]:=(List.perm_middle (l₁:=[an,kb,o])).trans (.cons _ (.cons _ (.cons _ (.swap _ _ _))))
def grpL (o:Option Grp):List ActD:=(o.map Grp.l).getD []
def grpS (o:Option Grp):SlV:=(o.map Grp.s).getD ⟨none,0,0⟩
structure GrpOk (G:List (PosK×Grp)) (L:List ActD):Prop where
 all:∀ k,grpL (dget G k)=actsFor L k
 len:∀ k g,dget G k=some g→g.s.n=g.l.length
theorem qf (L:List ActD) (a:ActD) (k:PosK):actsFor (L++[a]) k=actsFor L k++(bif decide (k=((a.seq,a.prev):PosK)) then [a] else []):=by
 rw [actsFor,actsFor,List.filter_append]
 congr 1
 obtain ⟨n,p⟩:=k
 by_cases h1:a.seq=n
 · by_cases h2:a.prev=p
   · subst h1;subst h2;simp [List.filter,cV]
   · have hb:seqB a.prev p=false:=by
      cases h:seqB a.prev p with
      | false=>rfl
      | true=>exact absurd (seqB_iff.1 h) h2
     have hne:¬ ((n,p):PosK)=(a.seq,a.prev):=fun e=>h2 (congrArg Prod.snd e).symm
     simp [List.filter,hb,hne]
 · have hne:¬ ((n,p):PosK)=(a.seq,a.prev):=fun e=>h1 (congrArg Prod.fst e).symm
   simp [List.filter,h1,hne]
theorem GrpOk.step {G:List (PosK×Grp)} {L:List ActD} (h:GrpOk G L) (a:ActD) (s':SlV) (hs:s'.n=(grpL (dget G ((a.seq,a.prev):PosK))).length+1) :
  GrpOk (dput G ((a.seq,a.prev):PosK) ⟨s',grpL (dget G ((a.seq,a.prev):PosK))++[a]⟩) (L++[a]):=by
 refine ⟨fun k=>?_,fun k g hg=>?_⟩
 · rw [qf,j8]
   by_cases e:k=((a.seq,a.prev):PosK)
   · subst e
     simp only [ZQ,ZC]
     rw [←h.all]
     rfl
   · rw [Zn e,ZB,ZB,Z9]
     exact h.all k
 · rw [j8] at hg
   by_cases e:k=((a.seq,a.prev):PosK)
   · subst e
     simp only [ZQ,ZC,Qc] at hg
     subst hg
     rw [ZX]
     exact hs
   · rw [Zn e,ZB] at hg
     exact h.len k g hg
namespace Sy
section
variable {P:Program} {N:Nat} {av bor:List Nat} {w0:World} {E:Env} {loc:List Res} {X:World→Prop} {K:Exit→St→Prop} {c:Code}
theorem Gam.giveL {w:World}:∀ (L:List Res) {X:World→Prop},Gam av bor w0 (L++loc) X w→Gam av bor w0 loc (fun w=>X w∧∀ r∈L,r.F w) w
  | [],X,G=>G.imp fun _ h=>⟨h,by simp⟩
  | r :: L,X,G=>(Gam.giveL L (Gam.give (r:=r) (loc:=L++loc) G)).imp fun w h=>⟨h.1.1,fun q hq=>by
      rcases List.mem_cons.1 hq with rfl|hq
      · exact h.1.2
      · exact h.2 q hq⟩
theorem zF {ops:Array Oper} {rest:List Oper} {k:St→Prop} (L:List Res) (h:Sw P N av bor w0 ops rest ⟨E,loc,fun w=>X w∧∀ r∈L,r.F w⟩ k):Sw P N av bor w0 ops rest ⟨E,L++loc,X⟩ k:=Sw.mk fun a w ok=>h.run a w (ok.via fun M G=>by
 rw [ZZ] at G
 exact G.giveL L)
theorem Bq {b e:Nat} {cs:List Value} (size m:Nat) (hl:cs.length=m*size:=by rfl) (hm:m≤maxLen) (h:Cw P N av bor w0 c ⟨E,orow e size (.slice (some ⟨b,0,none⟩) m m) m cs::loc,X⟩ K):Cw P N av bor w0 c ⟨E,cel b e cs::loc,X⟩ K:=Cw.mk fun a w ok=>h.run a w (ok.via fun M G=>G.orow hl hm)
theorem m6 {l:List Res} (hs:loc.Perm l) (h:Cw P N av bor w0 c ⟨E,l,X⟩ K):Cw P N av bor w0 c ⟨E,loc,X⟩ K:=Cw.mk fun a w ok=>h.run a w (ok.via fun M G=>G.perm (hs.append_right M))
end
end Sy
section
variable {N:Nat} {av bor:List Nat} {w0:World} {E:Env} {X:World→Prop} {K:Exit→St→Prop} {c:Code}
theorem Fu {G:List (PosK×Grp)} {k:PosK} {rest:List Res} (C:List Res) (h2:∀ g,dget G k=some g→(G.map grpR).Perm (grpR (k,g)::rest)) (h3:dget G k=none→rest=G.map grpR)
  (h:Cw Tryz.prog N av bor w0 c ⟨E,actR (grpS (dget G k)) (grpL (dget G k))::(C++rest),X⟩ K):Cw Tryz.prog N av bor w0 c ⟨E,C++G.map grpR,X⟩ K:=by
 cases hd:dget G k with
 | none =>
  rw [hd,h3 hd] at h
  exact cL 50 20 h
 | some g =>
  rw [hd] at h
  exact m6 (((h2 g hd).append_left C).trans List.perm_middle) h
end
theorem C5 {q:Nat} {G:List (PosK×Grp)} {L:List ActD} (h:GrpOk G L) {w:World} (hm:SMapAt Tryz.prog 120 w q (G.map fun g=>(g.1,g.2.s.v))) (hr:∀ r∈G.map grpR,r.F w) (ha:∀ a∈L,a.at_ w) :
  NextD q (G.map fun g=>(g.1,g.2.s)) L w:=by
 refine ⟨by rw [Qu];exact hm,fun k=>?_⟩
 rw [gX,←h.all k]
 have hsub:∀ a∈grpL (dget G k),a.at_ w:=fun a h1=>by
  rw [h.all k] at h1
  exact ha a (List.mem_filter.1 h1).1
 cases hd:dget G k with
 | none=>exact ⟨aV w 20,fun a h=>by cases h⟩
 | some g =>
  rw [hd] at hsub
  have hg:=hr (grpR (k,g)) (List.mem_map_of_mem (r4 hd))
  exact fj hg (h.len k g hd) hsub
end Go.Proofs.YtoefdofbekihdaaGreatDoor
set_option maxHeartbeats 16000000
namespace Go.Proofs.YtoefdofbekihdaaGreatDoor
open Go Go.Proofs Sy
def OfW.at (W:OfW) (L:List ActD):OfW:={ W with L:=L }
def OfRes (W:OfW) (st:ChS) (fork:Bool):Prop:=match oneA (firstL W) with
 | some a=>st=finS W a∧fork=decide (1<(candL W (finS W a)).length)
 | none=>st=⟨[],[],⟨#[]⟩,0⟩∧fork=decide (1<(firstL W).length)
def OfAt19 (W:OfW) (PL:List ActD→Prop) (u:Value) (X:World→Prop):Prop:=∃ (L:List ActD) (sa sk:SlV) (st:ChS) (fork:Bool),PL L∧OfRes (W.at L) st fork∧u=(⟨W.id,sa,sk,st.prev,(st.gen:Nat),fork,st.acts⟩:ChainD).v∧∀ w,X w→Acts w sa st.acts∧Keyz w sk st.keys
structure OfHyp (ks ki:SlV) (W:OfW) (PL:List ActD→Prop) (Y:World→Prop):Prop where
 acts:Mk Tryz.prog 52 #[.agg #[ks.v,ki.v],.string W.id] (fun w=>Y w∧Glob w) (fun u X'=>∃ (s:SlV) (L:List ActD),u=s.v∧PL L∧∀ w,X' w→Acts w s L)
 ok:∀ L,PL L→ActsOk L∧L.length≤100000
 bB:W.B≤100000
 won:∀ g:Nat,g≤W.B→Pu Tryz.prog 111 #[.agg #[ks.v,ki.v],.string W.id,.int .i64 (g:Nat)] (fun w=>Y w∧Glob w) (.tuple #[((W.won g).getD ClaimD.zero).v,.bool (W.won g).isSome])
 bnd:∀ g c,W.won g=some c→g<W.B
 clm:∀ g c,W.won g=some c→∀ p:Int,Pu Tryz.prog 112 #[.int .i64 p,c.v] (fun w=>Y w∧Glob w) (.bool (W.clm p c))
 dg:∀ g c,W.won g=some c→Pu Tryz.prog 14 #[(ofClaimI c).v] (fun w=>Y w∧Glob w) (.string (W.dgC c))
 ver:∀ L,PL L→∀ a∈L,∀ p:Int,Pu Tryz.prog 54 #[.int .i64 p,a.v] (fun w=>a.at_ w∧Glob w) (.bool (W.ver p a))
def chZ (id:ByteArray):List Value:=[.string id,.slice none 0 0,.slice none 0 0,.string ⟨#[]⟩,.int .i64 0,.bool false]
def bldH0 (ks ki:SlV) (id:ByteArray) (q1 q2:Nat):BldH:=⟨ks,ki,id,false,q1,q2,ClaimD.zero,false⟩
structure GroI (L:List ActD) where
 k:Nat
 hk:k≤L.length
 G:List (PosK×Grp)
 hG:GrpOk G (L.take k)
theorem rc {ks ki:SlV} {W:OfW} {PL:List ActD→Prop} {Y:World→Prop} (H:OfHyp ks ki W PL Y) (L:List ActD) (b q1 q2:Nat) (sa sk:SlV) (st:ChS) (pl:List (ByteArray×Value)) (ok:BldOk sa sk st pl)
  (hl:st.acts.length≤1000000) (hl2:st.keys.length≤1000000) :
  Ct Tryz.prog 57 #[.pointer (some ⟨b,0,none⟩)] (bldR b ((bldH0 ks ki W.id q1 q2).look (W.won st.gen)) sa sk st pl) (fun w=>Y w∧Glob w)
   (fun u R _=>(∀ s,regS (W.at L) st=some s→BldAt b ((bldH0 ks ki W.id q1 q2).look (W.won s.gen)) s (.bool true) u R)∧(regS (W.at L) st=none→BldAt b ((bldH0 ks ki W.id q1 q2).look (W.won st.gen)) st (.bool false) u R)):=by
 have hwA:(W.at L).won=W.won:=rfl
 cases hw:W.won st.gen with
 | none =>
  refine (nu b ((bldH0 ks ki W.id q1 q2).look none) sa sk st pl ok rfl _).mono fun v R X' h=>⟨fun s hs=>?_,fun _=>h⟩
  rw [regS,hwA,hw] at hs
  cases hs
 | some c =>
  have hg:=H.bnd _ _ hw
  have hB:=H.bB
  refine (nt b ((bldH0 ks ki W.id q1 q2).look (some c)) sa sk st pl ok (W.at L) c hw rfl rfl Y hl hl2 aa (H.clm _ _ hw) (H.dg _ _ hw) (H.won (st.gen+1) hg)).mono fun v R X' h=>⟨fun s hs=>?_,h.2⟩
  obtain ⟨_,_,_,e,_⟩:=oc hs
  rw [e]
  exact h.1 s hs
structure RunI (W:OfW) (a:ActD) where
 st:ChS
 sa:SlV
 sk:SlV
 pl:List (ByteArray×Value)
 ok:BldOk sa sk st pl
 inv:InvS W st
 j:Nat
 hj:muS W st≤j
 hr:runS W j st=finS W a
theorem RunI.next {W:OfW} (hB:∀ g c,W.won g=some c→g<W.B) {a:ActD} {st s:ChS} {j:Nat} (hI:InvS W st) (hj:muS W st≤j) (hr:runS W j st=finS W a) (hs:stepS W st=some s):InvS W s∧muS W s<muS W st∧muS W s≤j-1∧runS W (j-1) s=finS W a:=by
 obtain ⟨h1,h2⟩:=iP hB hI hs
 cases j with
 | zero=>omega
 | succ j=>exact ⟨h1,by omega,by rw [Nat.add_sub_cancel];omega,by rw [eE hs] at hr;exact hr⟩
set_option maxHeartbeats 16000000 in
theorem C2 (ks ki:SlV) (W:OfW) (PL:List ActD→Prop) (Y:World→Prop) (H:OfHyp ks ki W PL Y) :
  Mk Tryz.prog 28 #[.agg #[ks.v,ki.v],.string W.id] (fun w=>Y w∧Glob w) (OfAt19 W PL):=by
 refine bE (args:=[_,_]) _ Tryz.func28 rfl Tryz.ntmps28 rfl fun av bor w0=>?_
 repeat' (first|refine aC (cs:=chZ W.id) (hf:=by rfl) ?_|refine gs ?_|refine gs1 fun _=>?_|(refine gp ?_ ?_<;>intro hx_ this)|fail)
 refine qw PosK 120 (h:=fun q1=>?_)
 refine gj ByteArray (h:=fun q2=>?_)
 repeat' (first|refine aC (cs:=bldC (bldH0 ks ki W.id q1 q2) ⟨none,0,0⟩ ⟨none,0,0⟩ ⟨#[]⟩ ((0:Nat):Int)) (hf:=by rfl) ?_|(refine cA (hc:=H.acts) (hX:=fun w h=>h) fun v1 X1 h1=>?_;obtain ⟨s,L,rfl,hPL,hw1⟩:=h1)|refine gs ?_|refine gs1 fun _=>?_|(refine gp ?_ ?_<;>intro hx_ this)|fail)
 rename_i b2 b4 b
 refine aJ (p:=s.n=L.length∧s.n≤maxLen∧(0<L.length→s.p.isSome=true)) (fun w h=>⟨(hw1 w h.2).len_,(hw1 w h.2).max_,(hw1 w h.2).some_⟩) fun ⟨hsn,hsm,hsp⟩=>?_
 simp only [maxLen] at hsm
 obtain ⟨hok,hL⟩:=H.ok L hPL
 refine ap (ι:=GroI L) (fun i=>⟨[(1,.string W.id),(4,.pointer (some ⟨b4,0,none⟩)),(5,.pointer (some ⟨b,0,none⟩)),(21,s.v),(22,.int .i64 (s.n:Nat)),(23,.int .i64 (i.k:Nat))],[cel b 117 (bldC (bldH0 ks ki W.id q1 q2) ⟨none,0,0⟩ ⟨none,0,0⟩ ⟨#[]⟩ ((0:Nat):Int)),mapr q2 ([]:List (ByteArray×Value)),smapr Tryz.prog 120 q1 (i.G.map fun g=>(g.1,g.2.s.v)),cel b4 36 (chZ ⟨#[]⟩)]++i.G.map grpR,fun w=>(Y w∧Glob w)∧X1 w⟩) (fun i=>L.length-i.k) ⟨0,Nat.zero_le _,[],⟨fun _=>rfl,fun _ _ h=>by cases h⟩⟩ ?_ fun i=>?_
 · exact aj ⟨rfl,rfl,rfl,rfl,rfl,rfl,trivial⟩ (.cons_cons _ (.cons_cons _ (.cons_cons _ (.cons_cons _ (ZR _))))) fun _ h=>h
 obtain ⟨k,hk,G,hG⟩:=i
 simp only
 repeat' (first|refine gs ?_|refine gs1 fun _=>?_|(refine gp ?_ ?_<;>intro hx_ this)|fail)
 · have hlt:k<L.length:=by omega
   have hsp':=hsp aa
   obtain ⟨a,ha⟩:∃ a,L[k]?=some a:=⟨_,Zm hlt⟩
   have ham:=List.mem_of_getElem? ha
   repeat' (first|refine gs ?_|refine gs1 fun _=>?_|(refine aH (q:=k*20) ?_)|(refine bP (cs:=a.cells) (hF:=fun w h=>Acts.get (hw1 w h.2) ha) ?_)|(refine aC (cs:=[.int .i64 a.seq,.string a.prev]) (hf:=by rfl) ?_)|(refine gp ?_ ?_<;>intro hx_ this)|fail)
   rename_i b7 b8
   obtain ⟨rest,hp1,hp2,hp3⟩:=rO grpR G ((a.seq,a.prev):PosK)
   obtain ⟨l,hl⟩:∃ l,grpL (dget G ((a.seq,a.prev):PosK))=l:=⟨_,rfl⟩
   have hns:(grpS (dget G ((a.seq,a.prev):PosK))).n=l.length:=by
    rw [←hl]
    cases hd:dget G ((a.seq,a.prev):PosK) with
    | none=>rfl
    | some g=>exact hG.len _ g hd
   have hll:l.length≤100000:=by
    rw [←hl,hG.all]
    have h1:=List.length_filter_le (fun x:ActD=>decide (x.seq=a.seq)&&seqB x.prev a.prev) (L.take k)
    rw [List.length_take] at h1
    exact Qr h1 aa
   have hof:(dget (G.map fun g=>(g.1,g.2.s.v)) ((a.seq,a.prev):PosK)).getD (.slice none 0 0)=(grpS (dget G ((a.seq,a.prev):PosK))).v:=by
    rw [gX (fun g:Grp=>g.s.v)]
    cases dget G ((a.seq,a.prev):PosK)<;>rfl
   have hst:=fun (s':SlV) (h:s'.n=l.length+1)=>hG.step a s' (by rw [hl];exact h)
   rw [hl] at hst
   obtain ⟨⟨A,n,c⟩,hs⟩:∃ s',grpS (dget G ((a.seq,a.prev):PosK))=s':=⟨_,rfl⟩
   rw [hs] at hns hof
   simp only at hns
   refine Fu (k:=((a.seq,a.prev):PosK)) (rest:=rest) [cel b8 120 [.int .i64 a.seq,.string a.prev],cel b7 50 a.cells,cel b 117 (bldC (bldH0 ks ki W.id q1 q2) ⟨none,0,0⟩ ⟨none,0,0⟩ ⟨#[]⟩ ((0:Nat):Int)),mapr q2 ([]:List (ByteArray×Value)),smapr Tryz.prog 120 q1 (G.map fun g=>(g.1,g.2.s.v)),cel b4 36 (chZ ⟨#[]⟩)] hp2 hp3 ?_
   rw [hs,hl]
   unfold actR
   simp only [Qa,Qb]
   (refine aq ⟨[0,1,2,3,4,5],[(6,⟨[],[(7,⟨[8,10],[(9,⟨[],[(11,⟨[],[]⟩)]⟩)]⟩)]⟩)]⟩ [cel b8 120 [.int .i64 a.seq,.string a.prev],cel b7 50 a.cells,cel b 117 (bldC (bldH0 ks ki W.id q1 q2) ⟨none,0,0⟩ ⟨none,0,0⟩ ⟨#[]⟩ ((0:Nat):Int))] (fun w=>(Y w∧Glob w)∧X1 w) (h:=?_))
   all_goals repeat' (first|refine gdz ?_|refine az ?_ (h':=?_)|exact aA|refine cS (size:=20) (vs:=[a.v]) (css:=a.cells) (hsz:=by rfl) (hcs:=by rfl) fun _=>?_|(refine iO (κ:=PosK) (kk:=((a.seq,a.prev):PosK)) (z:=.slice none 0 0) (u:=.slice A n c) rfl rfl rfl hof (fun _=>At.there _ (At.there _ (At.there _ (At.there _ (At.there _ (At.here _)))))) rfl rfl rfl (fun _=>?_))|(refine iO (κ:=PosK) (kk:=((a.seq,a.prev):PosK)) (z:=.slice none 0 0) (u:=.slice A n c) rfl rfl rfl hof (fun _=>At.there _ (At.there _ (At.there _ (At.there _ (At.there _ (At.there _ (At.here _))))))) rfl rfl rfl (fun _=>?_))|(refine iA ?_;refine aF (size:=20) (news:=a.cells) (q:=1) rfl rfl rfl rfl (fun _=>At.there _ (At.here _)) (fun w G=>bJ G ar rfl rfl 1) aa (by simp only [maxLen];omega) rfl ?_ rfl ?_;(first|with_reducible rfl|with_reducible assumption|with_reducible exact ZI|with_reducible exact ZK);intro A2 c2)|(refine mf (κ:=PosK) (kk:=((a.seq,a.prev):PosK)) rfl rfl rfl (At.there _ (At.there _ (At.there _ (At.there _ (At.there _ (At.there _ (At.here _))))))) rfl rfl rfl ?_)|refine gs1 fun _=>?_|(refine gq ?_ ?_<;>intro hx_ this)|fail)
   all_goals
    have hmp:dput (dput (G.map fun g=>(g.1,g.2.s.v)) ((a.seq,a.prev):PosK) (.slice A n c)) ((a.seq,a.prev):PosK) (.slice A2 (n+1) c2)=(dput G ((a.seq,a.prev):PosK) ⟨⟨A2,n+1,c2⟩,l++[a]⟩).map (fun g=>(g.1,g.2.s.v)):=by
     rw [j5]
     exact (r3 (fun g:Grp=>g.s.v) G ((a.seq,a.prev):PosK) ⟨⟨A2,n+1,c2⟩,l++[a]⟩).symm
    have hfl:((l++[a]).map ActD.cells).flatten=(l.map ActD.cells).flatten++a.cells:=by simp
    rw [hmp,←hfl]
    refine m6 (permG (C:=[cel b8 120 [.int .i64 a.seq,.string a.prev],cel b7 50 a.cells,cel b 117 (bldC (bldH0 ks ki W.id q1 q2) ⟨none,0,0⟩ ⟨none,0,0⟩ ⟨#[]⟩ ((0:Nat):Int)),mapr q2 ([]:List (ByteArray×Value)),smapr Tryz.prog 120 q1 ((dput G ((a.seq,a.prev):PosK) ⟨⟨A2,n+1,c2⟩,l++[a]⟩).map (fun g=>(g.1,g.2.s.v))),cel b4 36 (chZ ⟨#[]⟩)]) (hp1 ⟨⟨A2,n+1,c2⟩,l++[a]⟩)) ?_
    repeat' (first|refine gs ?_|refine gs1 fun _=>?_|(refine gp ?_ ?_<;>intro hx_ this)|fail)
    exact ⟨(⟨k+1,hlt,dput G ((a.seq,a.prev):PosK) ⟨⟨A2,n+1,c2⟩,l++[a]⟩,by rw [List.take_add_one,ha];exact hst _ (by show n+1=_;rw [hns])⟩:GroI L),(by show L.length-(k+1)<L.length-k;omega),aj ⟨rfl,rfl,rfl,rfl,rfl,rfl,trivial⟩ (.cons _ (.cons _ (.cons _ (al _)))) fun w h=>h⟩
 have hkE:k=L.length:=by omega
 rw [hkE,List.take_length] at hG
 refine cZ permH ?_
 refine zF _ ?_
 refine cu (X':=fun w=>(Y w∧Glob w)∧(NextD q1 (G.map fun g=>(g.1,g.2.s)) L w∧∀ a∈L,a.at_ w)) (fun w h=>⟨h.1.1,C5 hG (h.2 _ (.head _)) (fun r hr=>h.2 r (.tail _ hr)) (hw1 w h.1.2).2,(hw1 w h.1.2).2⟩) ?_
 clear hsp hsn hk
 obtain ⟨M,hM⟩:∃ M,actsFor L ((0:Int),⟨#[]⟩)=M:=⟨_,rfl⟩
 have hfl:firstL (W.at L)=M.filter (firstB (W.at L)):=by rw [←hM];rfl
 have hMm:∀ a∈M,a∈L:=fun a ha=>by rw [←hM] at ha;exact (List.mem_filter.1 ha).1
 have hMl:M.length≤L.length:=by rw [←hM];exact List.length_filter_le _ _
 obtain ⟨G',hG'⟩:∃ G',(G.map fun g=>(g.1,g.2.s))=G':=⟨_,rfl⟩
 rw [hG']
 obtain ⟨s0,hs0⟩:∃ s0,(dget G' ((0:Int),⟨#[]⟩)).getD ⟨none,0,0⟩=s0:=⟨_,rfl⟩
 have hgl:∃ o,dget (G'.map fun g=>(g.1,g.2.v)) ((0:Int),⟨#[]⟩)=o∧o.getD (.slice none 0 0)=s0.v:=by
  refine ⟨_,rfl,?_⟩
  rw [gX,←hs0]
  cases dget G' ((0:Int),⟨#[]⟩)<;>rfl
 obtain ⟨o,ho,hov⟩:=hgl
 have hro:∀ w,((Y w∧Glob w)∧(NextD q1 G' L w∧∀ a∈L,a.at_ w))→Acts w s0 M:=fun w h=>by
  have h1:=h.2.1.rows ((0:Int),⟨#[]⟩)
  rwa [hs0,hM] at h1
 repeat' (first|refine gs ?_|refine gs1 fun _=>?_|(refine aC (cs:=[.int .i64 0,.string ⟨#[]⟩]) (hf:=by rfl) ?_)|(refine ai (nG (κ:=PosK) (kk:=((0:Int),⟨#[]⟩)) (z:=.slice none 0 0) (o:=o) (v:=s0.v) rfl rfl (qA fun w h=>h.2.1.map) ho hov) rfl rfl rfl ?_)|(refine gp ?_ ?_<;>intro hx_ this)|fail)
 refine aJ (p:=s0.n=M.length∧s0.n≤maxLen∧(0<M.length→s0.p.isSome=true)) (fun w h=>⟨(hro w h).len_,(hro w h).max_,(hro w h).some_⟩) fun ⟨hsn,hsm,hsp⟩=>?_
 simp only [maxLen] at hsm
 refine cL 50 20 ?_
 refine ap (ι:=CanI M (firstB (W.at L))) (fun i=>⟨[(1,.string W.id),(4,.pointer (some ⟨b4,0,none⟩)),(5,.pointer (some ⟨b,0,none⟩)),(9,.slice i.A i.n i.c),(49,s0.v),(50,.int .i64 (s0.n:Nat)),(51,.int .i64 (i.k:Nat))],[orow 50 20 (.slice i.A i.n i.c) i.n i.xs,cel b 117 (bldC (bldH0 ks ki W.id q1 q2) ⟨none,0,0⟩ ⟨none,0,0⟩ ⟨#[]⟩ ((0:Nat):Int)),mapr q2 ([]:List (ByteArray×Value)),cel b4 36 (chZ ⟨#[]⟩)],fun w=>(Y w∧Glob w)∧(NextD q1 G' L w∧∀ a∈L,a.at_ w)⟩) (fun i=>M.length-i.k) ⟨0,Nat.zero_le _,none,0,0,rfl,[],rfl⟩ (aj ⟨rfl,rfl,rfl,rfl,rfl,rfl,rfl,trivial⟩ (al _) fun _ h=>h) fun i=>?_
 clear hkE this
 obtain ⟨k,hk',A,cc,n,hn',xs,hxs⟩:=i
 simp only
 have hnl:n≤100000:=by have h1:=List.length_filter_le (firstB (W.at L)) (M.take k);rw [←hn',List.length_take] at h1;omega
 repeat' (first|refine gs ?_|refine gs1 fun _=>?_|(refine gp ?_ ?_<;>intro hx_ this)|fail)
 · have hlt:k<M.length:=by omega
   have hsp':=hsp aa
   obtain ⟨a,ha⟩:∃ a,M[k]?=some a:=⟨_,Zm hlt⟩
   have ham:a∈M:=List.mem_of_getElem? ha
   have hamL:=hMm a ham
   have hnn:a.n<9223372036854775808:=(hok.rng a hamL).ints.2.2.2.2.2.1
   have hv:=H.ver L hPL a hamL a.n
   have htk:((M.take (k+1)).filter (firstB (W.at L)))=(M.take k).filter (firstB (W.at L))++(bif firstB (W.at L) a then [a] else []):=by
    rw [List.take_add_one,ha,List.filter_append,Option.toList_some]
    congr 1
   have hfb:firstB (W.at L) a=(decide (a.kind=0)&&seqB (idV a.n) W.id&&W.ver a.n a):=rfl
   by_cases h0:a.kind=0
   · cases hid:seqB (idV a.n) W.id with
     | false =>
      have hno:(M.take (k+1)).filter (firstB (W.at L))=(M.take k).filter (firstB (W.at L)):=by simp [htk,hfb,hid]
      repeat' (first|refine aE (hab:=h0) ?_|refine ai (dR _ rfl rfl hid) rfl am rfl ?_|(refine ab (hc:=gB a.n hnn) (hX:=fun w h=>h.1.2) ?_)|(refine ab (hc:=hv) (hX:=fun w h=>⟨h.2.2 a hamL,h.1.2⟩) ?_)|refine gs ?_|refine gs1 fun _=>?_|(refine aH (q:=k*20) ?_)|(refine bP (cs:=a.cells) (hF:=fun w h=>Acts.get (hro w h) ha) ?_)|(refine gp ?_ ?_<;>intro hx_ this)|fail)
      exact ⟨(⟨k+1,hlt,A,cc,n,by rw [hno];exact hn',xs,by rw [hno];exact hxs⟩:CanI M (firstB (W.at L))),(by show M.length-(k+1)<M.length-k;omega),aj ⟨rfl,rfl,rfl,rfl,rfl,rfl,rfl,trivial⟩ (List.Sublist.cons _ (al _)) fun _ h=>h⟩
     | true =>
      cases hve:W.ver a.n a with
      | false =>
       rw [hve] at hv
       have hno:(M.take (k+1)).filter (firstB (W.at L))=(M.take k).filter (firstB (W.at L)):=by simp [htk,hfb,hve]
       repeat' (first|refine aE (hab:=h0) ?_|refine ai (dR _ rfl rfl hid) rfl am rfl ?_|(refine ab (hc:=gB a.n hnn) (hX:=fun w h=>h.1.2) ?_)|(refine ab (hc:=hv) (hX:=fun w h=>⟨h.2.2 a hamL,h.1.2⟩) ?_)|refine gs ?_|refine gs1 fun _=>?_|(refine aH (q:=k*20) ?_)|(refine bP (cs:=a.cells) (hF:=fun w h=>Acts.get (hro w h) ha) ?_)|(refine gp ?_ ?_<;>intro hx_ this)|fail)
       exact ⟨(⟨k+1,hlt,A,cc,n,by rw [hno];exact hn',xs,by rw [hno];exact hxs⟩:CanI M (firstB (W.at L))),(by show M.length-(k+1)<M.length-k;omega),aj ⟨rfl,rfl,rfl,rfl,rfl,rfl,rfl,trivial⟩ (List.Sublist.cons _ (al _)) fun _ h=>h⟩
      | true =>
       rw [hve] at hv
       have hyes:(M.take (k+1)).filter (firstB (W.at L))=(M.take k).filter (firstB (W.at L))++[a]:=by rw [htk,hfb,hid,hve,ZA h0];rfl
       repeat' (first|refine cS (size:=20) (vs:=[a.v]) (css:=a.cells) (hsz:=by rfl) (hcs:=by rfl) fun _=>?_|refine aE (hab:=h0) ?_|refine ai (dR _ rfl rfl hid) rfl am rfl ?_|(refine ab (hc:=gB a.n hnn) (hX:=fun w h=>h.1.2) ?_)|(refine ab (hc:=hv) (hX:=fun w h=>⟨h.2.2 a hamL,h.1.2⟩) ?_)|refine gs ?_|refine gs1 fun _=>?_|(refine aH (q:=k*20) ?_)|(refine bP (cs:=a.cells) (hF:=fun w h=>Acts.get (hro w h) ha) ?_)|(refine gp ?_ ?_<;>intro hx_ this)|fail)
       refine aF (size:=20) (news:=a.cells) (q:=1) rfl rfl rfl rfl (fun _=>At.there _ (At.there _ (At.here _))) (fun w G=>bJ G ar rfl rfl 1) aa (by simp only [maxLen];omega) rfl ?_ rfl ?_
       · (first|with_reducible rfl|with_reducible assumption|with_reducible exact ZI|with_reducible exact ZK)
       intro A2 c2
       repeat' (first|refine gs ?_|refine gs1 fun _=>?_|(refine gp ?_ ?_<;>intro hx_ this)|fail)
       exact ⟨(⟨k+1,hlt,A2,c2,n+1,by rw [hyes,ZX,←hn'];rfl,xs++a.cells,by rw [hyes,hxs];simp⟩:CanI M (firstB (W.at L))),(by show M.length-(k+1)<M.length-k;omega),aj ⟨rfl,rfl,rfl,rfl,rfl,rfl,rfl,trivial⟩ (List.Sublist.cons _ (List.Sublist.cons _ (al _))) fun _ h=>h⟩
   · have hno:(M.take (k+1)).filter (firstB (W.at L))=(M.take k).filter (firstB (W.at L)):=by simp [htk,hfb,h0]
     repeat' (first|refine aD (hab:=h0) ?_|(refine ab (hc:=gB a.n hnn) (hX:=fun w h=>h.1.2) ?_)|(refine ab (hc:=hv) (hX:=fun w h=>⟨h.2.2 a hamL,h.1.2⟩) ?_)|refine gs ?_|refine gs1 fun _=>?_|(refine aH (q:=k*20) ?_)|(refine bP (cs:=a.cells) (hF:=fun w h=>Acts.get (hro w h) ha) ?_)|(refine gp ?_ ?_<;>intro hx_ this)|fail)
     exact ⟨(⟨k+1,hlt,A,cc,n,by rw [hno];exact hn',xs,by rw [hno];exact hxs⟩:CanI M (firstB (W.at L))),(by show M.length-(k+1)<M.length-k;omega),aj ⟨rfl,rfl,rfl,rfl,rfl,rfl,rfl,trivial⟩ (List.Sublist.cons _ (al _)) fun _ h=>h⟩
 have hkE:k=M.length:=by omega
 have hfin:firstL (W.at L)=(M.take k).filter (firstB (W.at L)):=by rw [hfl,hkE,List.take_length]
 have hnc:n=(firstL (W.at L)).length:=by rw [hfin];exact hn'
 · have hn1:n≠1:=by
    intro e
    rw [e] at hx_
    exact absurd hx_ (by decide)
   have hone:oneA (firstL (W.at L))=none:=oj aa
   have hdc:decide ((1:Int)<(n:Int))=decide (1<(firstL (W.at L)).length):=by
    rw [←hnc]
    by_cases h1:1<n
    · rw [ZA h1,ZA (by omega)]
    · rw [Zn h1,Zn (by omega)]
   repeat' (first|refine gs ?_|refine gs1 fun _=>?_|(refine aw (vs:=[.string W.id,.slice none 0 0,.slice none 0 0,.string ⟨#[]⟩,.int .i64 0,.bool (decide ((1:Int)<(n:Int)))]) (hv:=rfl) ?_)|(refine gp ?_ ?_<;>intro hx_ this)|fail)
   exact ad (cG rfl rfl aP (by rfl)) ⟨L,⟨none,0,0⟩,⟨none,0,0⟩,⟨[],[],⟨#[]⟩,0⟩,decide ((1:Int)<(n:Int)),hPL,(by rw [OfRes,hone];exact ⟨rfl,hdc⟩),rfl,fun w h=>⟨⟨aV w 20,fun a h=>by cases h⟩,aV w 3⟩⟩
 have hkE:k=M.length:=by omega
 have hfin:firstL (W.at L)=(M.take k).filter (firstB (W.at L)):=by rw [hfl,hkE,List.take_length]
 have hnc:n=(firstL (W.at L)).length:=by rw [hfin];exact hn'
 have hn1:n=1:=by
  by_cases e:n=1
  · exact e
  · exact absurd hx_ (by simp;omega)
 obtain ⟨a,ha⟩:∃ a,firstL (W.at L)=[a]:=List.length_eq_one_iff.1 aa
 have ham:a∈firstL (W.at L):=by rw [ha];exact List.mem_singleton.2 rfl
 have hamL:a∈L:=hMm a (by rw [hfl] at ham;exact (List.mem_filter.1 ham).1)
 have hxa:xs=a.cells:=by rw [hxs,←hfin,ha];simp
 subst hxa
 subst hn1
 refine cI (r:=orow 50 20 (.slice A 1 cc) 1 a.cells) aP (p:=A.isSome=true) (fun w h=>ck h (by decide)) fun hAp=>?_
 have hcr:orow 50 20 (.slice A 1 cc) 1 a.cells∈[orow 50 20 (.slice A 1 cc) 1 a.cells]:=.head _
 (refine aq ⟨[0,1,2,3,4,5,6,7,8,9],[(10,⟨[11,12,13],[(14,⟨[],[]⟩)]⟩)]⟩ [orow 50 20 (.slice A 1 cc) 1 a.cells] (fun w=>(Y w∧Glob w)∧(NextD q1 G' L w∧∀ a∈L,a.at_ w)) (h:=?_))
 all_goals repeat' (first|refine gdz ?_|refine ax (hy:=by first|(apply aB (q:=0);rfl;rfl;omega;omega;assumption;rfl)|(apply gG;rfl;assumption;rfl)|(apply gb (size:=20) (i:=0) (j:=16) (xs:=[a.cells]) (cs:=a.cells) (u:=.int .i64 a.n);rfl;exact .head _;rfl;exact (fun r hr=>by rw [List.mem_singleton.1 hr];rfl);rfl;rfl)|(apply gb (size:=20) (i:=0) (j:=17) (xs:=[a.cells]) (cs:=a.cells) (u:=.int .i64 a.m);rfl;exact .head _;rfl;exact (fun r hr=>by rw [List.mem_singleton.1 hr];rfl);rfl;rfl)|(apply eQ (cs:=KeyD.cells ⟨0,a.n,a.m⟩);rfl;rfl)) ?_|refine az ?_ (h':=?_)|exact aA|refine cS (size:=3) (vs:=[KeyD.v ⟨0,a.n,a.m⟩]) (css:=KeyD.cells ⟨0,a.n,a.m⟩) (hsz:=by rfl) (hcs:=by rfl) fun bk=>?_|refine gs1 fun _=>?_|(refine gq ?_ ?_<;>intro hx_ this)|fail)
 refine Bq 3 1 rfl (by decide) ?_
 refine cL 50 20 ?_
 refine m6 permK ?_
 have hadd:=BL b (bldH0 ks ki W.id q1 q2) ⟨none,0,0⟩ ⟨some ⟨bk,0,none⟩,1,1⟩ (⟨[],[⟨0,a.n,a.m⟩],⟨#[]⟩,0⟩:ChS) [] ⟨rfl,rfl,fun d=>rfl⟩ a (hok.rng a hamL) (hok.sm a hamL) (by simp) (by simp)
 repeat' (first|refine gs ?_|refine gs1 fun _=>?_|(refine aH (q:=0) ?_)|(refine ai (gF (size:=20) (m:=1) (i:=0) (xs:=[a.cells]) (cs:=a.cells) rfl (.tail _ (.tail _ (.tail _ (.tail _ (.head _))))) rfl (fun r hr=>by rw [List.mem_singleton.1 hr];rfl) rfl) rfl rfl rfl ?_)|(refine gp ?_ ?_<;>intro hx_ this)|fail)
 refine bY (pre:=bldR b (bldH0 ks ki W.id q1 q2) ⟨none,0,0⟩ ⟨some ⟨bk,0,none⟩,1,1⟩ (⟨[],[⟨0,a.n,a.m⟩],⟨#[]⟩,0⟩:ChS) []) (fr:=[orow 50 20 (.slice A 1 cc) 1 a.cells,cel b4 36 (chZ ⟨#[]⟩)]) (first:=#[]) (caps:=#[]) (hc:=hadd) (hX:=fun w h=>⟨h.2.2 a hamL,h.1.2⟩) (h:=?_)
 rintro v R X' ⟨rfl,sa,sk,pl,ok,rfl⟩
 refine cu (X':=fun w=>(Y w∧Glob w)∧(NextD q1 G' L w∧∀ a∈L,a.at_ w)) (fun w h=>h.1) ?_
 repeat' (first|refine gs ?_|refine gs1 fun _=>?_|fail)
 have hlook:=vl b (bldH0 ks ki W.id q1 q2) sa sk (begS a) (W.won 0) (fun w=>Y w∧Glob w) (H.won 0 (Nat.zero_le _))
 refine bY (pre:=[bldCel b (bldH0 ks ki W.id q1 q2) sa sk (begS a)]) (fr:=[actR sa (begS a).acts,keyR sk (begS a).keys,mapr q2 pl,orow 50 20 (.slice A 1 cc) 1 a.cells,cel b4 36 (chZ ⟨#[]⟩)]) (first:=#[]) (caps:=#[]) (hc:=hlook) (hX:=fun w h=>h.1) (h:=?_)
 rintro v R X' ⟨rfl,rfl⟩
 repeat' (first|refine gs ?_|refine gs1 fun _=>?_|(refine gp ?_ ?_<;>intro hx_ this)|fail)
 have hbI:=pZ ham
 refine ap (ι:=RunI (W.at L) a) (fun i=>⟨[(4,.pointer (some ⟨b4,0,none⟩)),(5,.pointer (some ⟨b,0,none⟩))],bldR b ((bldH0 ks ki W.id q1 q2).look (W.won i.st.gen)) i.sa i.sk i.st i.pl++[cel b4 36 (chZ ⟨#[]⟩)],fun w=>(Y w∧Glob w)∧(NextD q1 G' L w∧∀ a∈L,a.at_ w)⟩) (fun i=>muS (W.at L) i.st) ⟨begS a,sa,sk,pl,ok,hbI.1,L.length+W.B,Nat.le_of_succ_le hbI.2,rfl⟩ (aj ⟨rfl,rfl,trivial⟩ (.cons_cons _ (.cons_cons _ (.cons_cons _ (.cons_cons _ (.cons _ (al _)))))) fun w h=>h.1) fun i=>?_
 clear ok hlook hadd
 obtain ⟨st,sa2,sk2,pl2,ok2,inv,j,hj,hr⟩:=i
 simp only
 have hlen:=inv.len
 have hlen':st.acts.length≤L.length:=hlen
 have hkn:=inv.keyn
 have hgn:st.gen≤W.B:=inv.gen
 have hbB:=H.bB
 have hreg:=rc H L b q1 q2 sa2 sk2 st pl2 ok2 aa aa
 repeat' (first|refine gs ?_|refine gs1 fun _=>?_|fail)
 refine bY (pre:=bldR b ((bldH0 ks ki W.id q1 q2).look (W.won st.gen)) sa2 sk2 st pl2) (fr:=[cel b4 36 (chZ ⟨#[]⟩)]) (first:=#[]) (caps:=#[]) (hc:=hreg) (hX:=fun w h=>h.1) (h:=?_)
 rintro v R X' ⟨h1,h2⟩
 refine cu (X':=fun w=>(Y w∧Glob w)∧(NextD q1 G' L w∧∀ a∈L,a.at_ w)) (fun w h=>h.1) ?_
 cases hrg:regS (W.at L) st with
 | some s1 =>
  obtain ⟨rfl,sa3,sk3,pl3,ok3,rfl⟩:=h1 s1 hrg
  have hstep:stepS (W.at L) st=some s1:=by rw [stepS,hrg]
  obtain ⟨n1,n2,n3,n4⟩:=RunI.next (W:=W.at L) H.bnd inv hj hr hstep
  repeat' (first|refine gs ?_|refine gs1 fun _=>?_|(refine gp ?_ ?_<;>intro hx_ this)|fail)
  exact ⟨(⟨s1,sa3,sk3,pl3,ok3,n1,j-1,n3,n4⟩:RunI (W.at L) a),n2,aj ⟨rfl,rfl,trivial⟩ (al _) fun w h=>h⟩
 | none =>
  obtain ⟨rfl,sa3,sk3,pl3,ok3,rfl⟩:=h2 hrg
  have hct:=pR b ((bldH0 ks ki W.id q1 q2).look (W.won st.gen)) sa3 sk3 st pl3 ok3 (W.at L) G' inv rfl hok hL H.bB (H.ver L hPL)
  repeat' (first|refine gs ?_|refine gs1 fun _=>?_|fail)
  refine bY (pre:=bldR b ((bldH0 ks ki W.id q1 q2).look (W.won st.gen)) sa3 sk3 st pl3) (fr:=[cel b4 36 (chZ ⟨#[]⟩)]) (first:=#[]) (caps:=#[]) (hc:=hct) (hX:=fun w h=>⟨h.2,h.1.2⟩) (h:=?_)
  rintro v R X' ⟨g1,g2⟩
  refine cu (X':=fun w=>(Y w∧Glob w)∧(NextD q1 G' L w∧∀ a∈L,a.at_ w)) (fun w h=>h.1) ?_
  cases ho2:oneA (candL (W.at L) st) with
  | some a2 =>
   obtain ⟨rfl,sa4,sk4,pl4,ok4,rfl⟩:=g1 a2 ho2
   have hstep:stepS (W.at L) st=some (addS st a2):=by rw [stepS,hrg,ho2];rfl
   obtain ⟨n1,n2,n3,n4⟩:=RunI.next (W:=W.at L) H.bnd inv hj hr hstep
   repeat' (first|refine gs ?_|refine gs1 fun _=>?_|(refine gp ?_ ?_<;>intro hx_ this)|fail)
   exact ⟨(⟨addS st a2,sa4,sk4,pl4,ok4,n1,j-1,n3,n4⟩:RunI (W.at L) a),n2,aj ⟨rfl,rfl,trivial⟩ (al _) fun w h=>h⟩
  | none =>
   obtain ⟨rfl,sa4,sk4,pl4,ok4,rfl⟩:=g2 ho2
   have hstep:stepS (W.at L) st=none:=by rw [stepS,hrg,ho2];rfl
   rw [fw hstep] at hr
   repeat' (first|refine gs ?_|refine gs1 fun _=>?_|(refine aw (vs:=[.string W.id,.slice sa4.p sa4.n sa4.c,.slice sk4.p sk4.n sk4.c,.string st.prev,.int .i64 (st.gen:Nat),.bool (decide (1<(candL (W.at L) st).length))]) (hv:=rfl) ?_)|(refine gp ?_ ?_<;>intro hx_ this)|fail)
   refine ad (cG rfl rfl aP (by rfl)) ⟨L,sa4,sk4,st,decide (1<(candL (W.at L) st).length),hPL,?_,rfl,fun w h=>⟨?_,?_⟩⟩
   · rw [OfRes,show oneA (firstL (W.at L))=some a from by rw [ha];rfl]
     exact ⟨hr,by rw [←hr]⟩
   · exact fj (h.2 (actR sa4 st.acts) (.tail _ (.head _))) ok4.hn fun x hx=>h.1.2.2 x (inv.mem x hx)
   · exact bt (h.2 (keyR sk4 st.keys) (.tail _ (.tail _ (.head _)))) (by rw [Z3];exact ok4.hk) (ov _)
structure KnR (L:List Int) (I:List ItemD):Prop where
 sv:L.length≤20
 len:I.length≤100
 rng:∀ i∈I,i.act.Rng
 sm:∀ i∈I,i.act.Sm
 dn:∀ i∈I,i.dec.to.n=i.dec.toL.length
 right:∀ i∈I,rightIt i=true
 asc:Asc (I.map digIt)
theorem vD {P:Program} {f:FuncId} {args:Array Value} {pre:List Res} {X X':World→Prop} {Post:Value→List Res→(World→Prop)→Prop} (h:Ct P f args pre X Post) (hx:∀ w,X' w→X w):Ct P f args pre X' Post :=
 Ct.mk fun w av G=>h.run w av (G.imp hx)
theorem pw {P:Program} {f:FuncId} {args:Array Value} {X X':World→Prop} {v:Value} (h:Pu P f args X v) (hx:∀ w,X' w→X w):Pu P f args X' v:=by
 unfold Pu at *
 exact vD h hx
theorem Dc {P:Program} {f:FuncId} {args:Array Value} {X X':World→Prop} {Φ:Value→(World→Prop)→Prop} (h:Mk P f args X Φ) (hx:∀ w,X' w→X w):Mk P f args X' Φ:=by
 unfold Mk at *
 exact vD h hx
theorem ya:ActD.zero.Rng:=⟨by decide,fun w hw=>(List.not_mem_nil hw).elim,rfl,rfl⟩
theorem vE {x y:ByteArray} (h:ltB x y=true):¬ SrG.cmp2 0 0 y x<0:=by
 have h1:ltB y x=false:=by
  cases hh:ltB y x with
  | false=>rfl
  | true =>
   have:=fq h hh
   rw [cX] at this
   cases this
 have h2:Op.bytesLess y.toList x.toList=false:=h1
 rw [SrG.cmp2,SrG.cmpI_self]
 show ¬ SrG.cmpB_g y x<0
 rw [SrG.cmpB_g,h2]
 cases seqB y x<;>decide
theorem lc {l:List ByteArray} (h:Asc l) {i j:Nat} {x y:ByteArray} (hij:i<j) (hi:l[i]?=some x) (hj:l[j]?=some y):ltB x y=true:=by
 obtain ⟨h1,rfl⟩:=List.getElem?_eq_some_iff.1 hi
 obtain ⟨h2,rfl⟩:=List.getElem?_eq_some_iff.1 hj
 exact List.pairwise_iff_getElem.1 h i j h1 h2 hij
theorem la {l m:List ByteArray} (h:Asc l) (hs:m.Sublist l):Asc m:=List.Pairwise.sublist hs h
theorem srtC {L:List Int} {I:List ItemD} (h:KnR L I) (au:ByteArray):SrC.Srt (selFC au rightIt digIt I):=by
 have ha:Asc ((selFC au rightIt digIt I).map FndC.dg):=by
  rw [selFC,Qu]
  exact la h.asc (List.filter_sublist.map digIt)
 have hr:∀ x∈selFC au rightIt digIt I,x.rank=0:=fun x hx=>by
  rw [selFC] at hx
  obtain ⟨i,_,rfl⟩:=List.mem_map.1 hx
  rfl
 intro i j x y hij hi hj
 rw [SrC.cmpX,hr x (List.mem_of_getElem? hi),hr y (List.mem_of_getElem? hj)]
 exact vE (lc ha hij (by rw [List.getElem?_map,hi];rfl) (by rw [List.getElem?_map,hj];rfl))
theorem srtB {L:List Int} {I:List ItemD} (h:KnR L I) (au:ByteArray) (gn:Int):SrB.Srt (selFB au gn rightIt digIt I):=by
 have ha:Asc ((selFB au gn rightIt digIt I).map FndB.dg):=by
  rw [selFB,Qu]
  exact la h.asc (List.filter_sublist.map digIt)
 have hr:∀ x∈selFB au gn rightIt digIt I,x.rank=0:=fun x hx=>by
  rw [selFB] at hx
  obtain ⟨i,_,rfl⟩:=List.mem_map.1 hx
  rfl
 intro i j x y hij hi hj
 rw [SrB.cmpX,hr x (List.mem_of_getElem? hi),hr y (List.mem_of_getElem? hj)]
 exact vE (lc ha hij (by rw [List.getElem?_map,hi];rfl) (by rw [List.getElem?_map,hj];rfl))
def claimsV (I:List ItemD) (au:ByteArray):List ClaimD:=selC au rightIt I
def dgCl (c:ClaimD):ByteArray:=digIt (ofClaimI c)
def wonK (sv:Nat) (I:List ItemD) (au:ByteArray) (gn:Int):Option ClaimD:=wonO sv (claimsV I au) dgCl (selB2 au gn rightIt I) gn
theorem fL {sv:Nat} {I:List ItemD} {au:ByteArray} {gn:Int} {c:ClaimD} (h:wonK sv I au gn=some c):c∈claimsV I au∧c.gen=gn:=by
 have h1:=List.find?_some h
 rw [wonB,ZM,ZT] at h1
 exact ⟨List.mem_of_find?_eq_some h,h1.1⟩
theorem pT {I:List ItemD} {au:ByteArray} {c:ClaimD} (h:c∈claimsV I au):claimR c=true:=by
 rw [claimsV,selC] at h
 obtain ⟨i,hi,rfl⟩:=List.mem_map.1 h
 have h1:=(List.mem_filter.1 hi).2
 rw [selBC,ZM,wantC,ZM,ZT] at h1
 rcases de h1.2 with h2|h2|h2|h2
 · rw [h1.1.1] at h2;exact absurd h2.1 (by decide)
 · exact h2.2
 · rw [h1.1.1] at h2;exact absurd h2.1 (by decide)
 · rw [h1.1.1] at h2;exact absurd h2.1 (by decide)
def lnone (f:Nat→Option ClaimD):Nat→Nat→Nat
 | 0,g=>g
 | n+1,g=>match f g with
  | none=>g
  | some _=>lnone f n (g+1)
theorem mH (f:Nat→Option ClaimD):∀ n g i,g≤i→i<lnone f n g→(f i).isSome=true
 | 0,g,i,h1,h2=>by rw [lnone] at h2;omega
 | n+1,g,i,h1,h2=>by
  rw [lnone] at h2
  cases hf:f g with
  | none=>rw [hf] at h2;simp only at h2;omega
  | some c =>
   rw [hf] at h2
   simp only at h2
   rcases Nat.lt_or_eq_of_le h1 with h3|rfl
   · exact mH f n (g+1) i h3 h2
   · rw [hf];rfl
theorem mG (f:Nat→Option ClaimD):∀ n g,lnone f n g<g+n→f (lnone f n g)=none
 | 0,g,h=>by rw [lnone] at h;omega
 | n+1,g,h=>by
  rw [lnone] at h ⊢
  cases hf:f g with
  | none=>exact hf
  | some c =>
   rw [hf] at h
   simp only at h ⊢
   exact mG f n (g+1) aa
def genB (sv:Nat) (I:List ItemD) (au:ByteArray):Nat:=lnone (fun g=>wonK sv I au (g:Nat)) ((claimsV I au).length+1) 0
theorem pL (sv:Nat) (I:List ItemD) (au:ByteArray):genB sv I au≤(claimsV I au).length:=by
 have h:=jU (n:=genB sv I au) (l:=(claimsV I au).map ClaimD.gen) fun i hi=>by
  have h1:=mH (fun g=>wonK sv I au (g:Nat)) _ 0 i (Nat.zero_le _) hi
  cases hw:wonK sv I au (i:Nat) with
  | none=>rw [hw] at h1;cases h1
  | some c =>
   obtain ⟨h2,h3⟩:=fL hw
   exact List.mem_map.2 ⟨c,h2,h3⟩
 simpa using h
theorem xz (sv:Nat) (I:List ItemD) (au:ByteArray):wonK sv I au (genB sv I au:Nat)=none :=
 mG (fun g=>wonK sv I au (g:Nat)) ((claimsV I au).length+1) 0 (by have:=pL sv I au;rw [genB] at this;omega)
def OfWK (sv:Nat) (I:List ItemD) (au:ByteArray):OfW:=⟨[],au,fun g=>bif decide (g<genB sv I au) then wonK sv I au (g:Nat) else none,sgnC,dgCl,verV,genB sv I au⟩
theorem EC {sv:Nat} {I:List ItemD} {au:ByteArray} {g:Nat} (hg:g≤genB sv I au):(OfWK sv I au).won g=wonK sv I au (g:Nat):=by
 show (bif decide (g<genB sv I au) then _ else _)=_
 rcases Nat.lt_or_eq_of_le hg with h|rfl
 · rw [ZA h,ZC]
 · rw [Zn (Qs _),ZB,xz]
theorem eR {sv:Nat} {I:List ItemD} {au:ByteArray} {g:Nat} {c:ClaimD} (h:(OfWK sv I au).won g=some c):g<genB sv I au∧wonK sv I au (g:Nat)=some c:=by
 change (bif decide (g<genB sv I au) then wonK sv I au (g:Nat) else none)=some c at h
 cases hd:decide (g<genB sv I au) with
 | true=>rw [hd] at h;exact ⟨aM hd,h⟩
 | false=>rw [hd] at h;cases h
theorem AD (hso:∀ n,n≤1000000→SortA n) (ks ki:SlV) {L:List Int} {I:List ItemD} (h:KnR L I) (au:ByteArray) :
  OfHyp ks ki (OfWK L.length I au) (fun A=>A.Perm (selA au rightIt I)) (fun w=>Ints w ks L∧Items w ki I):=by
 have hR:∀ it∈I,Pu Tryz.prog 63 #[it.v] (fun w=>it.at_ w) (.bool (rightIt it)):=fun it hi=>dF it
 have hD:∀ it∈I,Pu Tryz.prog 14 #[it.v] (fun w=>it.at_ w∧Glob w) (.string (digIt it)):=fun it hi=>du it (h.rng it hi) (h.dn it hi)
 have hI:I.length≤1000:=Qr h.len (by decide)
 have hcl:(claimsV I au).length≤I.length:=by rw [claimsV,selC,Z3];exact List.length_filter_le _ _
 have hgl:=pL L.length I au
 have hlen:=h.len
 have hdc:∀ c∈claimsV I au,Pu Tryz.prog 14 #[(ofClaimI c).v] Glob (.string (dgCl c)):=fun c hc =>
  pw (du (ofClaimI c) ya rfl) fun w hw=>⟨⟨⟨aV w 1,aV w 5⟩,aV w 1⟩,hw⟩
 have hmem:∀ A:List ActD,A.Perm (selA au rightIt I)→∀ a∈A,∃ i∈I,i.act=a:=fun A hA a ha=>by
  have h1:=hA.subset ha
  rw [selA] at h1
  obtain ⟨i,hi,e⟩:=List.mem_map.1 h1
  exact ⟨i,(List.mem_filter.1 hi).1,e⟩
 exact {
  acts:=Dc (pG ks ki I au rightIt digIt hR hD hI (hso _ aa)) fun w hw=>⟨hw.1.2,hw.2⟩
  ok:=fun A hA=>⟨⟨fun a ha=>by obtain ⟨i,hi,rfl⟩:=hmem A hA a ha;exact h.rng i hi,fun a ha=>by obtain ⟨i,hi,rfl⟩:=hmem A hA a ha;exact h.sm i hi⟩,by
   rw [hA.length_eq,selA,Z3]
   have:=List.length_filter_le (selB au rightIt) I
   omega⟩
  bB:=by show genB L.length I au≤_;omega
  won:=fun g hg=>by
   rw [EC hg]
   exact EB ks ki L I au (g:Nat) (claimsV I au) (selB2 au (g:Nat) rightIt I) dgCl (by rw [selB2,Z3];have:=List.length_filter_le (selBB au (g:Nat) rightIt) I;omega) (by have:=h.sv;omega)
    (kR ks ki I au rightIt digIt hR hD hI (srtC h au)) (jZ ks ki I au (g:Nat) rightIt digIt hR hD hI (srtB h au _)) hdc
  bnd:=fun g c hw=>(eR hw).1
  clm:=fun g c hw p=>pw (tY p c (pT (fL (eR hw).2).1)) fun w hw=>hw.2
  dg:=fun g c hw=>pw (hdc c (fL (eR hw).2).1) fun w hw=>hw.2
  ver:=fun A hA a ha p=>by
   obtain ⟨i,hi,rfl⟩:=hmem A hA a ha
   exact qg p i.act (h.rng i hi) }
theorem E3 (hso:∀ n,n≤1000000→SortA n) (ks ki:SlV) {L:List Int} {I:List ItemD} (h:KnR L I) (au:ByteArray) :
  Mk Tryz.prog 28 #[.agg #[ks.v,ki.v],.string au] (fun w=>(Ints w ks L∧Items w ki I)∧Glob w) (OfAt19 (OfWK L.length I au) fun A=>A.Perm (selA au rightIt I)) :=
 C2 ks ki (OfWK L.length I au) _ _ (AD hso ks ki h au)
end Go.Proofs.YtoefdofbekihdaaGreatDoor
