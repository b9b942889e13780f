/- Joined. -/
import Derived.Test.YtggionfjlgfihaaGreatDoorI0
import Derived.Test.YtggionfjlgfihaaGreatDoorI1
import Derived.Test.YtggionfjlgfihaaGreatDoorI40
import Derived.Test.YtggionfjlgfihaaGreatDoorI23
import Derived.Test.YtggionfjlgfihaaGreatDoorI7
import Derived.Test.YtggionfjlgfihaaGreatDoorI32
import Derived.Test.YtggionfjlgfihaaGreatDoorI13
import Derived.Test.YtggionfjlgfihaaGreatDoorI14
set_option linter.unusedVariables false
set_option linter.unusedSimpArgs false
set_option maxHeartbeats 16000000
namespace Go.Proofs.YtggionfjlgfihaaGreatDoor
open Go Go.Proofs Sy
theorem vz {N:Nat} {av bor:List Nat} {w0:World} {st:St} {ty t2:TypeId} {x y:Operand} {a b:Xu} {q:Bool} (hq:wrapEq a b=q) (hx:ev st.env x=some (.agg a.cells.toArray)) (hy:ev st.env y=some (.agg b.cells.toArray)) :
  Sy.Yields Tryz.prog N av bor w0 st (.binOp .neq 110 x y t2) ty (.bool (!q)):=by
 have h:=m8 (N:=N) (av:=av) (bor:=bor) (w0:=w0) (ty:=ty) (t2:=t2) hx hy
 rw [hq] at h
 exact h
def wpZ:Xu:=⟨0,0,Xx.zero⟩
def eqWBad (l m:List Xu) (k:Nat):Bool:=!wrapEq (l.getD k wpZ) (m.getD k wpZ)
def eqWL (l m:List Xu):Bool:=decide (l.length=m.length)&&allB l.length (eqWBad l m)
theorem rx (s r:Xj) (l m:List Xu):Pu Tryz.prog 68 #[s.v,r.v] (fun w=>Wraps w s l∧Wraps w r m) (.bool (eqWL l m)):=by
 refine ar Tryz.func68 Tryz.ntmps68 fun av bor w0=>?_
 refine aH (p:=(s.n=l.length∧s.n≤maxLen∧(0<l.length→s.p.isSome=true))∧(r.n=m.length∧r.n≤maxLen∧(0<m.length→r.p.isSome=true))) (fun w h=>⟨⟨h.1.len_,Nat.le_trans (Xe.cap h.1) (Xe.max h.1),h.1.some_⟩,⟨h.2.len_,Nat.le_trans (Xe.cap h.2) (Xe.max h.2),h.2.some_⟩⟩) fun ⟨⟨hl,hm,hp⟩,⟨hl',hm',hp'⟩⟩=>?_
 simp only [maxLen] at hm hm'
 by_cases hlm:l.length=m.length
 · repeat' (first|refine dP ?_|refine gs ?_|(refine gp ?_ ?_<;>intro hx_ this)|fail)
   refine am (ι:=Ed l.length (eqWBad l m)) (fun i=>⟨[(0,s.v),(1,r.v),(12,.int .i64 s.n),(13,.int .i64 i.k)],[],fun w=>Wraps w s l∧Wraps w r m⟩) (fun i=>l.length-i.k) (Ed.zero _ _) (ae (by repeat (first|exact trivial|refine ⟨rfl,?_⟩)) (aj _) fun _ h=>h) fun i=>?_
   have hik:=i.hk
   by_cases hlt:i.k<l.length
   · have hp1:=hp aa
     have hp2:=hp' aa
     obtain ⟨x,hx⟩:∃ x,l[i.k]?=some x:=⟨_,List.getElem?_eq_getElem hlt⟩
     obtain ⟨y,hy⟩:∃ y,m[i.k]?=some y:=⟨_,List.getElem?_eq_getElem aa⟩
     have hbad:eqWBad l m i.k=!wrapEq x y:=by
      rw [eqWBad,List.getD_eq_getElem?_getD,List.getD_eq_getElem?_getD,hx,hy]
      rfl
     cases hq:wrapEq x y
     all_goals
      rw [hq] at hbad
      repeat' (first|refine aO ?_ (bj true rfl rfl (decide_eq_true aa))|refine gs ?_|(refine gp ?_ ?_<;>intro hx_ this)|fail)
      (refine bE ⟨[0,1,2,3,4,5,6,7,8],[]⟩ (h:=?_))
      all_goals repeat' (first|refine gd ?_|refine ax (hy:=by first|(apply aG (q:=i.k*5);rfl;rfl;omega;omega;assumption;omega)|(apply dN (cs:=x.cells);rfl;exact fun w h=>Wraps.get h.1 hx)|(apply dN (cs:=y.cells);rfl;exact fun w h=>Wraps.get h.2 hy)|(apply vz (a:=x) (b:=y) hq;rfl;rfl)) ?_|refine ay ?_ (h':=?_)|exact az|(refine gq ?_ ?_<;>intro hx_ this)|fail)
      all_goals
       repeat' (first|refine gs ?_|(refine gp ?_ ?_<;>intro hx_ this)|fail)
       first
        | (refine ab (ai rfl rfl) ?_;rw [eqWL,eS hlt hbad,Bool.and_false];done)
        | exact ⟨i.next hlt hbad,(by show l.length-(i.k+1)<l.length-i.k;omega),ae (by repeat (first|exact trivial|refine ⟨rfl,?_⟩)) (aj _) fun _ h=>h⟩
   · repeat' (first|refine aO ?_ (bj false rfl rfl (decide_eq_false aa))|refine gs ?_|(refine gp ?_ ?_<;>intro hx_ this)|fail)
     refine ab (ai rfl rfl) ?_
     rw [eqWL,i.all aa,decide_eq_true hlm]
     rfl
 · rw [eqWL,decide_eq_false hlm]
   repeat' (first|refine aO ?_ (dd true rfl rfl (by rw [decide_eq_false (by omega)];rfl))|refine gs ?_|(refine gp ?_ ?_<;>intro hx_ this)|fail)
   all_goals exact ab (ai rfl rfl) rfl
def actEq (a b:Xa):Bool:=seqB a.author b.author&&(decide (a.seq=b.seq)&&(seqB a.prev b.prev&&(decide (a.kind=b.kind)&&(decide (a.time=b.time)&&(seqB a.object b.object&&(seqB a.target b.target&&(decide (a.scope=b.scope)&&(seqB a.group b.group&&(eqL a.toL b.toL&&(seqB a.text b.text&&(boxEq a.body b.body&&(decide (a.epoch=b.epoch)&&(eqWL a.wrapsL b.wrapsL&&(decide (a.n=b.n)&&(decide (a.m=b.m)&&(decide (a.e=b.e)&&(decide (a.s=b.s)&&true)))))))))))))))))
set_option maxRecDepth 20000 in
theorem ym (a b:Xa):Pu Tryz.prog 28 #[a.v,b.v] (fun w=>a.at_ w∧b.at_ w) (.bool (actEq a b)):=by
 refine ar Tryz.func28 Tryz.ntmps28 fun av bor w0=>?_
 have hes:=gV a.to b.to a.toL b.toL
 have hew:=rx a.wraps b.wraps a.wrapsL b.wrapsL
 repeat' (first|(refine ag (hc:=hes) (hX:=fun w h=>⟨h.1.1,h.2.1⟩) ?_)|(refine ag (hc:=hew) (hX:=fun w h=>⟨h.1.2,h.2.2⟩) ?_)|refine gs ?_|refine gs1 fun _=>?_|(refine iv (a:=a.body) (b:=b.body) ?_)|(refine gL (a:=a.e) (b:=a.s) (c:=b.e) (e:=b.s) ?_)|(refine aB ?_)|(refine aB (vs:=[.int .i64 a.e,.int .i64 a.s]) (hv:=rfl) ?_)|(refine aB (vs:=[.int .i64 b.e,.int .i64 b.s]) (hv:=rfl) ?_)|(refine gp ?_ ?_<;>intro hx_ this)|fail)
 all_goals refine ab (ai rfl rfl) ?_
 all_goals rw [actEq]
 all_goals simp_all
def decEqv (a b:Xr):Bool:=decide (a.server=b.server)&&(decide (a.number=b.number)&&(decide (a.kind=b.kind)&&(seqB a.actor b.actor&&(seqB a.object b.object&&(seqB a.text b.text&&(eqL a.toL b.toL&&(decide (a.n=b.n)&&(decide (a.from_=b.from_)&&(decide (a.until_=b.until_)&&(decide (a.e=b.e)&&(decide (a.s=b.s)&&true)))))))))))
set_option maxRecDepth 20000 in
theorem u7 (a b:Xr):Pu Tryz.prog 29 #[a.v,b.v] (fun w=>a.at_ w∧b.at_ w) (.bool (decEqv a b)):=by
 refine ar Tryz.func29 Tryz.ntmps29 fun av bor w0=>?_
 have hes:=gV a.to b.to a.toL b.toL
 repeat' (first|(refine ag (hc:=hes) (hX:=fun w h=>⟨h.1,h.2⟩) ?_)|refine gs ?_|refine gs1 fun _=>?_|(refine gL (a:=a.e) (b:=a.s) (c:=b.e) (e:=b.s) ?_)|(refine aB (vs:=[.int .i64 a.e,.int .i64 a.s]) (hv:=rfl) ?_)|(refine aB (vs:=[.int .i64 b.e,.int .i64 b.s]) (hv:=rfl) ?_)|(refine gp ?_ ?_<;>intro hx_ this)|fail)
 all_goals refine ab (ai rfl rfl) ?_
 all_goals rw [decEqv]
 all_goals simp_all
def itemEq (i j:Xb):Bool:=decide (i.kind=j.kind)&&(actEq i.act j.act&&(claimEq i.claim j.claim&&(ballotEq i.ballot j.ballot&&decEqv i.dec j.dec)))
set_option maxRecDepth 20000 in
theorem uD (i j:Xb):Pu Tryz.prog 8 #[i.v,j.v] (fun w=>i.at_ w∧j.at_ w) (.bool (itemEq i j)):=by
 refine ar Tryz.func8 Tryz.ntmps8 fun av bor w0=>?_
 have ha:=ym i.act j.act
 have hd:=u7 i.dec j.dec
 repeat' (first|(refine ag (hc:=ha) (hX:=fun w h=>⟨h.1.1,h.2.1⟩) ?_)|(refine ag (hc:=hd) (hX:=fun w h=>⟨h.1.2,h.2.2⟩) ?_)|refine gs ?_|refine gs1 fun _=>?_|(refine kF (a:=i.claim) (b:=j.claim) ?_)|(refine jB (a:=i.ballot) (b:=j.ballot) ?_)|(refine aB (vs:=i.act.cells) (hv:=rfl) ?_)|(refine aB (vs:=i.claim.cells) (hv:=rfl) ?_)|(refine aB (vs:=i.ballot.cells) (hv:=rfl) ?_)|(refine aB (vs:=i.dec.cells) (hv:=rfl) ?_)|(refine aB (vs:=j.act.cells) (hv:=rfl) ?_)|(refine aB (vs:=j.claim.cells) (hv:=rfl) ?_)|(refine aB (vs:=j.ballot.cells) (hv:=rfl) ?_)|(refine aB (vs:=j.dec.cells) (hv:=rfl) ?_)|(refine gp ?_ ?_<;>intro hx_ this)|fail)
 all_goals refine ab (ai rfl rfl) ?_
 all_goals rw [itemEq]
 all_goals simp_all
theorem sT {l m:List ByteArray} (h:eqL l m=true):l=m:=by
 rw [eqL,Bool.and_eq_true,decide_eq_true_eq] at h
 refine List.ext_getElem h.1 fun k h1 h2=>?_
 have h3:=h.2
 rw [allB,List.all_eq_true] at h3
 have h4:=h3 k (List.mem_range.2 h1)
 rw [eqBad,Bool.not_not,List.getD_eq_getElem?_getD,List.getD_eq_getElem?_getD,List.getElem?_eq_getElem h1,List.getElem?_eq_getElem h2] at h4
 exact seqB_iff.1 h4
theorem tw {a b:Xu} (h:wrapEq a b=true):a=b:=by
 obtain ⟨a1,a2,⟨a3,a4,a5⟩⟩:=a
 obtain ⟨b1,b2,⟨b3,b4,b5⟩⟩:=b
 simp only [wrapEq,Bool.and_eq_true,decide_eq_true_eq,Bool.and_true] at h
 obtain ⟨rfl,rfl,h3,h4,h5⟩:=h
 rw [seqB_iff.1 h3,seqB_iff.1 h4,seqB_iff.1 h5]
theorem zB {l m:List Xu} (h:eqWL l m=true):l=m:=by
 rw [eqWL,Bool.and_eq_true,decide_eq_true_eq] at h
 refine List.ext_getElem h.1 fun k h1 h2=>?_
 have h3:=h.2
 rw [allB,List.all_eq_true] at h3
 have h4:=h3 k (List.mem_range.2 h1)
 rw [eqWBad,Bool.not_not,List.getD_eq_getElem?_getD,List.getD_eq_getElem?_getD,List.getElem?_eq_getElem h1,List.getElem?_eq_getElem h2] at h4
 exact tw h4
theorem x4 {a b:Xx} (h:boxEq a b=true):a=b:=by
 obtain ⟨a3,a4,a5⟩:=a
 obtain ⟨b3,b4,b5⟩:=b
 simp only [boxEq,Bool.and_eq_true] at h
 rw [seqB_iff.1 h.1.1,seqB_iff.1 h.1.2,seqB_iff.1 h.2]
theorem vn {a b:Xa} (ha:a.Rng) (hb:b.Rng) (h:actEq a b=true):a.can=b.can:=by
 have l1:=ha.to_len
 have l2:=ha.wraps_len
 have l3:=hb.to_len
 have l4:=hb.wraps_len
 simp only [actEq,Bool.and_eq_true,decide_eq_true_eq,Bool.and_true] at h
 obtain ⟨h1,h2,h3,h4,h5,h6,h7,h8,h9,h10,h11,h12,h13,h14,h15,h16,h17,h18⟩:=h
 have k1:=seqB_iff.1 h1
 have k3:=seqB_iff.1 h3
 have k6:=seqB_iff.1 h6
 have k7:=seqB_iff.1 h7
 have k9:=seqB_iff.1 h9
 have k10:=sT h10
 have k11:=seqB_iff.1 h11
 have k12:=x4 h12
 have k14:=zB h14
 obtain ⟨a1,a2,a3,a4,a5,a6,a7,a8,a9,a10,a11,a12,a13,a14,a15,a16,a17,a18,a19,a20⟩:=a
 obtain ⟨b1,b2,b3,b4,b5,b6,b7,b8,b9,b10,b11,b12,b13,b14,b15,b16,b17,b18,b19,b20⟩:=b
 simp only at *
 subst k1 h2 k3 h4 h5 k6 k7 h8 k9 k11 k12 h13 h15 h16 h17 h18 k10 k14
 simp only [Xa.can,Xa.re,l1,l2,l3,l4]
theorem rH {a b:Xg} (h:claimEq a b=true):a=b:=by
 obtain ⟨a1,a2,a3,a4,a5,a6,a7,a8,a9⟩:=a
 obtain ⟨b1,b2,b3,b4,b5,b6,b7,b8,b9⟩:=b
 simp only [claimEq,Bool.and_eq_true,decide_eq_true_eq,Bool.and_true] at h
 obtain ⟨h1,h2,h3,h4,h5,h6,h7,h8,h9⟩:=h
 have k1:=seqB_iff.1 h1
 have k3:=seqB_iff.1 h3
 subst k1 h2 k3 h4 h5 h6 h7 h8 h9
 rfl
theorem qj {a b:Xi} (h:ballotEq a b=true):a=b:=by
 obtain ⟨a1,a2,a3,a4,a5,a6,a7⟩:=a
 obtain ⟨b1,b2,b3,b4,b5,b6,b7⟩:=b
 simp only [ballotEq,Bool.and_eq_true,decide_eq_true_eq,Bool.and_true] at h
 obtain ⟨h1,h2,h3,h4,h5,h6,h7⟩:=h
 have k2:=seqB_iff.1 h2
 have k4:=seqB_iff.1 h4
 subst h1 k2 h3 k4 h5 h6 h7
 rfl
theorem rB {a b:Xr} (h:decEqv a b=true):a.can=b.can:=by
 simp only [decEqv,Bool.and_eq_true,decide_eq_true_eq,Bool.and_true] at h
 obtain ⟨h1,h2,h3,h4,h5,h6,h7,h8,h9,h10,h11,h12⟩:=h
 have k4:=seqB_iff.1 h4
 have k5:=seqB_iff.1 h5
 have k6:=seqB_iff.1 h6
 have k7:=sT h7
 obtain ⟨a1,a2,a3,a4,a5,a6,a7,a8,a9,a10,a11,a12,a13⟩:=a
 obtain ⟨b1,b2,b3,b4,b5,b6,b7,b8,b9,b10,b11,b12,b13⟩:=b
 simp only at *
 subst h1 h2 h3 k4 k5 k6 k7 h8 h9 h10 h11 h12
 rfl
theorem rl {i j:Xb} (hi:i.act.Rng) (hj:j.act.Rng) (h:itemEq i j=true):i.can=j.can:=by
 rw [itemEq,Bool.and_eq_true,Bool.and_eq_true,Bool.and_eq_true,Bool.and_eq_true,decide_eq_true_eq] at h
 obtain ⟨h1,h2,h3,h4,h5⟩:=h
 rw [Xb.can,Xb.can,vn hi hj h2,rB h5,rH h3,qj h4,h1]
end Go.Proofs.YtggionfjlgfihaaGreatDoor
