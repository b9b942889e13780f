/- Joined. -/
import Derived.Test.YtaolfiikahlmkaaGreatDoorZ15
set_option linter.unusedVariables false
set_option linter.unusedSimpArgs false
set_option maxHeartbeats 16000000
namespace Go.Proofs.YtaolfiikahlmkaaGreatDoor
open Go Go.Proofs Sy
section
variable {c d f k:ChainD} {a b a2:ActD} {sc:Int} {g:ByteArray} {toL:List ByteArray} {y:ByteArray}
structure GrantM (c d:ChainD) (a:ActD) (sc:Int) (g:ByteArray) (toL:List ByteArray):Prop where
 more:More c d a
 kind:a.kind=16
 scope:a.scope=sc
 group:a.group=g
 toL:a.toL=membersV c (c.actsL.length:Nat) sc g toL
 epoch:a.epoch=((epochO c.actsL (c.actsL.length:Nat) sc g).map (·.epoch+1)).getD 0
theorem GrantM.members (h:GrantM c d a sc g toL):membersV d (d.actsL.length:Nat) sc g toL=a.toL:=by
 rw [h.toL]
 exact oK h.more (by rw [h.kind];decide) (by rw [h.kind];decide) (by rw [h.kind];decide) (by rw [h.kind];decide) (by rw [h.kind];decide) (by rw [h.kind];decide) (by rw [h.kind];decide)
theorem GrantM.grant (h:GrantM c d a sc g toL):(grantV d.actsL (d.actsL.length:Nat) sc g).1=c.actsL.length∧0<(grantV d.actsL (d.actsL.length:Nat) sc g).2:=by
 have:=(lr h.more h.kind h.scope h.group h.epoch).1
 rw [this]
 exact ⟨rfl,Nat.succ_pos _⟩
theorem GrantM.some_ (h:GrantM c d a sc g toL):∃ x,epochO d.actsL (d.actsL.length:Nat) sc g=some x∧x.epoch=a.epoch∧x.toL=a.toL:=by
 have:=(lr h.more h.kind h.scope h.group h.epoch).2
 cases hx:epochO d.actsL (d.actsL.length:Nat) sc g with
 | none=>rw [hx] at this;cases this
 | some x =>
  rw [hx] at this
  have e:x.can=a.can:=Option.some.inj this
  exact ⟨x,rfl,(congrArg ActD.epoch e :),(congrArg ActD.toL e :)⟩
theorem GrantM.fresh (h:GrantM c d a sc g toL):freshV d (d.actsL.length:Nat) sc g toL=false:=by
 obtain ⟨x,hx,h1,h2⟩:=h.some_
 rw [freshV,hx,h.members]
 simp only [Option.isSome_some,Option.map_some,Qe,h2,tD]
 rfl
theorem GrantM.own (h:GrantM c d a sc g toL) {x:ActD} (hx:d.actsL[c.actsL.length]?=some x):x.epoch=a.epoch:=by
 have h1:(d.actsL.map ActD.can)[c.actsL.length]?=some x.can:=by rw [Z7,hx];rfl
 rw [h.more.acts,ZV (by rw [ZF];exact ZX _),ZF,Nat.sub_self] at h1
 have e:a.can=x.can:=Option.some.inj h1
 exact (congrArg ActD.epoch e.symm :)
theorem GrantM.asc (h:GrantM c d a sc g toL):Asc a.toL:=by rw [h.toL];exact lS _ _ _ _ _
theorem jc (h:GrantM c d a sc g toL) (m:More d f b) (hk:b.kind=10) (ht:b.target=y) (hy:y∈a.toL) :
  freshV f (f.actsL.length:Nat) sc g toL=true∧y∉membersV f (f.actsL.length:Nat) sc g toL∧(membersV f (f.actsL.length:Nat) sc g toL).length+1=a.toL.length:=by
 obtain ⟨⟨-,h2⟩,h3⟩:=ls (sc:=sc) (g:=g) (toL:=toL) m hk
 rw [h.members,ht] at h3
 have hn:y∉membersV f (f.actsL.length:Nat) sc g toL:=fun hh=>((h3 y).1 hh).2 rfl
 refine ⟨?_,hn,BW h.asc (lS _ _ _ _ _) hy h3⟩
 obtain ⟨x,hx,-,e2⟩:=h.some_
 rw [hx] at h2
 have e3:=qF (f:=(·.toL)) (fun _=>rfl) h2
 rw [freshV,e3]
 simp only [Option.map_some,Qe,e2]
 rw [yU hy hn,Zl,Zs]
theorem uy (h:GrantM c d a sc g toL) (m:More d f b) (hk:b.kind=10) (ht:b.target=y) (hy:y∈a.toL) (n:GrantM f k a2 sc g toL) :
  a2.epoch=a.epoch+1∧a2.toL.length+1=a.toL.length∧y∉a2.toL:=by
 obtain ⟨h1,h2,h3⟩:=jc h m hk ht hy
 refine ⟨?_,by rw [n.toL];exact h3,by rw [n.toL];exact h2⟩
 obtain ⟨⟨-,h4⟩,-⟩:=ls (sc:=sc) (g:=g) (toL:=toL) m hk
 obtain ⟨x,hx,e1,-⟩:=h.some_
 rw [hx] at h4
 have e3:=qF (f:=(·.epoch+1)) (fun _=>rfl) h4
 rw [n.epoch,e3]
 simp only [Option.map_some,Qe,e1]
end
end Go.Proofs.YtaolfiikahlmkaaGreatDoor
namespace Go.Proofs.YtaolfiikahlmkaaGreatDoor
open Go Go.Proofs Sy
def grX (sc:Int) (g:ByteArray) (st:SlV) (toL:List ByteArray) (e:Int) (wr:SlV) (wL:List WrapD):ActD:={ ActD.zero with kind:=16,scope:=sc,group:=g,to:=st,toL:=toL,epoch:=e,wraps:=wr,wrapsL:=wL }
structure GrF (L:List Int) (I I1:List ItemD) (id:ByteArray) (c n:ChainD) (sc:Int) (g:ByteArray) (toL:List ByteArray):Prop where
 pos:0<c.actsL.length
 right:KnR L I1
 len:I1.length≤I.length+1
 qk:∃ kl1,QK L I1 id n kl1
 grant:∃ b,GrantM c n b sc g toL∧b.toL.length≤8∧(∀ y∈b.toL,y.size≤maxLen)∧0≤b.epoch∧b.epoch≤1000
def GrR (L:List Int) (I:List ItemD) (ks ki:SlV) (id:ByteArray) (c:ChainD) (sc:Int) (g:ByteArray) (toL:List ByteArray) (u:Value) (X:World→Prop):Prop :=
 ∃ (s:SlV) (n:ChainD) (I1:List ItemD) (F:Bool),u=.tuple #[.agg #[ks.v,s.v],n.v,.bool F]∧(∀ w,((Items w ki I∧c.at_ w)∧X w)→Items w s I1∧n.at_ w)∧(F=true→GrF L I I1 id c n sc g toL)
set_option maxRecDepth 20000 in
theorem j7 (ks ki:SlV) {L:List Int} {I:List ItemD} (hK:KnR L I) (hI:I.length<100) {id:ByteArray} {c:ChainD} {kl:List KeyD} (hQ:QK L I id c kl) (hto:∀ a∈c.actsL,a.to.n≤8) (k:KyD) (sc:Int) (hsc:sc<9223372036854775808) (g:ByteArray) (st:SlV) (toL:List ByteArray) (htl:toL.length≤8) (wr:SlV) (WL:List WrapD) (hwl:WL.length≤8) (hwr:∀ b∈WL,b.to<9223372036854775808∧b.eph<9223372036854775808) :
  Mk Tryz.prog 29 #[.agg #[ks.v,ki.v],c.v,k.v,.int .i64 sc,.string g,st.v,wr.v] (fun w=>((((Ints w ks L∧Items w ki I)∧c.at_ w)∧Strs w st toL)∧Wraps w wr WL)∧Glob w) (GrR L I ks ki id c sc g toL):=by
 refine bZ (args:=[_,_,_,_,_,_,_]) _ Tryz.func29 rfl Tryz.ntmps29 rfl fun av bor w0=>?_
 have G:=fS hK hQ
 have hG1:=G.len
 refine aM (p:=c.acts.n=c.actsL.length∧wr.n=WL.length∧wr.n≤wr.c) (fun w h=>⟨h.1.1.1.2.len_,h.1.2.len_,RowsD.cap h.1.2⟩) fun ⟨hcn,hwn,hwc⟩=>?_
 have hto6:∀ a∈c.actsL,a.to.n≤1000000:=fun a ha=>ZY (hto a ha) (by decide)
 have hme:=ez c G.ok aa hto6 (c.acts.n:Nat) sc g st toL aa
 have hml:=lD G.ok aa hto6 (c.acts.n:Nat) sc g (toL:=toL) aa
 have hep:=gC c G.ok (c.acts.n:Nat) sc g
 have hne:=nM c.actsL sc g
 have hgl:=(fG c.actsL sc g c.actsL.length).1
 rw [←iX] at hgl
 rw [←hcn] at hne hgl
 obtain ⟨M,hM⟩:∃ M,membersV c (c.acts.n:Nat) sc g toL=M:=⟨_,rfl⟩
 obtain ⟨o,ho⟩:∃ o,epochO c.actsL (c.acts.n:Nat) sc g=o:=⟨_,rfl⟩
 obtain ⟨E,hE⟩:∃ E:Int,(o.map (·.epoch+1)).getD 0=E:=⟨_,rfl⟩
 rw [ho,hE] at hne
 have hEb:0≤E∧E≤1000:=by omega
 clear hne hgl
 rw [hM] at hml hme
 rw [ho] at hep
 repeat' (first|(refine ab (hc:=ot c 16 1) (hX:=fun _ _=>trivial) ?_)|(refine bS (hc:=hme) (hX:=fun w h=>⟨⟨h.1.1.1.2,h.2⟩,h.1.1.2⟩) fun v X1 h1=>?_;obtain ⟨s1,rfl,hw1⟩:=h1)|refine gs ?_|refine gs1 fun _=>?_|(refine gp ?_ ?_<;>intro hx_ this)|fail)
 repeat' (first|apply bq|apply QQ|refine aX ?_|refine aD ?_|refine bC ?_|refine bU ?_|refine aE ?_|refine aH ?_|refine aI ?_|refine bF ?_|refine bM ?_|refine bj ?_|refine be ?_|refine bE ?_|refine bY ?_|refine co (h:=?_)|refine aT ?_|refine aU ?_|refine aS ?_|refine aR fun _=>?_|refine bH fun _=>?_|refine bx ?_|refine aJ ?_|refine QU ?_|refine QV ?_|apply QT|apply QS|apply cw_ret|apply cw_exit|refine sy_beql (h:=?_)|refine bc ?_|refine aZ ?_|(refine bS (hc:=hep) (hX:=fun w h=>⟨h.1.1.1.1.2,h.1.2⟩) fun v X2 h2=>?_;obtain ⟨s2,rfl,hw2⟩:=h2)|((fail_if_success (refine bI ?_));refine aW (ht:=?_) (hf:=?_);all_goals (intro hx_;first|have:=aG hx_|have:=aQ hx_|skip))|(refine cw_cond (ht:=?_) (hf:=?_);all_goals (intro hx_;first|have:=aG hx_|have:=aQ hx_|skip)))
 rename_i b7 b8 b9 b14 b15 b17
 refine aM (p:=s1.n=M.length) (fun w h=>by have:=RowsD.len (hw1 w h.1.2);simpa [strs] using this) fun hs1n=>?_
 refine Cy (ι:=Unit) (fun _=>⟨[(3,.int .i64 sc),(4,.string g),(6,wr.v),(7,.pointer (some ⟨b7,0,none⟩)),(8,.pointer (some ⟨b8,0,none⟩)),(9,.pointer (some ⟨b9,0,none⟩)),(14,.pointer (some ⟨b14,0,none⟩)),(15,.pointer (some ⟨b15,0,none⟩)),(17,.pointer (some ⟨b17,0,none⟩))],[cel b17 46 [.string c.id,.int .i64 (c.acts.n:Nat),.string c.prev,.int .i64 16,.int .i64 1,.string ⟨#[]⟩,.string ⟨#[]⟩,.int .i64 sc,.string g,s1.v,.string ⟨#[]⟩,.string ⟨#[]⟩,.string ⟨#[]⟩,.string ⟨#[]⟩,.int .i64 E,.slice none 0 0,.int .i64 0,.int .i64 0,.int .i64 0,.int .i64 0],cel b15 35 ChainD.zero.cells,cel b14 25 [.slice none 0 0,.slice none 0 0],cel b9 27 k.v.cells.toList,cel b8 35 c.cells,cel b7 25 [ks.v,ki.v]],fun w=>((((Ints w ks L∧Items w ki I)∧c.at_ w)∧Wraps w wr WL)∧Glob w)∧Strs w s1 M⟩) ?_ fun _=>?_
 · cases o with
   | none =>
    obtain rfl:(0:Int)=E:=hE
    have hno:(none:Option ActD).isSome=false:=rfl
    repeat' (first|refine gs ?_|refine gs1 fun _=>?_|(refine gp ?_ ?_<;>intro hx_ this)|fail)
    all_goals first
     | exact ⟨(),aj ao (al _) fun w h=>⟨⟨⟨⟨h.1.1.1.1.1,h.1.1.1.1.2⟩,h.1.1.1.2⟩,h.1.1.2⟩,hw1 w h.1.2⟩⟩
     | exact ⟨(),aj ao (al _) fun w h=>⟨⟨⟨h.1.1.1.1,h.1.1.1.2⟩,h.1.1.2⟩,hw1 w h.1.2⟩⟩
     | exact ⟨(),aj ao (al _) fun w h=>⟨⟨⟨h.1.1.1.1.1,h.1.1.1.2⟩,h.1.1.2⟩,hw1 w h.1.2⟩⟩
   | some y =>
    obtain rfl:y.epoch+1=E:=hE
    have hno:(some y:Option ActD).isSome=true:=rfl
    repeat' (first|refine ai (li (a:=y.epoch) (b:=1) (c:=y.epoch+1) rfl rfl (IntWalk.i64_in _ aa)) rfl am rfl ?_|refine gs ?_|refine gs1 fun _=>?_|(refine gp ?_ ?_<;>intro hx_ this)|fail)
    all_goals first
     | exact ⟨(),aj ao (al _) fun w h=>⟨⟨⟨h.1.1.1.1.1,h.1.1.1.2⟩,h.1.1.2⟩,hw1 w h.1.2⟩⟩
 repeat apply QQ
 apply QR
 by_cases hgt:wr.n<s1.n
 · repeat' (first|refine fP (hab:=by omega) ?_|refine gs ?_|refine gs1 fun _=>?_|(refine gp ?_ ?_<;>intro hx_ this)|fail)
   repeat apply QQ
   (refine aq ⟨[0,1],[(2,⟨[],[(3,⟨[4],[]⟩)]⟩)]⟩ [cel b8 35 c.cells,cel b7 25 [ks.v,ki.v]] (fun w=>((((Ints w ks L∧Items w ki I)∧c.at_ w)∧Wraps w wr WL)∧Glob w)∧Strs w s1 M) (h:=?_))
   all_goals repeat' (first|refine gdz ?_|refine az ?_ (h':=?_)|exact aA|refine gs1 fun _=>?_|(refine gq ?_ ?_<;>intro hx_ this)|fail)
   all_goals
    repeat' (first|refine gs ?_|refine gs1 fun _=>?_|(refine gp ?_ ?_<;>intro hx_ this)|fail)
    all_goals first
     | exact ad (ir (n:=2) (n2:=6) rfl rfl rfl rfl bz rfl bz rfl) ⟨ki,c,I,false,rfl,fun w h=>h.1,fun h=>absurd h (by decide)⟩
 obtain ⟨x,hx⟩:∃ x,grX sc g s1 M E ⟨wr.p,s1.n,wr.c⟩ (WL.take s1.n)=x:=⟨_,rfl⟩
 have hxR:x.Rng:=by
  rw [←hx]
  exact ⟨by simp only [grX,ActD.zero];omega,fun w hw=>hwr w (List.mem_of_mem_take hw),hs1n,by show s1.n=(WL.take s1.n).length;rw [Qi];omega⟩
 have hxS:x.Sm:=by
  rw [←hx]
  exact ⟨by show s1.n*16≤_;omega,by show s1.n*64≤_;omega,by show (0:Nat)≤_;decide⟩
 have hxat:∀ w,Wraps w wr WL→Strs w s1 M→x.at_ w:=fun w h1 h2=>by
  rw [←hx]
  refine ⟨h2,?_⟩
  have h3:=RowsD.take (n:=s1.n) h1 (by rw [ZF];omega)
  rw [←List.map_take] at h3
  exact h3
 have hxk:x.kind=16:=by rw [←hx];rfl
 have hxf:x.scope=sc∧x.group=g∧x.toL=M∧x.epoch=E:=by rw [←hx];exact ⟨rfl,rfl,rfl,rfl⟩
 have hx1R:(draftX c { x with time:=1 }).Rng:=⟨⟨by show (c.acts.n:Int)<_;omega,hxR.ints.2.1,by show (1:Int)<_;decide,hxR.ints.2.2.2⟩,hxR.wints,hxR.to_len,hxR.wraps_len⟩
 have hx1S:(draftX c { x with time:=1 }).Sm:=⟨hxS.to,hxS.wraps,hxS.target⟩
 have hbR:=ux (k:=k) (c:=c) hxR aa
 have hbS:=AZ (k:=k) (c:=c) hxS
 have hsg:Mk Tryz.prog 36 #[k.v,(draftX c { x with time:=1 }).v] (fun w=>(draftX c { x with time:=1 }).at_ w∧Glob w) (ActTo (sgA k c x)):=jx k (draftX c { x with time:=1 }) hx1R hx1S
 have hsone:=fun (n:ChainD) (hnn:n.acts.n=n.actsL.length) (s3 s4:SlV) (kl':List KeyD) (h0:0<c.actsL.length) (e3:s3.n=(sgA k c x).to.n) (e4:s4.n=(sgA k c x).wraps.n) (q':QK L (addK L I (ofActI ((sgA k c x).re s3 s4))) c.id n kl') (hl:(n.acts.n:Int)=(c.acts.n:Int)+1)=>(nk hK hQ h0 hcn hnn e3 e4 q' hl).1
 obtain ⟨b,hb⟩:∃ b,sgA k c x=b:=⟨_,rfl⟩
 rw [hb] at hbR hbS hsg
 have hpos:=fun (n:ChainD) (s3 s4:SlV) (kl':List KeyD) (e3:s3.n=b.to.n) (e4:s4.n=b.wraps.n) (q':QK L (addK L I (ofActI (b.re s3 s4))) id n kl') (hl:n.actsL.length=c.actsL.length+1)=>by
  subst hb
  exact tv hK hQ (x:=x) (by rw [hxk];decide) e3 e4 q' hl
 simp only [hb] at hsone
 repeat' (first|refine eY (hab:=by omega) ?_|apply bq|apply QQ|refine aX ?_|refine aD ?_|refine bC ?_|refine bU ?_|refine aE ?_|refine aH ?_|refine aI ?_|refine bF ?_|refine bM ?_|refine bj ?_|refine be ?_|refine bE ?_|refine bY ?_|refine co (h:=?_)|refine aT ?_|refine aU ?_|refine aS ?_|refine aR fun _=>?_|refine bH fun _=>?_|refine bx ?_|refine aJ ?_|refine QU ?_|refine QV ?_|apply QT|apply QS|apply cw_ret|apply cw_exit|refine sy_beql (h:=?_)|refine bc ?_|refine aZ ?_|((fail_if_success (refine bI ?_));refine aW (ht:=?_) (hf:=?_);all_goals (intro hx_;first|have:=aG hx_|have:=aQ hx_|skip))|(refine cw_cond (ht:=?_) (hf:=?_);all_goals (intro hx_;first|have:=aG hx_|have:=aQ hx_|skip)))
 refine QR (h:=?_)
 repeat' (first|refine ai (tV (p:=wr.p) (m:=wr.n) (c:=wr.c) (kk:=.i64) (i:=((s1.n:Nat):Int)) rfl rfl aa aa) rfl am rfl ?_|apply bq|apply QQ|refine aX ?_|refine aD ?_|refine bC ?_|refine bU ?_|refine aE ?_|refine aH ?_|refine aI ?_|refine bF ?_|refine bM ?_|refine bj ?_|refine be ?_|refine bE ?_|refine bY ?_|refine co (h:=?_)|refine aT ?_|refine aU ?_|refine aS ?_|refine aR fun _=>?_|refine bH fun _=>?_|refine bx ?_|refine aJ ?_|refine QU ?_|refine QV ?_|apply QT|apply QS|apply cw_ret|apply cw_exit|refine sy_beql (h:=?_)|refine bc ?_|refine aZ ?_|((fail_if_success (refine bI ?_));refine aW (ht:=?_) (hf:=?_);all_goals (intro hx_;first|have:=aG hx_|have:=aQ hx_|skip))|(refine cw_cond (ht:=?_) (hf:=?_);all_goals (intro hx_;first|have:=aG hx_|have:=aQ hx_|skip)))
 refine gD (st':=⟨[(3,.int .i64 sc),(4,.string g),(6,wr.v),(7,.pointer (some ⟨b7,0,none⟩)),(8,.pointer (some ⟨b8,0,none⟩)),(9,.pointer (some ⟨b9,0,none⟩)),(14,.pointer (some ⟨b14,0,none⟩)),(15,.pointer (some ⟨b15,0,none⟩)),(17,.pointer (some ⟨b17,0,none⟩))],[cel b17 46 (draftX c { x with time:=1 }).cells,cel b15 35 ChainD.zero.cells,cel b14 25 [.slice none 0 0,.slice none 0 0],cel b9 27 k.v.cells.toList,cel b8 35 c.cells,cel b7 25 [ks.v,ki.v]],fun w=>((((Ints w ks L∧Items w ki I)∧c.at_ w)∧Wraps w wr WL)∧Glob w)∧Strs w s1 M⟩) (aj ao (by rw [←hx];exact al _) fun w h=>h) ?_
 repeat apply QQ
 refine fX (ι:=AddW L I ki b) (fun m=>⟨[(8,.pointer (some ⟨b8,0,none⟩)),(14,.pointer (some ⟨b14,0,none⟩)),(15,.pointer (some ⟨b15,0,none⟩)),(21,.pointer (some ⟨m.bk,0,none⟩))],[cel m.bk 25 [ks.v,m.s.v],cel b15 35 ChainD.zero.cells,cel b14 25 [.slice none 0 0,.slice none 0 0],cel b8 35 c.cells],fun w=>(((Ints w ks L∧Items w ki I)∧c.at_ w)∧Glob w)∧m.Y w⟩) ?_ fun m=>?_
 · (refine aq ⟨[0,1,2],[(3,⟨[],[(4,⟨[],[(5,⟨[6,7,8],[(9,⟨[],[(10,⟨[11],[]⟩)]⟩)]⟩),(9,⟨[],[(5,⟨[6,7,8],[(10,⟨[11],[]⟩)]⟩)]⟩)]⟩),(9,⟨[],[(4,⟨[],[(5,⟨[6,7,8],[(10,⟨[11],[]⟩)]⟩)]⟩)]⟩)]⟩),(9,⟨[],[(3,⟨[],[(4,⟨[],[(5,⟨[6,7,8],[(10,⟨[11],[]⟩)]⟩)]⟩)]⟩)]⟩)]⟩ [cel b17 46 (draftX c { x with time:=1 }).cells,cel b9 27 k.v.cells.toList,cel b7 25 [ks.v,ki.v]] (fun w=>((((Ints w ks L∧Items w ki I)∧c.at_ w)∧Wraps w wr WL)∧Glob w)∧Strs w s1 M) (h:=?_))
   all_goals repeat' (first|((refine bS (hc:=hsg) (hX:=fun w h=>⟨hxat w h.1.1.2 h.2,h.1.2⟩) fun v X3 h3=>?_;obtain ⟨s3,s4,rfl,e1,e2,hw3⟩:=h3))|((refine bS (hc:=kJ (b.re s3 s4) (fw hbR e1 e2) (kz hbS e1 e2)) (hX:=fun w h=>hw3 w h.2) fun v X4 h4=>?_;obtain ⟨s5,s6,rfl,e3,e4,hw4⟩:=h4;refine cD (X':=fun w=>(((((((Ints w ks L∧Items w ki I)∧c.at_ w)∧Wraps w wr WL)∧Glob w)∧Strs w s1 M))∧X4 w)) (fun w h=>⟨h.1.1,h.2⟩) ?_))|((refine bS (hc:=rj ks ki hK (ofActI (b.re s5 s6)) (fw hbR (e3.trans e1) (e4.trans e2)) rfl) (hX:=fun w h=>⟨⟨h.1.1.1.1.1,hw4 w h.2,aY w 1⟩,h.1.1.2⟩) fun v X5 h5=>?_;obtain ⟨s,rfl,hw5⟩:=h5))|refine gdz ?_|refine az ?_ (h':=?_)|exact aA|refine gs1 fun _=>?_|(refine gq ?_ ?_<;>intro hx_ this)|fail)
   all_goals first
    | exact ⟨(⟨s5,s6,s,_,fun w=>X4 w∧X5 w,e3.trans e1,e4.trans e2,fun w h=>hw5 w ⟨h.1,h.2.2⟩⟩:AddW L I ki b),aj ao (.cons_cons _ (.cons _ (.cons_cons _ (.cons_cons _ (.cons _ (.cons_cons _ (.cons _ (Zu _)))))))) fun w h=>⟨⟨h.1.1.1.1.1,h.1.1.1.2⟩,h.1.2,h.2⟩⟩
 obtain ⟨s3,s4,s,bk,Y,e3,e4,hwI⟩:=m
 simp only
 have hK':KnR L (addK L I (ofActI (b.re s3 s4))):=nU hK (fw hbR e3 e4) (kz hbS e3 e4) rfl hI
 repeat' (first|(refine bS (hc:=jX ks s hK' c.id) (hX:=fun w h=>⟨⟨h.1.1.1.1,hwI w ⟨h.1.1.1.2,h.2⟩⟩,h.1.2⟩) fun v X6 h6=>?_;obtain ⟨n,kl',hQ',rfl,hw6⟩:=h6)|refine gs ?_|refine gs1 fun _=>?_|(refine gp ?_ ?_<;>intro hx_ this)|fail)
 rename_i b23
 refine aM (p:=n.acts.n=n.actsL.length) (fun w h=>(hw6 w h.2).1.len_) fun hnn=>?_
 have hnl:=(fS hK' hQ').len
 have hfin:(n.acts.n:Int)=(c.acts.n:Int)+1→GrF L I (addK L I (ofActI (b.re s3 s4))) id c n sc g toL:=fun hone=>by
  have h0:0<c.actsL.length:=hpos n s3 s4 kl' e3 e4 (by rw [←g8 hQ];exact hQ') aa
  have hS:=hsone n hnn s3 s4 kl' h0 e3 e4 hQ' hone
  have hbf:b.kind=16∧b.scope=sc∧b.group=g∧b.toL=M∧b.epoch=E:=by
   rw [hS.sig]
   exact ⟨hxk,hxf.1,hxf.2.1,hxf.2.2.1,hxf.2.2.2⟩
  exact ⟨h0,hK',tO L I _,⟨kl',by rw [←g8 hQ];exact hQ'⟩,b,⟨⟨g8 hQ',hS.acts⟩,hbf.1,hbf.2.1,hbf.2.2.1,by rw [hbf.2.2.2.1,←hcn];exact hM.symm,by rw [hbf.2.2.2.2,←hcn,ho];exact hE.symm⟩,by rw [hbf.2.2.2.1];omega,fun y hy=>ZY ((iM hbR (by have h:=hS.right;simp only [rightB,Zp] at h;exact h.2)).to.each y hy) (by decide),by rw [hbf.2.2.2.2];exact hEb.1,by rw [hbf.2.2.2.2];exact hEb.2⟩
 by_cases hone:(n.acts.n:Int)=(c.acts.n:Int)+1
 · have hF:=hfin hone
   repeat apply QQ
   (refine aq ⟨[0,1,2,3,4,5,6,7,8,9,10,11,12,13,14,15,16],[(17,⟨[],[(18,⟨[19],[]⟩)]⟩)]⟩ [cel b23 35 n.cells,cel bk 25 [ks.v,s.v],cel b8 35 c.cells] (fun w=>((((Ints w ks L∧Items w ki I)∧c.at_ w)∧Glob w)∧Y w)∧X6 w) (h:=?_))
   all_goals repeat' (first|refine ay (hsub:=by exact aK) (hy:=by first|(apply dS true;rfl;rfl;exact Zd hone)) ?_|refine gdz ?_|refine az ?_ (h':=?_)|exact aA|refine gs1 fun _=>?_|(refine gq ?_ ?_<;>intro hx_ this)|fail)
   all_goals
    repeat' (first|refine gs ?_|refine gs1 fun _=>?_|(refine gp ?_ ?_<;>intro hx_ this)|fail)
    all_goals first
     | exact ad (ir (n:=2) (n2:=6) rfl rfl rfl rfl bz rfl bz rfl) ⟨s,n,_,_,rfl,fun w h=>⟨hwI w ⟨h.1.1,h.2.1.1.2⟩,(hw6 w h.2.1.2).1⟩,fun _=>hF⟩
 · repeat apply QQ
   (refine aq ⟨[0,1,2,3,4,5,6,7,8,9,10,11,12,13,14,15,16],[(17,⟨[],[(18,⟨[19],[]⟩)]⟩)]⟩ [cel b23 35 n.cells,cel bk 25 [ks.v,s.v],cel b8 35 c.cells] (fun w=>((((Ints w ks L∧Items w ki I)∧c.at_ w)∧Glob w)∧Y w)∧X6 w) (h:=?_))
   all_goals repeat' (first|refine ay (hsub:=by exact aK) (hy:=by first|(apply dS false;rfl;rfl;exact Zc hone)) ?_|refine gdz ?_|refine az ?_ (h':=?_)|exact aA|refine gs1 fun _=>?_|(refine gq ?_ ?_<;>intro hx_ this)|fail)
   all_goals
    repeat' (first|refine gs ?_|refine gs1 fun _=>?_|(refine gp ?_ ?_<;>intro hx_ this)|fail)
    all_goals first
     | exact ad (ir (n:=2) (n2:=6) rfl rfl rfl rfl bz rfl bz rfl) ⟨s,n,_,false,rfl,fun w h=>⟨hwI w ⟨h.1.1,h.2.1.1.2⟩,(hw6 w h.2.1.2).1⟩,fun h=>absurd h (by decide)⟩
theorem tq (s:SlV) (l:List ByteArray) (x:ByteArray):Pu Tryz.prog 37 #[s.v,.string x] (fun w=>Strs w s l) (.bool (has21V l x)):=by
 refine ak (args:=[_,_]) _ Tryz.func37 rfl Tryz.ntmps37 rfl fun av bor w0=>?_
 refine aM (p:=s.n=l.length∧s.n≤maxLen∧(0<l.length→s.p.isSome=true)) (fun w h=>⟨h.len_,ZY (RowsD.cap h) (RowsD.max h),h.some_⟩) fun ⟨hl,hm,hp⟩=>?_
 simp only [maxLen] at hm
 repeat' (first|refine gs ?_|fail)
 refine ar (ι:=Upto l.length (fun k=>seqB (l.getD k .empty) x)) (fun i=>⟨[(0,s.v),(1,.string x),(5,.int .i64 i.k)],[],fun w=>Strs w s l⟩) (fun i=>l.length-i.k) (Upto.zero _ _) (aj ao (al _) fun _ h=>h) fun i=>?_
 have hik:=i.hk
 repeat' (first|refine gs ?_|(refine gp ?_ ?_<;>intro hx_ this)|fail)
 · have hlt:i.k<l.length:=by omega
   have hp':=hp aa
   repeat' (first|refine gs ?_|(refine aO (q:=i.k) ?_)|(refine cU (hF:=fun w h=>Strs.get h hlt) ?_)|(refine gp ?_ ?_<;>intro hx_ this)|fail)
   · apply ad;apply ag;rfl;rfl
     rw [tt hlt (by assumption)]
   · exact ⟨i.next hlt (by assumption),(by show l.length-(i.k+1)<l.length-i.k;omega),aj ao (al _) fun _ h=>h⟩
 · apply ad;apply ag;rfl;rfl
   rw [uW fun k hk=>i.ok k (by omega)]
theorem tr {l:List ByteArray} {x:ByteArray} (h:x∉l):has21V l x=false:=by
 cases hb:has21V l x with
 | false=>rfl
 | true =>
  rw [has21V,List.any_eq_true] at hb
  obtain ⟨y,hy,e⟩:=hb
  rw [←seqB_iff.1 e] at h
  exact absurd hy h
set_option maxRecDepth 20000 in
theorem lY (ks ki:SlV) (L:List Int) (I:List ItemD) (hs:∀ i∈I,i.Str) (hd:∀ i∈I,i.dec.to.n=i.dec.toL.length) (id:ByteArray) (k:KyD) (sc:Int) (hsc:sc<9223372036854775808) (g:ByteArray) (st:SlV) (toL:List ByteArray) (wr:SlV) (WL:List WrapD) (hwr:∀ b∈WL,b.to<9223372036854775808∧b.eph<9223372036854775808) (at_:Int) :
  Pu Tryz.prog 5 #[.agg #[ks.v,ki.v],.string id,k.v,.int .i64 sc,.string g,st.v,wr.v,.int .i64 at_] (fun w=>(((Ints w ks L∧Items w ki I)∧Strs w st toL)∧Wraps w wr WL)∧Glob w) (.bool true):=by
 have hrt:=jQ ks ki L I hs hd
 refine ak (args:=[_,_,_,_,_,_,_,_]) _ Tryz.func5 rfl Tryz.ntmps5 rfl fun av bor w0=>?_
 refine aM (p:=ki.n=I.length∧st.n=toL.length∧wr.n=WL.length) (fun w h=>⟨h.1.1.1.2.len_,by have:=RowsD.len h.1.1.2;simpa [strs] using this,h.1.2.len_⟩) fun ⟨hkin,hstn,hwrn⟩=>?_
 obtain ⟨RB,hRB⟩:∃ x,rightKn L I=x:=⟨_,rfl⟩
 rw [hRB] at hrt
 by_cases hall:¬ (¬ 30<(ki.n:Int)∧¬ 8<(st.n:Int)∧¬ 8<(wr.n:Int)∧RB=true)
 · by_cases hb1:30<(ki.n:Int)<;>by_cases hb2:8<(st.n:Int)<;>by_cases hb3:8<(wr.n:Int)<;>cases RB
   all_goals first
    | (refine absurd ⟨?_,?_,?_,?_⟩ hall<;>first|assumption|rfl|fail)
    | (repeat' (first|refine eY (hab:=by omega) ?_|refine fP (hab:=by omega) ?_|(refine ab (hc:=rN) (hX:=fun w h=>h.2) ?_)|(refine ab (hc:=hrt) (hX:=fun w h=>h.1.1.1) ?_)|refine gs ?_|refine gs1 fun _=>?_|(refine aw ?_)|(refine gp ?_ ?_<;>intro hx_ this)|fail))
   all_goals first
    | exact ad (ag rfl rfl) rfl
 obtain ⟨hb1,hb2,hb3,rfl⟩:=Classical.not_not.1 hall
 have hK:=pG hRB aa hs hd
 repeat' (first|refine eY (hab:=by omega) ?_|(refine ab (hc:=rN) (hX:=fun w h=>h.2) ?_)|(refine ab (hc:=hrt) (hX:=fun w h=>h.1.1.1) ?_)|(refine bS (hc:=jX ks ki hK id) (hX:=fun w h=>⟨h.1.1.1,h.2⟩) fun v X1 h1=>?_;obtain ⟨c,kl,hQ,rfl,hw1⟩:=h1)|refine gs ?_|refine gs1 fun _=>?_|(refine aw ?_)|(refine gp ?_ ?_<;>intro hx_ this)|fail)
 rename_i b8 b10 b18
 have hsh:=A9 c
 obtain ⟨SC,hSC⟩:∃ x,shortV c=x:=⟨_,rfl⟩
 rw [hSC] at hsh
 cases SC with
 | false =>
  repeat' (first|(refine ab (hc:=hsh) (hX:=fun w h=>⟨(hw1 w h.2).1,h.1.2⟩) ?_)|refine gs ?_|refine gs1 fun _=>?_|(refine aw ?_)|(refine gp ?_ ?_<;>intro hx_ this)|fail)
  all_goals first
   | exact ad (ag rfl rfl) rfl
 | true =>
 have G:=fS hK hQ
 have hG1:=G.len
 have hcto:∀ a∈c.actsL,a.to.n≤8:=fun a ha=>np hSC ha
 repeat' (first|(refine ab (hc:=hsh) (hX:=fun w h=>⟨(hw1 w h.2).1,h.1.2⟩) ?_)|refine gs ?_|refine gs1 fun _=>?_|(refine aw ?_)|(refine gp ?_ ?_<;>intro hx_ this)|fail)
 repeat' (first|apply bq|apply QQ|refine aX ?_|refine aD ?_|refine bC ?_|refine bU ?_|refine aE ?_|refine aH ?_|refine aI ?_|refine dv ?_|refine bF ?_|refine bN ?_|refine bA ?_|refine bM ?_|refine cg ?_|refine bj ?_|refine bw ?_|refine be ?_|refine bE ?_|refine bY ?_|refine co (h:=?_)|refine cO (h:=?_)|refine aT ?_|refine aU ?_|refine aS ?_|refine aR fun _=>?_|refine bH fun _=>?_|refine bx ?_|refine aJ ?_|refine QU ?_|refine QV ?_|apply QT|apply QS|apply cw_ret|apply cw_exit|refine sy_beql (h:=?_)|refine br ?_|refine bc ?_|refine aZ ?_|(refine bS (hc:=j7 ks ki hK aa hQ hcto k sc hsc g st toL aa wr WL aa hwr) (hX:=fun w h=>⟨⟨⟨⟨h.1.1.1.1,(hw1 w h.2).1⟩,h.1.1.1.2⟩,h.1.1.2⟩,h.1.2⟩) fun v X2 h2=>?_;obtain ⟨s2,d,I2,F,rfl,hw2,hF⟩:=h2)|((fail_if_success (refine bI ?_));refine aW (ht:=?_) (hf:=?_);all_goals (intro hx_;first|have:=aG hx_|have:=aQ hx_|skip))|(refine cw_cond (ht:=?_) (hf:=?_);all_goals (intro hx_;first|have:=aG hx_|have:=aQ hx_|skip)))
 rename_i b19 b20
 refine gD (st':=⟨[(1,.string id),(3,.int .i64 sc),(4,.string g),(5,st.v),(6,wr.v),(7,.int .i64 at_),(10,.pointer (some ⟨b10,0,none⟩)),(17,.bool true),(19,.pointer (some ⟨b19,0,none⟩)),(20,.pointer (some ⟨b20,0,none⟩)),(21,.bool F)],[cel b20 35 d.cells,cel b19 25 [ks.v,s2.v],cel b10 27 k.v.cells.toList],fun w=>((((Ints w ks L∧Items w s2 I2)∧d.at_ w)∧Strs w st toL)∧Wraps w wr WL)∧Glob w⟩) (aj ao (.cons_cons _ (.cons_cons _ (.cons _ (.cons_cons _ (.cons _ (Zu _)))))) fun w h=>⟨⟨⟨⟨⟨h.1.1.1.1.1.1,(hw2 w ⟨⟨h.1.1.1.1.1.2,(hw1 w h.1.2).1⟩,h.2⟩).1⟩,(hw2 w ⟨⟨h.1.1.1.1.1.2,(hw1 w h.1.2).1⟩,h.2⟩).2⟩,h.1.1.1.1.2⟩,h.1.1.1.2⟩,h.1.1.2⟩) ?_
 cases F with
 | false =>
  repeat' (first|refine gs ?_|refine gs1 fun _=>?_|(refine gp ?_ ?_<;>intro hx_ this)|fail)
  all_goals first
   | exact ad (ag rfl rfl) rfl
 | true =>
 obtain ⟨h0,hK2,hl2,⟨kl2,hQ2⟩,b1,hGM,hb8,hbs,hbe0,hbe1⟩:=hF rfl
 have G2:=fS hK2 hQ2
 have hG2:=G2.len
 have hdl:=hGM.more.len
 refine aM (p:=d.acts.n=d.actsL.length∧(0<d.actsL.length→d.acts.p.isSome=true)) (fun w h=>⟨h.1.1.1.2.len_,h.1.1.1.2.some_⟩) fun ⟨hdn,hdp⟩=>?_
 have hdp':=hdp aa
 have hdto:∀ x∈d.actsL,x.to.n≤8:=fun x hx=>by
  rw [(G2.ok.rng x hx).to_len]
  exact qJ hGM.more (fun y hy=>by rw [←(G.ok.rng y hy).to_len];exact hcto y hy) hb8 x hx
 have hdto6:∀ x∈d.actsL,x.to.n≤1000000:=fun x hx=>ZY (hdto x hx) (by decide)
 have hep:=gC d G2.ok (d.acts.n:Nat) sc g
 have hgr:=lc d (d.acts.n:Nat) sc g
 have hfr:=oa d G2.ok aa hdto6 (d.acts.n:Nat) sc g st toL aa
 have hme:=ez d G2.ok aa hdto6 (d.acts.n:Nat) sc g st toL aa
 obtain ⟨x1,hx1,hx1e,hx1t⟩:=hGM.some_
 obtain ⟨hgr1,hgr2⟩:=hGM.grant
 have hfre:=hGM.fresh
 have hmem:=hGM.members
 rw [←hdn] at hx1 hgr1 hgr2 hfre hmem
 rw [hx1] at hep
 rw [hgr1,Zd (show (0:Int)<((grantV d.actsL (d.acts.n:Nat) sc g).2:Nat) by omega)] at hgr
 rw [hfre] at hfr
 rw [hmem] at hme
 obtain ⟨z1,hz1⟩:∃ z,d.actsL[c.actsL.length]?=some z:=⟨_,Zb aa⟩
 have hz1e:z1.epoch=x1.epoch:=(hGM.own hz1).trans hx1e.symm
 obtain ⟨M,hM⟩:∃ M,b1.toL=M:=⟨_,rfl⟩
 rw [hM] at hx1t hme hb8 hbs
 have hep:Mk Tryz.prog 30 #[d.v,.int .i64 (d.acts.n:Nat),.int .i64 sc,.string g] (XC d) (fun u X=>∃ s:SlV,u=.tuple #[.int .i64 x1.epoch,s.v,.bool true]∧∀ w,X w→Strs w s M):=mi hep fun u X ⟨s,h1,h2⟩=>⟨s,h1,fun w h=>by rw [←hx1t];exact h2 w h⟩
 have hsm:=fun s r:SlV=>kA s r M M
 simp only [tD] at hsm
 have hzE:∀ w,d.at_ w→CellAt w d.acts.p (c.actsL.length*20+14) (.int .i64 z1.epoch):=fun w h=>(Acts.get h hz1).2.2 14 _ rfl
 refine QR (h:=?_)
 repeat' (first|apply bq|apply QQ|refine aX ?_|refine aD ?_|refine bC ?_|refine bU ?_|refine aE ?_|refine aH ?_|refine aI ?_|refine dv ?_|refine bF ?_|refine bN ?_|refine bA ?_|refine bM ?_|refine cg ?_|refine bj ?_|refine bw ?_|refine be ?_|refine bE ?_|refine bY ?_|refine co (h:=?_)|refine cO (h:=?_)|refine aT ?_|refine aU ?_|refine aS ?_|refine aR fun _=>?_|refine bH fun _=>?_|refine bx ?_|refine aJ ?_|refine QU ?_|refine QV ?_|apply QT|apply QS|apply cw_ret|apply cw_exit|refine sy_beql (h:=?_)|refine br ?_|refine bc ?_|refine aZ ?_|((fail_if_success (refine bI ?_));refine aW (ht:=?_) (hf:=?_);all_goals (intro hx_;first|have:=aG hx_|have:=aQ hx_|skip))|(refine cw_cond (ht:=?_) (hf:=?_);all_goals (intro hx_;first|have:=aG hx_|have:=aQ hx_|skip)))
 refine QR (h:=?_)
 repeat' (first|apply bq|apply QQ|refine aX ?_|refine aD ?_|refine bC ?_|refine bU ?_|refine aE ?_|refine aH ?_|refine aI ?_|refine dv ?_|refine bF ?_|refine bN ?_|refine bA ?_|refine bM ?_|refine cg ?_|refine bj ?_|refine bw ?_|refine be ?_|refine bE ?_|refine bY ?_|refine co (h:=?_)|refine cO (h:=?_)|refine aT ?_|refine aU ?_|refine aS ?_|refine aR fun _=>?_|refine bH fun _=>?_|refine bx ?_|refine aJ ?_|refine QU ?_|refine QV ?_|apply QT|apply QS|apply cw_ret|apply cw_exit|refine sy_beql (h:=?_)|refine br ?_|refine bc ?_|refine aZ ?_|((fail_if_success (refine bI ?_));refine aW (ht:=?_) (hf:=?_);all_goals (intro hx_;first|have:=aG hx_|have:=aQ hx_|skip))|(refine cw_cond (ht:=?_) (hf:=?_);all_goals (intro hx_;first|have:=aG hx_|have:=aQ hx_|skip)))
 refine QR (h:=?_)
 repeat' (first|apply bq|apply QQ|refine aX ?_|refine aD ?_|refine bC ?_|refine bU ?_|refine aE ?_|refine aH ?_|refine aI ?_|refine dv ?_|refine bF ?_|refine bN ?_|refine bA ?_|refine bM ?_|refine cg ?_|refine bj ?_|refine bw ?_|refine be ?_|refine bE ?_|refine bY ?_|refine co (h:=?_)|refine cO (h:=?_)|refine aT ?_|refine aU ?_|refine aS ?_|refine aR fun _=>?_|refine bH fun _=>?_|refine bx ?_|refine aJ ?_|refine QU ?_|refine QV ?_|apply QT|apply QS|apply cw_ret|apply cw_exit|refine sy_beql (h:=?_)|refine br ?_|refine bc ?_|refine aZ ?_|(refine bS (hc:=hep) (hX:=fun w h=>⟨h.1.1.1.2,h.2⟩) fun v X3 h3=>?_;obtain ⟨s3,rfl,hw3⟩:=h3)|((fail_if_success (refine bI ?_));refine aW (ht:=?_) (hf:=?_);all_goals (intro hx_;first|have:=aG hx_|have:=aQ hx_|skip))|(refine cw_cond (ht:=?_) (hf:=?_);all_goals (intro hx_;first|have:=aG hx_|have:=aQ hx_|skip)))
 refine aM (p:=s3.n=M.length∧(0<M.length→s3.p.isSome=true)) (fun w h=>⟨by have:=RowsD.len (hw3 w h.2);simpa [strs] using this,fun h0=>(hw3 w h.2).some_ h0⟩) fun ⟨hs3n,hs3p⟩=>?_
 refine QR (h:=?_)
 repeat' (first|apply bq|apply QQ|refine aX ?_|refine aD ?_|refine bC ?_|refine bU ?_|refine aE ?_|refine aH ?_|refine aI ?_|refine dv ?_|refine bF ?_|refine bN ?_|refine bA ?_|refine bM ?_|refine cg ?_|refine bj ?_|refine bw ?_|refine be ?_|refine bE ?_|refine bY ?_|refine co (h:=?_)|refine cO (h:=?_)|refine aT ?_|refine aU ?_|refine aS ?_|refine aR fun _=>?_|refine bH fun _=>?_|refine bx ?_|refine aJ ?_|refine QU ?_|refine QV ?_|apply QT|apply QS|apply cw_ret|apply cw_exit|refine sy_beql (h:=?_)|refine br ?_|refine bc ?_|refine aZ ?_|(refine ab (hc:=hgr) (hX:=fun w h=>⟨h.1.1.1.1.2,h.1.2⟩) ?_)|((fail_if_success (refine bI ?_));refine aW (ht:=?_) (hf:=?_);all_goals (intro hx_;first|have:=aG hx_|have:=aQ hx_|skip))|(refine cw_cond (ht:=?_) (hf:=?_);all_goals (intro hx_;first|have:=aG hx_|have:=aQ hx_|skip)))
 refine QR (h:=?_)
 repeat' (first|refine ai (dp false rfl rfl (by rw [Zd (by omega)];rfl)) rfl am rfl ?_|refine ai (dp false rfl rfl (by rw [Zd hz1e.symm];rfl)) rfl am rfl ?_|apply bq|apply QQ|refine aX ?_|refine aD ?_|refine bC ?_|refine bU ?_|refine aE ?_|refine aH ?_|refine aI ?_|refine dv ?_|refine bF ?_|refine bN ?_|refine bA ?_|refine bM ?_|refine cg ?_|refine bj ?_|refine bw ?_|refine be ?_|refine bE ?_|refine bY ?_|refine co (h:=?_)|refine cO (h:=?_)|refine aT ?_|refine aU ?_|refine aS ?_|refine aR fun _=>?_|refine bH fun _=>?_|refine bx ?_|refine aJ ?_|refine QU ?_|refine QV ?_|apply QT|apply QS|apply cw_ret|apply cw_exit|refine sy_beql (h:=?_)|refine br ?_|refine bc ?_|refine aZ ?_|(refine ab (hc:=hfr) (hX:=fun w h=>⟨⟨h.1.1.1.1.2,h.1.2⟩,h.1.1.1.2⟩) ?_)|(refine aw ?_)|(refine aO (q:=c.actsL.length*20) ?_)|(refine fQ ?_)|(refine cU (q:=c.actsL.length*20+14) (u:=.int .i64 z1.epoch) (hF:=fun w h=>hzE w h.1.1.1.1.2) ?_)|(refine bS (hc:=hme) (hX:=fun w h=>⟨⟨h.1.1.1.1.2,h.1.2⟩,h.1.1.1.2⟩) fun v X4 h4=>?_;obtain ⟨s4,rfl,hw4⟩:=h4)|(refine ab (hc:=hsm s3 s4) (hX:=fun w h=>⟨hw3 w h.1.2,hw4 w h.2⟩) ?_)|((fail_if_success (refine bI ?_));refine aW (ht:=?_) (hf:=?_);all_goals (intro hx_;first|have:=aG hx_|have:=aQ hx_|skip))|(refine cw_cond (ht:=?_) (hf:=?_);all_goals (intro hx_;first|have:=aG hx_|have:=aQ hx_|skip)))
 refine gD (st':=⟨[(1,.string id),(3,.int .i64 sc),(4,.string g),(5,st.v),(6,wr.v),(7,.int .i64 at_),(10,.pointer (some ⟨b10,0,none⟩)),(17,.bool true),(19,.pointer (some ⟨b19,0,none⟩)),(20,.pointer (some ⟨b20,0,none⟩)),(22,.int .i64 (d.acts.n:Nat)),(23,.int .i64 x1.epoch),(24,s3.v)],[cel b20 35 d.cells,cel b19 25 [ks.v,s2.v],cel b10 27 k.v.cells.toList],fun w=>(((((Ints w ks L∧Items w s2 I2)∧d.at_ w)∧Strs w st toL)∧Wraps w wr WL)∧Glob w)∧Strs w s3 M⟩) (aj ao (al _) fun w h=>⟨h.1.1,hw3 w h.1.2⟩) ?_
 by_cases hin:¬ (0≤at_∧at_<(s3.n:Int))
 · by_cases hlo:at_<0
   · repeat' (first|refine ai (cf true rfl rfl (Zd hlo)) rfl am rfl ?_|refine gs ?_|refine gs1 fun _=>?_|(refine gp ?_ ?_<;>intro hx_ this)|fail)
     all_goals first
      | exact ad (ag rfl rfl) rfl
   · have hhi:(s3.n:Int)≤at_:=by
      rcases Int.lt_or_le at_ s3.n with h|h
      · exact absurd ⟨by omega,h⟩ hin
      · exact h
     repeat' (first|refine ai (cf false rfl rfl (Zc hlo)) rfl am rfl ?_|refine ai (jf true rfl rfl (Zd hhi)) rfl am rfl ?_|refine gs ?_|refine gs1 fun _=>?_|(refine gp ?_ ?_<;>intro hx_ this)|fail)
     all_goals first
      | exact ad (ag rfl rfl) rfl
 obtain ⟨hi1,hi2⟩:=Classical.not_not.1 hin
 obtain ⟨i,rfl⟩:=Int.eq_ofNat_of_zero_le hi1
 have hil:i<M.length:=by omega
 have hs3p':=hs3p aa
 obtain ⟨y,hy⟩:∃ y,M[i]?=some y:=⟨_,Zb hil⟩
 have hym:=Z6 hy
 have hyC:∀ w,Strs w s3 M→CellAt w s3.p i (.string y):=fun w h=>h.at_ hy
 have hxS:(blkZ y).Sm:=wJ (hbs y hym)
 repeat' (first|refine ai (cf false rfl rfl (Zc aa)) rfl am rfl ?_|refine ai (jf false rfl rfl (Zc aa)) rfl am rfl ?_|(refine ab (hc:=ot d 10 1) (hX:=fun _ _=>trivial) ?_)|refine gs ?_|refine gs1 fun _=>?_|(refine aO (q:=i) ?_)|(refine cU (q:=i) (u:=.string y) (hF:=fun w h=>hyC w h.2) ?_)|(refine gp ?_ ?_<;>intro hx_ this)|fail)
 rename_i b28
 have hx1R:(draftX d { blkZ y with time:=1 }).Rng:=⟨⟨by show (d.acts.n:Int)<_;omega,(dJ y).ints.2.1,by show (1:Int)<_;decide,(dJ y).ints.2.2.2⟩,(dJ y).wints,(dJ y).to_len,(dJ y).wraps_len⟩
 have hx1S:(draftX d { blkZ y with time:=1 }).Sm:=⟨hxS.to,hxS.wraps,hxS.target⟩
 have hbR:=ux (k:=k) (c:=d) (dJ y) aa
 have hbS:=AZ (k:=k) (c:=d) hxS
 have hsg:Mk Tryz.prog 36 #[k.v,(draftX d { blkZ y with time:=1 }).v] (fun w=>(draftX d { blkZ y with time:=1 }).at_ w∧Glob w) (ActTo (sgA k d (blkZ y))):=jx k (draftX d { blkZ y with time:=1 }) hx1R hx1S
 obtain ⟨b,hb⟩:∃ b,sgA k d (blkZ y)=b:=⟨_,rfl⟩
 rw [hb] at hbR hbS hsg
 refine gD (st':=⟨[(1,.string id),(3,.int .i64 sc),(4,.string g),(5,st.v),(6,wr.v),(7,.int .i64 (i:Nat)),(10,.pointer (some ⟨b10,0,none⟩)),(17,.bool true),(19,.pointer (some ⟨b19,0,none⟩)),(20,.pointer (some ⟨b20,0,none⟩)),(22,.int .i64 (d.acts.n:Nat)),(23,.int .i64 x1.epoch),(24,s3.v),(28,.pointer (some ⟨b28,0,none⟩))],[cel b28 46 (draftX d { blkZ y with time:=1 }).cells,cel b20 35 d.cells,cel b19 25 [ks.v,s2.v],cel b10 27 k.v.cells.toList],fun w=>(((((Ints w ks L∧Items w s2 I2)∧d.at_ w)∧Strs w st toL)∧Wraps w wr WL)∧Glob w)∧Strs w s3 M⟩) (aj ao (al _) fun w h=>h) ?_
 repeat apply QQ
 refine fX (ι:=AddW L I2 s2 b) (fun m=>⟨[(1,.string id),(3,.int .i64 sc),(4,.string g),(5,st.v),(6,wr.v),(7,.int .i64 (i:Nat)),(10,.pointer (some ⟨b10,0,none⟩)),(17,.bool true),(22,.int .i64 (d.acts.n:Nat)),(23,.int .i64 x1.epoch),(24,s3.v),(29,.pointer (some ⟨m.bk,0,none⟩))],[cel m.bk 25 [ks.v,m.s.v],cel b10 27 k.v.cells.toList],fun w=>((((((Ints w ks L∧Items w s2 I2)∧d.at_ w)∧Strs w st toL)∧Wraps w wr WL)∧Glob w)∧Strs w s3 M)∧m.Y w⟩) ?_ fun m=>?_
 · (refine aq ⟨[0,1,2],[(3,⟨[],[(4,⟨[],[(5,⟨[6,7,8],[(9,⟨[],[(10,⟨[11],[]⟩)]⟩)]⟩),(9,⟨[],[(5,⟨[6,7,8],[(10,⟨[11],[]⟩)]⟩)]⟩)]⟩),(9,⟨[],[(4,⟨[],[(5,⟨[6,7,8],[(10,⟨[11],[]⟩)]⟩)]⟩)]⟩)]⟩),(9,⟨[],[(3,⟨[],[(4,⟨[],[(5,⟨[6,7,8],[(10,⟨[11],[]⟩)]⟩)]⟩)]⟩)]⟩)]⟩ [cel b28 46 (draftX d { blkZ y with time:=1 }).cells,cel b19 25 [ks.v,s2.v],cel b10 27 k.v.cells.toList] (fun w=>(((((Ints w ks L∧Items w s2 I2)∧d.at_ w)∧Strs w st toL)∧Wraps w wr WL)∧Glob w)∧Strs w s3 M) (h:=?_))
   all_goals repeat' (first|((refine bS (hc:=hsg) (hX:=fun w h=>⟨wK w y,h.1.2⟩) fun v X5 h5=>?_;obtain ⟨t1,t2,rfl,e1,e2,hw5⟩:=h5))|((refine bS (hc:=kJ (b.re t1 t2) (fw hbR e1 e2) (kz hbS e1 e2)) (hX:=fun w h=>hw5 w h.2) fun v X6 h6=>?_;obtain ⟨t3,t4,rfl,e3,e4,hw6⟩:=h6;refine cD (X':=fun w=>((((((Ints w ks L∧Items w s2 I2)∧d.at_ w)∧Strs w st toL)∧Wraps w wr WL)∧Glob w)∧Strs w s3 M)∧X6 w) (fun w h=>⟨h.1.1,h.2⟩) ?_))|((refine bS (hc:=rj ks s2 hK2 (ofActI (b.re t3 t4)) (fw hbR (e3.trans e1) (e4.trans e2)) rfl) (hX:=fun w h=>⟨⟨h.1.1.1.1.1.1,hw6 w h.2,aY w 1⟩,h.1.1.2⟩) fun v X7 h7=>?_;obtain ⟨s,rfl,hw7⟩:=h7))|refine gdz ?_|refine az ?_ (h':=?_)|exact aA|refine gs1 fun _=>?_|(refine gq ?_ ?_<;>intro hx_ this)|fail)
   all_goals first
    | exact ⟨(⟨t3,t4,s,_,fun w=>X6 w∧X7 w,e3.trans e1,e4.trans e2,fun w h=>hw7 w ⟨h.1,h.2.2⟩⟩:AddW L I2 s2 b),aj ao (.cons_cons _ (.cons _ (.cons _ (.cons _ (.cons_cons _ (Zu _)))))) fun w h=>⟨h.1.1,h.1.2,h.2⟩⟩
 obtain ⟨t3,t4,s,bk,Y,e3,e4,hwI⟩:=m
 simp only
 have hK3:KnR L (addK L I2 (ofActI (b.re t3 t4))):=nU hK2 (fw hbR e3 e4) (kz hbS e3 e4) rfl aa
 have hl3:=tO L I2 (ofActI (b.re t3 t4))
 apply QQ
 apply QR
 repeat' (first|apply bq|apply QQ|refine aX ?_|refine aD ?_|refine bC ?_|refine bU ?_|refine aE ?_|refine aH ?_|refine aI ?_|refine dv ?_|refine bF ?_|refine bN ?_|refine bA ?_|refine bM ?_|refine cg ?_|refine bj ?_|refine bw ?_|refine be ?_|refine bE ?_|refine bY ?_|refine co (h:=?_)|refine cO (h:=?_)|refine aT ?_|refine aU ?_|refine aS ?_|refine aR fun _=>?_|refine bH fun _=>?_|refine bx ?_|refine aJ ?_|refine QU ?_|refine QV ?_|apply QT|apply QS|apply cw_ret|apply cw_exit|refine sy_beql (h:=?_)|refine br ?_|refine bc ?_|refine aZ ?_|(refine bS (hc:=jX ks s hK3 id) (hX:=fun w h=>⟨⟨h.1.1.1.1.1.1.1,hwI w ⟨h.1.1.1.1.1.1.2,h.2⟩⟩,h.1.1.2⟩) fun v X8 h8=>?_;obtain ⟨f,kl3,hQ3,rfl,hw8⟩:=h8)|((fail_if_success (refine bI ?_));refine aW (ht:=?_) (hf:=?_);all_goals (intro hx_;first|have:=aG hx_|have:=aQ hx_|skip))|(refine cw_cond (ht:=?_) (hf:=?_);all_goals (intro hx_;first|have:=aG hx_|have:=aQ hx_|skip)))
 rename_i b31
 refine aM (p:=f.acts.n=f.actsL.length) (fun w h=>(hw8 w h.2).1.len_) fun hfn=>?_
 refine QR (h:=?_)
 by_cases hone:¬ (f.acts.n:Int)=(d.acts.n:Int)+1
 · repeat' (first|refine ai (dp true rfl rfl (by rw [Zc hone];rfl)) rfl am rfl ?_|refine gs ?_|refine gs1 fun _=>?_|(refine gp ?_ ?_<;>intro hx_ this)|fail)
   all_goals first
    | exact ad (ag rfl rfl) rfl
 have hone:(f.acts.n:Int)=(d.acts.n:Int)+1:=Classical.not_not.1 hone
 have hSD:SignD L I2 d f k { blkZ y with time:=1 } b:=by
  subst hb
  exact (nk hK2 hQ2 aa hdn hfn e3 e4 (by rw [g8 hQ2];exact hQ3) hone).1
 have hbk:b.kind=10:=hSD.kind
 have hbt:b.target=y:=hSD.target
 have hbto:b.toL=[]:=by rw [hSD.sig];rfl
 have hMf:More d f b:=⟨(g8 hQ3).trans (g8 hQ2).symm,hSD.acts⟩
 obtain ⟨I3,hI3⟩:∃ x,addK L I2 (ofActI (b.re t3 t4))=x:=⟨_,rfl⟩
 rw [hI3] at hK3 hl3 hQ3 hwI
 clear hSD hsg hbR hbS
 have G3:=fS hK3 hQ3
 have hG3:=G3.len
 have hfto:∀ x∈f.actsL,x.to.n≤8:=fun x hx=>by
  rw [(G3.ok.rng x hx).to_len]
  exact qJ hMf (fun y hy=>by rw [←(G2.ok.rng y hy).to_len];exact hdto y hy) (by rw [hbto];exact Z4 _) x hx
 have hfto6:∀ x∈f.actsL,x.to.n≤1000000:=fun x hx=>ZY (hfto x hx) (by decide)
 obtain ⟨hfb1,hfb2,-⟩:=jc hGM hMf hbk hbt (by rw [hM];exact hym)
 have hfl:((f.actsL.length:Nat):Int)=(d.acts.n:Int)+1:=by omega
 rw [hfl] at hfb1 hfb2
 have hfr2:=oa f G3.ok aa hfto6 ((d.acts.n:Int)+1) sc g st toL aa
 have hme2:=ez f G3.ok aa hfto6 ((d.acts.n:Int)+1) sc g st toL aa
 rw [hfb1] at hfr2
 obtain ⟨MF,hMF⟩:∃ x,membersV f ((d.acts.n:Int)+1) sc g toL=x:=⟨_,rfl⟩
 rw [hMF] at hme2 hfb2
 have hhF:=fun s:SlV=>tq s MF y
 simp only [show has21V MF y=false from tr hfb2] at hhF
 refine cD (X':=fun w=>(((((Ints w ks L∧Items w s I3)∧f.at_ w)∧Strs w st toL)∧Wraps w wr WL)∧Glob w)∧Strs w s3 M) (fun w h=>⟨⟨⟨⟨⟨⟨h.1.1.1.1.1.1.1.1,hwI w ⟨h.1.1.1.1.1.1.1.2,h.1.2⟩⟩,(hw8 w h.2).1⟩,h.1.1.1.1.1.2⟩,h.1.1.1.1.2⟩,h.1.1.1.2⟩,h.1.1.2⟩) ?_
 repeat' (first|refine ai (dp false rfl rfl (by rw [Zd hone];rfl)) rfl am rfl ?_|apply bq|apply QQ|refine aX ?_|refine aD ?_|refine bC ?_|refine bU ?_|refine aE ?_|refine aH ?_|refine aI ?_|refine dv ?_|refine bF ?_|refine bN ?_|refine bA ?_|refine bM ?_|refine cg ?_|refine bj ?_|refine bw ?_|refine be ?_|refine bE ?_|refine bY ?_|refine co (h:=?_)|refine cO (h:=?_)|refine aT ?_|refine aU ?_|refine aS ?_|refine aR fun _=>?_|refine bH fun _=>?_|refine bx ?_|refine aJ ?_|refine QU ?_|refine QV ?_|apply QT|apply QS|apply cw_ret|apply cw_exit|refine sy_beql (h:=?_)|refine br ?_|refine bc ?_|refine aZ ?_|((fail_if_success (refine bI ?_));refine aW (ht:=?_) (hf:=?_);all_goals (intro hx_;first|have:=aG hx_|have:=aQ hx_|skip))|(refine cw_cond (ht:=?_) (hf:=?_);all_goals (intro hx_;first|have:=aG hx_|have:=aQ hx_|skip)))
 repeat apply QQ
 (refine aq ⟨[0,1,2,3,4,5],[(6,⟨[7,8,9,10,11,12,13,14,16,17,18,19],[(15,⟨[],[(20,⟨[21],[]⟩)]⟩)]⟩)]⟩ [cel b31 35 f.cells,cel bk 25 [ks.v,s.v],cel b10 27 k.v.cells.toList] (fun w=>(((((Ints w ks L∧Items w s I3)∧f.at_ w)∧Strs w st toL)∧Wraps w wr WL)∧Glob w)∧Strs w s3 M) (h:=?_))
 all_goals repeat' (first|(refine ab (hc:=hfr2) (hX:=fun w h=>⟨⟨h.1.1.1.1.2,h.1.2⟩,h.1.1.1.2⟩) ?_)|((refine bS (hc:=hme2) (hX:=fun w h=>⟨⟨h.1.1.1.1.2,h.1.2⟩,h.1.1.1.2⟩) fun v X9 h9=>?_;obtain ⟨s9,rfl,hw9⟩:=h9))|(refine ab (hc:=hhF s9) (hX:=fun w h=>hw9 w h.2) ?_)|refine gdz ?_|refine ay (hsub:=by exact aK) (hy:=by first|(apply aC (q:=i);rfl;rfl;omega;omega;assumption;omega)|(apply dR (t:=9) (q:=i) (u:=.string y);rfl;exact fun w h=>hyC w h.2)) ?_|refine az ?_ (h':=?_)|exact aA|refine gs1 fun _=>?_|(refine gq ?_ ?_<;>intro hx_ this)|fail)
 repeat' (first|apply bq|apply QQ|refine aX ?_|refine aD ?_|refine bC ?_|refine bU ?_|refine aE ?_|refine aH ?_|refine aI ?_|refine dv ?_|refine bF ?_|refine bN ?_|refine bA ?_|refine bM ?_|refine cg ?_|refine bj ?_|refine bw ?_|refine be ?_|refine bE ?_|refine bY ?_|refine co (h:=?_)|refine cO (h:=?_)|refine aT ?_|refine aU ?_|refine aS ?_|refine aR fun _=>?_|refine bH fun _=>?_|refine bx ?_|refine aJ ?_|refine QU ?_|refine QV ?_|apply QT|apply QS|apply cw_ret|apply cw_exit|refine sy_beql (h:=?_)|refine br ?_|refine bc ?_|refine aZ ?_|((fail_if_success (refine bI ?_));refine aW (ht:=?_) (hf:=?_);all_goals (intro hx_;first|have:=aG hx_|have:=aQ hx_|skip))|(refine cw_cond (ht:=?_) (hf:=?_);all_goals (intro hx_;first|have:=aG hx_|have:=aQ hx_|skip)))
 refine QR (h:=?_)
 have hgr2:=j7 ks s hK3 aa hQ3 hfto k sc hsc g st toL aa wr WL aa hwr
 repeat' (first|apply bq|apply QQ|refine aX ?_|refine aD ?_|refine bC ?_|refine bU ?_|refine aE ?_|refine aH ?_|refine aI ?_|refine dv ?_|refine bF ?_|refine bN ?_|refine bA ?_|refine bM ?_|refine cg ?_|refine bj ?_|refine bw ?_|refine be ?_|refine bE ?_|refine bY ?_|refine co (h:=?_)|refine cO (h:=?_)|refine aT ?_|refine aU ?_|refine aS ?_|refine aR fun _=>?_|refine bH fun _=>?_|refine bx ?_|refine aJ ?_|refine QU ?_|refine QV ?_|apply QT|apply QS|apply cw_ret|apply cw_exit|refine sy_beql (h:=?_)|refine br ?_|refine bc ?_|refine aZ ?_|(refine bS (hc:=hgr2) (hX:=fun w h=>h.1.1) fun v X10 h10=>?_;obtain ⟨s10,gg,I4,F2,rfl,hw10,hF2⟩:=h10)|((fail_if_success (refine bI ?_));refine aW (ht:=?_) (hf:=?_);all_goals (intro hx_;first|have:=aG hx_|have:=aQ hx_|skip))|(refine cw_cond (ht:=?_) (hf:=?_);all_goals (intro hx_;first|have:=aG hx_|have:=aQ hx_|skip)))
 rename_i b32 b33
 refine gD (st':=⟨[(3,.int .i64 sc),(4,.string g),(7,.int .i64 (i:Nat)),(17,.bool true),(22,.int .i64 (d.acts.n:Nat)),(23,.int .i64 x1.epoch),(24,s3.v),(33,.pointer (some ⟨b33,0,none⟩)),(34,.bool F2)],[cel b33 35 gg.cells],fun w=>(Glob w∧Strs w s3 M)∧gg.at_ w⟩) (aj ao (.cons_cons _ (Zu _)) fun w h=>⟨⟨h.1.1.1.2,h.1.1.2⟩,(hw10 w ⟨⟨h.1.1.1.1.1.1.1.2,h.1.1.1.1.1.1.2⟩,h.2⟩).2⟩) ?_
 cases F2 with
 | false =>
  repeat' (first|refine gs ?_|refine gs1 fun _=>?_|(refine gp ?_ ?_<;>intro hx_ this)|fail)
  all_goals first
   | exact ad (ag rfl rfl) rfl
 | true =>
 obtain ⟨-,hK4,hl4,⟨kl4,hQ4⟩,b2,hGN,-,-,-,-⟩:=hF2 rfl
 have G4:=fS hK4 hQ4
 have hgl:=hGN.more.len
 obtain ⟨hn1,hn2,hn3⟩:=uy hGM hMf hbk hbt (by rw [hM];exact hym) hGN
 obtain ⟨x2,hx2,hx2e,hx2t⟩:=hGN.some_
 rw [hM] at hn2
 have hep2:=gC gg G4.ok ((d.acts.n:Int)+2) sc g
 rw [show ((gg.actsL.length:Nat):Int)=(d.acts.n:Int)+2 from by omega] at hx2
 rw [hx2] at hep2
 obtain ⟨M2,hM2⟩:∃ x,b2.toL=x:=⟨_,rfl⟩
 rw [hM2] at hx2t hn2 hn3
 have hep2:Mk Tryz.prog 30 #[gg.v,.int .i64 ((d.acts.n:Int)+2),.int .i64 sc,.string g] (XC gg) (fun u X=>∃ s:SlV,u=.tuple #[.int .i64 x2.epoch,s.v,.bool true]∧∀ w,X w→Strs w s M2):=mi hep2 fun u X ⟨s,h1,h2⟩=>⟨s,h1,fun w h=>by rw [←hx2t];exact h2 w h⟩
 have hee:x2.epoch=x1.epoch+1:=by rw [hx2e,hn1,hx1e]
 have hhM:=fun s:SlV=>tq s M2 y
 simp only [show has21V M2 y=false from tr hn3] at hhM
 refine QR (h:=?_)
 repeat' (first|apply bq|apply QQ|refine aX ?_|refine aD ?_|refine bC ?_|refine bU ?_|refine aE ?_|refine aH ?_|refine aI ?_|refine dv ?_|refine bF ?_|refine bN ?_|refine bA ?_|refine bM ?_|refine cg ?_|refine bj ?_|refine bw ?_|refine be ?_|refine bE ?_|refine bY ?_|refine co (h:=?_)|refine cO (h:=?_)|refine aT ?_|refine aU ?_|refine aS ?_|refine aR fun _=>?_|refine bH fun _=>?_|refine bx ?_|refine aJ ?_|refine QU ?_|refine QV ?_|apply QT|apply QS|apply cw_ret|apply cw_exit|refine sy_beql (h:=?_)|refine br ?_|refine bc ?_|refine aZ ?_|((fail_if_success (refine bI ?_));refine aW (ht:=?_) (hf:=?_);all_goals (intro hx_;first|have:=aG hx_|have:=aQ hx_|skip))|(refine cw_cond (ht:=?_) (hf:=?_);all_goals (intro hx_;first|have:=aG hx_|have:=aQ hx_|skip)))
 refine QR (h:=?_)
 repeat' (first|apply bq|apply QQ|refine aX ?_|refine aD ?_|refine bC ?_|refine bU ?_|refine aE ?_|refine aH ?_|refine aI ?_|refine dv ?_|refine bF ?_|refine bN ?_|refine bA ?_|refine bM ?_|refine cg ?_|refine bj ?_|refine bw ?_|refine be ?_|refine bE ?_|refine bY ?_|refine co (h:=?_)|refine cO (h:=?_)|refine aT ?_|refine aU ?_|refine aS ?_|refine aR fun _=>?_|refine bH fun _=>?_|refine bx ?_|refine aJ ?_|refine QU ?_|refine QV ?_|apply QT|apply QS|apply cw_ret|apply cw_exit|refine sy_beql (h:=?_)|refine br ?_|refine bc ?_|refine aZ ?_|(refine bS (hc:=hep2) (hX:=fun w h=>⟨h.2,h.1.1⟩) fun v X11 h11=>?_;obtain ⟨s11,rfl,hw11⟩:=h11)|((fail_if_success (refine bI ?_));refine aW (ht:=?_) (hf:=?_);all_goals (intro hx_;first|have:=aG hx_|have:=aQ hx_|skip))|(refine cw_cond (ht:=?_) (hf:=?_);all_goals (intro hx_;first|have:=aG hx_|have:=aQ hx_|skip)))
 refine aM (p:=s11.n=M2.length) (fun w h=>by have:=RowsD.len (hw11 w h.2);simpa [strs] using this) fun hs11n=>?_
 repeat' (first|refine ai (dS true rfl rfl (Zd aa)) rfl am rfl ?_|refine ai (li (a:=x1.epoch) (b:=1) (c:=x1.epoch+1) rfl rfl (IntWalk.i64_in _ aa)) rfl am rfl ?_|(refine ab (hc:=hhM s11) (hX:=fun w h=>hw11 w h.2) ?_)|refine gs ?_|refine gs1 fun _=>?_|(refine aO (q:=i) ?_)|(refine cU (q:=i) (u:=.string y) (hF:=fun w h=>hyC w h.1.1.2) ?_)|(refine gp ?_ ?_<;>intro hx_ this)|fail)
 all_goals first
  | exact ad (ag rfl rfl) rfl
end Go.Proofs.YtaolfiikahlmkaaGreatDoor
