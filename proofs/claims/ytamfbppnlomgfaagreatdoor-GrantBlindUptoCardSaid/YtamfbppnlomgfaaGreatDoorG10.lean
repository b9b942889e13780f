/- Joined. -/
import Derived.Test.YtamfbppnlomgfaaGreatDoorG9
set_option linter.unusedVariables false
set_option linter.unusedSimpArgs false
set_option maxHeartbeats 16000000
namespace Go.Proofs.YtamfbppnlomgfaaGreatDoor
open Go Go.Proofs Sy Go.RowKit Go.Deep Go.ChangeShapes Tryz
section
variable {H:Type} {enc:TypeId×Value→H} {P:Program} {w:World} {base:Nat} {spare:Nat→Bool} {held:Bool}
theorem gm {d:DataW H}:∀ {l:List (DataW H)},d∈l→Rows.uptoBulk d≤Rows.uptoBulkAll l
 | [],h=>by cases h
 | a::l,h=>by
  rw [Rows.uptoBulkAll]
  rcases ZC.1 h with rfl|h
  · exact Nat.le_add_right _ _
  · exact ZO (gm h) (Nat.le_add_left _ _)
theorem cS {t:TypeId} {fs:Array Field} {fuel:Nat} {cs:List Value} {x:DataW H×List MemPlace} (ht:P.underlying t=some (.struct fs)) (h:DataW.trod enc P w base spare held fuel t cs=some x) {B:Nat} (hB:Rows.uptoBulk x.1≤B) {i:Nat} {f:Field} (hf:fs[i]?=some f) {off k:Nat} {t':TypeId} (ho:f.offset=off) (htt:f.type=t') (hk:P.cellsOf t'=k) :
  ∃ n y,DataW.trod enc P w base spare held n t' ((cs.drop off).take k)=some y∧Rows.uptoBulk y.1≤B:=by
 obtain ⟨xs,n,_,hx1,_,hlen,hg⟩:=DataW.trod_struct ht h
 have h1:=hg i f hf
 have hi:i<fs.size:=(Qv.1 hf).1
 subst ho;subst htt;subst hk
 rw [Zc (by omega)] at h1
 refine ⟨n,_,h1,ZO ?_ hB⟩
 rw [hx1]
 simp only [Rows.uptoBulk]
 exact ZO (gm (Qt.2 ⟨_,ZI _,rfl⟩)) (Nat.le_add_right _ _)
theorem iQ {α:Type} [Inhabited α] {t e:TypeId} {size fuel:Nat} {cs:List Value} {x:DataW H×List MemPlace} (ht:P.underlying t=some (.slice e)) (hc:P.cellsOf e=size) (cells:α→List Value) (Q:α→Prop) {B:Nat} (hB:Rows.uptoBulk x.1≤B)
  (each:∀ n cs y,DataW.trod enc P w base spare held n e cs=some y→Rows.uptoBulk y.1≤B→∃ a,cs=cells a∧Q a) (h:DataW.trod enc P w base spare held fuel t cs=some x) :
  ∃ (s:Xh) (l:List α),cs=[s.v]∧Xd w size s (l.map cells)∧∀ a∈l,Q a:=by
 rcases open_slice ht h with ⟨rfl,_⟩|⟨a,len,cap,m,n,D,Pl,rfl,hb,hl,hm,hmm,hx,hi⟩
 · exact ⟨⟨none,0,0⟩,[],rfl,aG w size,by simp⟩
 · have hlm:len≤m:=by rw [hmm];split<;>omega
   have hel:∀ i,i<len→Rows.uptoBulk (D i)≤B:=fun i hil=>by
    refine ZO ?_ hB
    rw [hx]
    simp only [Rows.uptoBulk]
    exact ZO (gm (Qt.2 ⟨i,List.mem_range.2 hil,rfl⟩)) (ZO (Nat.le_add_right _ _) (Nat.le_add_right _ _))
   have h1:∀ i,i<len→∃ z:α,w.cells? base (a.add (i*size)) size=some (cells z)∧Q z:=fun i hil=>by
    obtain ⟨cs',h2,h3⟩:=hi i ab
    obtain ⟨z,rfl,hz⟩:=each _ _ _ h3 (hel i hil)
    rw [hc] at h2
    exact ⟨z,h2,hz⟩
   obtain ⟨F,hF⟩:=choose_lt h1
   refine ⟨⟨some a,len,cap⟩,(List.range len).map F,rfl,⟨by simp,hl,hm,fun i cs' hcs=>?_⟩,fun z hz=>?_⟩
   · simp only [ZQ,ZX] at hcs
     have hil:i<len:=by
      cases hr:(List.range len)[i]? with
      | none=>rw [hr] at hcs;cases hcs
      | some k=>have:=(Qu.1 hr).1;simpa using this
     rw [List.getElem?_range hil] at hcs
     simp only [Option.map_some,Function.comp_apply,ZE] at hcs
     subst hcs
     obtain ⟨_,hlen,hat⟩:=World.cells?_some (hF i hil).1
     refine ⟨hlen,rfl,fun j u hj=>⟨rfl,fun a' ha'=>?_⟩⟩
     obtain rfl:a=a':=Option.some.inj ha'
     rw [←Go.Deep.add_add,hat j (by rw [←hlen];exact (Qu.1 hj).1),hj]
   · simp only [Qt,List.mem_range] at hz
     obtain ⟨i,hil,rfl⟩:=hz
     exact (hF i hil).2
theorem ff {fuel:Nat} {cs:List Value} {x:DataW H×List MemPlace} (h:DataW.trod enc prog w base spare held fuel 9 cs=some x):∃ s:ByteArray,cs=[.string s]∧s.size≤Rows.uptoBulk x.1:=by
 obtain ⟨s,h1,hx,_⟩:=DataW.trod_string underlying9 h
 refine ⟨s,h1,?_⟩
 rw [hx]
 simp only [Rows.uptoBulk,Array.length_toList]
 exact Nat.le_add_right _ _
theorem jL {fuel:Nat} {cs:List Value} {x:DataW H×List MemPlace} (h:DataW.trod enc prog w base spare held fuel 31 cs=some x) {B:Nat} (hB:Rows.uptoBulk x.1≤B):∃ b:Xo,cs=b.cells∧b.nonce.size≤B∧b.data.size≤B:=by
 have hl:=eO underlying31 (k:=3) ac h
 obtain ⟨n0,y0,h0,w0⟩:=cS (i:=0) (off:=0) (k:=1) (t':=9) underlying31 h hB rfl rfl rfl ac
 obtain ⟨n1,y1,h1,w1⟩:=cS (i:=1) (off:=1) (k:=1) (t':=9) underlying31 h hB rfl rfl rfl ac
 obtain ⟨n2,y2,h2,w2⟩:=cS (i:=2) (off:=2) (k:=1) (t':=9) underlying31 h hB rfl rfl rfl ac
 match cs,hl with
 | [c0,c1,c2],_ =>
  obtain ⟨s0,e0,b0⟩:=ff h0
  obtain ⟨s1,e1,b1⟩:=ff h1
  obtain ⟨s2,e2,b2⟩:=ff h2
  simp at e0 e1 e2
  exact ⟨⟨s0,s1,s2⟩,by rw [e0,e1,e2];rfl,ZO b0 w0,ZO b1 w1⟩
theorem mP {fuel:Nat} {cs:List Value} {x:DataW H×List MemPlace} (h:DataW.trod enc prog w base spare held fuel 47 cs=some x) {B:Nat} (hB:Rows.uptoBulk x.1≤B):∃ b:Xk,cs=b.cells∧b.to<9223372036854775808∧b.box.nonce.size≤B∧b.box.data.size≤B:=by
 have hl:=eO underlying47 (k:=5) ac h
 obtain ⟨n0,y0,h0,_⟩:=cS (i:=0) (off:=0) (k:=1) (t':=3) underlying47 h hB rfl rfl rfl ac
 obtain ⟨n1,y1,h1,_⟩:=cS (i:=1) (off:=1) (k:=1) (t':=3) underlying47 h hB rfl rfl rfl ac
 obtain ⟨n2,y2,h2,w2⟩:=cS (i:=2) (off:=2) (k:=3) (t':=31) underlying47 h hB rfl rfl rfl ac
 match cs,hl with
 | [c0,c1,c2,c3,c4],_ =>
  obtain ⟨s0,e0,b0⟩:=aS h0
  obtain ⟨s1,e1,b1⟩:=aS h1
  obtain ⟨s2,e2,b2,b3⟩:=jL h2 w2
  simp [Xo.cells] at e0 e1 e2
  exact ⟨⟨s0,s1,s2⟩,by simp [Xk.cells,e0,e1,e2],b0,b2,b3⟩
theorem k9 {w:World} {s:Xh} {l m:List Xk} (h1:Wraps w s l) (h2:Wraps w s m):l=m:=by
 have hl:l.length=m.length:=h1.len_.symm.trans h2.len_
 apply List.ext_getElem hl
 intro i i1 i2
 have a1:=(Wraps.get h1 (Zc i1)).2
 have a2:=(Wraps.get h2 (Zc i2)).2
 obtain ⟨ad,had⟩:=Qx.1 a1.1
 have hc:∀ j u v,(l[i]).cells[j]?=some u→(m[i]).cells[j]?=some v→u=v:=fun j u v hu hv=>by
  have:=((a1.2 j u hu).2 ad had).symm.trans ((a2.2 j v hv).2 ad had)
  exact Option.some.inj this
 have c0:=Value.int.inj (hc 0 _ _ rfl rfl)
 have c1:=Value.int.inj (hc 1 _ _ rfl rfl)
 have c2:=Value.string.inj (hc 2 _ _ rfl rfl)
 have c3:=Value.string.inj (hc 3 _ _ rfl rfl)
 have c4:=Value.string.inj (hc 4 _ _ rfl rfl)
 have e:∀ x y:Xk,x.to=y.to→x.eph=y.eph→x.box.nonce=y.box.nonce→x.box.data=y.box.data→x.box.tag=y.box.tag→x=y:=fun ⟨_,_,_,_,_⟩ ⟨_,_,_,_,_⟩ h0 h1 h2 h3 h4=>by
  cases h0;cases h1;cases h2;cases h3;cases h4;rfl
 exact e _ _ c0.2 c1.2 c2 c3 c4
theorem qx {s t:Xh} (h:s.v=t.v):s=t:=by
 obtain ⟨p,n,c⟩:=s
 obtain ⟨p',n',c'⟩:=t
 simp only [Xh.v,Value.slice.injEq] at h
 obtain ⟨rfl,rfl,rfl⟩:=h
 rfl
theorem tv {fuel:Nat} {a:Xa} {x:DataW H×List MemPlace} (h:DataW.trod enc prog w base spare held fuel 36 a.cells=some x) (hB:Rows.uptoBulk x.1≤1048576) (ha:a.at_ w):a.Szs:=by
 obtain ⟨n8,y8,h8,w8⟩:=cS (i:=8) (off:=8) (k:=1) (t':=9) underlying36 h hB rfl rfl rfl ac
 obtain ⟨n11,y11,h11,w11⟩:=cS (i:=11) (off:=11) (k:=3) (t':=31) underlying36 h hB rfl rfl rfl ac
 obtain ⟨n13,y13,h13,w13⟩:=cS (i:=13) (off:=15) (k:=1) (t':=32) underlying36 h hB rfl rfl rfl ac
 obtain ⟨s8,e8,b8⟩:=ff h8
 obtain ⟨s11,e11,b11,c11⟩:=jL h11 w11
 haveI:Inhabited Xk:=⟨⟨0,0,Xo.zero⟩⟩
 obtain ⟨s13,l13,e13,r13,q13⟩:=iQ (α:=Xk) underlying32 (size:=5) ac Xk.cells (fun b=>b.to<9223372036854775808∧b.box.nonce.size≤1048576∧b.box.data.size≤1048576) w13 (fun n cs y hy hb=>mP hy hb) h13
 simp [Xa.cells] at e8 e13
 rw [Xa.cells_body] at e11
 simp only [Xo.cells,List.cons.injEq,Value.string.injEq] at e11
 have e13':=qx e13
 have hw:=ha.2
 rw [e13'] at hw
 have e:=k9 hw r13
 subst e8
 refine ⟨by omega,by rw [e11.1,e11.2.1];omega,fun b hb=>?_,fun b hb=>?_⟩
 · have:=q13 b (e▸hb)
   omega
 · exact (q13 b (e▸hb)).1
theorem o7 {fuel:Nat} {cs:List Value} {x:DataW H×List MemPlace} (h:DataW.trod enc prog w base spare held fuel 36 cs=some x) (hB:Rows.uptoBulk x.1≤1048576):∃ a:Xa,cs=a.cells∧a.at_ w∧a.Rng∧a.target.size≤maxLen∧a.Szs:=by
 obtain ⟨a,e,h1,h2,h3⟩:=qT h
 subst e
 exact ⟨a,rfl,h1,h2,h3,tv h hB h1⟩
theorem lC {fuel:Nat} {cs:List Value} {x:DataW H×List MemPlace} (h:DataW.trod enc prog w base spare held fuel 26 cs=some x) (hB:Rows.uptoBulk x.1≤1048576):∃ (c:Xb) (kl:List Xg),cs=c.cells∧c.at_ w∧Keyz w c.keys kl∧∀ a∈c.actsL,a.Rng∧a.target.size≤maxLen∧a.Szs:=by
 have hl:=eO underlying26 (k:=6) ac h
 obtain ⟨n0,y0,h0⟩:=aQ (i:=0) (off:=0) (k:=1) (t':=9) underlying26 h rfl rfl rfl ac
 obtain ⟨n1,y1,h1,w1⟩:=cS (i:=1) (off:=1) (k:=1) (t':=23) underlying26 h hB rfl rfl rfl ac
 obtain ⟨n2,y2,h2⟩:=aQ (i:=2) (off:=2) (k:=1) (t':=24) underlying26 h rfl rfl rfl ac
 obtain ⟨n3,y3,h3⟩:=aQ (i:=3) (off:=3) (k:=1) (t':=9) underlying26 h rfl rfl rfl ac
 obtain ⟨n4,y4,h4⟩:=aQ (i:=4) (off:=4) (k:=1) (t':=3) underlying26 h rfl rfl rfl ac
 obtain ⟨n5,y5,h5⟩:=aQ (i:=5) (off:=5) (k:=1) (t':=4) underlying26 h rfl rfl rfl ac
 match cs,hl with
 | [c0,c1,c2,c3,c4,c5],_ =>
  obtain ⟨s0,e0,b0⟩:=bz h0
  haveI:Inhabited Xa:=⟨Xa.zero⟩
  obtain ⟨s1,l1,e1,r1,q1⟩:=iQ (α:=Xa) underlying23 (size:=20) ac Xa.cells (fun a=>a.at_ w∧a.Rng∧a.target.size≤maxLen∧a.Szs) w1 (fun n cs y hy hb=>o7 hy hb) h1
  obtain ⟨s2,l2,e2,r2,_⟩:=o6 h2
  obtain ⟨s3,e3,b3⟩:=bz h3
  obtain ⟨s4,e4,b4⟩:=aS h4
  obtain ⟨s5,e5⟩:=mR h5
  simp at e0 e1 e2 e3 e4 e5
  exact ⟨⟨s0,s1,s2,s3,s4,s5,l1⟩,l2,by simp [Xb.cells,e0,e1,e2,e3,e4,e5],⟨r1,fun a ha=>(q1 a ha).1⟩,r2,fun a ha=>(q1 a ha).2⟩
theorem mQ {fuel:Nat} {cs:List Value} {x:DataW H×List MemPlace} (h:DataW.trod enc prog w base spare held fuel 22 cs=some x):∃ (s:Xh) (l:List Int),cs=[s.v]∧Ints w s l∧∀ n∈l,n<9223372036854775808:=by
 obtain ⟨s,l,h1,h2,h3⟩:=fg (α:=Int) underlying22 (size:=1) ac (fun n=>[.int .i64 n]) (fun n=>n<9223372036854775808) (fun n cs y hy=>by obtain ⟨s,h1,h2⟩:=aS hy;exact ⟨s,h1,h2⟩) h
 exact ⟨s,l,h1,h2,h3⟩
end
end Go.Proofs.YtamfbppnlomgfaaGreatDoor
