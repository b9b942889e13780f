/- Joined. -/
import Derived.Test.YtgffbiobmamobaaGreatDoorI0
import Derived.Test.YtgffbiobmamobaaGreatDoorI24
import Derived.Test.YtgffbiobmamobaaGreatDoorI21
import Derived.Test.YtgffbiobmamobaaGreatDoorI1
import Derived.Test.YtgffbiobmamobaaGreatDoorI40
import Derived.Test.YtgffbiobmamobaaGreatDoorI42
import Derived.Test.YtgffbiobmamobaaGreatDoorI43
import Derived.Test.YtgffbiobmamobaaGreatDoorI28
import Derived.Test.YtgffbiobmamobaaGreatDoorI47
set_option linter.unusedVariables false
set_option linter.unusedSimpArgs false
set_option maxHeartbeats 16000000
namespace Go.Proofs.YtgffbiobmamobaaGreatDoor
open Go Go.Proofs Sy
theorem qo {I:List Xb} (h:Asc (I.map digIt)) {it:Xb} (hi:it∈I):∃ A B,I=A++it::B∧withoutV I (digIt it)=A++B:=by
 obtain ⟨A,B,rfl⟩:=List.append_of_mem hi
 refine ⟨A,B,rfl,?_⟩
 have hne:∀ x,x∈A∨x∈B→notB (digIt it) x=true:=fun x hx=>by
  have h1:digIt x≠digIt it:=by
   rw [List.map_append,List.map_cons,Asc,List.pairwise_append,List.pairwise_cons] at h
   rcases hx with hx|hx
   · have h2:=h.2.2 _ (List.mem_map_of_mem hx) _ ay
     intro e
     rw [e] at h2
     exact absurd h2 (by rw [fV];decide)
   · have h2:=h.2.1.1 _ (List.mem_map_of_mem hx)
     intro e
     rw [e] at h2
     exact absurd h2 (by rw [fV];decide)
  rw [notB,Bool.not_eq_true']
  cases hs:seqB (digIt x) (digIt it) with
  | false=>rfl
  | true=>exact absurd (seqB_iff.1 hs) h1
 rw [withoutV,List.filter_append,List.filter_cons_of_neg (by rw [notB,c8];decide),List.filter_eq_self.2 fun x hx=>hne x (.inl hx),List.filter_eq_self.2 fun x hx=>hne x (.inr hx)]
def neqN (n:Int) (d:Xf):Bool:=!decide (d.number=n)
theorem lj {L:List Int} {I J:List Xb} (h:Ec L I) (hs:J.Sublist I):Ec L J:=by
 have hm:=hs.subset
 have hd:∀ sv,(selD sv rightIt J).Sublist (selD sv rightIt I):=fun sv=>(hs.filter _).map _
 exact ⟨fun i hi=>h.rng i (hm hi),fun i hi=>h.fit i (hm hi),fun i hi=>h.big i (hm hi),fun i hi=>h.sig i (hm hi),Nat.le_trans hs.length_le h.len,fun sv=>Nat.le_trans (hd sv).length_le (h.few sv),fun sv=>((hd sv).map _).nodup (h.num sv)⟩
theorem jp (I:List Xb) (d:ByteArray):(withoutV I d).Sublist I:=List.filter_sublist
theorem iE (sv:Int) (I:List Xb):(decsV sv I).Pairwise fun a b=>decide (a.number≤b.number)=true :=
 List.pairwise_mergeSort (le:=fun a b:Xf=>decide (a.number≤b.number)) (fun a b c h1 h2=>decide_eq_true (Int.le_trans (bm h1) (bm h2))) (fun a b=>by
  by_cases h:a.number≤b.number
  · rw [decide_eq_true h];rfl
  · rw [decide_eq_true (show b.number≤a.number by omega),Bool.or_true]) _
theorem jF {L:List Int} {I:List Xb} (h:Ec L I) (sv:Int):((decsV sv I).map Xf.number).Nodup:=by
 have hp:=(List.mergeSort_perm ((selD sv rightIt I).map Xf.can) fun a b=>decide (a.number≤b.number)).map Xf.number
 refine hp.nodup_iff.2 ?_
 rw [List.map_map]
 exact h.num sv
theorem lG {L:List Int} {I:List Xb} (h:Ec L I) (ha:Asc (I.map digIt)) {it:Xb} (hi:it∈I) {sv:Int} (hk:it.kind=3) (hsv:it.dec.server=sv) (hr:rightIt it=true) :
  it.dec.can∈decsV sv I∧decsV sv (withoutV I (digIt it))=(decsV sv I).filter (neqN it.dec.number):=by
 obtain ⟨A,B,hI,hW⟩:=qo ha hi
 have hsel:selBD sv rightIt it=true:=by
  rw [selBD,wantD,hr,decide_eq_true hk,decide_eq_true hsv];rfl
 have h1:selD sv rightIt I=selD sv rightIt A++it.dec::selD sv rightIt B:=by
  rw [hI,selD,List.filter_append,List.filter_cons_of_pos hsel,List.map_append,List.map_cons,selD,selD]
 have h2:selD sv rightIt (withoutV I (digIt it))=selD sv rightIt A++selD sv rightIt B:=by
  rw [hW,selD,List.filter_append,List.map_append,selD,selD]
 have hm:=List.mergeSort_perm ((selD sv rightIt I).map Xf.can) fun a b=>decide (a.number≤b.number)
 have hn:=h.num sv
 refine ⟨hm.mem_iff.2 ?_,?_⟩
 · rw [h1]
   exact List.mem_map_of_mem (List.mem_append_right _ ay)
 have hn2:∀ d,d∈selD sv rightIt A∨d∈selD sv rightIt B→d.number≠it.dec.number:=fun d hd e=>by
  rw [h1,List.map_append,List.map_cons,List.nodup_append] at hn
  rcases hd with hd|hd
  · exact hn.2.2 _ (List.mem_map_of_mem hd) _ ay e
  · have h3:=hn.2.1
    rw [List.nodup_cons] at h3
    exact h3.1 (e▸List.mem_map_of_mem hd)
 have hf:((selD sv rightIt I).map Xf.can).filter (neqN it.dec.number)=(selD sv rightIt (withoutV I (digIt it))).map Xf.can:=by
  rw [h1,h2,List.map_append,List.map_append,List.filter_append,List.map_cons,List.filter_cons_of_neg (by
   show ¬ (neqN it.dec.number it.dec.can=true)
   rw [neqN,show it.dec.can.number=it.dec.number from rfl,decide_eq_true rfl]
   decide)]
  congr 1
  · refine List.filter_eq_self.2 fun d hd=>?_
    obtain ⟨e,he,rfl⟩:=List.mem_map.1 hd
    rw [neqN,show e.can.number=e.number from rfl,decide_eq_false (hn2 e (.inl he))]
    rfl
  · refine List.filter_eq_self.2 fun d hd=>?_
    obtain ⟨e,he,rfl⟩:=List.mem_map.1 hd
    rw [neqN,show e.can.number=e.number from rfl,decide_eq_false (hn2 e (.inr he))]
    rfl
 have hW':=lj h (jp I (digIt it))
 refine List.Perm.eq_of_pairwise (le:=fun a b:Xf=>decide (a.number≤b.number)=true) (fun a b ha hb h1 h2=>gL (jF h sv) a b ?_ (List.mem_filter.1 hb).1 (by have:=bm h1;have:=bm h2;omega)) (iE _ _) ((iE sv I).filter _) ?_
 · have h5:=(List.mergeSort_perm ((selD sv rightIt (withoutV I (digIt it))).map Xf.can) fun a b=>decide (a.number≤b.number)).mem_iff.1 ha
   rw [←hf] at h5
   exact hm.mem_iff.2 (List.mem_filter.1 h5).1
 · refine (List.mergeSort_perm _ _).trans ?_
   rw [←hf]
   exact (hm.filter _).symm
theorem qy {V:List Xf} (hn:(V.map Xf.number).Nodup) {x:Xf} (hx:x∈V) {p:Xf→Bool} (hp:p x=false):(V.filter (neqN x.number)).filter p=V.filter p:=by
 rw [List.filter_filter]
 refine List.filter_congr fun d hd=>?_
 by_cases e:d.number=x.number
 · rw [gL hn d x hd hx e,hp,Bool.false_and]
 · rw [neqN,decide_eq_false e,Bool.not_false,Bool.and_true]
theorem fo (V:List Xf) (p q:Xf→Bool):(V.filter p).filter q=(V.filter q).filter p:=by
 rw [List.filter_filter,List.filter_filter]
 exact List.filter_congr fun d _=>Bool.and_comm _ _
theorem vm {A B:List Xf} (h:A.filter undoB=B.filter undoB):undoS A=undoS B:=by rw [undoS,undoS,h]
theorem tR {V:List Xf} (hn:(V.map Xf.number).Nodup) {x:Xf} (hx:x∈V) (hu:undoB x=false) (now:Int):forceV now (V.filter (neqN x.number))=(forceV now V).filter (neqN x.number):=by
 have hU:undoS ((V.filter (neqN x.number)).filter (nowB now))=undoS (V.filter (nowB now)):=vm (by
  rw [fo _ (nowB now) undoB,qy hn hx hu,fo])
 rw [forceV,forceV,hU,fo V (neqN x.number),fo _ (neqN x.number)]
theorem mc {V:List Xf} (hn:(V.map Xf.number).Nodup) {x:Xf} (hx:x∈V) (hu:undoB x=false) (now:Int) {p:Xf→Bool} (hp:p x=false):(forceV now (V.filter (neqN x.number))).filter p=(forceV now V).filter p:=by
 rw [tR hn hx hu,List.filter_filter]
 refine List.filter_congr fun d hd=>?_
 have hd':d∈V:=(List.mem_filter.1 (List.mem_filter.1 hd).1).1
 by_cases e:d.number=x.number
 · rw [gL hn d x hd' hx e,hp,Bool.false_and]
 · rw [neqN,decide_eq_false e,Bool.not_false,Bool.and_true]
theorem tr {V:List Xf} (hn:(V.map Xf.number).Nodup) {x:Xf} (hx:x∈V) (hu:undoB x=false) (h8:kindD 8 x=false) (now:Int):panelV now (V.filter (neqN x.number))=panelV now V:=by
 rw [panelV,panelV,mc hn hx hu now h8]
theorem mY {cs:List Xa} {d:Xf} {dg:ByteArray} {M:List ByteArray} {q:Int} (h:overV cs d dg M q=true):seqB d.actor ⟨#[]⟩=false∨d.kind=2∨d.kind=3:=by
 rw [overV,Bool.and_eq_true] at h
 cases h0:seqB d.actor ⟨#[]⟩ with
 | false=>exact .inl rfl
 | true =>
  have h1:=h.2
  rw [appealsV,affV,h0,Bool.not_true,cond_false] at h1
  by_cases h2:d.kind=2
  · exact .inr (.inl h2)
  · by_cases h3:d.kind=3
    · exact .inr (.inr h3)
    · rw [decide_eq_false h2,decide_eq_false h3] at h1
      exact absurd (show false=true from h1) (by decide)
theorem oe {d:Xf} (h:decR d=true) (ha:seqB d.actor ⟨#[]⟩=false∨d.kind=2∨d.kind=3):d.kind≠5∧d.kind≠8:=by
 simp only [decR,Bool.and_eq_true] at h
 have ht:=h.2.2.2.2.2.1
 constructor
 · intro e
   rcases ha with ha|ha|ha
   · rw [termsB,e] at ht
     have h2:=(Bool.and_eq_true _ _).mp (show (seqB d.actor ⟨#[]⟩&&(isDigestB d.object&&(reasonD d&&plainD d)))=true from ht)
     rw [ha] at h2
     exact absurd h2.1 (by decide)
   · omega
   · omega
 · intro e
   rcases ha with ha|ha|ha
   · rw [termsB,e] at ht
     have h2:=(Bool.and_eq_true _ _).mp (show (seqB d.actor ⟨#[]⟩&&(seqB d.object ⟨#[]⟩&&(reasonD d&&(isIds d.toL&&withinB d.n 1 (d.to.n:Nat)))))=true from ht)
     rw [ha] at h2
     exact absurd h2.1 (by decide)
   · omega
   · omega
theorem qK {L:List Int} {I:List Xb} (h:Ec L I) (ha:Asc (I.map digIt)) {cs:List Xa} {sv now:Int} {dg:ByteArray} (ho:overK cs I sv now dg=true) :
  standK cs (withoutV I dg) sv now=standK cs I sv now∧overK cs (withoutV I dg) sv now dg=false:=by
 rw [overK] at ho
 cases hf:findK I dg with
 | none=>rw [hf] at ho;cases ho
 | some it =>
  rw [hf] at ho
  simp only [Bool.and_eq_true,decide_eq_true_eq] at ho
  obtain ⟨hk,hsv,hov⟩:=ho
  obtain ⟨hi,hdg⟩:=tU hf
  have hsg:=h.sig it hi
  have hr:rightIt it=true:=by
   rw [signedIt,Bool.and_eq_true] at hsg
   exact hsg.1
  have hfit:it.dec.Fit:=h.fit it hi
  have hdr:decR it.dec=true:=by
   rcases du hr with h1|h1|h1|h1
   · omega
   · omega
   · omega
   · exact h1.2
  obtain ⟨h5,h8⟩:=oe hdr (mY hov)
  subst hdg
  obtain ⟨hx,hW⟩:=lG h ha hi hk hsv hr
  have hn:=jF h sv
  have hu:undoB it.dec.can=false:=decide_eq_false h5
  have h8':kindD 8 it.dec.can=false:=decide_eq_false h8
  have hpv:panelK (withoutV I (digIt it)) sv now=panelK I sv now:=by
   rw [panelK,panelK,hW]
   exact tr hn hx hu h8' now
  have hno:overN cs (panelK I sv now) it.dec.can=false:=by
   rw [lZ cs _ hfit,overN,ze hk hr,hov]
   rfl
  constructor
  · rw [standK,standK,hpv,hW]
    exact mc hn hx hu now hno
  · have hnf:findK (withoutV I (digIt it)) (digIt it)=none:=by
     rw [findK]
     cases seqB (digIt it) ⟨#[]⟩ with
     | true=>rfl
     | false =>
      rw [cond_false]
      refine List.find?_eq_none.2 fun x hx=>?_
      have h1:=(List.mem_filter.1 hx).2
      rw [notB,Bool.not_eq_true'] at h1
      rw [h1]
      decide
    rw [overK,hnf]
end Go.Proofs.YtgffbiobmamobaaGreatDoor
namespace Go.Proofs.YtgffbiobmamobaaGreatDoor
open Go Go.Proofs Sy
theorem lO {L:List Int} {I:List Xb} (h:Ec L I) {cs:List Xa} {sv now:Int} {E:List Xf} (hE:E.map Xf.can=standK cs I sv now) (hf:∀ d∈E,d.Fit):∀ d∈E,d.to.n*16≤140737488351232:=fun d hd=>by
 have h0:d.can∈decsV sv I:=by
  have:=hE▸List.mem_map_of_mem (f:=Xf.can) hd
  exact (List.mem_filter.1 (List.mem_filter.1 (List.mem_filter.1 this).1).1).1
 obtain ⟨it,hi,_,_,_,he⟩:=jd h0
 have h1:=congrArg (fun x:Xf=>x.toL.length) he
 have h1:it.dec.toL.length=d.toL.length:=h1
 have h2:it.dec.to.n=it.dec.toL.length:=h.fit it hi
 have h3:d.to.n=d.toL.length:=hf d hd
 have h4:=h.big it hi
 omega
theorem ym:∀ p∈srvL,1≤p∧p≤2305843009213693950:=fun p hp=>by
 have hk:∀ i,1≤(keyS i).p∧(keyS i).p≤2305843009213693950:=fun i=>by
  obtain ⟨s,_,_,h2,h3⟩:=kB (eu (seedS i))
  have:=rC rfl rfl h2
  rw [show (keyS i).p=_ from h3]
  omega
 rw [srvL] at hp
 rcases List.mem_cons.1 hp with rfl|hp
 · exact hk 0
 · rw [List.mem_singleton] at hp
   subst hp
   exact hk 1
structure EndI (n:Nat) where
 k:Nat
 hk:k≤n
set_option maxRecDepth 20000 in
theorem tZ (h:CaseH) (W:List Xo) (O:List Xk) (Q:List Xp) (now:Int) (hW:∀ x∈W,x.do_<9223372036854775808∧x.time<9223372036854775808) (hO:∀ x∈O,x.do_<9223372036854775808) :
  Pu Tryz.prog 3 #[h.v,.int .i64 now] (X9 h W O Q) (.bool true):=by
 refine aq Tryz.func3 Tryz.ntmps3 fun av bor w0=>?_
 have hsm:=pT
 have hfe:=wO h W O Q
 cases hf:iH W O Q with
 | false =>
  rw [hf] at hfe
  repeat' (first|(refine ag (hc:=hsm) (hX:=fun w h=>h.glob) ?_)|(refine ag (hc:=hfe) ?_)|refine gs ?_|refine gs1 fun _=>?_|(refine gp ?_ ?_<;>intro hx_ this)|fail)
  all_goals first
   | exact ae (aj rfl rfl) rfl
 | true =>
  rw [hf] at hfe
  have hok:CaseOk W O Q:=by
   simp only [iH,Bool.and_eq_true,decide_eq_true_eq] at hf
   exact ⟨hf.1,hf.2.1,hf.2.2,hW,hO⟩
  have hhe:=r3 h W O Q hok
  repeat' (first|(refine ag (hc:=hsm) (hX:=fun w h=>h.glob) ?_)|(refine ag (hc:=hfe) ?_)|(refine aT (hc:=hhe) fun v1 X1 h1=>?_;obtain ⟨ch,d,pst,rfl,⟨hdc,hokd⟩,hw1⟩:=h1)|refine gs ?_|refine gs1 fun _=>?_|(refine gp ?_ ?_<;>intro hx_ this)|fail)
  rename_i b2 b6
  have hds:Ec srvL d.I:=hokd.inv.dec (by decide)
  have hch:Ek d.C:=⟨fun c hc=>(hokd.acts c hc).1,fun c hc=>by have:=(hokd.acts c hc).2;omega,by rw [hokd.four];decide⟩
  have hasc:=hokd.inv.knr.asc
  have hGD:d.G.length=d.D.length:=hokd.dig
  have hDl:=hokd.cnt
  refine aD (p:=(ch.sd.n=d.D.length∧(0<d.D.length→ch.sd.p.isSome=true))∧ch.sg.n=d.G.length∧(0<d.G.length→ch.sg.p.isSome=true)) (fun w x=>⟨⟨(hw1 w x.2).dec.len_,(hw1 w x.2).dec.some_⟩,(hw1 w x.2).dig.len_,(hw1 w x.2).dig.some_⟩) fun ⟨⟨hdn,hdp⟩,hgn,hgp⟩=>?_
  refine az (ι:=EndI d.D.length) (fun i=>⟨[(1,.int .i64 now),(2,.pointer (some ⟨b2,0,none⟩)),(5,.bool true),(6,.pointer (some ⟨b6,0,none⟩)),(7,.int .i64 (i.k:Nat))],[cel b6 37 ch.cells,cel b2 26 h.cells],X7 srvL ch d⟩) (fun i=>d.D.length-i.k) ⟨0,Nat.zero_le _⟩ (ak an (al _) fun w x=>hw1 w x.2) fun i=>?_
  obtain ⟨k,hk⟩:=i
  simp only
  by_cases hlt:k<d.D.length
  · have hdp':=hdp ac
    have hgp':=hgp ac
    obtain ⟨x,hx⟩:∃ x,d.D[k]?=some x:=⟨_,List.getElem?_eq_getElem hlt⟩
    obtain ⟨dg,hdg⟩:∃ dg,d.G[k]?=some dg:=⟨_,List.getElem?_eq_getElem ac⟩
    obtain ⟨sv,hsv⟩:∃ sv,x.server=sv:=⟨_,rfl⟩
    have hov:=gv ch.ks ch.ki ch.cs srvL d.I d.C sv now dg hds hch
    cases ho:overK d.C d.I sv now dg with
    | false =>
     rw [ho] at hov
     repeat' (first|refine aw ?_ (be true rfl rfl (decide_eq_true (show (k:Int)<(ch.sd.n:Nat) by omega)))|refine gs ?_|refine gs1 fun _=>?_|(refine aA (q:=k*12) ?_)|(refine dQ ?_)|(refine bE (q:=k*12) (u:=.int .i64 sv) (hF:=fun w y=>hsv▸(y.dec.get hx).2.2 0 _ rfl) ?_)|(refine gp ?_ ?_<;>intro hx_ this)|fail)
     (refine ao ⟨[0,2,3,4,5,6,7,8,9,10],[(1,⟨[],[(11,⟨[12],[]⟩)]⟩)]⟩ [cel b6 37 ch.cells] (X7 srvL ch d) (h:=?_))
     all_goals repeat' (first|(refine ag (hc:=hov) (hX:=fun w y=>⟨y.srv,y.its,y.chn,y.glob⟩) ?_)|refine gdz ?_|refine aJ (hsub:=by exact aP) (hy:=by first|(apply bk (q:=k);rfl;rfl;omega;omega;assumption;(first|rfl|omega))|(apply ez (q:=k) (u:=.string dg);rfl;exact fun w y=>y.dig.at_ hdg)) ?_|refine aF ?_ (h':=?_)|exact aG|(refine aE (vs:=[ch.ks.v,ch.ki.v]) (hv:=rfl) ?_)|refine gs1 fun _=>?_|(refine gq ?_ ?_<;>intro hx_ this)|fail)
     all_goals
      repeat' (first|refine gs ?_|refine gs1 fun _=>?_|(refine gp ?_ ?_<;>intro hx_ this)|fail)
      first
       | exact ⟨(⟨k+1,hlt⟩:EndI d.D.length),(by show d.D.length-(k+1)<d.D.length-k;omega),ak an (al _) fun w x=>x⟩
    | true =>
     rw [ho] at hov
     obtain ⟨hst,hov2⟩:=qK hds hasc ho
     have hsub:=jp d.I dg
     have hmem:=hsub.subset
     have hds2:=lj hds hsub
     have hwo:=pI ch.ks ch.ki d.I hds.rng hds.fit hds.len dg
     have hkr:=fun s:Xi=>lD ch.ks s srvL (withoutV d.I dg) (show 2≤20 by decide) ym hds2.rng hds2.fit hds2.sig (nK hasc (hsub.map digIt)) hds2.len
     have hs1:=fG ch.ks ch.ki ch.cs srvL d.I d.C sv now hds hch
     have hs2:=fun s:Xi=>fG ch.ks s ch.cs srvL (withoutV d.I dg) d.C sv now hds2 hch
     have ho2:=fun s:Xi=>gv ch.ks s ch.cs srvL (withoutV d.I dg) d.C sv now dg hds2 hch
     rw [hov2] at ho2
     have hsb1:=fun (E:List Xf) (hE:E.map Xf.can=standK d.C d.I sv now) (hf:∀ d∈E,d.Fit)=>lO hds hE hf
     have hsb2:=fun (E:List Xf) (hE:E.map Xf.can=standK d.C (withoutV d.I dg) sv now) (hf:∀ d∈E,d.Fit)=>lO hds2 hE hf
     rw [hst] at hs2 hsb2
     generalize standK d.C d.I sv now=ST at *
     generalize withoutV d.I dg=J at *
     repeat' (first|refine aw ?_ (be true rfl rfl (decide_eq_true (show (k:Int)<(ch.sd.n:Nat) by omega)))|refine gs ?_|refine gs1 fun _=>?_|(refine aA (q:=k*12) ?_)|(refine dQ ?_)|(refine bE (q:=k*12) (u:=.int .i64 sv) (hF:=fun w y=>hsv▸(y.dec.get hx).2.2 0 _ rfl) ?_)|(refine gp ?_ ?_<;>intro hx_ this)|fail)
     refine pt (ι:=Unit) (fun _=>⟨[(1,.int .i64 now),(2,.pointer (some ⟨b2,0,none⟩)),(5,.bool true),(6,.pointer (some ⟨b6,0,none⟩)),(7,.int .i64 (k:Nat)),(8,.int .i64 sv)],[cel b6 37 ch.cells,cel b2 26 h.cells],X7 srvL ch d⟩) ?_ fun _=>?_
     · (refine ao ⟨[0,2,3,4,5,6,7,8,9,10],[(1,⟨[],[(11,⟨[12],[]⟩)]⟩)]⟩ [cel b6 37 ch.cells] (X7 srvL ch d) (h:=?_))
       all_goals repeat' (first|(refine ag (hc:=hov) (hX:=fun w y=>⟨y.srv,y.its,y.chn,y.glob⟩) ?_)|refine gdz ?_|refine aJ (hsub:=by exact aP) (hy:=by first|(apply bk (q:=k);rfl;rfl;omega;omega;assumption;(first|rfl|omega))|(apply ez (q:=k) (u:=.string dg);rfl;exact fun w y=>y.dig.at_ hdg)) ?_|refine aF ?_ (h':=?_)|exact aG|(refine aE (vs:=[ch.ks.v,ch.ki.v]) (hv:=rfl) ?_)|refine gs1 fun _=>?_|(refine gq ?_ ?_<;>intro hx_ this)|fail)
       all_goals
        repeat' (first|refine gs ?_|refine gs1 fun _=>?_|(refine gp ?_ ?_<;>intro hx_ this)|fail)
        exact ⟨(),ak an (al _) fun w y=>y⟩
     apply cw_seq
     refine ej (ι:=Nat×Xi) (fun j=>⟨[(1,.int .i64 now),(2,.pointer (some ⟨b2,0,none⟩)),(5,.bool true),(6,.pointer (some ⟨b6,0,none⟩)),(7,.int .i64 (k:Nat)),(8,.int .i64 sv),(9,.pointer (some ⟨j.1,0,none⟩))],[cel j.1 32 [ch.ks.v,j.2.v],cel b6 37 ch.cells,cel b2 26 h.cells],fun w=>X7 srvL ch d w∧Items w j.2 J⟩) ?_ fun j=>?_
     · (refine ao ⟨[0,2,3,4,5,6],[(1,⟨[],[(7,⟨[],[(8,⟨[],[(9,⟨[],[]⟩)]⟩)]⟩),(8,⟨[],[(7,⟨[],[(9,⟨[],[]⟩)]⟩)]⟩)]⟩),(8,⟨[],[(1,⟨[],[(7,⟨[],[(9,⟨[],[]⟩)]⟩)]⟩)]⟩)]⟩ [cel b6 37 ch.cells] (X7 srvL ch d) (h:=?_))
       all_goals repeat' (first|((refine aT (hc:=hwo) (hX:=fun w y=>⟨y.its,y.glob⟩) fun v1 X1 h1=>?_;obtain ⟨s9,rfl,hw9⟩:=h1))|refine gdz ?_|refine aJ (hsub:=by exact aP) (hy:=by first|(apply bk (q:=k);rfl;rfl;omega;omega;assumption;(first|rfl|omega))|(apply ez (q:=k) (u:=.string dg);rfl;exact fun w y=>y.dig.at_ hdg)) ?_|refine aF ?_ (h':=?_)|exact aG|(refine aE (vs:=[ch.ks.v,ch.ki.v]) (hv:=rfl) ?_)|refine gs1 fun _=>?_|(refine gq ?_ ?_<;>intro hx_ this)|fail)
       all_goals first
        | exact ⟨(_,s9),ak an (al _) fun w y=>⟨y.1,hw9 w y.2⟩⟩
     obtain ⟨b9,s9⟩:=j
     simp only
     have hs2':=hs2 s9
     have ho2':=ho2 s9
     have hkr':=hkr s9
     repeat apply cw_seq
     (refine ao ⟨[0],[(1,⟨[2,3,4,6,7,8,9,11,12,13,14,15],[(5,⟨[],[(10,⟨[],[(16,⟨[],[(17,⟨[18,19,20,21,22,23,24,25,26,27,28,29,30],[(31,⟨[32],[]⟩)]⟩)]⟩)]⟩)]⟩)]⟩)]⟩ [cel b9 32 [ch.ks.v,s9.v],cel b6 37 ch.cells] (fun w=>X7 srvL ch d w∧Items w s9 J) (h:=?_))
     all_goals repeat' (first|(refine ag (hc:=hkr') (hX:=fun w y=>⟨⟨y.1.srv,y.2⟩,y.1.glob⟩) ?_)|((refine aT (hc:=hs1) (hX:=fun w y=>⟨y.1.srv,y.1.its,y.1.chn,y.1.glob⟩) fun v1 X1 h1=>?_;obtain ⟨t1,E1,rfl,⟨hE1,hf1⟩,hw1⟩:=h1))|((refine aT (hc:=hs2') (hX:=fun w y=>⟨y.1.1.srv,y.1.2,y.1.1.chn,y.1.1.glob⟩) fun v2 X2 h2=>?_;obtain ⟨t2,E2,rfl,⟨hE2,hf2⟩,hw2⟩:=h2))|(refine ag (hc:=yB t1 t2 E1 E2 (hE1.trans hE2.symm) hf1 hf2 (hsb1 E1 hE1 hf1) (hsb2 E2 hE2 hf2)) (hX:=fun w y=>⟨hw1 w y.1.2,hw2 w y.2⟩) ?_)|(refine ag (hc:=ho2') (hX:=fun w y=>⟨y.1.1.1.srv,y.1.1.2,y.1.1.1.chn,y.1.1.1.glob⟩) ?_)|refine gdz ?_|refine aJ (hsub:=by exact aP) (hy:=by first|(apply bk (q:=k);rfl;rfl;omega;omega;assumption;(first|rfl|omega))|(apply ez (q:=k) (u:=.string dg);rfl;exact fun w y=>y.1.dig.at_ hdg)) ?_|refine aF ?_ (h':=?_)|exact aG|(refine aE (vs:=[ch.ks.v,ch.ki.v]) (hv:=rfl) ?_)|refine gs1 fun _=>?_|(refine gq ?_ ?_<;>intro hx_ this)|fail)
     all_goals
      repeat' (first|refine gs ?_|refine gs1 fun _=>?_|(refine gp ?_ ?_<;>intro hx_ this)|fail)
      first
       | exact ⟨(⟨k+1,hlt⟩:EndI d.D.length),(by show d.D.length-(k+1)<d.D.length-k;omega),ak an (.cons _ (al _)) fun w y=>y.1.1.1⟩
  · repeat' (first|refine aw ?_ (be false rfl rfl (decide_eq_false (show ¬ (k:Int)<(ch.sd.n:Nat) by omega)))|refine gs ?_|refine gs1 fun _=>?_|(refine gp ?_ ?_<;>intro hx_ this)|fail)
    all_goals first
     | exact ae (aj rfl rfl) rfl
end Go.Proofs.YtgffbiobmamobaaGreatDoor
