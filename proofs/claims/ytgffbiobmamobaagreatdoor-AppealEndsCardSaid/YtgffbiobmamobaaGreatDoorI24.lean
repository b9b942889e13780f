/- Joined. -/
import Derived.Test.YtgffbiobmamobaaGreatDoorI0
import Derived.Test.YtgffbiobmamobaaGreatDoorI1
import Derived.Test.YtgffbiobmamobaaGreatDoorI23
set_option linter.unusedVariables false
set_option linter.unusedSimpArgs false
set_option maxHeartbeats 16000000
namespace Go.Proofs.YtgffbiobmamobaaGreatDoor
open Go Go.Proofs Sy
theorem tU {I:List Xb} {d:ByteArray} {it:Xb} (h:findK I d=some it):it∈I∧digIt it=d:=by
 rw [findK] at h
 cases hs:seqB d ⟨#[]⟩ with
 | true=>rw [hs] at h;cases h
 | false =>
  rw [hs,cond_false] at h
  exact ⟨List.mem_of_find?_eq_some h,seqB_iff.1 (List.find?_some (p:=fun x=>seqB (digIt x) d) h)⟩
def panelK (I:List Xb) (sv now:Int):List ByteArray×Int:=panelV now (decsV sv I)
def overK (cs:List Xa) (I:List Xb) (sv now:Int) (dg:ByteArray):Bool:=match findK I dg with
 | none=>false
 | some it=>decide (it.kind=3)&&(decide (it.dec.server=sv)&&overV cs it.dec dg (panelK I sv now).1 (panelK I sv now).2)
structure KnowX (ks ki s:Xi) (L:List Int) (I:List Xb) (cs:List Xa) (w:World):Prop where
 srv:Ints w ks L
 its:Items w ki I
 chn:Chains w s cs
 glob:Xg w
set_option maxRecDepth 20000 in
theorem gv (ks ki s:Xi) (L:List Int) (I:List Xb) (cs:List Xa) (sv now:Int) (dg:ByteArray) (h:Ec L I) (hc:Ek cs) :
  Pu Tryz.prog 7 #[.agg #[ks.v,ki.v],s.v,.int .i64 sv,.string dg,.int .i64 now] (KnowX ks ki s L I cs) (.bool (overK cs I sv now dg)):=by
 refine aq Tryz.func7 Tryz.ntmps7 fun av bor w0=>?_
 have hfi:=oU ks ki I h.rng h.fit h.len dg
 unfold itemO at hfi
 rw [overK]
 cases hf:findK I dg with
 | none =>
  rw [hf] at hfi
  simp only [Option.getD_none,Option.isSome_none] at hfi
  repeat' (first|(refine ag (hc:=hfi) (hX:=fun w h=>⟨h.its,h.glob⟩) ?_)|refine gs ?_|refine gs1 fun _=>?_|(refine gp ?_ ?_<;>intro hx_ this)|fail)
  exact ae (aj rfl rfl) rfl
 | some it =>
  rw [hf] at hfi
  simp only [Option.getD_some,Option.isSome_some] at hfi
  have hpa:=kI ks ki L I sv now h
  simp only
  cases e1:decide (it.kind=3) with
  | false =>
   repeat' (first|refine aw ?_ (cw _ rfl rfl (by rw [e1]))|(refine ag (hc:=hfi) (hX:=fun w h=>⟨h.its,h.glob⟩) ?_)|refine gs ?_|refine gs1 fun _=>?_|(refine gp ?_ ?_<;>intro hx_ this)|fail)
   exact ae (aj rfl rfl) rfl
  | true =>
   cases e2:decide (it.dec.server=sv) with
   | false =>
    repeat' (first|refine aw ?_ (cw _ rfl rfl (by first|rw [e1]|rw [e2]))|(refine ag (hc:=hfi) (hX:=fun w h=>⟨h.its,h.glob⟩) ?_)|refine gs ?_|refine gs1 fun _=>?_|(refine gp ?_ ?_<;>intro hx_ this)|fail)
    exact ae (aj rfl rfl) rfl
   | true =>
    rw [Bool.true_and,Bool.true_and]
    have hov:=fun sM:Xi=>rF s sM cs it.dec dg (panelK I sv now).1 (panelK I sv now).2 hc
    unfold panelK at hov ⊢
    generalize panelV now (decsV sv I)=pv at *
    generalize overV cs it.dec dg pv.1 pv.2=r at *
    repeat' (first|refine aw ?_ (cw _ rfl rfl (by first|rw [e1]|rw [e2]))|(refine ag (hc:=hfi) (hX:=fun w h=>⟨h.its,h.glob⟩) ?_)|(refine aT (hc:=hpa) (hX:=fun w h=>⟨⟨h.srv,h.its⟩,h.glob⟩) fun v1 X1 h1=>?_;obtain ⟨sM,rfl,hw1⟩:=h1)|(refine ag (hc:=hov sM) (hX:=fun w h=>⟨⟨h.1.chn,h.1.glob⟩,hw1 w h.2⟩) ?_)|refine gs ?_|refine gs1 fun _=>?_|(refine aE (vs:=it.dec.cells) (hv:=rfl) ?_)|(refine gp ?_ ?_<;>intro hx_ this)|fail)
    all_goals first
     | exact ae (aj rfl rfl) rfl
theorem lJ (ks ki s:Xi) (L:List Int) (I:List Xb) (cs:List Xa) (sv now:Int) (ap:ByteArray) (h:Ec L I) (hc:Ek cs) :
  Pu Tryz.prog 12 #[.agg #[ks.v,ki.v],s.v,.int .i64 sv,.string ap,.int .i64 now] (KnowX ks ki s L I cs) (.tuple #[.int .i64 (votesV cs (panelK I sv now).1 ap).1,.int .i64 (votesV cs (panelK I sv now).1 ap).2]):=by
 refine aq Tryz.func12 Tryz.ntmps12 fun av bor w0=>?_
 have hpa:=kI ks ki L I sv now h
 have hvo:=fun sM:Xi=>nO s sM cs (panelK I sv now).1 ap
 unfold panelK at hvo ⊢
 generalize panelV now (decsV sv I)=pv at *
 generalize votesV cs pv.1 ap=st at *
 repeat' (first|(refine aT (hc:=hpa) (hX:=fun w h=>⟨⟨h.srv,h.its⟩,h.glob⟩) fun v1 X1 h1=>?_;obtain ⟨sM,rfl,hw1⟩:=h1)|(refine ag (hc:=hvo sM) (hX:=fun w h=>⟨h.1.chn,hw1 w h.2⟩) ?_)|refine gs ?_|refine gs1 fun _=>?_|(refine gp ?_ ?_<;>intro hx_ this)|fail)
 exact ae (cP rfl rfl rfl) rfl
def openK (cs:List Xa) (I:List Xb) (dg:ByteArray):List ByteArray:=match findK I dg with
 | none=>[]
 | some it=>bif decide (it.kind=3) then appealsV cs it.dec dg else []
theorem we (ks ki s:Xi) (L:List Int) (I:List Xb) (cs:List Xa) (dg:ByteArray) (h:Ec L I) (hc:Ek cs) :
  Mk Tryz.prog 13 #[.agg #[ks.v,ki.v],s.v,.string dg] (KnowX ks ki s L I cs) (fun u X'=>∃ s1:Xi,u=s1.v∧∀ w,X' w→Strs w s1 (openK cs I dg)):=by
 refine bS Tryz.func13 Tryz.ntmps13 fun av bor w0=>?_
 have hfi:=oU ks ki I h.rng h.fit h.len dg
 unfold itemO at hfi
 rw [openK]
 cases hf:findK I dg with
 | none =>
  rw [hf] at hfi
  simp only [Option.getD_none,Option.isSome_none] at hfi
  repeat' (first|(refine ag (hc:=hfi) (hX:=fun w h=>⟨h.its,h.glob⟩) ?_)|refine gs ?_|refine gs1 fun _=>?_|(refine gp ?_ ?_<;>intro hx_ this)|fail)
  exact ae (aj rfl rfl) ⟨⟨none,0,0⟩,rfl,fun w h=>aN w 1⟩
 | some it =>
  rw [hf] at hfi
  simp only [Option.getD_some,Option.isSome_some] at hfi
  have hap:=lw s cs it.dec dg hc
  simp only
  cases e1:decide (it.kind=3) with
  | false =>
   repeat' (first|refine aw ?_ (cw _ rfl rfl (by rw [e1]))|(refine ag (hc:=hfi) (hX:=fun w h=>⟨h.its,h.glob⟩) ?_)|refine gs ?_|refine gs1 fun _=>?_|(refine gp ?_ ?_<;>intro hx_ this)|fail)
   exact ae (aj rfl rfl) ⟨⟨none,0,0⟩,rfl,fun w h=>aN w 1⟩
  | true =>
   rw [cond_true]
   generalize appealsV cs it.dec dg=l at *
   repeat' (first|refine aw ?_ (cw _ rfl rfl (by rw [e1]))|(refine ag (hc:=hfi) (hX:=fun w h=>⟨h.its,h.glob⟩) ?_)|(refine aT (hc:=hap) (hX:=fun w h=>⟨h.chn,h.glob⟩) fun v1 X1 h1=>?_;obtain ⟨s1,rfl,hw1⟩:=h1)|refine gs ?_|refine gs1 fun _=>?_|(refine aE (vs:=it.dec.cells) (hv:=rfl) ?_)|(refine gp ?_ ?_<;>intro hx_ this)|fail)
   exact ae (aj rfl rfl) ⟨s1,rfl,fun w h=>hw1 w h.1.2⟩
def overN (cs:List Xa) (pv:List ByteArray×Int) (d:Xf):Bool:=!overV cs d (digIt (ofDecI d)) pv.1 pv.2
def standK (cs:List Xa) (I:List Xb) (sv now:Int):List Xf:=(forceV now (decsV sv I)).filter (overN cs (panelK I sv now))
theorem lZ (cs:List Xa) (pv:List ByteArray×Int) {d:Xf} (h:d.Fit):overN cs pv d.can=overN cs pv d:=by
 rw [overN,overN,ff h,ou]
set_option maxRecDepth 20000 in
theorem fG (ks ki s:Xi) (L:List Int) (I:List Xb) (cs:List Xa) (sv now:Int) (h:Ec L I) (hc:Ek cs) :
  Mk Tryz.prog 11 #[.agg #[ks.v,ki.v],s.v,.int .i64 sv,.int .i64 now] (KnowX ks ki s L I cs)
   (fun u X'=>∃ (s1:Xi) (E:List Xf),u=s1.v∧(E.map Xf.can=standK cs I sv now∧∀ d∈E,d.Fit)∧∀ w,X' w→Decs w s1 E):=by
 refine bS Tryz.func11 Tryz.ntmps11 fun av bor w0=>?_
 have hpa:=kI ks ki L I sv now h
 have hfo:=kQ ks ki L I sv now h
 have hov:=fun (sM:Xi) (d:Xf)=>rF s sM cs d (digIt (ofDecI d)) (panelK I sv now).1 (panelK I sv now).2 hc
 rw [standK]
 obtain ⟨pv,hpv⟩:∃ pv,panelK I sv now=pv:=⟨_,rfl⟩
 rw [hpv] at hov ⊢
 rw [show panelV now (decsV sv I)=pv from hpv] at hpa
 repeat' (first|(refine aT (hc:=hpa) (hX:=fun w h=>⟨⟨h.srv,h.its⟩,h.glob⟩) fun v1 X1 h1=>?_;obtain ⟨sM,rfl,hw1⟩:=h1)|(refine aT (hc:=hfo) (hX:=fun w h=>⟨⟨h.1.srv,h.1.its⟩,h.1.glob⟩) fun v2 X2 h2=>?_;obtain ⟨s0,E,rfl,⟨hE,hEf⟩,hEw⟩:=h2)|refine gs ?_|refine gs1 fun _=>?_|(refine gp ?_ ?_<;>intro hx_ this)|fail)
 rename_i b4
 have hEl:E.length≤19:=by
  have h1:=congrArg List.length hE
  rw [List.length_map] at h1
  rw [h1]
  refine Nat.le_trans (List.length_filter_le _ _) (Nat.le_trans (List.length_filter_le _ _) ?_)
  rw [decsV,List.length_mergeSort,List.length_map]
  exact h.few sv
 have hEb:∀ d∈E,d.to.n*16≤140737488351232:=fun d hd=>by
  have h0:d.can∈decsV sv I:=by
   have:=hE▸List.mem_map_of_mem (f:=Xf.can) hd
   exact (List.mem_filter.1 (List.mem_filter.1 this).1).1
  obtain ⟨it,hi,_,_,_,he⟩:=jd h0
  have h1:=congrArg (fun x:Xf=>x.toL.length) he
  have h1:it.dec.toL.length=d.toL.length:=h1
  have h2:it.dec.to.n=it.dec.toL.length:=h.fit it hi
  have h3:d.to.n=d.toL.length:=hEf d hd
  have h4:=h.big it hi
  omega
 refine aD (p:=s0.n=E.length∧(0<E.length→s0.p.isSome=true)) (fun w h=>⟨(hEw w h.2).len_,(hEw w h.2).some_⟩) fun ⟨hsn,hsp⟩=>?_
 refine bQ 42 12 ?_
 refine az (ι:=FltI E (overN cs pv)) (fun i=>⟨[(1,s.v),(9,sM.v),(10,.int .i64 pv.2),(11,.slice i.A i.n i.c),(24,s0.v),(25,.int .i64 (s0.n:Nat)),(26,.int .i64 (i.k:Nat))],[orow 42 12 (.slice i.A i.n i.c) i.n i.xs],fun w=>(KnowX ks ki s L I cs w∧X1 w)∧X2 w⟩) (fun i=>E.length-i.k) ⟨0,Nat.zero_le _,none,0,0,rfl,[],rfl⟩ (ak an (.cons_cons _ (List.nil_sublist _)) fun w h=>h) fun i=>?_
 obtain ⟨k,hk,A,c,n,hn,xs,hxs⟩:=i
 simp only
 have hnl:n≤19:=by
  rw [hn]
  exact Nat.le_trans (List.length_filter_le _ _) (by rw [List.length_take];omega)
 by_cases hlt:k<E.length
 · have hsp':=hsp ac
   obtain ⟨d,hd⟩:∃ d,E[k]?=some d:=⟨_,List.getElem?_eq_getElem hlt⟩
   have hdm:=List.mem_of_getElem? hd
   have hfit:=hEf d hdm
   have hod:=eY d hfit (hEb d hdm)
   have hdi:∀ s1:Xi,s1.n=d.to.n→Pu Tryz.prog 22 #[(ofDecI (d.re s1)).v] (fun w=>(ofDecI (d.re s1)).at_ w∧Xg w) (.string (digIt (ofDecI d))):=fun s1 h1=>by
    have:=bw (ofDecI (d.re s1)) fC (f5 hfit h1)
    rwa [←ff (f5 hfit h1),gQ,ff hfit] at this
   have hov1:=hov sM d
   obtain ⟨r,hr⟩:∃ r,overV cs d (digIt (ofDecI d)) pv.1 pv.2=r:=⟨_,rfl⟩
   have hrN:overN cs pv d=!r:=by rw [overN,hr]
   rw [hr] at hov1
   repeat' (first|refine gs ?_|refine gs1 fun _=>?_|(refine aA (q:=k*12) ?_)|(refine aY (cs:=d.cells) (hF:=fun w h=>(hEw w h.2).get hd) ?_)|(refine gp ?_ ?_<;>intro hx_ this)|fail)
   rotate_right
   all_goals try (exfalso;omega)
   rename_i b13
   (refine ao ⟨[0,1,2,5,6],[(3,⟨[],[(4,⟨[],[(7,⟨[8],[]⟩)]⟩)]⟩)]⟩ [cel b13 42 d.cells,orow 42 12 (.slice A n c) n xs] (fun w=>(KnowX ks ki s L I cs w∧X1 w)∧X2 w) (h:=?_))
   all_goals repeat' (first|((refine aT (hc:=hod) (hX:=fun w h=>(hEw w h.2).2 d hdm) fun v3 X3 h3=>?_;obtain ⟨s1,hs1,rfl,hat1⟩:=h3))|(refine ag (hc:=hdi s1 hs1) (hX:=fun w h=>⟨hat1 w h.2,h.1.1.1.glob⟩) ?_)|(refine ag (hc:=hov1) (hX:=fun w h=>⟨⟨h.1.1.1.chn,h.1.1.1.glob⟩,hw1 w h.1.1.2⟩) ?_)|refine gdz ?_|refine aF ?_ (h':=?_)|exact aG|refine gs1 fun _=>?_|(refine gq ?_ ?_<;>intro hx_ this)|fail)
   all_goals
    cases r with
    | true =>
     have hno:=kZ hd hrN
     repeat' (first|refine gs ?_|refine gs1 fun _=>?_|(refine gp ?_ ?_<;>intro hx_ this)|fail)
     exact ⟨(⟨k+1,hlt,A,c,n,by rw [hno];exact hn,xs,by rw [hno];exact hxs⟩:FltI E (overN cs pv)),(by show E.length-(k+1)<E.length-k;omega),ak an (.cons _ (al _)) fun _ h=>h.1⟩
    | false =>
     have hyes:=iA hd hrN
     repeat' (first|refine bH (size:=12) (vs:=[d.v]) (css:=d.cells) (hsz:=by rfl) (hcs:=by rfl) fun _=>?_|refine gs ?_|refine gs1 fun _=>?_|(refine gp ?_ ?_<;>intro hx_ this)|fail)
     refine aH (size:=12) (news:=d.cells) (q:=1) rfl rfl rfl rfl (fun _=>At.there _ (At.there _ (At.here _))) (fun w G=>bu G ay rfl rfl 1) ac (by simp only [maxLen];omega) rfl ?_ rfl ?_
     · (first|with_reducible rfl|with_reducible assumption|with_reducible exact Bool.not_false|with_reducible exact Bool.not_true)
     intro A3 c3
     repeat' (first|refine gs ?_|refine gs1 fun _=>?_|(refine gp ?_ ?_<;>intro hx_ this)|fail)
     exact ⟨(⟨k+1,hlt,A3,c3,n+1,by rw [hyes,List.length_append,←hn];rfl,xs++d.cells,by rw [hyes,hxs];simp⟩:FltI E (overN cs pv)),(by show E.length-(k+1)<E.length-k;omega),ak an (.cons _ (.cons _ (al _))) fun _ h=>h.1⟩
 · have hke:k=E.length:=by omega
   rw [hke,List.take_length] at hn hxs
   repeat' (first|refine gs ?_|refine gs1 fun _=>?_|(refine gp ?_ ?_<;>intro hx_ this)|fail)
   · exfalso;omega
   refine ae (aj rfl rfl) ⟨⟨A,n,c⟩,E.filter (overN cs pv),rfl,⟨g8 hE fun d hd=>lZ cs pv (hEf d hd),fun d hd=>hEf d (List.mem_filter.1 hd).1⟩,fun w h=>⟨?_,fun d hd=>(hEw w h.1.2).2 d (List.mem_filter.1 hd).1⟩⟩
   have hr:=h.2 (orow 42 12 (.slice A n c) n xs) (.head _)
   rw [hxs] at hr
   exact aM (xs:=(E.filter (overN cs pv)).map Xf.cells) hr (by simpa using hn) (dm _)
end Go.Proofs.YtgffbiobmamobaaGreatDoor
