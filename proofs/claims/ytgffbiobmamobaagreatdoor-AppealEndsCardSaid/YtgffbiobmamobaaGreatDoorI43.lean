/- Joined. -/
import Derived.Test.YtgffbiobmamobaaGreatDoorI0
import Derived.Test.YtgffbiobmamobaaGreatDoorI1
import Derived.Test.YtgffbiobmamobaaGreatDoorI21
import Derived.Test.YtgffbiobmamobaaGreatDoorI41
import Derived.Test.YtgffbiobmamobaaGreatDoorI11
set_option linter.unusedVariables false
set_option linter.unusedSimpArgs false
set_option maxHeartbeats 16000000
namespace Go.Proofs.YtgffbiobmamobaaGreatDoor
open Go Go.Proofs Sy
theorem pf (d:Xf) (s1 s2:Xi):Pu Tryz.prog 63 #[(d.re s1).v,(d.re s2).v] (fun w=>(d.re s1).at_ w∧(d.re s2).at_ w) (.bool true):=by
 refine aq Tryz.func63 Tryz.ntmps63 fun av bor w0=>?_
 have hE:=qJ s1 s2 d.toL
 repeat' (first|refine aw ?_ (bg true rfl rfl (decide_eq_true rfl))|refine aw ?_ (cS true rfl rfl (c8 _))|(refine ag (hc:=hE) ?_)|refine gs ?_|refine gs1 fun _=>?_|(refine iP (a:=d.e) (b:=d.s) (c:=d.e) (e:=d.s) ?_)|(refine aE (vs:=[.int .i64 d.e,.int .i64 d.s]) (hv:=rfl) ?_)|(refine gp ?_ ?_<;>intro hx_ this)|fail)
 all_goals first
  | exact ae (aj rfl rfl) (by simp)
theorem ng (d:Xf) (s1 s2:Xi):Pu Tryz.prog 29 #[(ofDecI (d.re s1)).v,(ofDecI (d.re s2)).v] (fun w=>(d.re s1).at_ w∧(d.re s2).at_ w) (.bool true):=by
 refine aq Tryz.func29 Tryz.ntmps29 fun av bor w0=>?_
 have hC:claimEq Xm.zero Xm.zero=true:=by decide +kernel
 have hB:ballotEq Xj.zero Xj.zero=true:=by decide +kernel
 have hd:=pf d s1 s2
 have ha:=ly
 repeat' (first|refine aw ?_ (bg true rfl rfl (decide_eq_true rfl))|(refine ag (hc:=ha) ?_)|(refine ag (hc:=hd) ?_)|refine gs ?_|refine gs1 fun _=>?_|(refine kg (a:=Xm.zero) (b:=Xm.zero) ?_)|(refine jq (a:=Xj.zero) (b:=Xj.zero) ?_)|(refine aE (vs:=Xc.zero.cells) (hv:=rfl) ?_)|(refine aE (vs:=Xm.zero.cells) (hv:=rfl) ?_)|(refine aE (vs:=Xj.zero.cells) (hv:=rfl) ?_)|(refine aE (vs:=(d.re s1).cells) (hv:=rfl) ?_)|(refine aE (vs:=(d.re s2).cells) (hv:=rfl) ?_)|(refine gp ?_ ?_<;>intro hx_ this)|fail)
 all_goals first
  | exact ae (aj rfl rfl) rfl
  | exact ae (aj rfl rfl) (by simp [hC,hB])
structure SamI (n:Nat) where
 k:Nat
 hk:k≤n
theorem qc {a b:Xf} (h:a.can=b.can):b=a.re b.to:=by
 obtain ⟨sa,na,ka,aa,oa,ta,ha,ca,fa,ua,ea,ga,la⟩:=a
 obtain ⟨sb,nb,kb,ab,ob,tb,hb,cb,fb,ub,eb,gb,lb⟩:=b
 simp only [Xf.can,Xf.re,Xf.mk.injEq] at h
 obtain ⟨rfl,rfl,rfl,rfl,rfl,rfl,_,rfl,rfl,rfl,rfl,rfl,rfl⟩:=h
 rfl
set_option maxRecDepth 20000 in
theorem yB (s1 s2:Xi) (E1 E2:List Xf) (hE:E1.map Xf.can=E2.map Xf.can) (h1:∀ d∈E1,d.Fit) (h2:∀ d∈E2,d.Fit) (b1:∀ d∈E1,d.to.n*16≤140737488351232) (b2:∀ d∈E2,d.to.n*16≤140737488351232) :
  Pu Tryz.prog 10 #[s1.v,s2.v] (fun w=>Decs w s1 E1∧Decs w s2 E2) (.bool true):=by
 refine aq Tryz.func10 Tryz.ntmps10 fun av bor w0=>?_
 have hlen:E1.length=E2.length:=by simpa using congrArg List.length hE
 refine aD (p:=s1.n=E1.length∧s1.n≤maxLen∧(0<E1.length→s1.p.isSome=true)∧s2.n=E2.length∧(0<E2.length→s2.p.isSome=true)) (fun w h=>⟨h.1.len_,h.1.max_,h.1.some_,h.2.len_,h.2.some_⟩) fun ⟨n1,m1,p1,n2,p2⟩=>?_
 simp only [maxLen] at m1
 repeat' (first|refine aw ?_ (cw false rfl rfl (by simp [n1,n2,hlen]))|refine gs ?_|(refine gp ?_ ?_<;>intro hx_ this)|fail)
 refine az (ι:=SamI E1.length) (fun i=>⟨[(0,s1.v),(1,s2.v),(5,.int .i64 (i.k:Nat))],[],fun w=>Decs w s1 E1∧Decs w s2 E2⟩) (fun i=>E1.length-i.k) ⟨0,Nat.zero_le _⟩ (ak an (List.nil_sublist _) fun _ h=>h) fun i=>?_
 obtain ⟨k,hk⟩:=i
 simp only
 by_cases hlt:k<E1.length
 · have p1':=p1 ac
   have p2':=p2 ac
   obtain ⟨d,hd⟩:∃ d,E1[k]?=some d:=⟨_,List.getElem?_eq_getElem hlt⟩
   obtain ⟨e,he⟩:∃ e,E2[k]?=some e:=⟨_,List.getElem?_eq_getElem ac⟩
   have hdm:=List.mem_of_getElem? hd
   have hem:=List.mem_of_getElem? he
   have hce:d.can=e.can:=by
    have:=congrArg (fun l:List Xf=>l[k]?) hE
    simpa [hd,he] using this
   have her:=qc hce
   have ho1:=eY d (h1 d hdm) (b1 d hdm)
   have ho2:=eY e (h2 e hem) (b2 e hem)
   have hre:∀ s:Xi,e.re s=d.re s:=fun s=>by rw [her];rfl
   simp only [hre] at ho2
   repeat' (first|refine aw ?_ (be true rfl rfl (decide_eq_true ac))|refine gs ?_|(refine gp ?_ ?_<;>intro hx_ this)|fail)
   (refine ao ⟨[0,1,2,3,5,6,7,8],[(4,⟨[],[(9,⟨[],[(10,⟨[11],[]⟩)]⟩)]⟩)]⟩ [] (fun w=>Decs w s1 E1∧Decs w s2 E2) (h:=?_))
   all_goals repeat' (first|((refine aT (hc:=ho1) (hX:=fun w h=>h.1.2 d hdm) fun v1 X1 h1=>?_;obtain ⟨t1,ht1,rfl,hat1⟩:=h1))|((refine aT (hc:=ho2) (hX:=fun w h=>h.1.2.2 e hem) fun v2 X2 h2=>?_;obtain ⟨t2,ht2,rfl,hat2⟩:=h2))|(refine ag (hc:=ng d t1 t2) (hX:=fun w h=>⟨(hat1 w h.1.2).2,(hat2 w h.2).2⟩) ?_)|refine gdz ?_|refine aJ (hsub:=by exact aP) (hy:=by first|(apply bk (q:=k*12);rfl;rfl;omega;omega;assumption;(first|rfl|omega))|(apply f7 (q:=k*12) (cs:=d.cells);rfl;exact fun w h=>h.1.get hd)|(apply f7 (q:=k*12) (cs:=e.cells);rfl;exact fun w h=>h.2.get he)) ?_|refine aF ?_ (h':=?_)|exact aG|(refine gq ?_ ?_<;>intro hx_ this)|fail)
   all_goals
    repeat' (first|refine gs ?_|(refine gp ?_ ?_<;>intro hx_ this)|fail)
    first
     | exact ⟨(⟨k+1,hlt⟩:SamI E1.length),(by show E1.length-(k+1)<E1.length-k;omega),ak an (List.nil_sublist _) fun _ h=>h.1.1⟩
 · repeat' (first|refine aw ?_ (be false rfl rfl (decide_eq_false ac))|refine gs ?_|(refine gp ?_ ?_<;>intro hx_ this)|fail)
   exact ae (aj rfl rfl) rfl
end Go.Proofs.YtgffbiobmamobaaGreatDoor
