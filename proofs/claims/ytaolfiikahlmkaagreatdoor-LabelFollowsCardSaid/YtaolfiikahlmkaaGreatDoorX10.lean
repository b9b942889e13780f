/- Joined. -/
import Derived.Test.YtaolfiikahlmkaaGreatDoorX9
set_option linter.unusedVariables false
set_option linter.unusedSimpArgs false
set_option maxHeartbeats 16000000
namespace Go.Proofs.YtaolfiikahlmkaaGreatDoor
open Go Go.Proofs Sy
theorem FD (l:List Nat):u8s (l.map fun (n:Nat)=>(n:Int))=l.map fun (n:Nat)=>(.int .u8 (n:Int):Value):=by simp [u8s]
theorem U8s.of_row {w:World} {e n c:Nat} {A:Option Addr} {l:List Nat} (h:ORow w e 1 (.slice A n c) n (u8s (l.map fun (n:Nat)=>(n:Int)))) (hn:n=l.length):U8s w ⟨A,n,c⟩ l:=by
 have e1:(l.map fun (n:Nat)=>[(.int .u8 (n:Int):Value)]).flatten=u8s (l.map fun (n:Nat)=>(n:Int)):=by
  rw [FD]
  clear h hn
  induction l with
  | nil=>rfl
  | cons a l ih=>rw [Z1,Qb,ih];rfl
 rw [←e1] at h
 exact bz h (by rw [ZF,hn]) fun r hr=>by
  obtain ⟨n,_,rfl⟩:=QJ.1 hr
  rfl
theorem U8s.part {w:World} {s:SlV} {l:List Nat} (h:U8s w s l) {i n:Nat} (hi:i+n≤l.length):U8s w ⟨(s.from 1 i).p,n,s.c-i⟩ ((l.drop i).take n):=by
 have h1:=RowsD.drop h (n:=i) (by rw [ZF];omega)
 rw [←List.map_drop] at h1
 have h2:=RowsD.take h1 (n:=n) (by rw [ZF,Qr];omega)
 rw [←List.map_take] at h2
 exact h2
def padI (s:ByteArray):List Int:=endL s++List.replicate (padN (s.size+1)) 0++sizeB s.size 8
theorem DP (s:ByteArray) (hs:s.size<2305843009213693952):padI s=(padL (nl s)).map fun (n:Nat)=>(n:Int):=by
 rw [padI,endL,kH,padL,dw,qY s.size hs]
 simp
theorem F0 (l:List Nat) (h:∀ x∈l,x<256):∀ x∈padL l,x<256:=fun x hx=>by
 rw [padL] at hx
 rcases Qy.1 hx with hx|hx
 · exact h x hx
 · rcases ZI.1 hx with rfl|hx
   · omega
   · rcases Qy.1 hx with hx|hx
     · rw [(List.mem_replicate.1 hx).2];omega
     · rw [sizeN] at hx
       simp only [ZI,Qk,or_false] at hx
       rcases hx with rfl|rfl|rfl|rfl|rfl|rfl|rfl|rfl<;>exact Qc _ aa
theorem vM (l:List Nat):(padL l).length=l.length+1+padN (l.length+1)+8:=by
 rw [padL]
 simp [sizeN]
 omega
theorem ul (l:List Nat):(padL l).length%64=0:=by
 rw [vM,padN]
 omega
section
variable {P:Program} {N:Nat} {av bor:List Nat} {w0:World} {st:St} {ty:TypeId} {x y z:Operand} {t t2:TypeId} {a b:Nat}
theorem zb (hx:ev st.env x=some (.int .i64 (a:Int))) (hy:ev st.env y=some (.int .i64 (b:Int))) (hc:a+b<9223372036854775808):Sy.Yields P N av bor w0 st (.binOp .add t x y t2) ty (.int .i64 ((a+b:Nat):Int)) :=
 lL hx hy (by rw [←Int.natCast_add];exact IntWalk.i64_in _ aa)
theorem Fi {e size b':Nat} [hI:TySl P t e size b'] {s:SlV} {i n:Nat} (hx:ev st.env x=some s.v) (hy:ev st.env y=some (.int .i64 (i:Int))) (hz:ev st.env z=some (.int .i64 ((i+n:Nat):Int))) (h2:i+n≤s.c) :
  Sy.Yields P N av bor w0 st (.slice t x (some y) (some z) none) ty (⟨(s.from size i).p,n,s.c-i⟩:SlV).v:=by
 have h:=CE (P:=P) (N:=N) (av:=av) (bor:=bor) (w0:=w0) (st:=st) (ty:=ty) (t:=t) (size:=size) hx hy hz aa aa aa
 have e1:((i:Nat):Int).toNat=i:=rfl
 have e2:((i+n:Nat):Int).toNat-i=n:=by omega
 rw [e1,e2] at h
 exact h
end
def outB (S:S8) (i:Nat):Nat:=(S.l.getD (i/4) 0/2 ^ (24-8*(i%4)))%256
theorem EH (S:S8):digN S=(List.range 32).map (outB S):=by
 obtain ⟨a,b,c,d,e,f,g,h⟩:=S
 simp [digN,d4N,outB,S8.l,List.range,List.range.loop]
structure ShaI (L:List Nat) (m:Nat) where
 k:Nat
 hk:k≤m
 s:SlV
 S:S8
 lt:S.Lt
 run:runN (m-k) S (L.drop (64*k))=runN m iniN L
set_option maxRecDepth 20000 in
theorem oL (s:ByteArray) (hs:s.size≤1099511627776):Pu Tryz.prog 91 #[.string s] (fun _=>True) (.string (shaV s)):=by
 refine ak (args:=[_]) _ Tryz.func91 rfl Tryz.ntmps91 rfl fun av bor w0=>?_
 repeat' (first|refine gs ?_|refine gs1 fun _=>?_|(refine tJ fun A c=>?_)|fail)
 refine aF (size:=1) (z:=.int .u8 0) (news:=u8s [128]) (q:=1) rfl rfl rfl rfl (fun _=>At.there _ (At.here _)) (fun w G=>bT G aw rfl rfl 1) ?_ ?_ rfl ?_ rfl ?_
 · omega
 · simp only [maxLen];omega
 · rfl
 intro A1 c1
 repeat' (first|refine gs ?_|refine gs1 fun _=>?_|fail)
 have hel:=nC s
 refine aq (ι:=EndS (padN (s.size+1))) (fun i=>⟨[(0,.string s),(3,.slice i.A (s.size+1+i.k) i.c)],[orow 5 1 (.slice i.A (s.size+1+i.k) i.c) (s.size+1+i.k) (u8s (endL s++List.replicate i.k 0))],fun _=>True⟩) (fun i=>padN (s.size+1)-i.k) ⟨0,Z4 _,A1,c1⟩ (aj am ?_ fun _ h=>h) fun i=>?_
 · refine Z2 _ ?_
   rw [←ck]
   simp only [List.replicate_zero,ZJ]
   exact al _
 have hik:=i.hk
 have hp:padN (s.size+1)<64:=Qc _ aa
 have hp2:padN (s.size+1)=(120-(s.size+1)%64)%64:=rfl
 have htm:Int.tmod ((s.size+1+i.k:Nat):Int) 64=(((s.size+1+i.k)%64:Nat):Int):=Int.ofNat_tmod _ _
 repeat' (first|refine gs ?_|refine gs1 fun _=>?_|(refine gp ?_ ?_<;>intro hx_ this)|fail)
 refine fo (hc:=htm) ?_
 repeat' (first|refine gs ?_|refine gs1 fun _=>?_|(refine gp ?_ ?_<;>intro hx_ this)|fail)
 · have hlt:i.k<padN (s.size+1):=by
    have h1:¬ (((s.size+1+i.k)%64:Nat):Int)=56:=by simpa using hx_
    omega
   refine aF (size:=1) (z:=.int .u8 0) (news:=u8s [0]) (q:=1) rfl rfl rfl rfl (fun _=>At.there _ (At.here _)) (fun w G=>bT G aw rfl rfl 1) ?_ ?_ rfl ?_ rfl ?_
   · omega
   · simp only [maxLen];omega
   · rfl
   intro A2 c2
   repeat' (first|refine gs ?_|refine gs1 fun _=>?_|(refine gp ?_ ?_<;>intro hx_ this)|fail)
   refine ⟨(⟨i.k+1,hlt,A2,c2⟩:EndS (padN (s.size+1))),(by show padN (s.size+1)-(i.k+1)<padN (s.size+1)-i.k;omega),aj am ?_ fun _ h=>h⟩
   refine Z2 _ ?_
   rw [←ck]
   simp only [List.replicate_succ',ZC]
   exact al _
 have hk:i.k=padN (s.size+1):=by
  have h1:(((s.size+1+i.k)%64:Nat):Int)=56:=by simpa using hx_
  omega
 have hl1:(endL s++List.replicate (padN (s.size+1)) 0:List Int).length=s.size+1+padN (s.size+1):=by simp [hel]
 rw [hk]
 have hpad:=DP s aa
 have hplen:(padL (nl s)).length=s.size+1+padN (s.size+1)+8:=by rw [vM,dw]
 rw [padI] at hpad
 have h8:IntKind.u64.wrap (8*IntKind.u64.wrap (s.size:Int))=IntKind.u64.wrap (IntKind.u64.wrap (s.size:Int)*8):=by rw [Int.mul_comm]
 rw [h8]
 generalize hL:(endL s++List.replicate (padN (s.size+1)) 0:List Int)=L0 at *
 refine aq (ι:=EndS 8) (fun j=>⟨[(3,.slice j.A (s.size+1+padN (s.size+1)+j.k) j.c),(4,.int .u64 (IntKind.u64.wrap (IntKind.u64.wrap (s.size:Int)*8))),(5,.int .i64 (56-8*(j.k:Int)))],[orow 5 1 (.slice j.A (s.size+1+padN (s.size+1)+j.k) j.c) (s.size+1+padN (s.size+1)+j.k) (u8s (L0++sizeB s.size j.k))],fun _=>True⟩) (fun j=>8-j.k) ⟨0,Z4 _,i.A,i.c⟩ (aj am ?_ fun _ h=>h) fun j=>?_
 · have e:sizeB (s.size:Int) 0=[]:=rfl
   simp only [e,ZJ]
   exact al _
 have hjk:=j.hk
 repeat' (first|refine gs ?_|refine gs1 fun _=>?_|(refine gp ?_ ?_<;>intro hx_ this)|fail)
 · have hlt:j.k<8:=by omega
   refine aF (size:=1) (z:=.int .u8 0) (news:=u8s [IntKind.u8.wrap (shrV .u64 (IntKind.u64.wrap (IntKind.u64.wrap (s.size:Int)*8)) (56-8*(j.k:Int)))]) (q:=1) rfl rfl rfl rfl (fun _=>At.there _ (At.here _)) (fun w G=>bT G aw rfl rfl 1) ?_ ?_ rfl ?_ rfl ?_
   · omega
   · simp only [maxLen];omega
   · rfl
   intro A2 c2
   repeat' (first|refine gs ?_|refine gs1 fun _=>?_|(refine gp ?_ ?_<;>intro hx_ this)|fail)
   refine ⟨(⟨j.k+1,hlt,A2,c2⟩:EndS 8),(by show 8-(j.k+1)<8-j.k;omega),aj ⟨rfl,rfl,?_,trivial⟩ ?_ fun _ h=>h⟩
   · show some (Value.int .i64 (56-8*(j.k:Int)-8))=some (Value.int .i64 (56-8*((j.k+1:Nat):Int)))
     congr 2
     omega
   refine Z2 _ ?_
   rw [←ck]
   have e:sizeB (s.size:Int) (j.k+1)=sizeB s.size j.k++[IntKind.u8.wrap (shrV .u64 (IntKind.u64.wrap (IntKind.u64.wrap (s.size:Int)*8)) (56-8*(j.k:Int)))]:=by simp [sizeB,List.range_succ]
   simp only [e,ZC]
   exact al _
 have hj8:j.k=8:=by omega
 rw [hj8,hpad]
 obtain ⟨sp,hsp⟩:∃ sp:SlV,sp=⟨j.A,s.size+1+padN (s.size+1)+8,j.c⟩:=⟨_,rfl⟩
 have hLt:=F0 (nl s) (jE s)
 have hLm:=ul (nl s)
 have hsha:=FL s aa
 rw [shaL] at hsha
 obtain ⟨L,hLL⟩:∃ L,L=padL (nl s):=⟨_,rfl⟩
 rw [←hLL] at hplen hLt hLm hsha
 obtain ⟨m,hm⟩:∃ m,m=L.length/64:=⟨_,rfl⟩
 rw [←hm] at hsha
 have hL64:L.length=64*m:=by omega
 refine aZ ?_
 repeat' (first|(refine bZ (hc:=pU) (hX:=fun _ _=>trivial) fun v1 X1 h1=>?_;obtain ⟨sh0,rfl,hw0⟩:=h1)|refine gs ?_|refine gs1 fun _=>?_|(refine gp ?_ ?_<;>intro hx_ this)|fail)
 have hspD:∀ w,(True∧(orow 5 1 (.slice j.A (s.size+1+padN (s.size+1)+8) j.c) (s.size+1+padN (s.size+1)+8) (u8s ((padL (nl s)).map fun (n:Nat)=>(n:Int)))).F w)→U8s w sp L:=fun w h=>by
  rw [hsp,hLL]
  exact U8s.of_row h.2 (by rw [←hLL];exact hplen.symm)
 have hp0:0<L.length:=by omega
 refine aP (p:=sp.c≥L.length∧sp.p.isSome=true) (fun w h=>⟨by
  have h1:=RowsD.cap (hspD w h.1)
  have h2:=iz (f:=fun n=>.int .u8 (n:Int)) (hspD w h.1)
  omega,gi (f:=fun n=>.int .u8 (n:Int)) (hspD w h.1) hp0⟩) fun ⟨hsc,hspp⟩=>?_
 have hspn:sp.n=L.length:=by rw [hsp,hplen]
 have hspv:sp.v=.slice j.A (s.size+1+padN (s.size+1)+8) j.c:=by rw [hsp];rfl
 refine aq (ι:=ShaI L m) (fun i=>⟨[(3,sp.v),(6,i.s.v),(7,.int .i64 ((64*i.k:Nat):Int))],[],fun w=>U8s w sp L∧U32s w i.s i.S.l⟩) (fun i=>m-i.k) ⟨0,Z4 _,sh0,iniN,Gg,by rw [Nat.mul_zero,List.drop_zero,Nat.sub_zero]⟩ (aj ⟨by rw [hspv];rfl,rfl,rfl,trivial⟩ (al _) fun w h=>⟨hspD w h.1,hw0 w h.2⟩) fun i=>?_
 obtain ⟨k,hk2,sh,S,hSl,hrun⟩:=i
 simp only
 repeat' (first|refine ai (zb (b:=64) rfl rfl aa) rfl ao rfl ?_|refine gs ?_|refine gs1 fun _=>?_|(refine gp ?_ ?_<;>intro hx_ this)|fail)
 · have hlt:k<m:=by omega
   have hdl:(L.drop (64*k)).length=64*(m-k):=by rw [Qr];omega
   have hpl:((L.drop (64*k)).take 64).length=64:=by rw [Qi];omega
   have hpb:∀ x∈(L.drop (64*k)).take 64,x<256:=fun x hx=>hLt x (List.mem_of_mem_drop (List.mem_of_mem_take hx))
   have hne:=tY sh ⟨(sp.from 1 (64*k)).p,64,sp.c-64*k⟩ S hSl _ hpl hpb
   have hcg:winN (fW ((L.drop (64*k)).take 64)) 0=winN (fW (L.drop (64*k))) 0:=lO fun t ht=>wc t ht
   rw [hcg] at hne
   have hrun2:runN (m-(k+1)) (mixN S (winN (fW (L.drop (64*k))) 0)) (L.drop (64*(k+1)))=runN m iniN L:=by
    have e1:m-k=(m-(k+1))+1:=by omega
    rw [e1,gg aa,List.drop_drop] at hrun
    rw [show 64*(k+1)=64*k+64 from by omega]
    exact hrun
   repeat' (first|refine ai (zb (b:=64) rfl rfl aa) rfl ao rfl ?_|(refine bZ (hc:=hne) (hX:=fun w h=>⟨h.2,U8s.part h.1 aa⟩) fun v2 X2 h2=>?_;obtain ⟨s2,rfl,hw2⟩:=h2)|refine gs ?_|refine gs1 fun _=>?_|(refine ai (Fi (size:=1) rfl rfl rfl aa) rfl ao rfl ?_)|(refine gp ?_ ?_<;>intro hx_ this)|fail)
   exact ⟨(⟨k+1,hlt,s2,_,F3 _ _,hrun2⟩:ShaI L m),(by show m-(k+1)<m-k;omega),aj am (al _) fun w h=>⟨h.1.1,hw2 w h.2⟩⟩
 · obtain rfl:k=m:=by omega
   rw [Nat.sub_self] at hrun
   have hS:S=runN k iniN L:=hrun
   rw [←hS,EH] at hsha
   refine aP (p:=sh.n=8∧sh.p.isSome=true) (fun w h1=>⟨by rw [iz (f:=fun n=>.int .u32 (n:Int)) h1.2];rfl,gi (f:=fun n=>.int .u32 (n:Int)) h1.2 (by rw [show S.l.length=8 from rfl];omega)⟩) fun ⟨hsn,hshp⟩=>?_
   refine cS 5 1 ?_
   refine aq (ι:=RowA 32) (fun i=>⟨[(6,sh.v),(8,.slice i.A i.k i.c),(9,.int .i64 (i.k:Nat))],[orow 5 1 (.slice i.A i.k i.c) i.k (u8s (((List.range i.k).map (outB S)).map fun (n:Nat)=>(n:Int)))],fun w=>U32s w sh S.l⟩) (fun i=>32-i.k) ⟨0,by omega,none,0⟩ (aj am (.cons_cons _ (Zu _)) fun _ h=>h.2) fun i=>?_
   obtain ⟨k2,hk3,A3,c3⟩:=i
   simp only
   clear hspD hrun hLt hLm hplen
   repeat' (first|refine gs ?_|refine gs1 fun _=>?_|(refine gp ?_ ?_<;>intro hx_ this)|fail)
   · have hlt:k2<32:=by omega
     obtain ⟨q,hq⟩:∃ q,q=k2/4:=⟨_,rfl⟩
     obtain ⟨r,hr⟩:∃ r,r=k2%4:=⟨_,rfl⟩
     have h1:IntKind.i64.wrap ((k2:Int).tdiv 4)=(q:Int):=by
      rw [show (k2:Int).tdiv 4=((k2/4:Nat):Int) from Int.ofNat_tdiv _ _,←hq]
      exact IntWalk.i64_in _ aa
     have h2:(k2:Int).tmod 4=(r:Int):=by rw [show (k2:Int).tmod 4=((k2%4:Nat):Int) from Int.ofNat_tmod _ _,←hr]
     obtain ⟨u,hu⟩:∃ u,u=24-8*r:=⟨_,rfl⟩
     have h3:IntKind.i64.wrap (24-((8*r:Nat):Int))=(u:Int):=by
      rw [show 24-((8*r:Nat):Int)=(u:Int) from by omega]
      exact IntWalk.i64_in _ aa
     obtain ⟨x,hx⟩:∃ x,x=S.l.getD q 0:=⟨_,rfl⟩
     have hx2:x<4294967296:=by
      obtain ⟨a,b,c,d,e,f,g,h⟩:=S
      obtain ⟨ha,hb,hc,hd,he,hf,hg,hh⟩:=hSl
      simp only at ha hb hc hd he hf hg hh
      have:q<8:=by omega
      rw [hx]
      have hq8:q=0∨q=1∨q=2∨q=3∨q=4∨q=5∨q=6∨q=7:=by omega
      rcases hq8 with h|h|h|h|h|h|h|h<;>rw [h]<;>assumption
     have hg:∀ w,U32s w sh S.l→CellAt w sh.p q (.int .u32 (x:Int)):=fun w h=>hx▸js (f:=fun n=>.int .u32 (n:Int)) h (by rw [show S.l.length=8 from rfl];omega)
     have hpw:(2:Int) ^ (min ((u:Int)).toNat 32)=((2 ^ u:Nat):Int):=by
      rw [ZZ,Nat.min_eq_left (by omega)]
      simp
     have h8w:IntKind.u8.wrap ((x/2 ^ u:Nat):Int)=((outB S k2:Nat):Int):=by rw [wrap8,outB,←hq,←hr,←hu,←hx]
     have hrow:(List.range (k2+1)).map (outB S)=(List.range k2).map (outB S)++[outB S k2]:=by rw [List.range_succ,ZW];rfl
     have hou:outB S k2<256:=Qc _ aa
     generalize outB S k2=ob at *
     repeat' (first|refine ai (lE (c:=(q:Int)) rfl rfl (by decide) h1) rfl ao rfl ?_|refine ai (om (c:=(r:Int)) rfl rfl (by decide) h2) rfl ao rfl ?_|refine ai (yS (a:=8) (b:=r) rfl rfl aa) rfl ao rfl ?_|refine ai (oj (c:=(u:Int)) rfl rfl h3) rfl ao rfl ?_|refine ai (tt (p:=2 ^ u) rfl rfl aa hx2 hpw) rfl ao rfl ?_|refine ai (oo rfl h8w) rfl ao rfl ?_|(refine aF (size:=1) (z:=.int .u8 0) (news:=u8s [(ob:Int)]) (q:=1) rfl rfl rfl rfl (fun _=>At.there _ (At.here _)) (fun w G=>bT G aw rfl rfl 1) aa (by simp only [maxLen];omega) rfl ?_ rfl ?_;(first|with_reducible rfl|with_reducible assumption|with_reducible exact Zl|with_reducible exact Zn);intro A4 c4)|refine gs ?_|refine gs1 fun _=>?_|(refine aI (q:=q) ?_)|(refine dc (q:=q) (u:=.int .u32 (x:Int)) (hF:=hg) ?_)|(refine gp ?_ ?_<;>intro hx_ this)|fail)
     exact ⟨(⟨k2+1,hlt,A4,c4⟩:RowA 32),(by show 32-(k2+1)<32-k2;omega),aj am (by rw [hrow,ZW,ck];exact .cons _ (al _)) fun _ h=>h⟩
   · obtain rfl:k2=32:=by omega
     rw [←hsha]
     refine eL (hm:=aw) ?_
     repeat' (first|refine gs ?_|refine gs1 fun _=>?_|(refine gp ?_ ?_<;>intro hx_ this)|fail)
     refine ad (ag rfl rfl) ?_
     rw [←kH,cI]
theorem BQ (s:ByteArray) {i:Nat} (h:i<s.size):(((s.get! i).toNat:Nat):Int)=byteAt s i:=by
 have hs:i<s.data.size:=h
 rw [byteAt,Zo,Qo,Array.getElem?_eq_getElem hs]
 show (((s.data[i]!).toNat:Nat):Int)=_
 rw [getElem!_pos s.data i hs]
 rfl
theorem EJ {s:ByteArray} {i:Nat} (h:(s.get! i).toNat<128):Utf8.decode s i=((s.get! i).toNat,1):=by
 unfold Utf8.decode
 simp only [ZT,h,ZN]
theorem B9 {s:ByteArray} {i:Nat} (h:¬ (s.get! i).toNat<128):128≤(Utf8.decode s i).1:=by
 unfold Utf8.decode
 simp only [ZT,h,if_false]
 repeat' split
 all_goals first
  | (simp only [Utf8.runeError];omega)
  | (simp_all;done)
  | (simp only [ge_iff_le] at *;omega)
  | (simp only [ge_iff_le,Zp,Zw] at *;omega)
theorem kM {bad:Nat→Int→Bool} {s:ByteArray} (hb:∀ q c,128≤c→bad q c=true):∀ f q,s.size≤f+q→runes bad s f q=(List.range' q (s.size-q)).all fun k=>!bad k (byteAt s k)
 | 0,q,h=>by
  rw [runes,show s.size-q=0 from by omega]
  rfl
 | f+1,q,h=>by
  rw [runes]
  by_cases hq:q<s.size
  · rw [Zd hq,Zf]
    have e:s.size-q=(s.size-(q+1))+1:=by omega
    rw [e,List.range'_succ,List.all_cons]
    have hg:=BQ s hq
    by_cases hl:(s.get! q).toNat<128
    · rw [EJ hl]
      simp only
      rw [hg]
      cases hbq:bad q (byteAt s q) with
      | true=>rfl
      | false =>
       rw [Ze,kM hb f (q+1) (by omega)]
       rfl
    · have h1:=hb q _ (show (128:Int)≤((Utf8.decode s q).1:Int) by have:=B9 hl;omega)
      have h2:=hb q (byteAt s q) (by rw [←hg];omega)
      rw [h1,h2]
      rfl
  · rw [Zc hq,show s.size-q=0 from by omega]
    rfl
theorem oI {bad:Nat→Int→Bool} {s:ByteArray} (hb:∀ q c,128≤c→bad q c=true):runes bad s s.size 0=allB s.size fun k=>bad k (byteAt s k):=by
 rw [kM hb s.size 0 aa,allB,List.range_eq_range']
 rfl
def inChr (c l h:Int):Bool:=decide (l≤c)&&decide (c≤h)
theorem jx (c l h:Int):Pu Tryz.prog 269 #[.int .u8 c,.int .u8 l,.int .u8 h] (fun _=>True) (.bool (inChr c l h)):=by
 refine ak (args:=[_,_,_]) _ Tryz.func269 rfl Tryz.ntmps269 rfl fun av bor w0=>?_
 repeat' (first|refine gs ?_|(refine gp ?_ ?_<;>intro hx_ this)|fail)
 (all_goals (apply ad;apply ag;rfl;rfl));all_goals first|rfl|(simp only [inChr, *,Zt,Zr,Zf,Ze,Zh,Zg,Zk,Zj,Zn,Zl,Zs,Zm,Zq,Zi];done)|(simp_all [inChr];done)
def badIdR (s:ByteArray) (k:Nat):Bool:=!inChr (byteAt s k) 48 57&&!inChr (byteAt s k) 97 102
theorem Cl (s:ByteArray) (k:Nat):badId k (byteAt s k)=badIdR s k:=by
 simp only [badId,badIdR,dig,inChr]
 congr 1
 rw [Bool.not_and,←decide_not,←decide_not]
 congr 1<;>exact decide_eq_decide.2 aa
theorem Ea (s:ByteArray):isId s=(allB s.size (badIdR s)&&decide ((s.size:Int)=16)):=by
 rw [isId,oI (fun q c h=>by simp only [badId,dig];simp;omega),Bool.and_comm]
 congr 2
 exact funext fun k=>Cl s k
theorem gl (s:ByteArray) (hs:s.size≤maxLen):Pu Tryz.prog 230 #[.string s] (fun _=>True) (.bool (isId s)):=by
 refine ak (args:=[_]) _ Tryz.func230 rfl Tryz.ntmps230 rfl fun av bor w0=>?_
 simp only [maxLen] at hs
 rw [Ea]
 repeat' (first|refine gs ?_|fail)
 refine aq (ι:=Upto s.size (badIdR s)) (fun i=>⟨[(0,.string s),(3,.int .i64 (i.k:Nat))],[],fun w=>True⟩) (fun i=>s.size-i.k) (Upto.zero _ _) (aj am (al _) fun _ h=>h) fun i=>?_
 have hik:=i.hk
 have e1:((i.k:Nat):Int).toNat=i.k:=rfl
 have hc1:=jx (byteAt s i.k) 48 57
 have hc2:=jx (byteAt s i.k) 97 102
 repeat' (first|(refine ab (hc:=hc1) ?_)|(refine ab (hc:=hc2) ?_)|refine gs ?_|(refine gp ?_ ?_<;>intro hx_ this)|fail)
 all_goals first
  | (refine ad (ag rfl rfl) ?_;rw [cM (k:=i.k) aa (by simp only [badIdR, *,Zt,Zr,Zf,Ze,Zh,Zg,Zk,Zj,Zn,Zl,Zs,Zm,Zq,Zi]),Zj])
  | exact ⟨i.next aa (by simp only [badIdR, *,Zt,Zr,Zf,Ze,Zh,Zg,Zk,Zj,Zn,Zl,Zs,Zm,Zq,Zi]),(by show s.size-(i.k+1)<s.size-i.k;omega),aj am (al _) fun _ h=>h⟩
  | (refine ad (ag rfl rfl) ?_;rw [i.all aa,Zg])
def badNameR (s:ByteArray) (k:Nat):Bool:=!inChr (byteAt s k) 97 122&&(decide ((k:Int)=0)||!inChr (byteAt s k) 48 57&&!decide (byteAt s k=95))
theorem yi (s:ByteArray):isName s=(allB s.size (badNameR s)&&(decide (1≤(s.size:Int))&&decide ((s.size:Int)≤24))):=by
 rw [isName,oI (fun q c h=>by simp only [badName,dig];simp;omega),dF,Bool.and_comm]
 congr 1
 rw [←decide_not,←decide_not]
 congr 1<;>exact decide_eq_decide.2 aa
theorem iP (s:ByteArray) (hs:s.size≤maxLen):Pu Tryz.prog 271 #[.string s] (fun _=>True) (.bool (isName s)):=by
 refine ak (args:=[_]) _ Tryz.func271 rfl Tryz.ntmps271 rfl fun av bor w0=>?_
 simp only [maxLen] at hs
 rw [yi]
 repeat' (first|refine gs ?_|fail)
 refine aq (ι:=Upto s.size (badNameR s)) (fun i=>⟨[(0,.string s),(3,.int .i64 (i.k:Nat))],[],fun w=>True⟩) (fun i=>s.size-i.k) (Upto.zero _ _) (aj am (al _) fun _ h=>h) fun i=>?_
 have hik:=i.hk
 have e1:((i.k:Nat):Int).toNat=i.k:=rfl
 have hc1:=jx (byteAt s i.k) 97 122
 have hc2:=jx (byteAt s i.k) 48 57
 by_cases hlt:i.k<s.size
 · repeat' (first|(refine ab (hc:=hc1) ?_)|(refine ab (hc:=hc2) ?_)|refine gs ?_|(refine gp ?_ ?_<;>intro hx_ this)|fail)
   all_goals simp only [ZZ] at *
   all_goals first
    | (exfalso;omega)
    | (refine ad (ag rfl rfl) ?_;rw [cM (k:=i.k) aa (by simp only [badNameR, *,Zt,Zr,Zf,Ze,Zh,Zg,Zk,Zj,Zn,Zl,Zs,Zm,Zq,Zi]),Zj])
    | exact ⟨i.next aa (by simp only [badNameR, *,Zt,Zr,Zf,Ze,Zh,Zg,Zk,Zj,Zn,Zl,Zs,Zm,Zq,Zi]),(by show s.size-(i.k+1)<s.size-i.k;omega),aj am (al _) fun _ h=>h⟩
    | skip
 · rw [i.all hlt,Zg]
   repeat' (first|refine gs ?_|(refine gp ?_ ?_<;>intro hx_ this)|fail)
   all_goals first
    | (exfalso;omega)
    | (refine ad (ag rfl rfl) ?_;simp only [*,Zt,Zr,Zf,Ze,Zh,Zg,Zk,Zj,Zn,Zl,Zs,Zm,Zq,Zi];done)
structure ActD.Str (a:ActD):Prop where
 author:a.author.size≤maxLen
 target:a.target.size≤maxLen
 group:a.group.size≤maxLen
 text:a.text.size≤maxLen
 to:∀ x∈a.toL,x.size≤maxLen
def badIdsR (l:List ByteArray) (k:Nat):Bool:=!isId (l.getD k .empty)||decide (0<(k:Int))&&!Op.bytesLess (l.getD (k-1) .empty).toList (l.getD k .empty).toList
theorem Do (a b:ByteArray):(Op.bytesLess a.toList b.toList||seqB a b)=!Op.bytesLess b.toList a.toList:=by
 show (ltB a b||seqB a b)=!ltB b a
 cases h:ltB a b with
 | true=>rw [iC h];rfl
 | false =>
  cases k:ltB b a with
  | true =>
   have:a≠b:=fun e=>Bw k e.symm
   rw [seqB_ne.2 this]
   rfl
  | false =>
   rw [iB h k,cF]
   rfl
theorem BD (l:List ByteArray):isIds l=(allB l.length (badIdsR l)&&decide ((l.length:Int)≤64)):=by
 rw [isIds,Bool.and_comm]
 congr 1
 · refine congrArg (allB l.length) (funext fun k=>?_)
   rw [badIds,badIdsR,Do]
 · rw [←decide_not]
   exact decide_eq_decide.2 aa
theorem kg (s:SlV) (l:List ByteArray) (hz:∀ x∈l,x.size≤maxLen):Pu Tryz.prog 234 #[s.v] (fun w=>Strs w s l) (.bool (isIds l)):=by
 refine ak (args:=[_]) _ Tryz.func234 rfl Tryz.ntmps234 rfl fun av bor w0=>?_
 refine aP (p:=s.n=l.length∧s.n≤maxLen∧(0<l.length→s.p.isSome=true)) (fun w h=>⟨h.len_,ZY (RowsD.cap h) (RowsD.max h),h.some_⟩) fun ⟨hl,hm,hp⟩=>?_
 simp only [maxLen] at hm
 rw [BD]
 repeat' (first|refine gs ?_|fail)
 refine aq (ι:=Upto l.length (badIdsR l)) (fun i=>⟨[(0,s.v),(3,.int .i64 (i.k:Nat))],[],fun w=>Strs w s l⟩) (fun i=>l.length-i.k) (Upto.zero _ _) (aj am (al _) fun _ h=>h) fun i=>?_
 have hik:=i.hk
 by_cases hlt:i.k<l.length
 · have hp':=hp aa
   have hid:=gl (l.getD i.k .empty) (hz _ (by rw [Zo,Zb hlt];exact ZQ hlt))
   repeat' (first|refine gs ?_|(refine gp ?_ ?_<;>intro hx_ this)|fail)
   · (refine aV ⟨[0,1,2,3],[(4,⟨[5,6,7,8,9,10,11,12,13,14,15,16,17,18,19,20,21],[]⟩)]⟩ (h:=?_))
     all_goals repeat' (first|(refine ab (hc:=hid) (hX:=fun _ _=>trivial) ?_)|refine gd ?_|refine ay (hy:=by first|(apply aC (q:=i.k);rfl;rfl;omega;omega;assumption;omega)|(apply aC (q:=i.k-1);rfl;rfl;omega;omega;assumption;omega)|(apply er (q:=i.k);rfl;exact fun w h=>Strs.get h hlt)|(apply er (q:=i.k-1);rfl;exact fun w h=>Strs.get h (by omega:i.k-1<l.length))|(apply tu;rfl;rfl)) ?_|refine aA ?_ (h':=?_)|exact aB|(refine gq ?_ ?_<;>intro hx_ this)|fail)
     all_goals
      repeat' (first|refine gs ?_|(refine gp ?_ ?_<;>intro hx_ this)|fail)
      all_goals first
       | (refine ad (ag rfl rfl) ?_;rw [cM hlt (by simp only [badIdsR, *,Zt,Zr,Zf,Ze,Zh,Zg,Zk,Zj,Zn,Zl,Zs,Zm,Zq,Zi]),Zj])
       | exact ⟨i.next hlt (by simp only [badIdsR, *,Zt,Zr,Zf,Ze,Zh,Zg,Zk,Zj,Zn,Zl,Zs,Zm,Zq,Zi]),(by show l.length-(i.k+1)<l.length-i.k;omega),aj am (al _) fun _ h=>h⟩
   · exfalso;omega
 · rw [i.all hlt,Zg]
   repeat' (first|refine gs ?_|(refine gp ?_ ?_<;>intro hx_ this)|fail)
   all_goals first
    | (exfalso;omega)
    | (refine ad (ag rfl rfl) ?_;rw [hl];done)
theorem fu (n:Int):Pu Tryz.prog 270 #[.int .i64 n] (fun _=>True) (.bool (isPublicB n)):=by
 refine ak (args:=[_]) _ Tryz.func270 rfl Tryz.ntmps270 rfl fun av bor w0=>?_
 have e:isPublicB n=(decide (1≤n)&&decide (n<2305843009213693951)):=by
  rw [isPublicB,withinB]
  congr 1
  exact decide_eq_decide.2 aa
 rw [e]
 clear e
 repeat' (first|refine gs ?_|(refine gp ?_ ?_<;>intro hx_ this)|fail)
 (all_goals (apply ad;apply ag;rfl;rfl));all_goals first|rfl|(simp only [Zd, *,Zt,Zr,Zf,Ze,Zh,Zg,Zk,Zj,Zn,Zl,Zs,Zm,Zq,Zi];done)|(simp_all [Zd];done)
theorem kT (b:BoxD):Pu Tryz.prog 294 #[b.v] (fun _=>True) (.bool (isSealedB b)):=by
 refine ak (args:=[_]) _ Tryz.func294 rfl Tryz.ntmps294 rfl fun av bor w0=>?_
 repeat' (first|refine gs ?_|refine gs1 fun _=>?_|(refine gp ?_ ?_<;>intro hx_ this)|fail)
 (all_goals (apply ad;apply ag;rfl;rfl));all_goals first|rfl|(simp only [isSealedB,isShortB, *,Zt,Zr,Zf,Ze,Zh,Zg,Zk,Zj,Zn,Zl,Zs,Zm,Zq,Zi];done)|(simp_all [isSealedB,isShortB];done)
theorem kS (b:BoxD):Pu Tryz.prog 293 #[b.v] (fun _=>True) (.bool (boxEq b BoxD.zero)):=by
 refine ak (args:=[_]) _ Tryz.func293 rfl Tryz.ntmps293 rfl fun av bor w0=>?_
 repeat' (first|refine gs ?_|refine gs1 fun _=>?_|(refine gp ?_ ?_<;>intro hx_ this)|fail)
 (all_goals (apply ad;apply ag;rfl;rfl));all_goals first|rfl|(simp only [boxEq,BoxD.zero, *,Zt,Zr,Zf,Ze,Zh,Zg,Zk,Zj,Zn,Zl,Zs,Zm,Zq,Zi];done)|(simp_all [boxEq,BoxD.zero];done)
def groupR (a:ActD):Bool:=bif decide (a.scope=2) then isName a.group else seqB a.group ⟨#[]⟩
theorem kR (a:ActD) (hs:a.Str):Pu Tryz.prog 274 #[a.v] (fun _=>True) (.bool (groupR a)):=by
 refine ak (args:=[_]) _ Tryz.func274 rfl Tryz.ntmps274 rfl fun av bor w0=>?_
 have hn:=iP a.group hs.group
 repeat' (first|(refine ab (hc:=hn) (hX:=fun _ _=>trivial) ?_)|refine gs ?_|refine gs1 fun _=>?_|(refine gp ?_ ?_<;>intro hx_ this)|fail)
 (all_goals (apply ad;apply ag;rfl;rfl));all_goals first|rfl|(simp only [groupR, *,Zt,Zr,Zf,Ze,Zh,Zg,Zk,Zj,Zn,Zl,Zs,Zm,Zq,Zi];done)|(simp_all [groupR];done)
def zeroR (a:ActD):Bool:=seqB a.object ⟨#[]⟩&&seqB a.target ⟨#[]⟩&&decide (a.scope=0)&&seqB a.group ⟨#[]⟩&&decide ((a.to.n:Int)=0)&&seqB a.text ⟨#[]⟩&&boxEq a.body BoxD.zero&&decide (a.epoch=0)&&decide ((a.wraps.n:Int)=0)&&decide (a.n=0)&&decide (a.m=0)
theorem bu (a:ActD):Pu Tryz.prog 276 #[a.v] (fun _=>True) (.bool (zeroR a)):=by
 refine ak (args:=[_]) _ Tryz.func276 rfl Tryz.ntmps276 rfl fun av bor w0=>?_
 have hn:=kS a.body
 repeat' (first|(refine ab (hc:=hn) (hX:=fun _ _=>trivial) ?_)|refine gs ?_|refine gs1 fun _=>?_|(refine ax ?_)|(refine gp ?_ ?_<;>intro hx_ this)|fail)
 (all_goals (apply ad;apply ag;rfl;rfl));all_goals first|rfl|(simp only [zeroR, *,Zt,Zr,Zf,Ze,Zh,Zg,Zk,Zj,Zn,Zl,Zs,Zm,Zq,Zi];done)|(simp_all [zeroR];done)
theorem nX (a:ActD):Pu Tryz.prog 275 #[a.v] (ActD.at_ · a) (.bool (wrappedB a)):=by
 refine ak (args:=[_]) _ Tryz.func275 rfl Tryz.ntmps275 rfl fun av bor w0=>?_
 refine aP (p:=a.wraps.n=a.wrapsL.length∧a.wraps.n≤maxLen∧(0<a.wrapsL.length→a.wraps.p.isSome=true)) (fun w h=>⟨h.2.len_,ZY (RowsD.cap h.2) (RowsD.max h.2),h.2.some_⟩) fun ⟨hl,hm,hp⟩=>?_
 simp only [maxLen] at hm
 repeat' (first|refine gs ?_|refine gs1 fun _=>?_|(refine gp ?_ ?_<;>intro hx_ this)|fail)
 rename_i b
 refine aq (ι:=Upto a.wrapsL.length (badW a.wrapsL)) (fun i=>⟨[(1,.pointer (some ⟨b,0,none⟩)),(3,.int .i64 i.k)],[cel b 46 a.cells],(ActD.at_ · a)⟩) (fun i=>a.wrapsL.length-i.k) (Upto.zero _ _) (aj am (al _) fun _ h=>h) fun i=>?_
 have hik:=i.hk
 repeat' (first|refine gs ?_|refine gs1 fun _=>?_|(refine gp ?_ ?_<;>intro hx_ this)|fail)
 · have hlt:i.k<a.wrapsL.length:=by omega
   have hp':=hp aa
   obtain ⟨x,hx⟩:∃ x,a.wrapsL[i.k]?=some x:=⟨_,Zb hlt⟩
   have hc1:=fu x.to
   have hc2:=fu x.eph
   have hc3:=kT x.box
   repeat' (first|(refine ab (hc:=hc1) (hX:=fun _ _=>trivial) ?_)|(refine ab (hc:=hc2) (hX:=fun _ _=>trivial) ?_)|(refine ab (hc:=hc3) (hX:=fun _ _=>trivial) ?_)|refine gs ?_|refine gs1 fun _=>?_|(refine aI (q:=i.k*5) ?_)|(refine ca (cs:=x.cells) (hF:=fun w h=>Wraps.get h.2 hx) ?_)|(refine ax ?_)|(refine gp ?_ ?_<;>intro hx_ this)|fail)
   all_goals first
    | (refine ad (ag rfl rfl) ?_;rw [wrappedB,cM hlt (by simp only [jX hx, *,Zt,Zr,Zf,Ze,Zh,Zg,Zk,Zj,Zn,Zl,Zs,Zm,Zq,Zi]),Zj])
    | exact ⟨i.next hlt (by simp only [jX hx, *,Zt,Zr,Zf,Ze,Zh,Zg,Zk,Zj,Zn,Zl,Zs,Zm,Zq,Zi]),(by show a.wrapsL.length-(i.k+1)<a.wrapsL.length-i.k;omega),aj am (Z2 _ (al _)) fun _ h=>h⟩
 · refine ad (ag rfl rfl) ?_
   rw [wrappedB,i.all aa,Zg]
def sealR (a:ActD):Bool:=decide (0≤a.epoch)&&decide (a.epoch≤1073741824)&&seqB a.text ⟨#[]⟩&&isSealedB a.body
def audR (a:ActD):Bool:=bif !isIds a.toL then false else bif !groupR a then false else bif decide (a.scope=0) then decide (a.epoch=0)&&decide ((a.text.size:Int)≤500)&&boxEq a.body BoxD.zero
 else bif decide (a.scope=3) then sealR a else bif decide (a.scope=1)||decide (a.scope=2) then sealR a&&decide ((a.to.n:Int)=0) else false
theorem Gz (a:ActD):audR a=audienceB a:=by
 have hw:withinB a.epoch 0 1073741824=(decide (0≤a.epoch)&&decide (a.epoch≤1073741824)):=rfl
 have hz:decide (0<(a.to.n:Int))=!decide ((a.to.n:Int)=0):=by rw [←decide_not];exact decide_eq_decide.2 aa
 have hsh:isShortB a.text=decide ((a.text.size:Int)≤500):=rfl
 rw [audR,audienceB,groupR,sealedScopeB,hw,hz,hsh,sealR]
 cases isIds a.toL
 · rfl
 simp only [Zn,Ze]
 by_cases h0:a.scope=0
 · rw [h0]
   simp only [show decide ((0:Int)=2)=false from rfl,show decide ((0:Int)=0)=true from rfl,Ze,Zf]
   cases seqB a.group ⟨#[]⟩<;>simp [Bool.and_assoc]
 by_cases h3:a.scope=3
 · rw [h3]
   simp only [show decide ((3:Int)=2)=false from rfl,show decide ((3:Int)=0)=false from rfl,show decide ((3:Int)=3)=true from rfl,show decide ((3:Int)=1)=false from rfl,Ze,Zf,Zn,Zk]
   cases seqB a.group ⟨#[]⟩<;>simp [Bool.and_assoc]
 by_cases h1:a.scope=1
 · rw [h1]
   simp only [show decide ((1:Int)=2)=false from rfl,show decide ((1:Int)=0)=false from rfl,show decide ((1:Int)=3)=false from rfl,show decide ((1:Int)=1)=true from rfl,Ze,Zf,Zl,Zh,Zm]
   cases seqB a.group ⟨#[]⟩<;>cases decide ((a.to.n:Int)=0)<;>simp [Bool.and_assoc]
 by_cases h2:a.scope=2
 · rw [h2]
   simp only [show decide ((2:Int)=2)=true from rfl,show decide ((2:Int)=0)=false from rfl,show decide ((2:Int)=3)=false from rfl,show decide ((2:Int)=1)=false from rfl,Ze,Zf,Zl,Zh,Zi]
   cases isName a.group<;>cases decide ((a.to.n:Int)=0)<;>simp [Bool.and_assoc]
 rw [Zc h0,Zc h1,Zc h2,Zc h3]
 cases seqB a.group ⟨#[]⟩<;>cases decide ((a.to.n:Int)=0)<;>rfl
theorem mQ (a:ActD) (hs:a.Str):Pu Tryz.prog 272 #[a.v] (ActD.at_ · a) (.bool (audienceB a)):=by
 refine ak (args:=[_]) _ Tryz.func272 rfl Tryz.ntmps272 rfl fun av bor w0=>?_
 rw [←Gz]
 have hi:=kg a.to a.toL hs.to
 have hg:=kR a hs
 have hb:=kT a.body
 have he:=kS a.body
 repeat' (first|(refine ab (hc:=hi) (hX:=fun w h=>h.1) ?_)|(refine ab (hc:=hg) (hX:=fun _ _=>trivial) ?_)|(refine ab (hc:=hb) (hX:=fun _ _=>trivial) ?_)|(refine ab (hc:=he) (hX:=fun _ _=>trivial) ?_)|refine gs ?_|refine gs1 fun _=>?_|(refine ax ?_)|(refine gp ?_ ?_<;>intro hx_ this)|fail)
 all_goals refine ad (ag rfl rfl) ?_
 all_goals first
  | rfl
  | (simp_all [audR,sealR];done)
  | (simp_all [audR,sealR];intros;omega)
def bareA (a:ActD):ActD:={ a with scope:=0,group:=⟨#[]⟩,to:=⟨none,0,0⟩,text:=⟨#[]⟩,body:=BoxD.zero,epoch:=0,toL:=[] }
theorem ue (a:ActD):Pu Tryz.prog 273 #[a.v] (fun _=>True) (bareA a).v:=by
 refine ak (args:=[_]) _ Tryz.func273 rfl Tryz.ntmps273 rfl fun av bor w0=>?_
 repeat' (first|refine j4 ?_|refine gs ?_|refine gs1 fun _=>?_|(refine dH ({ a with scope:=0,group:=⟨#[]⟩,to:=⟨none,0,0⟩,text:=⟨#[]⟩,body:=BoxD.zero }:ActD).cells (h:=?_))|(refine gp ?_ ?_<;>intro hx_ this)|fail)
 exact ad (cL (cs:=(bareA a).cells) rfl rfl aw (by rfl)) rfl
def okR (k:Int) (a:ActD):Bool :=
 bif decide (k=0) then (isPublicB a.n&&decide (0≤a.m)&&decide (a.m<20))&&isName a.text else bif decide (k=1) then audienceB a else bif decide (k=2) then audienceB a&&decide ((a.object.size:Int)=32) else bif decide (k=3) then audienceB a&&decide ((a.object.size:Int)=32) else bif decide (k=4) then decide ((a.object.size:Int)=32) else bif decide (k=5) then decide ((a.object.size:Int)=32) else bif decide (k=6) then decide ((a.object.size:Int)=32) else bif decide (k=7) then isId a.target else bif decide (k=8) then isId a.target else bif decide (k=9) then isId a.target else bif decide (k=10) then isId a.target else bif decide (k=11) then isId a.target else bif decide (k=12) then decide ((a.object.size:Int)=32)&&decide ((a.text.size:Int)≤500) else bif decide (k=13) then decide ((a.object.size:Int)=32) else bif decide (k=14) then audienceB a&&decide ((a.object.size:Int)=32) else bif decide (k=15) then isIds a.toL&&isName a.group else bif decide (k=16) then isIds a.toL&&decide (1≤a.scope)&&decide (a.scope≤3)&&groupR a&&decide (0≤a.epoch)&&decide (a.epoch≤1073741824)&&wrappedB a else bif decide (k=17) then (bif !seqB a.object ⟨#[]⟩ then isName a.text&&decide ((a.object.size:Int)=32)&&seqB a.target ⟨#[]⟩ else isName a.text&&isId a.target) else bif decide (k=18) then (isPublicB a.n&&decide (0≤a.m)&&decide (a.m<20)) else bif decide (k=19) then isIds a.toL&&decide (0<(a.to.n:Int))&&wrappedB a&&decide (1≤a.n)&&decide (a.n≤(a.to.n:Int))&&isPublicB a.m else bif decide (k=20) then decide ((a.object.size:Int)=32) else bif decide (k=21) then decide ((a.object.size:Int)=32)&&decide ((a.text.size:Int)≤500) else bif decide (k=22) then decide ((a.object.size:Int)=32)&&decide (0≤a.n)&&decide (a.n≤1) else bif decide (k=23) then isId a.target&&decide ((a.text.size:Int)≤500)&&decide (0≤a.n)&&decide (a.n≤1099511627776) else false
def restA (k:Int) (a:ActD):ActD :=
 bif decide (k=0) then { a with text:=⟨#[]⟩,n:=0,m:=0 } else bif decide (k=1) then bareA a else bif decide (k=2) then { bareA a with object:=⟨#[]⟩ } else bif decide (k=3) then { bareA a with object:=⟨#[]⟩ } else bif decide (k=4) then { a with object:=⟨#[]⟩ } else bif decide (k=5) then { a with object:=⟨#[]⟩ } else bif decide (k=6) then { a with object:=⟨#[]⟩ } else bif decide (k=7) then { a with target:=⟨#[]⟩ } else bif decide (k=8) then { a with target:=⟨#[]⟩ } else bif decide (k=9) then { a with target:=⟨#[]⟩ } else bif decide (k=10) then { a with target:=⟨#[]⟩ } else bif decide (k=11) then { a with target:=⟨#[]⟩ } else bif decide (k=12) then { a with object:=⟨#[]⟩,text:=⟨#[]⟩ } else bif decide (k=13) then { a with object:=⟨#[]⟩ } else bif decide (k=14) then { bareA a with object:=⟨#[]⟩ } else bif decide (k=15) then { a with group:=⟨#[]⟩,to:=⟨none,0,0⟩,toL:=[] } else bif decide (k=16) then { a with scope:=0,group:=⟨#[]⟩,to:=⟨none,0,0⟩,toL:=[],epoch:=0,wraps:=⟨none,0,0⟩,wrapsL:=[] } else bif decide (k=17) then { a with text:=⟨#[]⟩,object:=⟨#[]⟩,target:=⟨#[]⟩ } else bif decide (k=18) then { a with n:=0,m:=0 } else bif decide (k=19) then { a with to:=⟨none,0,0⟩,toL:=[],wraps:=⟨none,0,0⟩,wrapsL:=[],n:=0,m:=0 } else bif decide (k=20) then { a with object:=⟨#[]⟩ } else bif decide (k=21) then { a with object:=⟨#[]⟩,text:=⟨#[]⟩ } else bif decide (k=22) then { a with object:=⟨#[]⟩,n:=0 } else bif decide (k=23) then { a with target:=⟨#[]⟩,text:=⟨#[]⟩,n:=0 } else a
def fitsR (a:ActD):Bool:=okR a.kind a&&zeroR (restA a.kind a)
theorem Fa (a:ActD):okR 0 a=((isPublicB a.n&&decide (0≤a.m)&&decide (a.m<20))&&isName a.text):=rfl
theorem vJ (a:ActD):restA 0 a=({ a with text:=⟨#[]⟩,n:=0,m:=0 }:ActD):=rfl
theorem E9 (a:ActD):okR 1 a=(audienceB a):=rfl
theorem vI (a:ActD):restA 1 a=(bareA a:ActD):=rfl
theorem E8 (a:ActD):okR 2 a=(audienceB a&&decide ((a.object.size:Int)=32)):=rfl
theorem vH (a:ActD):restA 2 a=({ bareA a with object:=⟨#[]⟩ }:ActD):=rfl
theorem E7 (a:ActD):okR 3 a=(audienceB a&&decide ((a.object.size:Int)=32)):=rfl
theorem vG (a:ActD):restA 3 a=({ bareA a with object:=⟨#[]⟩ }:ActD):=rfl
theorem E6 (a:ActD):okR 4 a=(decide ((a.object.size:Int)=32)):=rfl
theorem vF (a:ActD):restA 4 a=({ a with object:=⟨#[]⟩ }:ActD):=rfl
theorem E5 (a:ActD):okR 5 a=(decide ((a.object.size:Int)=32)):=rfl
theorem vE (a:ActD):restA 5 a=({ a with object:=⟨#[]⟩ }:ActD):=rfl
theorem E4 (a:ActD):okR 6 a=(decide ((a.object.size:Int)=32)):=rfl
theorem vD (a:ActD):restA 6 a=({ a with object:=⟨#[]⟩ }:ActD):=rfl
theorem E3 (a:ActD):okR 7 a=(isId a.target):=rfl
theorem vC (a:ActD):restA 7 a=({ a with target:=⟨#[]⟩ }:ActD):=rfl
theorem E2 (a:ActD):okR 8 a=(isId a.target):=rfl
theorem vB (a:ActD):restA 8 a=({ a with target:=⟨#[]⟩ }:ActD):=rfl
theorem E1 (a:ActD):okR 9 a=(isId a.target):=rfl
theorem vA (a:ActD):restA 9 a=({ a with target:=⟨#[]⟩ }:ActD):=rfl
theorem Bo (a:ActD):okR 10 a=(isId a.target):=rfl
theorem rz (a:ActD):restA 10 a=({ a with target:=⟨#[]⟩ }:ActD):=rfl
theorem Bn (a:ActD):okR 11 a=(isId a.target):=rfl
theorem ry (a:ActD):restA 11 a=({ a with target:=⟨#[]⟩ }:ActD):=rfl
theorem Bl (a:ActD):okR 12 a=(decide ((a.object.size:Int)=32)&&decide ((a.text.size:Int)≤500)):=rfl
theorem rx (a:ActD):restA 12 a=({ a with object:=⟨#[]⟩,text:=⟨#[]⟩ }:ActD):=rfl
theorem Bk (a:ActD):okR 13 a=(decide ((a.object.size:Int)=32)):=rfl
theorem rv (a:ActD):restA 13 a=({ a with object:=⟨#[]⟩ }:ActD):=rfl
theorem Bj (a:ActD):okR 14 a=(audienceB a&&decide ((a.object.size:Int)=32)):=rfl
theorem ru (a:ActD):restA 14 a=({ bareA a with object:=⟨#[]⟩ }:ActD):=rfl
theorem Bi (a:ActD):okR 15 a=(isIds a.toL&&isName a.group):=rfl
theorem rt (a:ActD):restA 15 a=({ a with group:=⟨#[]⟩,to:=⟨none,0,0⟩,toL:=[] }:ActD):=rfl
theorem Bg (a:ActD):okR 16 a=(isIds a.toL&&decide (1≤a.scope)&&decide (a.scope≤3)&&groupR a&&decide (0≤a.epoch)&&decide (a.epoch≤1073741824)&&wrappedB a):=rfl
theorem rs (a:ActD):restA 16 a=({ a with scope:=0,group:=⟨#[]⟩,to:=⟨none,0,0⟩,toL:=[],epoch:=0,wraps:=⟨none,0,0⟩,wrapsL:=[] }:ActD):=rfl
theorem Bf (a:ActD):okR 17 a=((bif !seqB a.object ⟨#[]⟩ then isName a.text&&decide ((a.object.size:Int)=32)&&seqB a.target ⟨#[]⟩ else isName a.text&&isId a.target)):=rfl
theorem rr (a:ActD):restA 17 a=({ a with text:=⟨#[]⟩,object:=⟨#[]⟩,target:=⟨#[]⟩ }:ActD):=rfl
theorem Be (a:ActD):okR 18 a=((isPublicB a.n&&decide (0≤a.m)&&decide (a.m<20))):=rfl
theorem rq (a:ActD):restA 18 a=({ a with n:=0,m:=0 }:ActD):=rfl
theorem Bd (a:ActD):okR 19 a=(isIds a.toL&&decide (0<(a.to.n:Int))&&wrappedB a&&decide (1≤a.n)&&decide (a.n≤(a.to.n:Int))&&isPublicB a.m):=rfl
theorem rp (a:ActD):restA 19 a=({ a with to:=⟨none,0,0⟩,toL:=[],wraps:=⟨none,0,0⟩,wrapsL:=[],n:=0,m:=0 }:ActD):=rfl
theorem Bc (a:ActD):okR 20 a=(decide ((a.object.size:Int)=32)):=rfl
theorem ro (a:ActD):restA 20 a=({ a with object:=⟨#[]⟩ }:ActD):=rfl
theorem Bb (a:ActD):okR 21 a=(decide ((a.object.size:Int)=32)&&decide ((a.text.size:Int)≤500)):=rfl
theorem rn (a:ActD):restA 21 a=({ a with object:=⟨#[]⟩,text:=⟨#[]⟩ }:ActD):=rfl
theorem Ba (a:ActD):okR 22 a=(decide ((a.object.size:Int)=32)&&decide (0≤a.n)&&decide (a.n≤1)):=rfl
theorem rm (a:ActD):restA 22 a=({ a with object:=⟨#[]⟩,n:=0 }:ActD):=rfl
theorem A9 (a:ActD):okR 23 a=(isId a.target&&decide ((a.text.size:Int)≤500)&&decide (0≤a.n)&&decide (a.n≤1099511627776)):=rfl
theorem rl (a:ActD):restA 23 a=({ a with target:=⟨#[]⟩,text:=⟨#[]⟩,n:=0 }:ActD):=rfl
theorem rL {a:ActD} (h:¬ (0≤a.kind∧a.kind≤23)):okR a.kind a=false:=by
 rw [okR]
 rw [Zc (show ¬ a.kind=0 by omega),Ze]
 rw [Zc (show ¬ a.kind=1 by omega),Ze]
 rw [Zc (show ¬ a.kind=2 by omega),Ze]
 rw [Zc (show ¬ a.kind=3 by omega),Ze]
 rw [Zc (show ¬ a.kind=4 by omega),Ze]
 rw [Zc (show ¬ a.kind=5 by omega),Ze]
 rw [Zc (show ¬ a.kind=6 by omega),Ze]
 rw [Zc (show ¬ a.kind=7 by omega),Ze]
 rw [Zc (show ¬ a.kind=8 by omega),Ze]
 rw [Zc (show ¬ a.kind=9 by omega),Ze]
 rw [Zc (show ¬ a.kind=10 by omega),Ze]
 rw [Zc (show ¬ a.kind=11 by omega),Ze]
 rw [Zc (show ¬ a.kind=12 by omega),Ze]
 rw [Zc (show ¬ a.kind=13 by omega),Ze]
 rw [Zc (show ¬ a.kind=14 by omega),Ze]
 rw [Zc (show ¬ a.kind=15 by omega),Ze]
 rw [Zc (show ¬ a.kind=16 by omega),Ze]
 rw [Zc (show ¬ a.kind=17 by omega),Ze]
 rw [Zc (show ¬ a.kind=18 by omega),Ze]
 rw [Zc (show ¬ a.kind=19 by omega),Ze]
 rw [Zc (show ¬ a.kind=20 by omega),Ze]
 rw [Zc (show ¬ a.kind=21 by omega),Ze]
 rw [Zc (show ¬ a.kind=22 by omega),Ze]
 rw [Zc (show ¬ a.kind=23 by omega),Ze]
theorem oW {k:Int} (h:0≤k∧k≤23):k=0∨k=1∨k=2∨k=3∨k=4∨k=5∨k=6∨k=7∨k=8∨k=9∨k=10∨k=11∨k=12∨k=13∨k=14∨k=15∨k=16∨k=17∨k=18∨k=19∨k=20∨k=21∨k=22∨k=23:=by omega
set_option maxRecDepth 20000 in
theorem ua (a:ActD) (hs:a.Str):Pu Tryz.prog 231 #[a.v] (ActD.at_ · a) (.bool (fitsR a)):=by
 refine ak (args:=[_]) _ Tryz.func231 rfl Tryz.ntmps231 rfl fun av bor w0=>?_
 have c1:=fu a.n
 have c2:=fu a.m
 have c3:=iP a.text hs.text
 have c4:=iP a.group hs.group
 have c5:=mQ a hs
 have c6:=ue a
 have c7:=gl a.target hs.target
 have c8:=kg a.to a.toL hs.to
 have c9:=kR a hs
 have c10:=nX a
 by_cases hk:0≤a.kind∧a.kind≤23
 · rw [fitsR]
   rcases oW hk with h|h|h|h|h|h|h|h|h|h|h|h|h|h|h|h|h|h|h|h|h|h|h|h
   · rw [h,Fa,vJ]
     have c0:=bu ({ a with text:=⟨#[]⟩,n:=0,m:=0 }:ActD)
     repeat' (first|refine aH (hab:=by omega) ?_|refine aG (hab:=by omega) ?_|apply bF|apply QS|apply QT|refine bo ?_|refine aK ?_|refine bY ?_|refine cD ?_|refine aM ?_|refine aS ?_|refine aT ?_|refine cg ?_|refine cq ?_|refine bP ?_|refine cU ?_|refine cw ?_|refine cP ?_|refine bx ?_|refine bJ ?_|refine bw ?_|refine cf ?_|refine be ?_|refine bj ?_|refine bc ?_|refine aY fun _=>?_|refine ci fun _=>?_|refine bO ?_|refine aQ ?_|refine QW ?_|refine QX ?_|apply QV|apply QU|apply cw_ret|apply cw_exit|refine sy_beql (h:=?_)|refine bL ?_|refine br ?_|refine bq ?_|(refine ab (hc:=c0) (hX:=fun _ _=>trivial) ?_)|(refine ab (hc:=c1) (hX:=fun _ _=>trivial) ?_)|(refine ab (hc:=c2) (hX:=fun _ _=>trivial) ?_)|(refine ab (hc:=c3) (hX:=fun _ _=>trivial) ?_)|(refine ab (hc:=c4) (hX:=fun _ _=>trivial) ?_)|(refine ab (hc:=c5) (hX:=fun w h=>h) ?_)|(refine ab (hc:=c6) (hX:=fun _ _=>trivial) ?_)|(refine ab (hc:=c7) (hX:=fun _ _=>trivial) ?_)|(refine ab (hc:=c8) (hX:=fun w h=>h.1) ?_)|(refine ab (hc:=c9) (hX:=fun _ _=>trivial) ?_)|(refine ab (hc:=c10) (hX:=fun w h=>h) ?_)|((fail_if_success (refine cr ?_));refine bm (ht:=?_) (hf:=?_);all_goals (intro hx_;first|have:=aL hx_|have:=aX hx_|skip))|(refine cw_cond (ht:=?_) (hf:=?_);all_goals (intro hx_;first|have:=aL hx_|have:=aX hx_|skip)))
     all_goals refine ad (ag rfl rfl) ?_
     all_goals first
      | rfl
      | (simp only [*,Zt,Zr,Zf,Ze,Zh,Zg,Zk,Zj,Zn,Zl,Zs,Zm,Zq,Zi];done)
      | (simp_all;done)
      | (simp_all;intros;omega)
      | skip
   · rw [h,E9,vI]
     have c0:=bu (bareA a:ActD)
     repeat' (first|refine aH (hab:=by omega) ?_|refine aG (hab:=by omega) ?_|apply bF|apply QS|apply QT|refine bo ?_|refine aK ?_|refine bY ?_|refine cD ?_|refine aM ?_|refine aS ?_|refine aT ?_|refine cg ?_|refine cq ?_|refine bP ?_|refine cU ?_|refine cw ?_|refine cP ?_|refine bx ?_|refine bJ ?_|refine bw ?_|refine cf ?_|refine be ?_|refine bj ?_|refine bc ?_|refine aY fun _=>?_|refine ci fun _=>?_|refine bO ?_|refine aQ ?_|refine QW ?_|refine QX ?_|apply QV|apply QU|apply cw_ret|apply cw_exit|refine sy_beql (h:=?_)|refine bL ?_|refine br ?_|refine bq ?_|(refine ab (hc:=c0) (hX:=fun _ _=>trivial) ?_)|(refine ab (hc:=c1) (hX:=fun _ _=>trivial) ?_)|(refine ab (hc:=c2) (hX:=fun _ _=>trivial) ?_)|(refine ab (hc:=c3) (hX:=fun _ _=>trivial) ?_)|(refine ab (hc:=c4) (hX:=fun _ _=>trivial) ?_)|(refine ab (hc:=c5) (hX:=fun w h=>h) ?_)|(refine ab (hc:=c6) (hX:=fun _ _=>trivial) ?_)|(refine ab (hc:=c7) (hX:=fun _ _=>trivial) ?_)|(refine ab (hc:=c8) (hX:=fun w h=>h.1) ?_)|(refine ab (hc:=c9) (hX:=fun _ _=>trivial) ?_)|(refine ab (hc:=c10) (hX:=fun w h=>h) ?_)|((fail_if_success (refine cr ?_));refine bm (ht:=?_) (hf:=?_);all_goals (intro hx_;first|have:=aL hx_|have:=aX hx_|skip))|(refine cw_cond (ht:=?_) (hf:=?_);all_goals (intro hx_;first|have:=aL hx_|have:=aX hx_|skip)))
     all_goals refine ad (ag rfl rfl) ?_
     all_goals first
      | rfl
      | (simp only [*,Zt,Zr,Zf,Ze,Zh,Zg,Zk,Zj,Zn,Zl,Zs,Zm,Zq,Zi];done)
      | (simp_all;done)
      | (simp_all;intros;omega)
      | skip
   · rw [h,E8,vH]
     have c0:=bu ({ bareA a with object:=⟨#[]⟩ }:ActD)
     repeat' (first|refine aH (hab:=by omega) ?_|refine aG (hab:=by omega) ?_|apply bF|apply QS|apply QT|refine bo ?_|refine aK ?_|refine bY ?_|refine cD ?_|refine aM ?_|refine aS ?_|refine aT ?_|refine cg ?_|refine cq ?_|refine bP ?_|refine cU ?_|refine cw ?_|refine cP ?_|refine bx ?_|refine bJ ?_|refine bw ?_|refine cf ?_|refine be ?_|refine bj ?_|refine bc ?_|refine aY fun _=>?_|refine ci fun _=>?_|refine bO ?_|refine aQ ?_|refine QW ?_|refine QX ?_|apply QV|apply QU|apply cw_ret|apply cw_exit|refine sy_beql (h:=?_)|refine bL ?_|refine br ?_|refine bq ?_|(refine ab (hc:=c0) (hX:=fun _ _=>trivial) ?_)|(refine ab (hc:=c1) (hX:=fun _ _=>trivial) ?_)|(refine ab (hc:=c2) (hX:=fun _ _=>trivial) ?_)|(refine ab (hc:=c3) (hX:=fun _ _=>trivial) ?_)|(refine ab (hc:=c4) (hX:=fun _ _=>trivial) ?_)|(refine ab (hc:=c5) (hX:=fun w h=>h) ?_)|(refine ab (hc:=c6) (hX:=fun _ _=>trivial) ?_)|(refine ab (hc:=c7) (hX:=fun _ _=>trivial) ?_)|(refine ab (hc:=c8) (hX:=fun w h=>h.1) ?_)|(refine ab (hc:=c9) (hX:=fun _ _=>trivial) ?_)|(refine ab (hc:=c10) (hX:=fun w h=>h) ?_)|((fail_if_success (refine cr ?_));refine bm (ht:=?_) (hf:=?_);all_goals (intro hx_;first|have:=aL hx_|have:=aX hx_|skip))|(refine cw_cond (ht:=?_) (hf:=?_);all_goals (intro hx_;first|have:=aL hx_|have:=aX hx_|skip)))
     all_goals refine ad (ag rfl rfl) ?_
     all_goals first
      | rfl
      | (simp only [*,Zt,Zr,Zf,Ze,Zh,Zg,Zk,Zj,Zn,Zl,Zs,Zm,Zq,Zi];done)
      | (simp_all;done)
      | (simp_all;intros;omega)
      | skip
   · rw [h,E7,vG]
     have c0:=bu ({ bareA a with object:=⟨#[]⟩ }:ActD)
     repeat' (first|refine aH (hab:=by omega) ?_|refine aG (hab:=by omega) ?_|apply bF|apply QS|apply QT|refine bo ?_|refine aK ?_|refine bY ?_|refine cD ?_|refine aM ?_|refine aS ?_|refine aT ?_|refine cg ?_|refine cq ?_|refine bP ?_|refine cU ?_|refine cw ?_|refine cP ?_|refine bx ?_|refine bJ ?_|refine bw ?_|refine cf ?_|refine be ?_|refine bj ?_|refine bc ?_|refine aY fun _=>?_|refine ci fun _=>?_|refine bO ?_|refine aQ ?_|refine QW ?_|refine QX ?_|apply QV|apply QU|apply cw_ret|apply cw_exit|refine sy_beql (h:=?_)|refine bL ?_|refine br ?_|refine bq ?_|(refine ab (hc:=c0) (hX:=fun _ _=>trivial) ?_)|(refine ab (hc:=c1) (hX:=fun _ _=>trivial) ?_)|(refine ab (hc:=c2) (hX:=fun _ _=>trivial) ?_)|(refine ab (hc:=c3) (hX:=fun _ _=>trivial) ?_)|(refine ab (hc:=c4) (hX:=fun _ _=>trivial) ?_)|(refine ab (hc:=c5) (hX:=fun w h=>h) ?_)|(refine ab (hc:=c6) (hX:=fun _ _=>trivial) ?_)|(refine ab (hc:=c7) (hX:=fun _ _=>trivial) ?_)|(refine ab (hc:=c8) (hX:=fun w h=>h.1) ?_)|(refine ab (hc:=c9) (hX:=fun _ _=>trivial) ?_)|(refine ab (hc:=c10) (hX:=fun w h=>h) ?_)|((fail_if_success (refine cr ?_));refine bm (ht:=?_) (hf:=?_);all_goals (intro hx_;first|have:=aL hx_|have:=aX hx_|skip))|(refine cw_cond (ht:=?_) (hf:=?_);all_goals (intro hx_;first|have:=aL hx_|have:=aX hx_|skip)))
     all_goals refine ad (ag rfl rfl) ?_
     all_goals first
      | rfl
      | (simp only [*,Zt,Zr,Zf,Ze,Zh,Zg,Zk,Zj,Zn,Zl,Zs,Zm,Zq,Zi];done)
      | (simp_all;done)
      | (simp_all;intros;omega)
      | skip
   · rw [h,E6,vF]
     have c0:=bu ({ a with object:=⟨#[]⟩ }:ActD)
     repeat' (first|refine aH (hab:=by omega) ?_|refine aG (hab:=by omega) ?_|apply bF|apply QS|apply QT|refine bo ?_|refine aK ?_|refine bY ?_|refine cD ?_|refine aM ?_|refine aS ?_|refine aT ?_|refine cg ?_|refine cq ?_|refine bP ?_|refine cU ?_|refine cw ?_|refine cP ?_|refine bx ?_|refine bJ ?_|refine bw ?_|refine cf ?_|refine be ?_|refine bj ?_|refine bc ?_|refine aY fun _=>?_|refine ci fun _=>?_|refine bO ?_|refine aQ ?_|refine QW ?_|refine QX ?_|apply QV|apply QU|apply cw_ret|apply cw_exit|refine sy_beql (h:=?_)|refine bL ?_|refine br ?_|refine bq ?_|(refine ab (hc:=c0) (hX:=fun _ _=>trivial) ?_)|(refine ab (hc:=c1) (hX:=fun _ _=>trivial) ?_)|(refine ab (hc:=c2) (hX:=fun _ _=>trivial) ?_)|(refine ab (hc:=c3) (hX:=fun _ _=>trivial) ?_)|(refine ab (hc:=c4) (hX:=fun _ _=>trivial) ?_)|(refine ab (hc:=c5) (hX:=fun w h=>h) ?_)|(refine ab (hc:=c6) (hX:=fun _ _=>trivial) ?_)|(refine ab (hc:=c7) (hX:=fun _ _=>trivial) ?_)|(refine ab (hc:=c8) (hX:=fun w h=>h.1) ?_)|(refine ab (hc:=c9) (hX:=fun _ _=>trivial) ?_)|(refine ab (hc:=c10) (hX:=fun w h=>h) ?_)|((fail_if_success (refine cr ?_));refine bm (ht:=?_) (hf:=?_);all_goals (intro hx_;first|have:=aL hx_|have:=aX hx_|skip))|(refine cw_cond (ht:=?_) (hf:=?_);all_goals (intro hx_;first|have:=aL hx_|have:=aX hx_|skip)))
     all_goals refine ad (ag rfl rfl) ?_
     all_goals first
      | rfl
      | (simp only [*,Zt,Zr,Zf,Ze,Zh,Zg,Zk,Zj,Zn,Zl,Zs,Zm,Zq,Zi];done)
      | (simp_all;done)
      | (simp_all;intros;omega)
      | skip
   · rw [h,E5,vE]
     have c0:=bu ({ a with object:=⟨#[]⟩ }:ActD)
     repeat' (first|refine aH (hab:=by omega) ?_|refine aG (hab:=by omega) ?_|apply bF|apply QS|apply QT|refine bo ?_|refine aK ?_|refine bY ?_|refine cD ?_|refine aM ?_|refine aS ?_|refine aT ?_|refine cg ?_|refine cq ?_|refine bP ?_|refine cU ?_|refine cw ?_|refine cP ?_|refine bx ?_|refine bJ ?_|refine bw ?_|refine cf ?_|refine be ?_|refine bj ?_|refine bc ?_|refine aY fun _=>?_|refine ci fun _=>?_|refine bO ?_|refine aQ ?_|refine QW ?_|refine QX ?_|apply QV|apply QU|apply cw_ret|apply cw_exit|refine sy_beql (h:=?_)|refine bL ?_|refine br ?_|refine bq ?_|(refine ab (hc:=c0) (hX:=fun _ _=>trivial) ?_)|(refine ab (hc:=c1) (hX:=fun _ _=>trivial) ?_)|(refine ab (hc:=c2) (hX:=fun _ _=>trivial) ?_)|(refine ab (hc:=c3) (hX:=fun _ _=>trivial) ?_)|(refine ab (hc:=c4) (hX:=fun _ _=>trivial) ?_)|(refine ab (hc:=c5) (hX:=fun w h=>h) ?_)|(refine ab (hc:=c6) (hX:=fun _ _=>trivial) ?_)|(refine ab (hc:=c7) (hX:=fun _ _=>trivial) ?_)|(refine ab (hc:=c8) (hX:=fun w h=>h.1) ?_)|(refine ab (hc:=c9) (hX:=fun _ _=>trivial) ?_)|(refine ab (hc:=c10) (hX:=fun w h=>h) ?_)|((fail_if_success (refine cr ?_));refine bm (ht:=?_) (hf:=?_);all_goals (intro hx_;first|have:=aL hx_|have:=aX hx_|skip))|(refine cw_cond (ht:=?_) (hf:=?_);all_goals (intro hx_;first|have:=aL hx_|have:=aX hx_|skip)))
     all_goals refine ad (ag rfl rfl) ?_
     all_goals first
      | rfl
      | (simp only [*,Zt,Zr,Zf,Ze,Zh,Zg,Zk,Zj,Zn,Zl,Zs,Zm,Zq,Zi];done)
      | (simp_all;done)
      | (simp_all;intros;omega)
      | skip
   · rw [h,E4,vD]
     have c0:=bu ({ a with object:=⟨#[]⟩ }:ActD)
     repeat' (first|refine aH (hab:=by omega) ?_|refine aG (hab:=by omega) ?_|apply bF|apply QS|apply QT|refine bo ?_|refine aK ?_|refine bY ?_|refine cD ?_|refine aM ?_|refine aS ?_|refine aT ?_|refine cg ?_|refine cq ?_|refine bP ?_|refine cU ?_|refine cw ?_|refine cP ?_|refine bx ?_|refine bJ ?_|refine bw ?_|refine cf ?_|refine be ?_|refine bj ?_|refine bc ?_|refine aY fun _=>?_|refine ci fun _=>?_|refine bO ?_|refine aQ ?_|refine QW ?_|refine QX ?_|apply QV|apply QU|apply cw_ret|apply cw_exit|refine sy_beql (h:=?_)|refine bL ?_|refine br ?_|refine bq ?_|(refine ab (hc:=c0) (hX:=fun _ _=>trivial) ?_)|(refine ab (hc:=c1) (hX:=fun _ _=>trivial) ?_)|(refine ab (hc:=c2) (hX:=fun _ _=>trivial) ?_)|(refine ab (hc:=c3) (hX:=fun _ _=>trivial) ?_)|(refine ab (hc:=c4) (hX:=fun _ _=>trivial) ?_)|(refine ab (hc:=c5) (hX:=fun w h=>h) ?_)|(refine ab (hc:=c6) (hX:=fun _ _=>trivial) ?_)|(refine ab (hc:=c7) (hX:=fun _ _=>trivial) ?_)|(refine ab (hc:=c8) (hX:=fun w h=>h.1) ?_)|(refine ab (hc:=c9) (hX:=fun _ _=>trivial) ?_)|(refine ab (hc:=c10) (hX:=fun w h=>h) ?_)|((fail_if_success (refine cr ?_));refine bm (ht:=?_) (hf:=?_);all_goals (intro hx_;first|have:=aL hx_|have:=aX hx_|skip))|(refine cw_cond (ht:=?_) (hf:=?_);all_goals (intro hx_;first|have:=aL hx_|have:=aX hx_|skip)))
     all_goals refine ad (ag rfl rfl) ?_
     all_goals first
      | rfl
      | (simp only [*,Zt,Zr,Zf,Ze,Zh,Zg,Zk,Zj,Zn,Zl,Zs,Zm,Zq,Zi];done)
      | (simp_all;done)
      | (simp_all;intros;omega)
      | skip
   · rw [h,E3,vC]
     have c0:=bu ({ a with target:=⟨#[]⟩ }:ActD)
     repeat' (first|refine aH (hab:=by omega) ?_|refine aG (hab:=by omega) ?_|apply bF|apply QS|apply QT|refine bo ?_|refine aK ?_|refine bY ?_|refine cD ?_|refine aM ?_|refine aS ?_|refine aT ?_|refine cg ?_|refine cq ?_|refine bP ?_|refine cU ?_|refine cw ?_|refine cP ?_|refine bx ?_|refine bJ ?_|refine bw ?_|refine cf ?_|refine be ?_|refine bj ?_|refine bc ?_|refine aY fun _=>?_|refine ci fun _=>?_|refine bO ?_|refine aQ ?_|refine QW ?_|refine QX ?_|apply QV|apply QU|apply cw_ret|apply cw_exit|refine sy_beql (h:=?_)|refine bL ?_|refine br ?_|refine bq ?_|(refine ab (hc:=c0) (hX:=fun _ _=>trivial) ?_)|(refine ab (hc:=c1) (hX:=fun _ _=>trivial) ?_)|(refine ab (hc:=c2) (hX:=fun _ _=>trivial) ?_)|(refine ab (hc:=c3) (hX:=fun _ _=>trivial) ?_)|(refine ab (hc:=c4) (hX:=fun _ _=>trivial) ?_)|(refine ab (hc:=c5) (hX:=fun w h=>h) ?_)|(refine ab (hc:=c6) (hX:=fun _ _=>trivial) ?_)|(refine ab (hc:=c7) (hX:=fun _ _=>trivial) ?_)|(refine ab (hc:=c8) (hX:=fun w h=>h.1) ?_)|(refine ab (hc:=c9) (hX:=fun _ _=>trivial) ?_)|(refine ab (hc:=c10) (hX:=fun w h=>h) ?_)|((fail_if_success (refine cr ?_));refine bm (ht:=?_) (hf:=?_);all_goals (intro hx_;first|have:=aL hx_|have:=aX hx_|skip))|(refine cw_cond (ht:=?_) (hf:=?_);all_goals (intro hx_;first|have:=aL hx_|have:=aX hx_|skip)))
     all_goals refine ad (ag rfl rfl) ?_
     all_goals first
      | rfl
      | (simp only [*,Zt,Zr,Zf,Ze,Zh,Zg,Zk,Zj,Zn,Zl,Zs,Zm,Zq,Zi];done)
      | (simp_all;done)
      | (simp_all;intros;omega)
      | skip
   · rw [h,E2,vB]
     have c0:=bu ({ a with target:=⟨#[]⟩ }:ActD)
     repeat' (first|refine aH (hab:=by omega) ?_|refine aG (hab:=by omega) ?_|apply bF|apply QS|apply QT|refine bo ?_|refine aK ?_|refine bY ?_|refine cD ?_|refine aM ?_|refine aS ?_|refine aT ?_|refine cg ?_|refine cq ?_|refine bP ?_|refine cU ?_|refine cw ?_|refine cP ?_|refine bx ?_|refine bJ ?_|refine bw ?_|refine cf ?_|refine be ?_|refine bj ?_|refine bc ?_|refine aY fun _=>?_|refine ci fun _=>?_|refine bO ?_|refine aQ ?_|refine QW ?_|refine QX ?_|apply QV|apply QU|apply cw_ret|apply cw_exit|refine sy_beql (h:=?_)|refine bL ?_|refine br ?_|refine bq ?_|(refine ab (hc:=c0) (hX:=fun _ _=>trivial) ?_)|(refine ab (hc:=c1) (hX:=fun _ _=>trivial) ?_)|(refine ab (hc:=c2) (hX:=fun _ _=>trivial) ?_)|(refine ab (hc:=c3) (hX:=fun _ _=>trivial) ?_)|(refine ab (hc:=c4) (hX:=fun _ _=>trivial) ?_)|(refine ab (hc:=c5) (hX:=fun w h=>h) ?_)|(refine ab (hc:=c6) (hX:=fun _ _=>trivial) ?_)|(refine ab (hc:=c7) (hX:=fun _ _=>trivial) ?_)|(refine ab (hc:=c8) (hX:=fun w h=>h.1) ?_)|(refine ab (hc:=c9) (hX:=fun _ _=>trivial) ?_)|(refine ab (hc:=c10) (hX:=fun w h=>h) ?_)|((fail_if_success (refine cr ?_));refine bm (ht:=?_) (hf:=?_);all_goals (intro hx_;first|have:=aL hx_|have:=aX hx_|skip))|(refine cw_cond (ht:=?_) (hf:=?_);all_goals (intro hx_;first|have:=aL hx_|have:=aX hx_|skip)))
     all_goals refine ad (ag rfl rfl) ?_
     all_goals first
      | rfl
      | (simp only [*,Zt,Zr,Zf,Ze,Zh,Zg,Zk,Zj,Zn,Zl,Zs,Zm,Zq,Zi];done)
      | (simp_all;done)
      | (simp_all;intros;omega)
      | skip
   · rw [h,E1,vA]
     have c0:=bu ({ a with target:=⟨#[]⟩ }:ActD)
     repeat' (first|refine aH (hab:=by omega) ?_|refine aG (hab:=by omega) ?_|apply bF|apply QS|apply QT|refine bo ?_|refine aK ?_|refine bY ?_|refine cD ?_|refine aM ?_|refine aS ?_|refine aT ?_|refine cg ?_|refine cq ?_|refine bP ?_|refine cU ?_|refine cw ?_|refine cP ?_|refine bx ?_|refine bJ ?_|refine bw ?_|refine cf ?_|refine be ?_|refine bj ?_|refine bc ?_|refine aY fun _=>?_|refine ci fun _=>?_|refine bO ?_|refine aQ ?_|refine QW ?_|refine QX ?_|apply QV|apply QU|apply cw_ret|apply cw_exit|refine sy_beql (h:=?_)|refine bL ?_|refine br ?_|refine bq ?_|(refine ab (hc:=c0) (hX:=fun _ _=>trivial) ?_)|(refine ab (hc:=c1) (hX:=fun _ _=>trivial) ?_)|(refine ab (hc:=c2) (hX:=fun _ _=>trivial) ?_)|(refine ab (hc:=c3) (hX:=fun _ _=>trivial) ?_)|(refine ab (hc:=c4) (hX:=fun _ _=>trivial) ?_)|(refine ab (hc:=c5) (hX:=fun w h=>h) ?_)|(refine ab (hc:=c6) (hX:=fun _ _=>trivial) ?_)|(refine ab (hc:=c7) (hX:=fun _ _=>trivial) ?_)|(refine ab (hc:=c8) (hX:=fun w h=>h.1) ?_)|(refine ab (hc:=c9) (hX:=fun _ _=>trivial) ?_)|(refine ab (hc:=c10) (hX:=fun w h=>h) ?_)|((fail_if_success (refine cr ?_));refine bm (ht:=?_) (hf:=?_);all_goals (intro hx_;first|have:=aL hx_|have:=aX hx_|skip))|(refine cw_cond (ht:=?_) (hf:=?_);all_goals (intro hx_;first|have:=aL hx_|have:=aX hx_|skip)))
     all_goals refine ad (ag rfl rfl) ?_
     all_goals first
      | rfl
      | (simp only [*,Zt,Zr,Zf,Ze,Zh,Zg,Zk,Zj,Zn,Zl,Zs,Zm,Zq,Zi];done)
      | (simp_all;done)
      | (simp_all;intros;omega)
      | skip
   · rw [h,Bo,rz]
     have c0:=bu ({ a with target:=⟨#[]⟩ }:ActD)
     repeat' (first|refine aH (hab:=by omega) ?_|refine aG (hab:=by omega) ?_|apply bF|apply QS|apply QT|refine bo ?_|refine aK ?_|refine bY ?_|refine cD ?_|refine aM ?_|refine aS ?_|refine aT ?_|refine cg ?_|refine cq ?_|refine bP ?_|refine cU ?_|refine cw ?_|refine cP ?_|refine bx ?_|refine bJ ?_|refine bw ?_|refine cf ?_|refine be ?_|refine bj ?_|refine bc ?_|refine aY fun _=>?_|refine ci fun _=>?_|refine bO ?_|refine aQ ?_|refine QW ?_|refine QX ?_|apply QV|apply QU|apply cw_ret|apply cw_exit|refine sy_beql (h:=?_)|refine bL ?_|refine br ?_|refine bq ?_|(refine ab (hc:=c0) (hX:=fun _ _=>trivial) ?_)|(refine ab (hc:=c1) (hX:=fun _ _=>trivial) ?_)|(refine ab (hc:=c2) (hX:=fun _ _=>trivial) ?_)|(refine ab (hc:=c3) (hX:=fun _ _=>trivial) ?_)|(refine ab (hc:=c4) (hX:=fun _ _=>trivial) ?_)|(refine ab (hc:=c5) (hX:=fun w h=>h) ?_)|(refine ab (hc:=c6) (hX:=fun _ _=>trivial) ?_)|(refine ab (hc:=c7) (hX:=fun _ _=>trivial) ?_)|(refine ab (hc:=c8) (hX:=fun w h=>h.1) ?_)|(refine ab (hc:=c9) (hX:=fun _ _=>trivial) ?_)|(refine ab (hc:=c10) (hX:=fun w h=>h) ?_)|((fail_if_success (refine cr ?_));refine bm (ht:=?_) (hf:=?_);all_goals (intro hx_;first|have:=aL hx_|have:=aX hx_|skip))|(refine cw_cond (ht:=?_) (hf:=?_);all_goals (intro hx_;first|have:=aL hx_|have:=aX hx_|skip)))
     all_goals refine ad (ag rfl rfl) ?_
     all_goals first
      | rfl
      | (simp only [*,Zt,Zr,Zf,Ze,Zh,Zg,Zk,Zj,Zn,Zl,Zs,Zm,Zq,Zi];done)
      | (simp_all;done)
      | (simp_all;intros;omega)
      | skip
   · rw [h,Bn,ry]
     have c0:=bu ({ a with target:=⟨#[]⟩ }:ActD)
     repeat' (first|refine aH (hab:=by omega) ?_|refine aG (hab:=by omega) ?_|apply bF|apply QS|apply QT|refine bo ?_|refine aK ?_|refine bY ?_|refine cD ?_|refine aM ?_|refine aS ?_|refine aT ?_|refine cg ?_|refine cq ?_|refine bP ?_|refine cU ?_|refine cw ?_|refine cP ?_|refine bx ?_|refine bJ ?_|refine bw ?_|refine cf ?_|refine be ?_|refine bj ?_|refine bc ?_|refine aY fun _=>?_|refine ci fun _=>?_|refine bO ?_|refine aQ ?_|refine QW ?_|refine QX ?_|apply QV|apply QU|apply cw_ret|apply cw_exit|refine sy_beql (h:=?_)|refine bL ?_|refine br ?_|refine bq ?_|(refine ab (hc:=c0) (hX:=fun _ _=>trivial) ?_)|(refine ab (hc:=c1) (hX:=fun _ _=>trivial) ?_)|(refine ab (hc:=c2) (hX:=fun _ _=>trivial) ?_)|(refine ab (hc:=c3) (hX:=fun _ _=>trivial) ?_)|(refine ab (hc:=c4) (hX:=fun _ _=>trivial) ?_)|(refine ab (hc:=c5) (hX:=fun w h=>h) ?_)|(refine ab (hc:=c6) (hX:=fun _ _=>trivial) ?_)|(refine ab (hc:=c7) (hX:=fun _ _=>trivial) ?_)|(refine ab (hc:=c8) (hX:=fun w h=>h.1) ?_)|(refine ab (hc:=c9) (hX:=fun _ _=>trivial) ?_)|(refine ab (hc:=c10) (hX:=fun w h=>h) ?_)|((fail_if_success (refine cr ?_));refine bm (ht:=?_) (hf:=?_);all_goals (intro hx_;first|have:=aL hx_|have:=aX hx_|skip))|(refine cw_cond (ht:=?_) (hf:=?_);all_goals (intro hx_;first|have:=aL hx_|have:=aX hx_|skip)))
     all_goals refine ad (ag rfl rfl) ?_
     all_goals first
      | rfl
      | (simp only [*,Zt,Zr,Zf,Ze,Zh,Zg,Zk,Zj,Zn,Zl,Zs,Zm,Zq,Zi];done)
      | (simp_all;done)
      | (simp_all;intros;omega)
      | skip
   · rw [h,Bl,rx]
     have c0:=bu ({ a with object:=⟨#[]⟩,text:=⟨#[]⟩ }:ActD)
     repeat' (first|refine aH (hab:=by omega) ?_|refine aG (hab:=by omega) ?_|apply bF|apply QS|apply QT|refine bo ?_|refine aK ?_|refine bY ?_|refine cD ?_|refine aM ?_|refine aS ?_|refine aT ?_|refine cg ?_|refine cq ?_|refine bP ?_|refine cU ?_|refine cw ?_|refine cP ?_|refine bx ?_|refine bJ ?_|refine bw ?_|refine cf ?_|refine be ?_|refine bj ?_|refine bc ?_|refine aY fun _=>?_|refine ci fun _=>?_|refine bO ?_|refine aQ ?_|refine QW ?_|refine QX ?_|apply QV|apply QU|apply cw_ret|apply cw_exit|refine sy_beql (h:=?_)|refine bL ?_|refine br ?_|refine bq ?_|(refine ab (hc:=c0) (hX:=fun _ _=>trivial) ?_)|(refine ab (hc:=c1) (hX:=fun _ _=>trivial) ?_)|(refine ab (hc:=c2) (hX:=fun _ _=>trivial) ?_)|(refine ab (hc:=c3) (hX:=fun _ _=>trivial) ?_)|(refine ab (hc:=c4) (hX:=fun _ _=>trivial) ?_)|(refine ab (hc:=c5) (hX:=fun w h=>h) ?_)|(refine ab (hc:=c6) (hX:=fun _ _=>trivial) ?_)|(refine ab (hc:=c7) (hX:=fun _ _=>trivial) ?_)|(refine ab (hc:=c8) (hX:=fun w h=>h.1) ?_)|(refine ab (hc:=c9) (hX:=fun _ _=>trivial) ?_)|(refine ab (hc:=c10) (hX:=fun w h=>h) ?_)|((fail_if_success (refine cr ?_));refine bm (ht:=?_) (hf:=?_);all_goals (intro hx_;first|have:=aL hx_|have:=aX hx_|skip))|(refine cw_cond (ht:=?_) (hf:=?_);all_goals (intro hx_;first|have:=aL hx_|have:=aX hx_|skip)))
     all_goals refine ad (ag rfl rfl) ?_
     all_goals first
      | rfl
      | (simp only [*,Zt,Zr,Zf,Ze,Zh,Zg,Zk,Zj,Zn,Zl,Zs,Zm,Zq,Zi];done)
      | (simp_all;done)
      | (simp_all;intros;omega)
      | skip
   · rw [h,Bk,rv]
     have c0:=bu ({ a with object:=⟨#[]⟩ }:ActD)
     repeat' (first|refine aH (hab:=by omega) ?_|refine aG (hab:=by omega) ?_|apply bF|apply QS|apply QT|refine bo ?_|refine aK ?_|refine bY ?_|refine cD ?_|refine aM ?_|refine aS ?_|refine aT ?_|refine cg ?_|refine cq ?_|refine bP ?_|refine cU ?_|refine cw ?_|refine cP ?_|refine bx ?_|refine bJ ?_|refine bw ?_|refine cf ?_|refine be ?_|refine bj ?_|refine bc ?_|refine aY fun _=>?_|refine ci fun _=>?_|refine bO ?_|refine aQ ?_|refine QW ?_|refine QX ?_|apply QV|apply QU|apply cw_ret|apply cw_exit|refine sy_beql (h:=?_)|refine bL ?_|refine br ?_|refine bq ?_|(refine ab (hc:=c0) (hX:=fun _ _=>trivial) ?_)|(refine ab (hc:=c1) (hX:=fun _ _=>trivial) ?_)|(refine ab (hc:=c2) (hX:=fun _ _=>trivial) ?_)|(refine ab (hc:=c3) (hX:=fun _ _=>trivial) ?_)|(refine ab (hc:=c4) (hX:=fun _ _=>trivial) ?_)|(refine ab (hc:=c5) (hX:=fun w h=>h) ?_)|(refine ab (hc:=c6) (hX:=fun _ _=>trivial) ?_)|(refine ab (hc:=c7) (hX:=fun _ _=>trivial) ?_)|(refine ab (hc:=c8) (hX:=fun w h=>h.1) ?_)|(refine ab (hc:=c9) (hX:=fun _ _=>trivial) ?_)|(refine ab (hc:=c10) (hX:=fun w h=>h) ?_)|((fail_if_success (refine cr ?_));refine bm (ht:=?_) (hf:=?_);all_goals (intro hx_;first|have:=aL hx_|have:=aX hx_|skip))|(refine cw_cond (ht:=?_) (hf:=?_);all_goals (intro hx_;first|have:=aL hx_|have:=aX hx_|skip)))
     all_goals refine ad (ag rfl rfl) ?_
     all_goals first
      | rfl
      | (simp only [*,Zt,Zr,Zf,Ze,Zh,Zg,Zk,Zj,Zn,Zl,Zs,Zm,Zq,Zi];done)
      | (simp_all;done)
      | (simp_all;intros;omega)
      | skip
   · rw [h,Bj,ru]
     have c0:=bu ({ bareA a with object:=⟨#[]⟩ }:ActD)
     repeat' (first|refine aH (hab:=by omega) ?_|refine aG (hab:=by omega) ?_|apply bF|apply QS|apply QT|refine bo ?_|refine aK ?_|refine bY ?_|refine cD ?_|refine aM ?_|refine aS ?_|refine aT ?_|refine cg ?_|refine cq ?_|refine bP ?_|refine cU ?_|refine cw ?_|refine cP ?_|refine bx ?_|refine bJ ?_|refine bw ?_|refine cf ?_|refine be ?_|refine bj ?_|refine bc ?_|refine aY fun _=>?_|refine ci fun _=>?_|refine bO ?_|refine aQ ?_|refine QW ?_|refine QX ?_|apply QV|apply QU|apply cw_ret|apply cw_exit|refine sy_beql (h:=?_)|refine bL ?_|refine br ?_|refine bq ?_|(refine ab (hc:=c0) (hX:=fun _ _=>trivial) ?_)|(refine ab (hc:=c1) (hX:=fun _ _=>trivial) ?_)|(refine ab (hc:=c2) (hX:=fun _ _=>trivial) ?_)|(refine ab (hc:=c3) (hX:=fun _ _=>trivial) ?_)|(refine ab (hc:=c4) (hX:=fun _ _=>trivial) ?_)|(refine ab (hc:=c5) (hX:=fun w h=>h) ?_)|(refine ab (hc:=c6) (hX:=fun _ _=>trivial) ?_)|(refine ab (hc:=c7) (hX:=fun _ _=>trivial) ?_)|(refine ab (hc:=c8) (hX:=fun w h=>h.1) ?_)|(refine ab (hc:=c9) (hX:=fun _ _=>trivial) ?_)|(refine ab (hc:=c10) (hX:=fun w h=>h) ?_)|((fail_if_success (refine cr ?_));refine bm (ht:=?_) (hf:=?_);all_goals (intro hx_;first|have:=aL hx_|have:=aX hx_|skip))|(refine cw_cond (ht:=?_) (hf:=?_);all_goals (intro hx_;first|have:=aL hx_|have:=aX hx_|skip)))
     all_goals refine ad (ag rfl rfl) ?_
     all_goals first
      | rfl
      | (simp only [*,Zt,Zr,Zf,Ze,Zh,Zg,Zk,Zj,Zn,Zl,Zs,Zm,Zq,Zi];done)
      | (simp_all;done)
      | (simp_all;intros;omega)
      | skip
   · rw [h,Bi,rt]
     have c0:=bu ({ a with group:=⟨#[]⟩,to:=⟨none,0,0⟩,toL:=[] }:ActD)
     repeat' (first|refine aH (hab:=by omega) ?_|refine aG (hab:=by omega) ?_|apply bF|apply QS|apply QT|refine bo ?_|refine aK ?_|refine bY ?_|refine cD ?_|refine aM ?_|refine aS ?_|refine aT ?_|refine cg ?_|refine cq ?_|refine bP ?_|refine cU ?_|refine cw ?_|refine cP ?_|refine bx ?_|refine bJ ?_|refine bw ?_|refine cf ?_|refine be ?_|refine bj ?_|refine bc ?_|refine aY fun _=>?_|refine ci fun _=>?_|refine bO ?_|refine aQ ?_|refine QW ?_|refine QX ?_|apply QV|apply QU|apply cw_ret|apply cw_exit|refine sy_beql (h:=?_)|refine bL ?_|refine br ?_|refine bq ?_|(refine ab (hc:=c0) (hX:=fun _ _=>trivial) ?_)|(refine ab (hc:=c1) (hX:=fun _ _=>trivial) ?_)|(refine ab (hc:=c2) (hX:=fun _ _=>trivial) ?_)|(refine ab (hc:=c3) (hX:=fun _ _=>trivial) ?_)|(refine ab (hc:=c4) (hX:=fun _ _=>trivial) ?_)|(refine ab (hc:=c5) (hX:=fun w h=>h) ?_)|(refine ab (hc:=c6) (hX:=fun _ _=>trivial) ?_)|(refine ab (hc:=c7) (hX:=fun _ _=>trivial) ?_)|(refine ab (hc:=c8) (hX:=fun w h=>h.1) ?_)|(refine ab (hc:=c9) (hX:=fun _ _=>trivial) ?_)|(refine ab (hc:=c10) (hX:=fun w h=>h) ?_)|((fail_if_success (refine cr ?_));refine bm (ht:=?_) (hf:=?_);all_goals (intro hx_;first|have:=aL hx_|have:=aX hx_|skip))|(refine cw_cond (ht:=?_) (hf:=?_);all_goals (intro hx_;first|have:=aL hx_|have:=aX hx_|skip)))
     all_goals refine ad (ag rfl rfl) ?_
     all_goals first
      | rfl
      | (simp only [*,Zt,Zr,Zf,Ze,Zh,Zg,Zk,Zj,Zn,Zl,Zs,Zm,Zq,Zi];done)
      | (simp_all;done)
      | (simp_all;intros;omega)
      | skip
   · rw [h,Bg,rs]
     have c0:=bu ({ a with scope:=0,group:=⟨#[]⟩,to:=⟨none,0,0⟩,toL:=[],epoch:=0,wraps:=⟨none,0,0⟩,wrapsL:=[] }:ActD)
     repeat' (first|refine aH (hab:=by omega) ?_|refine aG (hab:=by omega) ?_|apply bF|apply QS|apply QT|refine bo ?_|refine aK ?_|refine bY ?_|refine cD ?_|refine aM ?_|refine aS ?_|refine aT ?_|refine cg ?_|refine cq ?_|refine bP ?_|refine cU ?_|refine cw ?_|refine cP ?_|refine bx ?_|refine bJ ?_|refine bw ?_|refine cf ?_|refine be ?_|refine bj ?_|refine bc ?_|refine aY fun _=>?_|refine ci fun _=>?_|refine bO ?_|refine aQ ?_|refine QW ?_|refine QX ?_|apply QV|apply QU|apply cw_ret|apply cw_exit|refine sy_beql (h:=?_)|refine bL ?_|refine br ?_|refine bq ?_|(refine ab (hc:=c0) (hX:=fun _ _=>trivial) ?_)|(refine ab (hc:=c1) (hX:=fun _ _=>trivial) ?_)|(refine ab (hc:=c2) (hX:=fun _ _=>trivial) ?_)|(refine ab (hc:=c3) (hX:=fun _ _=>trivial) ?_)|(refine ab (hc:=c4) (hX:=fun _ _=>trivial) ?_)|(refine ab (hc:=c5) (hX:=fun w h=>h) ?_)|(refine ab (hc:=c6) (hX:=fun _ _=>trivial) ?_)|(refine ab (hc:=c7) (hX:=fun _ _=>trivial) ?_)|(refine ab (hc:=c8) (hX:=fun w h=>h.1) ?_)|(refine ab (hc:=c9) (hX:=fun _ _=>trivial) ?_)|(refine ab (hc:=c10) (hX:=fun w h=>h) ?_)|((fail_if_success (refine cr ?_));refine bm (ht:=?_) (hf:=?_);all_goals (intro hx_;first|have:=aL hx_|have:=aX hx_|skip))|(refine cw_cond (ht:=?_) (hf:=?_);all_goals (intro hx_;first|have:=aL hx_|have:=aX hx_|skip)))
     all_goals refine ad (ag rfl rfl) ?_
     all_goals first
      | rfl
      | (simp only [*,Zt,Zr,Zf,Ze,Zh,Zg,Zk,Zj,Zn,Zl,Zs,Zm,Zq,Zi];done)
      | (simp_all;done)
      | (simp_all;intros;omega)
      | skip
   · rw [h,Bf,rr]
     have c0:=bu ({ a with text:=⟨#[]⟩,object:=⟨#[]⟩,target:=⟨#[]⟩ }:ActD)
     repeat' (first|refine aH (hab:=by omega) ?_|refine aG (hab:=by omega) ?_|apply bF|apply QS|apply QT|refine bo ?_|refine aK ?_|refine bY ?_|refine cD ?_|refine aM ?_|refine aS ?_|refine aT ?_|refine cg ?_|refine cq ?_|refine bP ?_|refine cU ?_|refine cw ?_|refine cP ?_|refine bx ?_|refine bJ ?_|refine bw ?_|refine cf ?_|refine be ?_|refine bj ?_|refine bc ?_|refine aY fun _=>?_|refine ci fun _=>?_|refine bO ?_|refine aQ ?_|refine QW ?_|refine QX ?_|apply QV|apply QU|apply cw_ret|apply cw_exit|refine sy_beql (h:=?_)|refine bL ?_|refine br ?_|refine bq ?_|(refine ab (hc:=c0) (hX:=fun _ _=>trivial) ?_)|(refine ab (hc:=c1) (hX:=fun _ _=>trivial) ?_)|(refine ab (hc:=c2) (hX:=fun _ _=>trivial) ?_)|(refine ab (hc:=c3) (hX:=fun _ _=>trivial) ?_)|(refine ab (hc:=c4) (hX:=fun _ _=>trivial) ?_)|(refine ab (hc:=c5) (hX:=fun w h=>h) ?_)|(refine ab (hc:=c6) (hX:=fun _ _=>trivial) ?_)|(refine ab (hc:=c7) (hX:=fun _ _=>trivial) ?_)|(refine ab (hc:=c8) (hX:=fun w h=>h.1) ?_)|(refine ab (hc:=c9) (hX:=fun _ _=>trivial) ?_)|(refine ab (hc:=c10) (hX:=fun w h=>h) ?_)|((fail_if_success (refine cr ?_));refine bm (ht:=?_) (hf:=?_);all_goals (intro hx_;first|have:=aL hx_|have:=aX hx_|skip))|(refine cw_cond (ht:=?_) (hf:=?_);all_goals (intro hx_;first|have:=aL hx_|have:=aX hx_|skip)))
     all_goals refine ad (ag rfl rfl) ?_
     all_goals first
      | rfl
      | (simp only [*,Zt,Zr,Zf,Ze,Zh,Zg,Zk,Zj,Zn,Zl,Zs,Zm,Zq,Zi];done)
      | (simp_all;done)
      | (simp_all;intros;omega)
      | skip
   · rw [h,Be,rq]
     have c0:=bu ({ a with n:=0,m:=0 }:ActD)
     repeat' (first|refine aH (hab:=by omega) ?_|refine aG (hab:=by omega) ?_|apply bF|apply QS|apply QT|refine bo ?_|refine aK ?_|refine bY ?_|refine cD ?_|refine aM ?_|refine aS ?_|refine aT ?_|refine cg ?_|refine cq ?_|refine bP ?_|refine cU ?_|refine cw ?_|refine cP ?_|refine bx ?_|refine bJ ?_|refine bw ?_|refine cf ?_|refine be ?_|refine bj ?_|refine bc ?_|refine aY fun _=>?_|refine ci fun _=>?_|refine bO ?_|refine aQ ?_|refine QW ?_|refine QX ?_|apply QV|apply QU|apply cw_ret|apply cw_exit|refine sy_beql (h:=?_)|refine bL ?_|refine br ?_|refine bq ?_|(refine ab (hc:=c0) (hX:=fun _ _=>trivial) ?_)|(refine ab (hc:=c1) (hX:=fun _ _=>trivial) ?_)|(refine ab (hc:=c2) (hX:=fun _ _=>trivial) ?_)|(refine ab (hc:=c3) (hX:=fun _ _=>trivial) ?_)|(refine ab (hc:=c4) (hX:=fun _ _=>trivial) ?_)|(refine ab (hc:=c5) (hX:=fun w h=>h) ?_)|(refine ab (hc:=c6) (hX:=fun _ _=>trivial) ?_)|(refine ab (hc:=c7) (hX:=fun _ _=>trivial) ?_)|(refine ab (hc:=c8) (hX:=fun w h=>h.1) ?_)|(refine ab (hc:=c9) (hX:=fun _ _=>trivial) ?_)|(refine ab (hc:=c10) (hX:=fun w h=>h) ?_)|((fail_if_success (refine cr ?_));refine bm (ht:=?_) (hf:=?_);all_goals (intro hx_;first|have:=aL hx_|have:=aX hx_|skip))|(refine cw_cond (ht:=?_) (hf:=?_);all_goals (intro hx_;first|have:=aL hx_|have:=aX hx_|skip)))
     all_goals refine ad (ag rfl rfl) ?_
     all_goals first
      | rfl
      | (simp only [*,Zt,Zr,Zf,Ze,Zh,Zg,Zk,Zj,Zn,Zl,Zs,Zm,Zq,Zi];done)
      | (simp_all;done)
      | (simp_all;intros;omega)
      | skip
   · rw [h,Bd,rp]
     have c0:=bu ({ a with to:=⟨none,0,0⟩,toL:=[],wraps:=⟨none,0,0⟩,wrapsL:=[],n:=0,m:=0 }:ActD)
     repeat' (first|refine aH (hab:=by omega) ?_|refine aG (hab:=by omega) ?_|apply bF|apply QS|apply QT|refine bo ?_|refine aK ?_|refine bY ?_|refine cD ?_|refine aM ?_|refine aS ?_|refine aT ?_|refine cg ?_|refine cq ?_|refine bP ?_|refine cU ?_|refine cw ?_|refine cP ?_|refine bx ?_|refine bJ ?_|refine bw ?_|refine cf ?_|refine be ?_|refine bj ?_|refine bc ?_|refine aY fun _=>?_|refine ci fun _=>?_|refine bO ?_|refine aQ ?_|refine QW ?_|refine QX ?_|apply QV|apply QU|apply cw_ret|apply cw_exit|refine sy_beql (h:=?_)|refine bL ?_|refine br ?_|refine bq ?_|(refine ab (hc:=c0) (hX:=fun _ _=>trivial) ?_)|(refine ab (hc:=c1) (hX:=fun _ _=>trivial) ?_)|(refine ab (hc:=c2) (hX:=fun _ _=>trivial) ?_)|(refine ab (hc:=c3) (hX:=fun _ _=>trivial) ?_)|(refine ab (hc:=c4) (hX:=fun _ _=>trivial) ?_)|(refine ab (hc:=c5) (hX:=fun w h=>h) ?_)|(refine ab (hc:=c6) (hX:=fun _ _=>trivial) ?_)|(refine ab (hc:=c7) (hX:=fun _ _=>trivial) ?_)|(refine ab (hc:=c8) (hX:=fun w h=>h.1) ?_)|(refine ab (hc:=c9) (hX:=fun _ _=>trivial) ?_)|(refine ab (hc:=c10) (hX:=fun w h=>h) ?_)|((fail_if_success (refine cr ?_));refine bm (ht:=?_) (hf:=?_);all_goals (intro hx_;first|have:=aL hx_|have:=aX hx_|skip))|(refine cw_cond (ht:=?_) (hf:=?_);all_goals (intro hx_;first|have:=aL hx_|have:=aX hx_|skip)))
     all_goals refine ad (ag rfl rfl) ?_
     all_goals first
      | rfl
      | (simp only [*,Zt,Zr,Zf,Ze,Zh,Zg,Zk,Zj,Zn,Zl,Zs,Zm,Zq,Zi];done)
      | (simp_all;done)
      | (simp_all;intros;omega)
      | skip
   · rw [h,Bc,ro]
     have c0:=bu ({ a with object:=⟨#[]⟩ }:ActD)
     repeat' (first|refine aH (hab:=by omega) ?_|refine aG (hab:=by omega) ?_|apply bF|apply QS|apply QT|refine bo ?_|refine aK ?_|refine bY ?_|refine cD ?_|refine aM ?_|refine aS ?_|refine aT ?_|refine cg ?_|refine cq ?_|refine bP ?_|refine cU ?_|refine cw ?_|refine cP ?_|refine bx ?_|refine bJ ?_|refine bw ?_|refine cf ?_|refine be ?_|refine bj ?_|refine bc ?_|refine aY fun _=>?_|refine ci fun _=>?_|refine bO ?_|refine aQ ?_|refine QW ?_|refine QX ?_|apply QV|apply QU|apply cw_ret|apply cw_exit|refine sy_beql (h:=?_)|refine bL ?_|refine br ?_|refine bq ?_|(refine ab (hc:=c0) (hX:=fun _ _=>trivial) ?_)|(refine ab (hc:=c1) (hX:=fun _ _=>trivial) ?_)|(refine ab (hc:=c2) (hX:=fun _ _=>trivial) ?_)|(refine ab (hc:=c3) (hX:=fun _ _=>trivial) ?_)|(refine ab (hc:=c4) (hX:=fun _ _=>trivial) ?_)|(refine ab (hc:=c5) (hX:=fun w h=>h) ?_)|(refine ab (hc:=c6) (hX:=fun _ _=>trivial) ?_)|(refine ab (hc:=c7) (hX:=fun _ _=>trivial) ?_)|(refine ab (hc:=c8) (hX:=fun w h=>h.1) ?_)|(refine ab (hc:=c9) (hX:=fun _ _=>trivial) ?_)|(refine ab (hc:=c10) (hX:=fun w h=>h) ?_)|((fail_if_success (refine cr ?_));refine bm (ht:=?_) (hf:=?_);all_goals (intro hx_;first|have:=aL hx_|have:=aX hx_|skip))|(refine cw_cond (ht:=?_) (hf:=?_);all_goals (intro hx_;first|have:=aL hx_|have:=aX hx_|skip)))
     all_goals refine ad (ag rfl rfl) ?_
     all_goals first
      | rfl
      | (simp only [*,Zt,Zr,Zf,Ze,Zh,Zg,Zk,Zj,Zn,Zl,Zs,Zm,Zq,Zi];done)
      | (simp_all;done)
      | (simp_all;intros;omega)
      | skip
   · rw [h,Bb,rn]
     have c0:=bu ({ a with object:=⟨#[]⟩,text:=⟨#[]⟩ }:ActD)
     repeat' (first|refine aH (hab:=by omega) ?_|refine aG (hab:=by omega) ?_|apply bF|apply QS|apply QT|refine bo ?_|refine aK ?_|refine bY ?_|refine cD ?_|refine aM ?_|refine aS ?_|refine aT ?_|refine cg ?_|refine cq ?_|refine bP ?_|refine cU ?_|refine cw ?_|refine cP ?_|refine bx ?_|refine bJ ?_|refine bw ?_|refine cf ?_|refine be ?_|refine bj ?_|refine bc ?_|refine aY fun _=>?_|refine ci fun _=>?_|refine bO ?_|refine aQ ?_|refine QW ?_|refine QX ?_|apply QV|apply QU|apply cw_ret|apply cw_exit|refine sy_beql (h:=?_)|refine bL ?_|refine br ?_|refine bq ?_|(refine ab (hc:=c0) (hX:=fun _ _=>trivial) ?_)|(refine ab (hc:=c1) (hX:=fun _ _=>trivial) ?_)|(refine ab (hc:=c2) (hX:=fun _ _=>trivial) ?_)|(refine ab (hc:=c3) (hX:=fun _ _=>trivial) ?_)|(refine ab (hc:=c4) (hX:=fun _ _=>trivial) ?_)|(refine ab (hc:=c5) (hX:=fun w h=>h) ?_)|(refine ab (hc:=c6) (hX:=fun _ _=>trivial) ?_)|(refine ab (hc:=c7) (hX:=fun _ _=>trivial) ?_)|(refine ab (hc:=c8) (hX:=fun w h=>h.1) ?_)|(refine ab (hc:=c9) (hX:=fun _ _=>trivial) ?_)|(refine ab (hc:=c10) (hX:=fun w h=>h) ?_)|((fail_if_success (refine cr ?_));refine bm (ht:=?_) (hf:=?_);all_goals (intro hx_;first|have:=aL hx_|have:=aX hx_|skip))|(refine cw_cond (ht:=?_) (hf:=?_);all_goals (intro hx_;first|have:=aL hx_|have:=aX hx_|skip)))
     all_goals refine ad (ag rfl rfl) ?_
     all_goals first
      | rfl
      | (simp only [*,Zt,Zr,Zf,Ze,Zh,Zg,Zk,Zj,Zn,Zl,Zs,Zm,Zq,Zi];done)
      | (simp_all;done)
      | (simp_all;intros;omega)
      | skip
   · rw [h,Ba,rm]
     have c0:=bu ({ a with object:=⟨#[]⟩,n:=0 }:ActD)
     repeat' (first|refine aH (hab:=by omega) ?_|refine aG (hab:=by omega) ?_|apply bF|apply QS|apply QT|refine bo ?_|refine aK ?_|refine bY ?_|refine cD ?_|refine aM ?_|refine aS ?_|refine aT ?_|refine cg ?_|refine cq ?_|refine bP ?_|refine cU ?_|refine cw ?_|refine cP ?_|refine bx ?_|refine bJ ?_|refine bw ?_|refine cf ?_|refine be ?_|refine bj ?_|refine bc ?_|refine aY fun _=>?_|refine ci fun _=>?_|refine bO ?_|refine aQ ?_|refine QW ?_|refine QX ?_|apply QV|apply QU|apply cw_ret|apply cw_exit|refine sy_beql (h:=?_)|refine bL ?_|refine br ?_|refine bq ?_|(refine ab (hc:=c0) (hX:=fun _ _=>trivial) ?_)|(refine ab (hc:=c1) (hX:=fun _ _=>trivial) ?_)|(refine ab (hc:=c2) (hX:=fun _ _=>trivial) ?_)|(refine ab (hc:=c3) (hX:=fun _ _=>trivial) ?_)|(refine ab (hc:=c4) (hX:=fun _ _=>trivial) ?_)|(refine ab (hc:=c5) (hX:=fun w h=>h) ?_)|(refine ab (hc:=c6) (hX:=fun _ _=>trivial) ?_)|(refine ab (hc:=c7) (hX:=fun _ _=>trivial) ?_)|(refine ab (hc:=c8) (hX:=fun w h=>h.1) ?_)|(refine ab (hc:=c9) (hX:=fun _ _=>trivial) ?_)|(refine ab (hc:=c10) (hX:=fun w h=>h) ?_)|((fail_if_success (refine cr ?_));refine bm (ht:=?_) (hf:=?_);all_goals (intro hx_;first|have:=aL hx_|have:=aX hx_|skip))|(refine cw_cond (ht:=?_) (hf:=?_);all_goals (intro hx_;first|have:=aL hx_|have:=aX hx_|skip)))
     all_goals refine ad (ag rfl rfl) ?_
     all_goals first
      | rfl
      | (simp only [*,Zt,Zr,Zf,Ze,Zh,Zg,Zk,Zj,Zn,Zl,Zs,Zm,Zq,Zi];done)
      | (simp_all;done)
      | (simp_all;intros;omega)
      | skip
   · rw [h,A9,rl]
     have c0:=bu ({ a with target:=⟨#[]⟩,text:=⟨#[]⟩,n:=0 }:ActD)
     repeat' (first|refine aH (hab:=by omega) ?_|refine aG (hab:=by omega) ?_|apply bF|apply QS|apply QT|refine bo ?_|refine aK ?_|refine bY ?_|refine cD ?_|refine aM ?_|refine aS ?_|refine aT ?_|refine cg ?_|refine cq ?_|refine bP ?_|refine cU ?_|refine cw ?_|refine cP ?_|refine bx ?_|refine bJ ?_|refine bw ?_|refine cf ?_|refine be ?_|refine bj ?_|refine bc ?_|refine aY fun _=>?_|refine ci fun _=>?_|refine bO ?_|refine aQ ?_|refine QW ?_|refine QX ?_|apply QV|apply QU|apply cw_ret|apply cw_exit|refine sy_beql (h:=?_)|refine bL ?_|refine br ?_|refine bq ?_|(refine ab (hc:=c0) (hX:=fun _ _=>trivial) ?_)|(refine ab (hc:=c1) (hX:=fun _ _=>trivial) ?_)|(refine ab (hc:=c2) (hX:=fun _ _=>trivial) ?_)|(refine ab (hc:=c3) (hX:=fun _ _=>trivial) ?_)|(refine ab (hc:=c4) (hX:=fun _ _=>trivial) ?_)|(refine ab (hc:=c5) (hX:=fun w h=>h) ?_)|(refine ab (hc:=c6) (hX:=fun _ _=>trivial) ?_)|(refine ab (hc:=c7) (hX:=fun _ _=>trivial) ?_)|(refine ab (hc:=c8) (hX:=fun w h=>h.1) ?_)|(refine ab (hc:=c9) (hX:=fun _ _=>trivial) ?_)|(refine ab (hc:=c10) (hX:=fun w h=>h) ?_)|((fail_if_success (refine cr ?_));refine bm (ht:=?_) (hf:=?_);all_goals (intro hx_;first|have:=aL hx_|have:=aX hx_|skip))|(refine cw_cond (ht:=?_) (hf:=?_);all_goals (intro hx_;first|have:=aL hx_|have:=aX hx_|skip)))
     all_goals refine ad (ag rfl rfl) ?_
     all_goals first
      | rfl
      | (simp only [*,Zt,Zr,Zf,Ze,Zh,Zg,Zk,Zj,Zn,Zl,Zs,Zm,Zq,Zi];done)
      | (simp_all;done)
      | (simp_all;intros;omega)
      | skip
 · rw [fitsR,rL hk,Zj]
   repeat' (first|refine aG (hab:=by omega) ?_|apply bF|apply QS|apply QT|refine bo ?_|refine aK ?_|refine bY ?_|refine cD ?_|refine aM ?_|refine aS ?_|refine aT ?_|refine cg ?_|refine cq ?_|refine bP ?_|refine cU ?_|refine cw ?_|refine cP ?_|refine bx ?_|refine bJ ?_|refine bw ?_|refine cf ?_|refine be ?_|refine bj ?_|refine bc ?_|refine aY fun _=>?_|refine ci fun _=>?_|refine bO ?_|refine aQ ?_|refine QW ?_|refine QX ?_|apply QV|apply QU|apply cw_ret|apply cw_exit|refine sy_beql (h:=?_)|refine bL ?_|refine br ?_|refine bq ?_|((fail_if_success (refine cr ?_));refine bm (ht:=?_) (hf:=?_);all_goals (intro hx_;first|have:=aL hx_|have:=aX hx_|skip))|(refine cw_cond (ht:=?_) (hf:=?_);all_goals (intro hx_;first|have:=aL hx_|have:=aX hx_|skip)))
   exact ad (ag rfl rfl) rfl
def maskB (fs:Nat) (z0 z1 z2 z3 z4 z5 z6 z7 z8 z9 z10:Bool):Bool:=(fs.testBit 0||z0)&&(fs.testBit 1||z1)&&(fs.testBit 2||z2)&&(fs.testBit 3||z3)&&(fs.testBit 4||z4)&&(fs.testBit 5||z5)&&(fs.testBit 6||z6)&&(fs.testBit 7||z7)&&(fs.testBit 8||z8)&&(fs.testBit 9||z9)&&(fs.testBit 10||z10)
def maskOk (fs:Nat) (z0 z1 z2 z3 z4 z5 z6 z7 z8 z9 z10:Bool):Bool:=decide (bitsV .andNot .i64 (useU z0 z1 z2 z3 z4 z5 z6 z7 z8 z9 z10) fs=0)==maskB fs z0 z1 z2 z3 z4 z5 z6 z7 z8 z9 z10
def maskAll (fs:Nat):Bool:=bools fun z0=>bools fun z1=>bools fun z2=>bools fun z3=>bools fun z4=>bools fun z5=>bools fun z6=>bools fun z7=>bools fun z8=>bools fun z9=>bools fun z10=>maskOk fs z0 z1 z2 z3 z4 z5 z6 z7 z8 z9 z10
theorem r3:([1568,252,253,1,2,33,24,412,35,1536,1808,513,546].all maskAll)=true:=by decide +kernel
theorem cG {fs:Nat} (hfs:fs∈[1568,252,253,1,2,33,24,412,35,1536,1808,513,546]) (z0 z1 z2 z3 z4 z5 z6 z7 z8 z9 z10:Bool):decide (bitsV .andNot .i64 (useU z0 z1 z2 z3 z4 z5 z6 z7 z8 z9 z10) fs=0)=maskB fs z0 z1 z2 z3 z4 z5 z6 z7 z8 z9 z10:=by
 have h:=List.all_eq_true.1 r3 fs hfs
 have h1:=bX (bX (bX (bX (bX (bX (bX (bX (bX (bX (bX h z0) z1) z2) z3) z4) z5) z6) z7) z8) z9) z10
 exact eq_of_beq h1
theorem bI (a:ActD):usedV a=useU (seqB a.object ⟨#[]⟩) (seqB a.target ⟨#[]⟩) (decide (a.scope=0)) (seqB a.group ⟨#[]⟩) (decide ((a.to.n:Int)=0)) (seqB a.text ⟨#[]⟩) (boxEq a.body BoxD.zero) (decide (a.epoch=0)) (decide ((a.wraps.n:Int)=0)) (decide (a.n=0)) (decide (a.m=0)):=rfl
theorem lt20 (m:Int):decide (m<20)=decide (m≤19):=decide_eq_decide.2 aa
theorem aR (a:ActD):sealedScopeB a.scope a.group=(decide (1≤a.scope)&&decide (a.scope≤3)&&groupR a):=by
 rw [sealedScopeB,groupR]
 by_cases h2:a.scope=2
 · rw [h2];rfl
 by_cases h1:a.scope=1
 · rw [h1];rfl
 by_cases h3:a.scope=3
 · rw [h3];rfl
 rw [Zc h1,Zc h2,Zc h3]
 by_cases hl:1≤a.scope
 · rw [Zc (show ¬ a.scope≤3 by omega),Zk]
   rfl
 · rw [Zc hl]
   rfl
theorem uE (s:ByteArray) (h:seqB s ⟨#[]⟩=true):decide ((s.size:Int)=32)=false:=by
 rw [dF,Zw] at h
 exact Zc aa
theorem FW {a:ActD} (h:a.kind=0):ruleB a=(maskB 1568 (seqB a.object ⟨#[]⟩) (seqB a.target ⟨#[]⟩) (decide (a.scope=0)) (seqB a.group ⟨#[]⟩) (decide ((a.to.n:Int)=0)) (seqB a.text ⟨#[]⟩) (boxEq a.body BoxD.zero) (decide (a.epoch=0)) (decide ((a.wraps.n:Int)=0)) (decide (a.n=0)) (decide (a.m=0))&&rule3B a):=by
 have hm:mget (ruleL a) a.kind=some (1568,rule3B a):=by rw [h];rfl
 rw [ruleB,hm]
 simp only
 rw [bI]
 exact congrArg (·&&_) (cG (fs:=1568) (by decide) _ _ _ _ _ _ _ _ _ _ _)
theorem FV {a:ActD} (h:a.kind=1):ruleB a=(maskB 252 (seqB a.object ⟨#[]⟩) (seqB a.target ⟨#[]⟩) (decide (a.scope=0)) (seqB a.group ⟨#[]⟩) (decide ((a.to.n:Int)=0)) (seqB a.text ⟨#[]⟩) (boxEq a.body BoxD.zero) (decide (a.epoch=0)) (decide ((a.wraps.n:Int)=0)) (decide (a.n=0)) (decide (a.m=0))&&audienceB a):=by
 have hm:mget (ruleL a) a.kind=some (252,audienceB a):=by rw [h];rfl
 rw [ruleB,hm]
 simp only
 rw [bI]
 exact congrArg (·&&_) (cG (fs:=252) (by decide) _ _ _ _ _ _ _ _ _ _ _)
theorem FU {a:ActD} (h:a.kind=2):ruleB a=(maskB 253 (seqB a.object ⟨#[]⟩) (seqB a.target ⟨#[]⟩) (decide (a.scope=0)) (seqB a.group ⟨#[]⟩) (decide ((a.to.n:Int)=0)) (seqB a.text ⟨#[]⟩) (boxEq a.body BoxD.zero) (decide (a.epoch=0)) (decide ((a.wraps.n:Int)=0)) (decide (a.n=0)) (decide (a.m=0))&&rule1B a):=by
 have hm:mget (ruleL a) a.kind=some (253,rule1B a):=by rw [h];rfl
 rw [ruleB,hm]
 simp only
 rw [bI]
 exact congrArg (·&&_) (cG (fs:=253) (by decide) _ _ _ _ _ _ _ _ _ _ _)
theorem FT {a:ActD} (h:a.kind=3):ruleB a=(maskB 253 (seqB a.object ⟨#[]⟩) (seqB a.target ⟨#[]⟩) (decide (a.scope=0)) (seqB a.group ⟨#[]⟩) (decide ((a.to.n:Int)=0)) (seqB a.text ⟨#[]⟩) (boxEq a.body BoxD.zero) (decide (a.epoch=0)) (decide ((a.wraps.n:Int)=0)) (decide (a.n=0)) (decide (a.m=0))&&rule1B a):=by
 have hm:mget (ruleL a) a.kind=some (253,rule1B a):=by rw [h];rfl
 rw [ruleB,hm]
 simp only
 rw [bI]
 exact congrArg (·&&_) (cG (fs:=253) (by decide) _ _ _ _ _ _ _ _ _ _ _)
theorem FS {a:ActD} (h:a.kind=4):ruleB a=(maskB 1 (seqB a.object ⟨#[]⟩) (seqB a.target ⟨#[]⟩) (decide (a.scope=0)) (seqB a.group ⟨#[]⟩) (decide ((a.to.n:Int)=0)) (seqB a.text ⟨#[]⟩) (boxEq a.body BoxD.zero) (decide (a.epoch=0)) (decide ((a.wraps.n:Int)=0)) (decide (a.n=0)) (decide (a.m=0))&&objectB a):=by
 have hm:mget (ruleL a) a.kind=some (1,objectB a):=by rw [h];rfl
 rw [ruleB,hm]
 simp only
 rw [bI]
 exact congrArg (·&&_) (cG (fs:=1) (by decide) _ _ _ _ _ _ _ _ _ _ _)
theorem FR {a:ActD} (h:a.kind=5):ruleB a=(maskB 1 (seqB a.object ⟨#[]⟩) (seqB a.target ⟨#[]⟩) (decide (a.scope=0)) (seqB a.group ⟨#[]⟩) (decide ((a.to.n:Int)=0)) (seqB a.text ⟨#[]⟩) (boxEq a.body BoxD.zero) (decide (a.epoch=0)) (decide ((a.wraps.n:Int)=0)) (decide (a.n=0)) (decide (a.m=0))&&objectB a):=by
 have hm:mget (ruleL a) a.kind=some (1,objectB a):=by rw [h];rfl
 rw [ruleB,hm]
 simp only
 rw [bI]
 exact congrArg (·&&_) (cG (fs:=1) (by decide) _ _ _ _ _ _ _ _ _ _ _)
theorem FQ {a:ActD} (h:a.kind=6):ruleB a=(maskB 1 (seqB a.object ⟨#[]⟩) (seqB a.target ⟨#[]⟩) (decide (a.scope=0)) (seqB a.group ⟨#[]⟩) (decide ((a.to.n:Int)=0)) (seqB a.text ⟨#[]⟩) (boxEq a.body BoxD.zero) (decide (a.epoch=0)) (decide ((a.wraps.n:Int)=0)) (decide (a.n=0)) (decide (a.m=0))&&objectB a):=by
 have hm:mget (ruleL a) a.kind=some (1,objectB a):=by rw [h];rfl
 rw [ruleB,hm]
 simp only
 rw [bI]
 exact congrArg (·&&_) (cG (fs:=1) (by decide) _ _ _ _ _ _ _ _ _ _ _)
theorem FP {a:ActD} (h:a.kind=7):ruleB a=(maskB 2 (seqB a.object ⟨#[]⟩) (seqB a.target ⟨#[]⟩) (decide (a.scope=0)) (seqB a.group ⟨#[]⟩) (decide ((a.to.n:Int)=0)) (seqB a.text ⟨#[]⟩) (boxEq a.body BoxD.zero) (decide (a.epoch=0)) (decide ((a.wraps.n:Int)=0)) (decide (a.n=0)) (decide (a.m=0))&&targetB a):=by
 have hm:mget (ruleL a) a.kind=some (2,targetB a):=by rw [h];rfl
 rw [ruleB,hm]
 simp only
 rw [bI]
 exact congrArg (·&&_) (cG (fs:=2) (by decide) _ _ _ _ _ _ _ _ _ _ _)
theorem FO {a:ActD} (h:a.kind=8):ruleB a=(maskB 2 (seqB a.object ⟨#[]⟩) (seqB a.target ⟨#[]⟩) (decide (a.scope=0)) (seqB a.group ⟨#[]⟩) (decide ((a.to.n:Int)=0)) (seqB a.text ⟨#[]⟩) (boxEq a.body BoxD.zero) (decide (a.epoch=0)) (decide ((a.wraps.n:Int)=0)) (decide (a.n=0)) (decide (a.m=0))&&targetB a):=by
 have hm:mget (ruleL a) a.kind=some (2,targetB a):=by rw [h];rfl
 rw [ruleB,hm]
 simp only
 rw [bI]
 exact congrArg (·&&_) (cG (fs:=2) (by decide) _ _ _ _ _ _ _ _ _ _ _)
theorem FN {a:ActD} (h:a.kind=9):ruleB a=(maskB 2 (seqB a.object ⟨#[]⟩) (seqB a.target ⟨#[]⟩) (decide (a.scope=0)) (seqB a.group ⟨#[]⟩) (decide ((a.to.n:Int)=0)) (seqB a.text ⟨#[]⟩) (boxEq a.body BoxD.zero) (decide (a.epoch=0)) (decide ((a.wraps.n:Int)=0)) (decide (a.n=0)) (decide (a.m=0))&&targetB a):=by
 have hm:mget (ruleL a) a.kind=some (2,targetB a):=by rw [h];rfl
 rw [ruleB,hm]
 simp only
 rw [bI]
 exact congrArg (·&&_) (cG (fs:=2) (by decide) _ _ _ _ _ _ _ _ _ _ _)
theorem DJ {a:ActD} (h:a.kind=10):ruleB a=(maskB 2 (seqB a.object ⟨#[]⟩) (seqB a.target ⟨#[]⟩) (decide (a.scope=0)) (seqB a.group ⟨#[]⟩) (decide ((a.to.n:Int)=0)) (seqB a.text ⟨#[]⟩) (boxEq a.body BoxD.zero) (decide (a.epoch=0)) (decide ((a.wraps.n:Int)=0)) (decide (a.n=0)) (decide (a.m=0))&&targetB a):=by
 have hm:mget (ruleL a) a.kind=some (2,targetB a):=by rw [h];rfl
 rw [ruleB,hm]
 simp only
 rw [bI]
 exact congrArg (·&&_) (cG (fs:=2) (by decide) _ _ _ _ _ _ _ _ _ _ _)
theorem DI {a:ActD} (h:a.kind=11):ruleB a=(maskB 2 (seqB a.object ⟨#[]⟩) (seqB a.target ⟨#[]⟩) (decide (a.scope=0)) (seqB a.group ⟨#[]⟩) (decide ((a.to.n:Int)=0)) (seqB a.text ⟨#[]⟩) (boxEq a.body BoxD.zero) (decide (a.epoch=0)) (decide ((a.wraps.n:Int)=0)) (decide (a.n=0)) (decide (a.m=0))&&targetB a):=by
 have hm:mget (ruleL a) a.kind=some (2,targetB a):=by rw [h];rfl
 rw [ruleB,hm]
 simp only
 rw [bI]
 exact congrArg (·&&_) (cG (fs:=2) (by decide) _ _ _ _ _ _ _ _ _ _ _)
theorem DH {a:ActD} (h:a.kind=12):ruleB a=(maskB 33 (seqB a.object ⟨#[]⟩) (seqB a.target ⟨#[]⟩) (decide (a.scope=0)) (seqB a.group ⟨#[]⟩) (decide ((a.to.n:Int)=0)) (seqB a.text ⟨#[]⟩) (boxEq a.body BoxD.zero) (decide (a.epoch=0)) (decide ((a.wraps.n:Int)=0)) (decide (a.n=0)) (decide (a.m=0))&&rule2B a):=by
 have hm:mget (ruleL a) a.kind=some (33,rule2B a):=by rw [h];rfl
 rw [ruleB,hm]
 simp only
 rw [bI]
 exact congrArg (·&&_) (cG (fs:=33) (by decide) _ _ _ _ _ _ _ _ _ _ _)
theorem DG {a:ActD} (h:a.kind=13):ruleB a=(maskB 1 (seqB a.object ⟨#[]⟩) (seqB a.target ⟨#[]⟩) (decide (a.scope=0)) (seqB a.group ⟨#[]⟩) (decide ((a.to.n:Int)=0)) (seqB a.text ⟨#[]⟩) (boxEq a.body BoxD.zero) (decide (a.epoch=0)) (decide ((a.wraps.n:Int)=0)) (decide (a.n=0)) (decide (a.m=0))&&objectB a):=by
 have hm:mget (ruleL a) a.kind=some (1,objectB a):=by rw [h];rfl
 rw [ruleB,hm]
 simp only
 rw [bI]
 exact congrArg (·&&_) (cG (fs:=1) (by decide) _ _ _ _ _ _ _ _ _ _ _)
theorem DF {a:ActD} (h:a.kind=14):ruleB a=(maskB 253 (seqB a.object ⟨#[]⟩) (seqB a.target ⟨#[]⟩) (decide (a.scope=0)) (seqB a.group ⟨#[]⟩) (decide ((a.to.n:Int)=0)) (seqB a.text ⟨#[]⟩) (boxEq a.body BoxD.zero) (decide (a.epoch=0)) (decide ((a.wraps.n:Int)=0)) (decide (a.n=0)) (decide (a.m=0))&&rule1B a):=by
 have hm:mget (ruleL a) a.kind=some (253,rule1B a):=by rw [h];rfl
 rw [ruleB,hm]
 simp only
 rw [bI]
 exact congrArg (·&&_) (cG (fs:=253) (by decide) _ _ _ _ _ _ _ _ _ _ _)
theorem DE {a:ActD} (h:a.kind=15):ruleB a=(maskB 24 (seqB a.object ⟨#[]⟩) (seqB a.target ⟨#[]⟩) (decide (a.scope=0)) (seqB a.group ⟨#[]⟩) (decide ((a.to.n:Int)=0)) (seqB a.text ⟨#[]⟩) (boxEq a.body BoxD.zero) (decide (a.epoch=0)) (decide ((a.wraps.n:Int)=0)) (decide (a.n=0)) (decide (a.m=0))&&rule4B a):=by
 have hm:mget (ruleL a) a.kind=some (24,rule4B a):=by rw [h];rfl
 rw [ruleB,hm]
 simp only
 rw [bI]
 exact congrArg (·&&_) (cG (fs:=24) (by decide) _ _ _ _ _ _ _ _ _ _ _)
theorem DD {a:ActD} (h:a.kind=16):ruleB a=(maskB 412 (seqB a.object ⟨#[]⟩) (seqB a.target ⟨#[]⟩) (decide (a.scope=0)) (seqB a.group ⟨#[]⟩) (decide ((a.to.n:Int)=0)) (seqB a.text ⟨#[]⟩) (boxEq a.body BoxD.zero) (decide (a.epoch=0)) (decide ((a.wraps.n:Int)=0)) (decide (a.n=0)) (decide (a.m=0))&&grantB a):=by
 have hm:mget (ruleL a) a.kind=some (412,grantB a):=by rw [h];rfl
 rw [ruleB,hm]
 simp only
 rw [bI]
 exact congrArg (·&&_) (cG (fs:=412) (by decide) _ _ _ _ _ _ _ _ _ _ _)
theorem DC {a:ActD} (h:a.kind=17):ruleB a=(maskB 35 (seqB a.object ⟨#[]⟩) (seqB a.target ⟨#[]⟩) (decide (a.scope=0)) (seqB a.group ⟨#[]⟩) (decide ((a.to.n:Int)=0)) (seqB a.text ⟨#[]⟩) (boxEq a.body BoxD.zero) (decide (a.epoch=0)) (decide ((a.wraps.n:Int)=0)) (decide (a.n=0)) (decide (a.m=0))&&labelB a):=by
 have hm:mget (ruleL a) a.kind=some (35,labelB a):=by rw [h];rfl
 rw [ruleB,hm]
 simp only
 rw [bI]
 exact congrArg (·&&_) (cG (fs:=35) (by decide) _ _ _ _ _ _ _ _ _ _ _)
theorem DB {a:ActD} (h:a.kind=18):ruleB a=(maskB 1536 (seqB a.object ⟨#[]⟩) (seqB a.target ⟨#[]⟩) (decide (a.scope=0)) (seqB a.group ⟨#[]⟩) (decide ((a.to.n:Int)=0)) (seqB a.text ⟨#[]⟩) (boxEq a.body BoxD.zero) (decide (a.epoch=0)) (decide ((a.wraps.n:Int)=0)) (decide (a.n=0)) (decide (a.m=0))&&homeB a):=by
 have hm:mget (ruleL a) a.kind=some (1536,homeB a):=by rw [h];rfl
 rw [ruleB,hm]
 simp only
 rw [bI]
 exact congrArg (·&&_) (cG (fs:=1536) (by decide) _ _ _ _ _ _ _ _ _ _ _)
theorem DA {a:ActD} (h:a.kind=19):ruleB a=(maskB 1808 (seqB a.object ⟨#[]⟩) (seqB a.target ⟨#[]⟩) (decide (a.scope=0)) (seqB a.group ⟨#[]⟩) (decide ((a.to.n:Int)=0)) (seqB a.text ⟨#[]⟩) (boxEq a.body BoxD.zero) (decide (a.epoch=0)) (decide ((a.wraps.n:Int)=0)) (decide (a.n=0)) (decide (a.m=0))&&setupB a):=by
 have hm:mget (ruleL a) a.kind=some (1808,setupB a):=by rw [h];rfl
 rw [ruleB,hm]
 simp only
 rw [bI]
 exact congrArg (·&&_) (cG (fs:=1808) (by decide) _ _ _ _ _ _ _ _ _ _ _)
theorem Dz {a:ActD} (h:a.kind=20):ruleB a=(maskB 1 (seqB a.object ⟨#[]⟩) (seqB a.target ⟨#[]⟩) (decide (a.scope=0)) (seqB a.group ⟨#[]⟩) (decide ((a.to.n:Int)=0)) (seqB a.text ⟨#[]⟩) (boxEq a.body BoxD.zero) (decide (a.epoch=0)) (decide ((a.wraps.n:Int)=0)) (decide (a.n=0)) (decide (a.m=0))&&objectB a):=by
 have hm:mget (ruleL a) a.kind=some (1,objectB a):=by rw [h];rfl
 rw [ruleB,hm]
 simp only
 rw [bI]
 exact congrArg (·&&_) (cG (fs:=1) (by decide) _ _ _ _ _ _ _ _ _ _ _)
theorem Dy {a:ActD} (h:a.kind=21):ruleB a=(maskB 33 (seqB a.object ⟨#[]⟩) (seqB a.target ⟨#[]⟩) (decide (a.scope=0)) (seqB a.group ⟨#[]⟩) (decide ((a.to.n:Int)=0)) (seqB a.text ⟨#[]⟩) (boxEq a.body BoxD.zero) (decide (a.epoch=0)) (decide ((a.wraps.n:Int)=0)) (decide (a.n=0)) (decide (a.m=0))&&rule2B a):=by
 have hm:mget (ruleL a) a.kind=some (33,rule2B a):=by rw [h];rfl
 rw [ruleB,hm]
 simp only
 rw [bI]
 exact congrArg (·&&_) (cG (fs:=33) (by decide) _ _ _ _ _ _ _ _ _ _ _)
theorem Dx {a:ActD} (h:a.kind=22):ruleB a=(maskB 513 (seqB a.object ⟨#[]⟩) (seqB a.target ⟨#[]⟩) (decide (a.scope=0)) (seqB a.group ⟨#[]⟩) (decide ((a.to.n:Int)=0)) (seqB a.text ⟨#[]⟩) (boxEq a.body BoxD.zero) (decide (a.epoch=0)) (decide ((a.wraps.n:Int)=0)) (decide (a.n=0)) (decide (a.m=0))&&rule5B a):=by
 have hm:mget (ruleL a) a.kind=some (513,rule5B a):=by rw [h];rfl
 rw [ruleB,hm]
 simp only
 rw [bI]
 exact congrArg (·&&_) (cG (fs:=513) (by decide) _ _ _ _ _ _ _ _ _ _ _)
theorem Dv {a:ActD} (h:a.kind=23):ruleB a=(maskB 546 (seqB a.object ⟨#[]⟩) (seqB a.target ⟨#[]⟩) (decide (a.scope=0)) (seqB a.group ⟨#[]⟩) (decide ((a.to.n:Int)=0)) (seqB a.text ⟨#[]⟩) (boxEq a.body BoxD.zero) (decide (a.epoch=0)) (decide ((a.wraps.n:Int)=0)) (decide (a.n=0)) (decide (a.m=0))&&rule6B a):=by
 have hm:mget (ruleL a) a.kind=some (546,rule6B a):=by rw [h];rfl
 rw [ruleB,hm]
 simp only
 rw [bI]
 exact congrArg (·&&_) (cG (fs:=546) (by decide) _ _ _ _ _ _ _ _ _ _ _)
theorem xG {a:ActD} (h:¬ (0≤a.kind∧a.kind≤23)):ruleB a=false:=by
 have hm:mget (ruleL a) a.kind=none:=by
  rw [ruleL]
  rw [mget,show KeyT.eqb a.kind 0=false from Zc aa,Ze]
  rw [mget,show KeyT.eqb a.kind 1=false from Zc aa,Ze]
  rw [mget,show KeyT.eqb a.kind 2=false from Zc aa,Ze]
  rw [mget,show KeyT.eqb a.kind 3=false from Zc aa,Ze]
  rw [mget,show KeyT.eqb a.kind 14=false from Zc aa,Ze]
  rw [mget,show KeyT.eqb a.kind 4=false from Zc aa,Ze]
  rw [mget,show KeyT.eqb a.kind 5=false from Zc aa,Ze]
  rw [mget,show KeyT.eqb a.kind 6=false from Zc aa,Ze]
  rw [mget,show KeyT.eqb a.kind 13=false from Zc aa,Ze]
  rw [mget,show KeyT.eqb a.kind 20=false from Zc aa,Ze]
  rw [mget,show KeyT.eqb a.kind 7=false from Zc aa,Ze]
  rw [mget,show KeyT.eqb a.kind 8=false from Zc aa,Ze]
  rw [mget,show KeyT.eqb a.kind 9=false from Zc aa,Ze]
  rw [mget,show KeyT.eqb a.kind 10=false from Zc aa,Ze]
  rw [mget,show KeyT.eqb a.kind 11=false from Zc aa,Ze]
  rw [mget,show KeyT.eqb a.kind 12=false from Zc aa,Ze]
  rw [mget,show KeyT.eqb a.kind 21=false from Zc aa,Ze]
  rw [mget,show KeyT.eqb a.kind 15=false from Zc aa,Ze]
  rw [mget,show KeyT.eqb a.kind 16=false from Zc aa,Ze]
  rw [mget,show KeyT.eqb a.kind 17=false from Zc aa,Ze]
  rw [mget,show KeyT.eqb a.kind 18=false from Zc aa,Ze]
  rw [mget,show KeyT.eqb a.kind 19=false from Zc aa,Ze]
  rw [mget,show KeyT.eqb a.kind 22=false from Zc aa,Ze]
  rw [mget,show KeyT.eqb a.kind 23=false from Zc aa,Ze]
  rfl
 rw [ruleB,hm]
end Go.Proofs.YtaolfiikahlmkaaGreatDoor
