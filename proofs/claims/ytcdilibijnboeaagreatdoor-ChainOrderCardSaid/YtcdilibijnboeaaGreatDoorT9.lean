/- Joined by program out of: Uf Ug Uh Ui Uj Uk Ul. -/
import Derived.Test.YtcdilibijnboeaaGreatDoorT8
set_option linter.unusedVariables false
set_option linter.unusedSimpArgs false
namespace Go.Proofs.YtcdilibijnboeaaGreatDoor
open Go Go.Proofs Sy
theorem BP (l:List Nat):u8s (l.map fun (n:Nat)=>(n:Int))=l.map fun (n:Nat)=>(.int .u8 (n:Int):Value):=by simp [u8s]
theorem U8s.of_row {w:World} {e n c:Nat} {A:Option Addr} {l:List Nat} (h:ORow w e 1 (.slice A n c) n (u8s (l.map fun (n:Nat)=>(n:Int)))) (hn:n=l.length):U8s w ⟨A,n,c⟩ l:=by
 have e1:(l.map fun (n:Nat)=>[(.int .u8 (n:Int):Value)]).flatten=u8s (l.map fun (n:Nat)=>(n:Int)):=by
  rw [BP]
  clear h hn
  induction l with
  | nil=>rfl
  | cons a l ih=>rw [Qs,List.flatten_cons,ih];rfl
 rw [←e1] at h
 exact cb h (by rw [Z3,hn]) fun r hr=>by
  obtain ⟨n,_,rfl⟩:=List.mem_map.1 hr
  rfl
theorem U8s.part {w:World} {s:SlV} {l:List Nat} (h:U8s w s l) {i n:Nat} (hi:i+n≤l.length):U8s w ⟨(s.from 1 i).p,n,s.c-i⟩ ((l.drop i).take n):=by
 have h1:=RowsD.drop h (n:=i) (by rw [Z3];omega)
 rw [←List.map_drop] at h1
 have h2:=RowsD.take h1 (n:=n) (by rw [Z3,List.length_drop];omega)
 rw [←List.map_take] at h2
 exact h2
def padI (s:ByteArray):List Int:=endL s++List.replicate (padN (s.size+1)) 0++sizeB s.size 8
theorem Aj (s:ByteArray) (hs:s.size<2305843009213693952):padI s=(padL (nl s)).map fun (n:Nat)=>(n:Int):=by
 rw [padI,endL,jC,padL,dt,o0 s.size hs]
 simp
theorem Ca (l:List Nat) (h:∀ x∈l,x<256):∀ x∈padL l,x<256:=fun x hx=>by
 rw [padL] at hx
 rcases List.mem_append.1 hx with hx|hx
 · exact h x hx
 · rcases List.mem_cons.1 hx with rfl|hx
   · omega
   · rcases List.mem_append.1 hx with hx|hx
     · rw [(List.mem_replicate.1 hx).2];omega
     · rw [sizeN] at hx
       simp only [Z7,List.not_mem_nil,or_false] at hx
       rcases hx with rfl|rfl|rfl|rfl|rfl|rfl|rfl|rfl<;>exact Nat.mod_lt _ ae
theorem sU (l:List Nat):(padL l).length=l.length+1+padN (l.length+1)+8:=by
 rw [padL]
 simp [sizeN]
 omega
theorem rm (l:List Nat):(padL l).length%64=0:=by
 rw [sU,padN]
 omega
section
variable {P:Program} {N:Nat} {av bor:List Nat} {w0:World} {st:St} {ty:TypeId} {x y z:Operand} {t t2:TypeId} {a b:Nat}
theorem vY (hx:ev st.env x=some (.int .i64 (a:Int))) (hy:ev st.env y=some (.int .i64 (b:Int))) (hc:a+b<9223372036854775808):Sy.Yields P N av bor w0 st (.binOp .add t x y t2) ty (.int .i64 ((a+b:Nat):Int)) :=
 mE hx hy (by rw [←Int.natCast_add];exact IntWalk.i64_in _ ae)
theorem BC {e size b':Nat} [hI:TySl P t e size b'] {s:SlV} {i n:Nat} (hx:ev st.env x=some s.v) (hy:ev st.env y=some (.int .i64 (i:Int))) (hz:ev st.env z=some (.int .i64 ((i+n:Nat):Int))) (h2:i+n≤s.c) :
  Sy.Yields P N av bor w0 st (.slice t x (some y) (some z) none) ty (⟨(s.from size i).p,n,s.c-i⟩:SlV).v:=by
 have h:=yU (P:=P) (N:=N) (av:=av) (bor:=bor) (w0:=w0) (st:=st) (ty:=ty) (t:=t) (size:=size) hx hy hz ae ae ae
 have e1:((i:Nat):Int).toNat=i:=rfl
 have e2:((i+n:Nat):Int).toNat-i=n:=by omega
 rw [e1,e2] at h
 exact h
end
def outB (S:S8) (i:Nat):Nat:=(S.l.getD (i/4) 0/2 ^ (24-8*(i%4)))%256
theorem A7 (S:S8):digN S=(List.range 32).map (outB S):=by
 obtain ⟨a,b,c,d,e,f,g,h⟩:=S
 simp [digN,d4N,outB,S8.l,List.range,List.range.loop]
structure ShaI (L:List Nat) (m:Nat) where
 k:Nat
 hk:k≤m
 s:SlV
 S:S8
 lt:S.Lt
 run:runN (m-k) S (L.drop (64*k))=runN m iniN L
set_option maxRecDepth 20000 in
set_option maxHeartbeats 8000000 in
theorem mQ (s:ByteArray) (hs:s.size≤1099511627776):Pu Tryz.prog 109 #[.string s] (fun _=>True) (.string (shaV s)):=by
 refine ay (args:=[_]) _ Tryz.func109 rfl Tryz.ntmps109 rfl fun av bor w0=>?_
 repeat' (first|apply ab|apply Qt|apply Qu|refine aj ?_|refine ad ?_|refine bS fun _=>?_|(refine qM fun A c=>?_))
 refine aV (size:=1) (z:=.int .u8 0) (news:=u8s [128]) (q:=1) rfl rfl rfl rfl (fun _=>At.there _ (At.here _)) (fun w G=>bo G aI rfl rfl 1) ?_ ?_ rfl ?_ rfl ?_
 · omega
 · simp only [maxLen];omega
 · rfl
 intro A1 c1
 repeat' (first|apply ab|apply Qt|refine ad ?_|apply Qv|fail)
 have hel:=lU s
 refine aU (ι:=EndS (padN (s.size+1))) (fun i=>⟨[(0,.string s),(3,.slice i.A (s.size+1+i.k) i.c)],[orow 5 1 (.slice i.A (s.size+1+i.k) i.c) (s.size+1+i.k) (u8s (endL s++List.replicate i.k 0))],fun _=>True⟩) (fun i=>padN (s.size+1)-i.k) ⟨0,Nat.zero_le _,A1,c1⟩ (ax ⟨rfl,rfl,trivial⟩ ?_ fun _ h=>h) fun i=>?_
 · refine List.Sublist.cons _ ?_
   rw [←cu]
   simp only [List.replicate_zero,Z8]
   exact aE _
 have hik:=i.hk
 have hp:padN (s.size+1)<64:=Nat.mod_lt _ ae
 have hp2:padN (s.size+1)=(120-(s.size+1)%64)%64:=rfl
 have htm:Int.tmod ((s.size+1+i.k:Nat):Int) 64=(((s.size+1+i.k)%64:Nat):Int):=Int.ofNat_tmod _ _
 repeat' (first|apply Qt|apply Qu|refine aj ?_|refine aY ?_|fail)
 refine fD (hc:=htm) ?_
 repeat' (first|apply ab|apply Qt|apply Qu|refine aj ?_|refine ad ?_|refine dF ?_|refine bT ?_|refine bS fun _=>?_|apply Qw|apply Qv|apply aQ|refine eL (h:=?_)|refine d5 (h:=?_)|(refine aH (ht:=?_) (hf:=?_);all_goals (intro hx_;skip)))
 · have hlt:i.k<padN (s.size+1):=by
    have h1:¬ (((s.size+1+i.k)%64:Nat):Int)=56:=by simpa using hx_
    omega
   refine aV (size:=1) (z:=.int .u8 0) (news:=u8s [0]) (q:=1) rfl rfl rfl rfl (fun _=>At.there _ (At.here _)) (fun w G=>bo G aI rfl rfl 1) ?_ ?_ rfl ?_ rfl ?_
   · omega
   · simp only [maxLen];omega
   · rfl
   intro A2 c2
   repeat' (first|apply ab|refine ad ?_|fail)
   refine ⟨(⟨i.k+1,hlt,A2,c2⟩:EndS (padN (s.size+1))),(by show padN (s.size+1)-(i.k+1)<padN (s.size+1)-i.k;omega),ax ⟨rfl,rfl,trivial⟩ ?_ fun _ h=>h⟩
   refine List.Sublist.cons _ ?_
   rw [←cu]
   simp only [List.replicate_succ',ZZ]
   exact aE _
 have hk:i.k=padN (s.size+1):=by
  have h1:(((s.size+1+i.k)%64:Nat):Int)=56:=by simpa using hx_
  omega
 have hl1:(endL s++List.replicate (padN (s.size+1)) 0:List Int).length=s.size+1+padN (s.size+1):=by simp [hel]
 rw [hk]
 have hpad:=Aj s ae
 have hplen:(padL (nl s)).length=s.size+1+padN (s.size+1)+8:=by rw [sU,dt]
 rw [padI] at hpad
 have h8:IntKind.u64.wrap (8*IntKind.u64.wrap (s.size:Int))=IntKind.u64.wrap (IntKind.u64.wrap (s.size:Int)*8):=by rw [Int.mul_comm]
 rw [h8]
 generalize hL:(endL s++List.replicate (padN (s.size+1)) 0:List Int)=L0 at *
 refine aU (ι:=EndS 8) (fun j=>⟨[(3,.slice j.A (s.size+1+padN (s.size+1)+j.k) j.c),(4,.int .u64 (IntKind.u64.wrap (IntKind.u64.wrap (s.size:Int)*8))),(5,.int .i64 (56-8*(j.k:Int)))],[orow 5 1 (.slice j.A (s.size+1+padN (s.size+1)+j.k) j.c) (s.size+1+padN (s.size+1)+j.k) (u8s (L0++sizeB s.size j.k))],fun _=>True⟩) (fun j=>8-j.k) ⟨0,Nat.zero_le _,i.A,i.c⟩ (ax ⟨rfl,rfl,rfl,trivial⟩ ?_ fun _ h=>h) fun j=>?_
 · have e:sizeB (s.size:Int) 0=[]:=rfl
   simp only [e,Z8]
   exact aE _
 have hjk:=j.hk
 repeat' (first|apply ab|apply Qt|apply Qu|refine aj ?_|refine cZ ?_|refine bS fun _=>?_|apply Qw|apply Qv|apply aQ|refine fm (h:=?_)|refine d5 (h:=?_)|(refine aH (ht:=?_) (hf:=?_);all_goals (intro hx_;first|have:=aP hx_|have:=aT hx_)))
 · have hlt:j.k<8:=by omega
   refine aV (size:=1) (z:=.int .u8 0) (news:=u8s [IntKind.u8.wrap (shrV .u64 (IntKind.u64.wrap (IntKind.u64.wrap (s.size:Int)*8)) (56-8*(j.k:Int)))]) (q:=1) rfl rfl rfl rfl (fun _=>At.there _ (At.here _)) (fun w G=>bo G aI rfl rfl 1) ?_ ?_ rfl ?_ rfl ?_
   · omega
   · simp only [maxLen];omega
   · rfl
   intro A2 c2
   repeat' (first|apply ab|apply Qu|refine aj ?_|refine ad ?_|refine de (h:=?_)|fail)
   refine ⟨(⟨j.k+1,hlt,A2,c2⟩:EndS 8),(by show 8-(j.k+1)<8-j.k;omega),ax ⟨rfl,rfl,?_,trivial⟩ ?_ fun _ h=>h⟩
   · show some (Value.int .i64 (56-8*(j.k:Int)-8))=some (Value.int .i64 (56-8*((j.k+1:Nat):Int)))
     congr 2
     omega
   refine List.Sublist.cons _ ?_
   rw [←cu]
   have e:sizeB (s.size:Int) (j.k+1)=sizeB s.size j.k++[IntKind.u8.wrap (shrV .u64 (IntKind.u64.wrap (IntKind.u64.wrap (s.size:Int)*8)) (56-8*(j.k:Int)))]:=by simp [sizeB,List.range_succ]
   simp only [e,ZZ]
   exact aE _
 have hj8:j.k=8:=by omega
 rw [hj8,hpad]
 obtain ⟨sp,hsp⟩:∃ sp:SlV,sp=⟨j.A,s.size+1+padN (s.size+1)+8,j.c⟩:=⟨_,rfl⟩
 have hLt:=Ca (nl s) (iM s)
 have hLm:=rm (nl s)
 have hsha:=BU s ae
 rw [shaL] at hsha
 obtain ⟨L,hLL⟩:∃ L,L=padL (nl s):=⟨_,rfl⟩
 rw [←hLL] at hplen hLt hLm hsha
 obtain ⟨m,hm⟩:∃ m,m=L.length/64:=⟨_,rfl⟩
 rw [←hm] at hsha
 have hL64:L.length=64*m:=by omega
 refine co ?_
 repeat' (first|apply ab|apply Qt|apply Qu|refine ad ?_|apply Qv|(refine cR (hc:=nV) (hX:=fun _ _=>trivial) fun v1 X1 h1=>?_;obtain ⟨sh0,rfl,hw0⟩:=h1)|fail)
 have hspD:∀ w,(True∧(orow 5 1 (.slice j.A (s.size+1+padN (s.size+1)+8) j.c) (s.size+1+padN (s.size+1)+8) (u8s ((padL (nl s)).map fun (n:Nat)=>(n:Int)))).F w)→U8s w sp L:=fun w h=>by
  rw [hsp,hLL]
  exact U8s.of_row h.2 (by rw [←hLL];exact hplen.symm)
 have hp0:0<L.length:=by omega
 refine bJ (p:=sp.c≥L.length∧sp.p.isSome=true) (fun w h=>⟨by
  have h1:=RowsD.cap (hspD w h.1)
  have h2:=gS (f:=fun n=>.int .u8 (n:Int)) (hspD w h.1)
  omega,fN (f:=fun n=>.int .u8 (n:Int)) (hspD w h.1) hp0⟩) fun ⟨hsc,hspp⟩=>?_
 have hspn:sp.n=L.length:=by rw [hsp,hplen]
 have hspv:sp.v=.slice j.A (s.size+1+padN (s.size+1)+8) j.c:=by rw [hsp];rfl
 refine aU (ι:=ShaI L m) (fun i=>⟨[(3,sp.v),(6,i.s.v),(7,.int .i64 ((64*i.k:Nat):Int))],[],fun w=>U8s w sp L∧U32s w i.s i.S.l⟩) (fun i=>m-i.k) ⟨0,Nat.zero_le _,sh0,iniN,Cj,by rw [Nat.mul_zero,List.drop_zero,Nat.sub_zero]⟩ (ax ⟨by rw [hspv];rfl,rfl,rfl,trivial⟩ (aE _) fun w h=>⟨hspD w h.1,hw0 w h.2⟩) fun i=>?_
 obtain ⟨k,hk2,sh,S,hSl,hrun⟩:=i
 simp only
 repeat' (first|refine am (vY (b:=64) rfl rfl ae) rfl aC rfl ?_|apply ab|apply Qt|apply Qu|refine aj ?_|refine ad ?_|refine bj ?_|refine aY ?_|apply Qw|apply Qv|apply aQ|(refine aH (ht:=?_) (hf:=?_);all_goals (intro hx_;first|have:=aP hx_|have:=aT hx_)))
 · have hlt:k<m:=by omega
   have hdl:(L.drop (64*k)).length=64*(m-k):=by rw [List.length_drop];omega
   have hpl:((L.drop (64*k)).take 64).length=64:=by rw [List.length_take];omega
   have hpb:∀ x∈(L.drop (64*k)).take 64,x<256:=fun x hx=>hLt x (List.mem_of_mem_drop (List.mem_of_mem_take hx))
   have hne:=q6 sh ⟨(sp.from 1 (64*k)).p,64,sp.c-64*k⟩ S hSl _ hpl hpb
   have hcg:winN (fW ((L.drop (64*k)).take 64)) 0=winN (fW (L.drop (64*k))) 0:=kv fun t ht=>tp t ht
   rw [hcg] at hne
   have hrun2:runN (m-(k+1)) (mixN S (winN (fW (L.drop (64*k))) 0)) (L.drop (64*(k+1)))=runN m iniN L:=by
    have e1:m-k=(m-(k+1))+1:=by omega
    rw [e1,fM ae,List.drop_drop] at hrun
    rw [show 64*(k+1)=64*k+64 from by omega]
    exact hrun
   repeat' (first|refine am (vY (b:=64) rfl rfl ae) rfl aC rfl ?_|apply ab|apply Qu|refine aj ?_|refine ad ?_|(refine am (BC (size:=1) rfl rfl rfl ae) rfl aC rfl ?_)|(refine cR (hc:=hne) (hX:=fun w h=>⟨h.2,U8s.part h.1 ae⟩) fun v2 X2 h2=>?_;obtain ⟨s2,rfl,hw2⟩:=h2)|fail)
   exact ⟨(⟨k+1,hlt,s2,_,Ce _ _,hrun2⟩:ShaI L m),(by show m-(k+1)<m-k;omega),ax ⟨rfl,rfl,rfl,trivial⟩ (aE _) fun w h=>⟨h.1.1,hw2 w h.2⟩⟩
 · obtain rfl:k=m:=by omega
   rw [Nat.sub_self] at hrun
   have hS:S=runN k iniN L:=hrun
   rw [←hS,A7] at hsha
   refine bJ (p:=sh.n=8∧sh.p.isSome=true) (fun w h1=>⟨by rw [gS (f:=fun n=>.int .u32 (n:Int)) h1.2];rfl,fN (f:=fun n=>.int .u32 (n:Int)) h1.2 (by rw [show S.l.length=8 from rfl];omega)⟩) fun ⟨hsn,hshp⟩=>?_
   refine cW 5 1 ?_
   refine aU (ι:=RowA 32) (fun i=>⟨[(6,sh.v),(8,.slice i.A i.k i.c),(9,.int .i64 (i.k:Nat))],[orow 5 1 (.slice i.A i.k i.c) i.k (u8s (((List.range i.k).map (outB S)).map fun (n:Nat)=>(n:Int)))],fun w=>U32s w sh S.l⟩) (fun i=>32-i.k) ⟨0,by omega,none,0⟩ (ax ⟨rfl,rfl,rfl,trivial⟩ (.cons_cons _ (ZR _)) fun _ h=>h.2) fun i=>?_
   obtain ⟨k2,hk3,A3,c3⟩:=i
   simp only
   clear hspD hrun hLt hLm hplen
   repeat' (first|apply ab|apply Qt|apply Qu|refine aj ?_|refine bj ?_|apply Qw|apply Qv|apply aQ|(refine aH (ht:=?_) (hf:=?_);all_goals (intro hx_;first|have:=aP hx_|have:=aT hx_)))
   · have hlt:k2<32:=by omega
     obtain ⟨q,hq⟩:∃ q,q=k2/4:=⟨_,rfl⟩
     obtain ⟨r,hr⟩:∃ r,r=k2%4:=⟨_,rfl⟩
     have h1:IntKind.i64.wrap ((k2:Int).tdiv 4)=(q:Int):=by
      rw [show (k2:Int).tdiv 4=((k2/4:Nat):Int) from Int.ofNat_tdiv _ _,←hq]
      exact IntWalk.i64_in _ ae
     have h2:(k2:Int).tmod 4=(r:Int):=by rw [show (k2:Int).tmod 4=((k2%4:Nat):Int) from Int.ofNat_tmod _ _,←hr]
     obtain ⟨u,hu⟩:∃ u,u=24-8*r:=⟨_,rfl⟩
     have h3:IntKind.i64.wrap (24-((8*r:Nat):Int))=(u:Int):=by
      rw [show 24-((8*r:Nat):Int)=(u:Int) from by omega]
      exact IntWalk.i64_in _ ae
     obtain ⟨x,hx⟩:∃ x,x=S.l.getD q 0:=⟨_,rfl⟩
     have hx2:x<4294967296:=by
      obtain ⟨a,b,c,d,e,f,g,h⟩:=S
      obtain ⟨ha,hb,hc,hd,he,hf,hg,hh⟩:=hSl
      simp only at ha hb hc hd he hf hg hh
      have:q<8:=by omega
      rw [hx]
      have hq8:q=0∨q=1∨q=2∨q=3∨q=4∨q=5∨q=6∨q=7:=by omega
      rcases hq8 with h|h|h|h|h|h|h|h<;>rw [h]<;>assumption
     have hg:∀ w,U32s w sh S.l→CellAt w sh.p q (.int .u32 (x:Int)):=fun w h=>hx▸iD (f:=fun n=>.int .u32 (n:Int)) h (by rw [show S.l.length=8 from rfl];omega)
     have hpw:(2:Int) ^ (min ((u:Int)).toNat 32)=((2 ^ u:Nat):Int):=by
      rw [Qq,Nat.min_eq_left (by omega)]
      simp
     have h8w:IntKind.u8.wrap ((x/2 ^ u:Nat):Int)=((outB S k2:Nat):Int):=by rw [wrap8,outB,←hq,←hr,←hu,←hx]
     have hrow:(List.range (k2+1)).map (outB S)=(List.range k2).map (outB S)++[outB S k2]:=by rw [List.range_succ,Qm];rfl
     have hou:outB S k2<256:=Nat.mod_lt _ ae
     generalize outB S k2=ob at *
     repeat' (first|refine am (mA (c:=(q:Int)) rfl rfl (by decide) h1) rfl aC rfl ?_|refine am (oG (c:=(r:Int)) rfl rfl (by decide) h2) rfl aC rfl ?_|refine am (kj (a:=8) (b:=r) rfl rfl ae) rfl aC rfl ?_|refine am (mz (c:=(u:Int)) rfl rfl h3) rfl aC rfl ?_|refine am (qz (p:=2 ^ u) rfl rfl ae hx2 hpw) rfl aC rfl ?_|refine am (jE rfl h8w) rfl aC rfl ?_|apply ab|apply Qu|refine aj ?_|refine ad ?_|refine be (h:=?_)|refine bS fun _=>?_|(refine bx (q:=q) ?_)|(refine dP (q:=q) (u:=.int .u32 (x:Int)) (hF:=hg) ?_)|(refine aV (size:=1) (z:=.int .u8 0) (news:=u8s [(ob:Int)]) (q:=1) rfl rfl rfl rfl (fun _=>At.there _ (At.here _)) (fun w G=>bo G aI rfl rfl 1) ae (by simp only [maxLen];omega) rfl ?_ rfl ?_;(with_reducible rfl);intro A4 c4)|fail)
     exact ⟨(⟨k2+1,hlt,A4,c4⟩:RowA 32),(by show 32-(k2+1)<32-k2;omega),ax ⟨rfl,rfl,rfl,trivial⟩ (by rw [hrow,Qm,cu];exact .cons _ (aE _)) fun _ h=>h⟩
   · obtain rfl:k2=32:=by omega
     rw [←hsha]
     refine eG (hm:=aI) ?_
     repeat' (first|apply ab|refine ad ?_|apply ar|fail)
     refine al (ap rfl rfl) ?_
     rw [←jC,cK]
theorem yt (s:ByteArray) {i:Nat} (h:i<s.size):(((s.get! i).toNat:Nat):Int)=byteAt s i:=by
 have hs:i<s.data.size:=h
 rw [byteAt,ZL,Array.getElem?_toList,Array.getElem?_eq_getElem hs]
 show (((s.data[i]!).toNat:Nat):Int)=_
 rw [getElem!_pos s.data i hs]
 rfl
theorem A9 {s:ByteArray} {i:Nat} (h:(s.get! i).toNat<128):Utf8.decode s i=((s.get! i).toNat,1):=by
 unfold Utf8.decode
 simp only [Qj,h,Qc]
theorem yE {s:ByteArray} {i:Nat} (h:¬ (s.get! i).toNat<128):128≤(Utf8.decode s i).1:=by
 unfold Utf8.decode
 simp only [Qj,h,Qd]
 repeat' split
 all_goals first
  | (simp only [Utf8.runeError];omega)
  | (simp_all;done)
  | (simp only [ge_iff_le] at *;omega)
  | (simp only [ge_iff_le,ZM,ZT] at *;omega)
theorem jG {bad:Nat→Int→Bool} {s:ByteArray} (hb:∀ q c,128≤c→bad q c=true):∀ f q,s.size≤f+q→runes bad s f q=(List.range' q (s.size-q)).all fun k=>!bad k (byteAt s k)
 | 0,q,h=>by
  rw [runes,show s.size-q=0 from by omega]
  rfl
 | f+1,q,h=>by
  rw [runes]
  by_cases hq:q<s.size
  · rw [ZA hq,ZC]
    have e:s.size-q=(s.size-(q+1))+1:=by omega
    rw [e,List.range'_succ,List.all_cons]
    have hg:=yt s hq
    by_cases hl:(s.get! q).toNat<128
    · rw [A9 hl]
      simp only
      rw [hg]
      cases hbq:bad q (byteAt s q) with
      | true=>rfl
      | false =>
       rw [ZB,jG hb f (q+1) (by omega)]
       rfl
    · have h1:=hb q _ (show (128:Int)≤((Utf8.decode s q).1:Int) by have:=yE hl;omega)
      have h2:=hb q (byteAt s q) (by rw [←hg];omega)
      rw [h1,h2]
      rfl
  · rw [Zn hq,show s.size-q=0 from by omega]
    rfl
theorem mN {bad:Nat→Int→Bool} {s:ByteArray} (hb:∀ q c,128≤c→bad q c=true):runes bad s s.size 0=allB s.size fun k=>bad k (byteAt s k):=by
 rw [jG hb s.size 0 ae,allB,List.range_eq_range']
 rfl
def inChr (c l h:Int):Bool:=decide (l≤c)&&decide (c≤h)
theorem iH (c l h:Int):Pu Tryz.prog 237 #[.int .u8 c,.int .u8 l,.int .u8 h] (fun _=>True) (.bool (inChr c l h)):=by
 refine ay (args:=[_,_,_]) _ Tryz.func237 rfl Tryz.ntmps237 rfl fun av bor w0=>?_
 repeat' (first|apply ab|apply Qt|apply Qu|refine aj ?_|refine ad ?_|refine aD ?_|refine aG ?_|refine cF ?_|refine cZ ?_|refine aJ ?_|apply ar|((fail_if_success (refine aZ ?_));refine aR (ht:=?_) (hf:=?_);all_goals (intro hx_;first|have:=aP hx_|have:=aT hx_))|fail)
 (all_goals (apply al;apply ap;rfl;rfl));all_goals (simp only [inChr, *,ZQ,ZO,ZC,ZB,ZE,ZD,ZH,ZG,ZK,ZI,ZP,ZJ,ZN,ZF];done)
def badIdR (s:ByteArray) (k:Nat):Bool:=!inChr (byteAt s k) 48 57&&!inChr (byteAt s k) 97 102
theorem yN (s:ByteArray) (k:Nat):badId k (byteAt s k)=badIdR s k:=by
 simp only [badId,badIdR,dig,inChr]
 congr 1
 rw [Bool.not_and,←decide_not,←decide_not]
 congr 1<;>exact decide_eq_decide.2 ae
theorem AA (s:ByteArray):isId s=(allB s.size (badIdR s)&&decide ((s.size:Int)=16)):=by
 rw [isId,mN (fun q c h=>by simp only [badId,dig];simp;omega),Bool.and_comm]
 congr 2
 exact funext fun k=>yN s k
theorem fR (s:ByteArray) (hs:s.size≤maxLen):Pu Tryz.prog 207 #[.string s] (fun _=>True) (.bool (isId s)):=by
 refine ay (args:=[_]) _ Tryz.func207 rfl Tryz.ntmps207 rfl fun av bor w0=>?_
 simp only [maxLen] at hs
 rw [AA]
 repeat' (first|apply ab|apply Qt|apply Qu|refine ad ?_|apply Qv|fail)
 refine aU (ι:=Upto s.size (badIdR s)) (fun i=>⟨[(0,.string s),(3,.int .i64 (i.k:Nat))],[],fun w=>True⟩) (fun i=>s.size-i.k) (Upto.zero _ _) (ax ⟨rfl,rfl,trivial⟩ (aE _) fun _ h=>h) fun i=>?_
 have hik:=i.hk
 have e1:((i.k:Nat):Int).toNat=i.k:=rfl
 have hc1:=iH (byteAt s i.k) 48 57
 have hc2:=iH (byteAt s i.k) 97 102
 repeat' (first|apply ab|apply Qt|apply Qu|refine aj ?_|refine ad ?_|refine aD ?_|refine aG ?_|refine bD ?_|refine bP ?_|refine bj ?_|refine bT ?_|refine be (h:=?_)|refine aJ ?_|refine Qy ?_|apply Qw|apply Qv|apply ar|apply aQ|refine ip ?_|(refine ao (hc:=hc1) ?_)|(refine ao (hc:=hc2) ?_)|((fail_if_success (refine aZ ?_));refine aR (ht:=?_) (hf:=?_);all_goals (intro hx_;skip))|(refine aH (ht:=?_) (hf:=?_);all_goals (intro hx_;first|have:=aP hx_|have:=aT hx_|skip)))
 all_goals first
  | (refine al (ap rfl rfl) ?_;rw [du (k:=i.k) ae (by simp only [badIdR, *,ZQ,ZO,ZC,ZB,ZE,ZD,ZH,ZG,ZK,ZI,ZP,ZJ,ZN,ZF]),ZG])
  | exact ⟨i.next ae (by simp only [badIdR, *,ZQ,ZO,ZC,ZB,ZE,ZD,ZH,ZG,ZK,ZI,ZP,ZJ,ZN,ZF]),(by show s.size-(i.k+1)<s.size-i.k;omega),ax ⟨rfl,rfl,trivial⟩ (aE _) fun _ h=>h⟩
  | (refine al (ap rfl rfl) ?_;rw [i.all ae,ZD])
def badNameR (s:ByteArray) (k:Nat):Bool:=!inChr (byteAt s k) 97 122&&(decide ((k:Int)=0)||!inChr (byteAt s k) 48 57&&!decide (byteAt s k=95))
theorem vj (s:ByteArray):isName s=(allB s.size (badNameR s)&&(decide (1≤(s.size:Int))&&decide ((s.size:Int)≤24))):=by
 rw [isName,mN (fun q c h=>by simp only [badName,dig];simp;omega),dG,Bool.and_comm]
 congr 1
 rw [←decide_not,←decide_not]
 congr 1<;>exact decide_eq_decide.2 ae
theorem g9 (s:ByteArray) (hs:s.size≤maxLen):Pu Tryz.prog 239 #[.string s] (fun _=>True) (.bool (isName s)):=by
 refine ay (args:=[_]) _ Tryz.func239 rfl Tryz.ntmps239 rfl fun av bor w0=>?_
 simp only [maxLen] at hs
 rw [vj]
 repeat' (first|apply ab|apply Qt|apply Qu|refine ad ?_|apply Qv|fail)
 refine aU (ι:=Upto s.size (badNameR s)) (fun i=>⟨[(0,.string s),(3,.int .i64 (i.k:Nat))],[],fun w=>True⟩) (fun i=>s.size-i.k) (Upto.zero _ _) (ax ⟨rfl,rfl,trivial⟩ (aE _) fun _ h=>h) fun i=>?_
 have hik:=i.hk
 have e1:((i.k:Nat):Int).toNat=i.k:=rfl
 have hc1:=iH (byteAt s i.k) 97 122
 have hc2:=iH (byteAt s i.k) 48 57
 by_cases hlt:i.k<s.size
 · repeat' (first|apply ab|apply Qt|apply Qu|refine aj ?_|refine ad ?_|refine aD ?_|refine aG ?_|refine bD ?_|refine bP ?_|refine dF ?_|refine bj ?_|refine cF ?_|refine cZ ?_|refine bT ?_|refine be (h:=?_)|refine aJ ?_|refine bR ?_|refine fH ?_|refine Qx ?_|refine Qy ?_|apply Qw|apply Qv|apply ar|apply aQ|refine ip ?_|(refine ao (hc:=hc1) ?_)|(refine ao (hc:=hc2) ?_)|((fail_if_success (refine aZ ?_));refine aR (ht:=?_) (hf:=?_);all_goals (intro hx_;first|have:=aP hx_|have:=aT hx_|skip))|(refine aH (ht:=?_) (hf:=?_);all_goals (intro hx_;first|have:=aP hx_|have:=aT hx_|skip)))
   all_goals simp only [Qq] at *
   all_goals first
    | (exfalso;omega)
    | (refine al (ap rfl rfl) ?_;rw [du (k:=i.k) ae (by simp only [badNameR, *,ZQ,ZO,ZC,ZB,ZE,ZD,ZH,ZG,ZK,ZI,ZP,ZJ,ZN,ZF]),ZG])
    | exact ⟨i.next ae (by simp only [badNameR, *,ZQ,ZO,ZC,ZB,ZE,ZD,ZH,ZG,ZK,ZI,ZP,ZJ,ZN,ZF]),(by show s.size-(i.k+1)<s.size-i.k;omega),ax ⟨rfl,rfl,trivial⟩ (aE _) fun _ h=>h⟩
    | skip
 · rw [i.all hlt,ZD]
   repeat' (first|apply ab|apply Qt|apply Qu|refine aj ?_|refine ad ?_|refine aD ?_|refine aG ?_|refine bj ?_|refine cF ?_|refine cZ ?_|refine bT ?_|refine aJ ?_|apply Qw|apply Qv|apply ar|apply aQ|refine ip ?_|((fail_if_success (refine aZ ?_));refine aR (ht:=?_) (hf:=?_);all_goals (intro hx_;first|have:=aP hx_|have:=aT hx_))|(refine aH (ht:=?_) (hf:=?_);all_goals (intro hx_;first|have:=aP hx_|have:=aT hx_)))
   all_goals first
    | (exfalso;omega)
    | (refine al (ap rfl rfl) ?_;simp only [*,ZQ,ZO,ZC,ZB,ZE,ZD,ZH,ZG,ZK,ZI,ZP,ZJ,ZN,ZF];done)
structure ActD.Str (a:ActD):Prop where
 author:a.author.size≤maxLen
 target:a.target.size≤maxLen
 group:a.group.size≤maxLen
 text:a.text.size≤maxLen
 to:∀ x∈a.toL,x.size≤maxLen
def badIdsR (l:List ByteArray) (k:Nat):Bool:=!isId (l.getD k .empty)||decide (0<(k:Int))&&!Op.bytesLess (l.getD (k-1) .empty).toList (l.getD k .empty).toList
theorem zL (a b:ByteArray):(Op.bytesLess a.toList b.toList||seqB a b)=!Op.bytesLess b.toList a.toList:=by
 show (ltB a b||seqB a b)=!ltB b a
 cases h:ltB a b with
 | true=>rw [ju h];rfl
 | false =>
  cases k:ltB b a with
  | true =>
   have:a≠b:=fun e=>yf k e.symm
   rw [seqB_ne.2 this]
   rfl
  | false =>
   rw [mW h k,cf]
   rfl
theorem yk (l:List ByteArray):isIds l=(allB l.length (badIdsR l)&&decide ((l.length:Int)≤64)):=by
 rw [isIds,Bool.and_comm]
 congr 1
 · refine congrArg (allB l.length) (funext fun k=>?_)
   rw [badIds,badIdsR,zL]
 · rw [←decide_not]
   exact decide_eq_decide.2 ae
set_option maxHeartbeats 4000000 in
theorem jp (s:SlV) (l:List ByteArray) (hz:∀ x∈l,x.size≤maxLen):Pu Tryz.prog 211 #[s.v] (fun w=>Strs w s l) (.bool (isIds l)):=by
 refine ay (args:=[_]) _ Tryz.func211 rfl Tryz.ntmps211 rfl fun av bor w0=>?_
 refine bJ (p:=s.n=l.length∧s.n≤maxLen∧(0<l.length→s.p.isSome=true)) (fun w h=>⟨h.len_,Qp (RowsD.cap h) (RowsD.max h),h.some_⟩) fun ⟨hl,hm,hp⟩=>?_
 simp only [maxLen] at hm
 rw [yk]
 repeat' (first|apply ab|apply Qt|apply Qu|refine ad ?_|apply Qv|fail)
 refine aU (ι:=Upto l.length (badIdsR l)) (fun i=>⟨[(0,s.v),(3,.int .i64 (i.k:Nat))],[],fun w=>Strs w s l⟩) (fun i=>l.length-i.k) (Upto.zero _ _) (ax ⟨rfl,rfl,trivial⟩ (aE _) fun _ h=>h) fun i=>?_
 have hik:=i.hk
 by_cases hlt:i.k<l.length
 · have hp':=hp ae
   have hid:=fR (l.getD i.k .empty) (hz _ (by rw [ZL,Zm hlt];exact Qg hlt))
   repeat' (first|apply ab|apply Qt|apply Qu|refine aj ?_|refine ad ?_|refine bj ?_|refine cF ?_|refine aY ?_|apply Qw|apply Qv|apply ar|apply aQ|(refine aH (ht:=?_) (hf:=?_);all_goals (intro hx_;first|have:=aP hx_|have:=aT hx_)))
   · (apply bI;kernel_rfl)
     all_goals refine aa 0 ?_<;>refine aa 1 ?_<;>(refine aa 2 (hy:=by (apply aN (q:=i.k);rfl;rfl;omega;omega;assumption;omega)) ?_)<;>(refine aa 3 (hy:=by (apply dv (q:=i.k);rfl;exact fun w h=>Strs.get h hlt)) ?_)<;>(refine ag 4 ?_;(refine ao (hc:=hid) (hX:=fun _ _=>trivial) ?_);apply ab;refine ai ?_)<;>refine aa 5 ?_<;>refine aa 6 ?_<;>(refine ma 7 (ht:=?_) (hf:=?_);all_goals (intro hx_;skip);all_goals (first|(refine aa 7 ?_)|(refine gN 7 ?_)))<;>(first|(refine aa 8 ?_)|(refine gN 8 ?_))<;>(first|(refine aa 9 ?_)|(refine gN 9 ?_))<;>(first|(refine d7 10 ?_)|(refine ma 10 (ht:=?_) (hf:=?_);all_goals (intro hx_;first|have:=aP hx_|have:=aT hx_);all_goals (first|(refine aa 10 ?_)|(refine az 10 ?_))))<;>(first|(refine aa 11 ?_)|(refine az 11 ?_)|(refine d7 11 ?_))<;>(first|(refine aa 12 ?_)|(refine az 12 ?_)|(refine d7 12 ?_))<;>(first|(refine aa 13 (hy:=by (apply aN (q:=i.k-1);rfl;rfl;omega;omega;assumption;omega)) ?_)|(refine az 13 ?_)|(refine d7 13 ?_))<;>(first|(refine aa 14 (hy:=by (apply dv (q:=i.k-1);rfl;exact fun w h=>Strs.get h (by omega:i.k-1<l.length))) ?_)|(refine az 14 ?_)|(refine d7 14 ?_))<;>(first|(refine aa 15 ?_)|(refine az 15 ?_)|(refine d7 15 ?_))<;>(first|(refine aa 16 ?_)|(refine az 16 ?_)|(refine d7 16 ?_))<;>(first|(refine aa 17 (hy:=by (apply aN (q:=i.k);rfl;rfl;omega;omega;assumption;omega)) ?_)|(refine az 17 ?_)|(refine d7 17 ?_))<;>(first|(refine aa 18 (hy:=by (apply dv (q:=i.k);rfl;exact fun w h=>Strs.get h hlt)) ?_)|(refine az 18 ?_)|(refine d7 18 ?_))<;>(first|(refine aa 19 (hy:=by (apply qA;rfl;rfl)) ?_)|(refine az 19 ?_)|(refine d7 19 ?_))<;>(first|(refine aa 20 ?_)|(refine gN 20 ?_))<;>refine aa 21 ?_<;>(refine aw ?_)
     all_goals
      repeat' (first|apply ab|apply Qt|apply Qu|refine aj ?_|refine ad ?_|refine be (h:=?_)|refine Qx ?_|refine Qy ?_|apply Qw|apply ar|(refine aH (ht:=?_) (hf:=?_);all_goals (intro hx_;skip)))
      all_goals first
       | (refine al (ap rfl rfl) ?_;rw [du hlt (by simp only [badIdsR, *,ZQ,ZO,ZC,ZB,ZE,ZD,ZH,ZG,ZK,ZI,ZP,ZJ,ZN,ZF]),ZG])
       | exact ⟨i.next hlt (by simp only [badIdsR, *,ZQ,ZO,ZC,ZB,ZE,ZD,ZH,ZG,ZK,ZI,ZP,ZJ,ZN,ZF]),(by show l.length-(i.k+1)<l.length-i.k;omega),ax ⟨rfl,rfl,trivial⟩ (aE _) fun _ h=>h⟩
   · exfalso;omega
 · rw [i.all hlt,ZD]
   repeat' (first|apply ab|apply Qt|apply Qu|refine aj ?_|refine ad ?_|refine bj ?_|refine cF ?_|refine aY ?_|apply Qw|apply Qv|apply ar|apply aQ|(refine aH (ht:=?_) (hf:=?_);all_goals (intro hx_;first|have:=aP hx_|have:=aT hx_)))
   all_goals first
    | (exfalso;omega)
    | (refine al (ap rfl rfl) ?_;rw [hl];done)
theorem eY (n:Int):Pu Tryz.prog 238 #[.int .i64 n] (fun _=>True) (.bool (isPublicB n)):=by
 refine ay (args:=[_]) _ Tryz.func238 rfl Tryz.ntmps238 rfl fun av bor w0=>?_
 have e:isPublicB n=(decide (1≤n)&&decide (n<2305843009213693951)):=by
  rw [isPublicB,withinB]
  congr 1
  exact decide_eq_decide.2 ae
 rw [e]
 clear e
 repeat' (first|apply ab|apply Qt|apply Qu|refine aj ?_|refine ad ?_|refine aD ?_|refine aG ?_|refine bj ?_|refine cZ ?_|refine aJ ?_|apply ar|((fail_if_success (refine aZ ?_));refine aR (ht:=?_) (hf:=?_);all_goals (intro hx_;first|have:=aP hx_|have:=aT hx_))|fail)
 (all_goals (apply al;apply ap;rfl;rfl));all_goals (simp only [ZA, *,ZQ,ZO,ZC,ZB,ZE,ZD,ZH,ZG,ZK,ZI,ZP,ZJ,ZN,ZF];done)
theorem jM (b:BoxD):Pu Tryz.prog 261 #[b.v] (fun _=>True) (.bool (isSealedB b)):=by
 refine ay (args:=[_]) _ Tryz.func261 rfl Tryz.ntmps261 rfl fun av bor w0=>?_
 repeat' (first|apply ab|apply Qt|apply Qu|refine aj ?_|refine ad ?_|refine aB ?_|refine aA ?_|refine aD ?_|refine aG ?_|refine bP ?_|refine cF ?_|refine bT ?_|refine aJ ?_|refine aL fun _=>?_|apply ar|((fail_if_success (refine aZ ?_));refine aR (ht:=?_) (hf:=?_);all_goals (intro hx_;first|have:=aP hx_|have:=aT hx_))|fail)
 (all_goals (apply al;apply ap;rfl;rfl));all_goals (simp only [isSealedB,isShortB, *,ZQ,ZO,ZC,ZB,ZE,ZD,ZH,ZG,ZK,ZI,ZP,ZJ,ZN,ZF];done)
theorem jL (b:BoxD):Pu Tryz.prog 260 #[b.v] (fun _=>True) (.bool (boxEq b BoxD.zero)):=by
 refine ay (args:=[_]) _ Tryz.func260 rfl Tryz.ntmps260 rfl fun av bor w0=>?_
 repeat' (first|apply ab|apply Qt|apply Qu|refine aj ?_|refine ad ?_|refine aB ?_|refine aA ?_|refine aD ?_|refine aG ?_|refine cI ?_|refine aJ ?_|refine aL fun _=>?_|apply ar|((fail_if_success (refine aZ ?_));refine aR (ht:=?_) (hf:=?_);all_goals (intro hx_;skip))|fail)
 (all_goals (apply al;apply ap;rfl;rfl));all_goals (simp only [boxEq,BoxD.zero, *,ZQ,ZO,ZC,ZB,ZE,ZD,ZH,ZG,ZK,ZI,ZP,ZJ,ZN,ZF];done)
def groupR (a:ActD):Bool:=bif decide (a.scope=2) then isName a.group else seqB a.group ⟨#[]⟩
theorem jK (a:ActD) (hs:a.Str):Pu Tryz.prog 242 #[a.v] (fun _=>True) (.bool (groupR a)):=by
 refine ay (args:=[_]) _ Tryz.func242 rfl Tryz.ntmps242 rfl fun av bor w0=>?_
 have hn:=g9 a.group hs.group
 repeat' (first|apply ab|apply Qt|apply Qu|refine ad ?_|refine aB ?_|refine aA ?_|refine bP ?_|refine cI ?_|refine aL fun _=>?_|apply Qw|apply ar|(refine ao (hc:=hn) (hX:=fun _ _=>trivial) ?_)|(refine aH (ht:=?_) (hf:=?_);all_goals (intro hx_;first|have:=aP hx_|have:=aT hx_)))
 (all_goals (apply al;apply ap;rfl;rfl));all_goals (simp only [groupR, *,ZQ,ZO,ZC,ZB,ZE,ZD,ZH,ZG,ZK,ZI,ZP,ZJ,ZN,ZF];done)
def zeroR (a:ActD):Bool:=seqB a.object ⟨#[]⟩&&seqB a.target ⟨#[]⟩&&decide (a.scope=0)&&seqB a.group ⟨#[]⟩&&decide ((a.to.n:Int)=0)&&seqB a.text ⟨#[]⟩&&boxEq a.body BoxD.zero&&decide (a.epoch=0)&&decide ((a.wraps.n:Int)=0)&&decide (a.n=0)&&decide (a.m=0)
theorem bO (a:ActD):Pu Tryz.prog 244 #[a.v] (fun _=>True) (.bool (zeroR a)):=by
 refine ay (args:=[_]) _ Tryz.func244 rfl Tryz.ntmps244 rfl fun av bor w0=>?_
 have hn:=jL a.body
 repeat' (first|apply ab|apply Qt|apply Qu|refine aj ?_|refine ad ?_|refine aB ?_|refine aA ?_|refine aD ?_|refine aG ?_|refine bP ?_|refine cI ?_|refine aY ?_|refine aJ ?_|refine aL fun _=>?_|apply ar|(refine ao (hc:=hn) (hX:=fun _ _=>trivial) ?_)|(refine aW ?_)|((fail_if_success (refine aZ ?_));refine aR (ht:=?_) (hf:=?_);all_goals (intro hx_;first|have:=aP hx_|have:=aT hx_|skip))|fail)
 (all_goals (apply al;apply ap;rfl;rfl));all_goals (simp only [zeroR, *,ZQ,ZO,ZC,ZB,ZE,ZD,ZH,ZG,ZK,ZI,ZP,ZJ,ZN,ZF];done)
theorem mq (a:ActD):Pu Tryz.prog 243 #[a.v] (ActD.at_ · a) (.bool (wrappedB a)):=by
 refine ay (args:=[_]) _ Tryz.func243 rfl Tryz.ntmps243 rfl fun av bor w0=>?_
 refine bJ (p:=a.wraps.n=a.wrapsL.length∧a.wraps.n≤maxLen∧(0<a.wrapsL.length→a.wraps.p.isSome=true)) (fun w h=>⟨h.2.len_,Qp (RowsD.cap h.2) (RowsD.max h.2),h.2.some_⟩) fun ⟨hl,hm,hp⟩=>?_
 simp only [maxLen] at hm
 repeat' (first|apply ab|apply Qt|apply Qu|refine ad ?_|refine aL fun _=>?_|apply Qv|fail)
 rename_i b
 refine aU (ι:=Upto a.wrapsL.length (badW a.wrapsL)) (fun i=>⟨[(1,.pointer (some ⟨b,0,none⟩)),(3,.int .i64 i.k)],[cel b 46 a.cells],(ActD.at_ · a)⟩) (fun i=>a.wrapsL.length-i.k) (Upto.zero _ _) (ax ⟨rfl,rfl,trivial⟩ (aE _) fun _ h=>h) fun i=>?_
 have hik:=i.hk
 repeat' (first|apply ab|apply Qt|apply Qu|refine aj ?_|refine ad ?_|refine aB ?_|refine aA ?_|refine bP ?_|refine bj ?_|refine aY ?_|apply Qw|apply Qv|apply ar|apply aQ|(refine aH (ht:=?_) (hf:=?_);all_goals (intro hx_;first|have:=aP hx_|have:=aT hx_)))
 · have hlt:i.k<a.wrapsL.length:=by omega
   have hp':=hp ae
   obtain ⟨x,hx⟩:∃ x,a.wrapsL[i.k]?=some x:=⟨_,Zm hlt⟩
   have hc1:=eY x.to
   have hc2:=eY x.eph
   have hc3:=jM x.box
   repeat' (first|apply ab|apply Qt|apply Qu|refine aj ?_|refine ad ?_|refine aB ?_|refine aA ?_|refine aD ?_|refine aG ?_|refine bD ?_|refine be (h:=?_)|refine bR ?_|refine aM fun _=>?_|refine aK ?_|refine Qx ?_|apply Qw|apply ar|(refine ao (hc:=hc1) (hX:=fun _ _=>trivial) ?_)|(refine ao (hc:=hc2) (hX:=fun _ _=>trivial) ?_)|(refine ao (hc:=hc3) (hX:=fun _ _=>trivial) ?_)|(refine bx (q:=i.k*5) ?_)|(refine cr (cs:=x.cells) (hF:=fun w h=>Wraps.get h.2 hx) ?_)|(refine aW ?_)|((fail_if_success (refine aZ ?_));refine aR (ht:=?_) (hf:=?_);all_goals (intro hx_;skip))|(refine aH (ht:=?_) (hf:=?_);all_goals (intro hx_;skip)))
   all_goals first
    | (refine al (ap rfl rfl) ?_;rw [wrappedB,du hlt (by simp only [iX hx, *,ZQ,ZO,ZC,ZB,ZE,ZD,ZH,ZG,ZK,ZI,ZP,ZJ,ZN,ZF]),ZG])
    | exact ⟨i.next hlt (by simp only [iX hx, *,ZQ,ZO,ZC,ZB,ZE,ZD,ZH,ZG,ZK,ZI,ZP,ZJ,ZN,ZF]),(by show a.wrapsL.length-(i.k+1)<a.wrapsL.length-i.k;omega),ax ⟨rfl,rfl,trivial⟩ (List.Sublist.cons _ (aE _)) fun _ h=>h⟩
 · refine al (ap rfl rfl) ?_
   rw [wrappedB,i.all ae,ZD]
def sealR (a:ActD):Bool:=decide (0≤a.epoch)&&decide (a.epoch≤1073741824)&&seqB a.text ⟨#[]⟩&&isSealedB a.body
def audR (a:ActD):Bool:=bif !isIds a.toL then false else bif !groupR a then false else bif decide (a.scope=0) then decide (a.epoch=0)&&decide ((a.text.size:Int)≤500)&&boxEq a.body BoxD.zero
 else bif decide (a.scope=3) then sealR a else bif decide (a.scope=1)||decide (a.scope=2) then sealR a&&decide ((a.to.n:Int)=0) else false
theorem CF (a:ActD):audR a=audienceB a:=by
 have hw:withinB a.epoch 0 1073741824=(decide (0≤a.epoch)&&decide (a.epoch≤1073741824)):=rfl
 have hz:decide (0<(a.to.n:Int))=!decide ((a.to.n:Int)=0):=by rw [←decide_not];exact decide_eq_decide.2 ae
 have hsh:isShortB a.text=decide ((a.text.size:Int)≤500):=rfl
 rw [audR,audienceB,groupR,sealedScopeB,hw,hz,hsh,sealR]
 cases isIds a.toL
 · rfl
 simp only [ZK,ZB]
 by_cases h0:a.scope=0
 · rw [h0]
   simp only [show decide ((0:Int)=2)=false from rfl,show decide ((0:Int)=0)=true from rfl,ZB,ZC]
   cases seqB a.group ⟨#[]⟩<;>simp [Bool.and_assoc]
 by_cases h3:a.scope=3
 · rw [h3]
   simp only [show decide ((3:Int)=2)=false from rfl,show decide ((3:Int)=0)=false from rfl,show decide ((3:Int)=3)=true from rfl,show decide ((3:Int)=1)=false from rfl,ZB,ZC,ZK,ZH]
   cases seqB a.group ⟨#[]⟩<;>simp [Bool.and_assoc]
 by_cases h1:a.scope=1
 · rw [h1]
   simp only [show decide ((1:Int)=2)=false from rfl,show decide ((1:Int)=0)=false from rfl,show decide ((1:Int)=3)=false from rfl,show decide ((1:Int)=1)=true from rfl,ZB,ZC,ZI,ZE,ZJ]
   cases seqB a.group ⟨#[]⟩<;>cases decide ((a.to.n:Int)=0)<;>simp [Bool.and_assoc]
 by_cases h2:a.scope=2
 · rw [h2]
   simp only [show decide ((2:Int)=2)=true from rfl,show decide ((2:Int)=0)=false from rfl,show decide ((2:Int)=3)=false from rfl,show decide ((2:Int)=1)=false from rfl,ZB,ZC,ZI,ZE,ZF]
   cases isName a.group<;>cases decide ((a.to.n:Int)=0)<;>simp [Bool.and_assoc]
 rw [Zn h0,Zn h1,Zn h2,Zn h3]
 cases seqB a.group ⟨#[]⟩<;>cases decide ((a.to.n:Int)=0)<;>rfl
set_option maxHeartbeats 2000000 in
theorem lr (a:ActD) (hs:a.Str):Pu Tryz.prog 240 #[a.v] (ActD.at_ · a) (.bool (audienceB a)):=by
 refine ay (args:=[_]) _ Tryz.func240 rfl Tryz.ntmps240 rfl fun av bor w0=>?_
 rw [←CF]
 have hi:=jp a.to a.toL hs.to
 have hg:=jK a hs
 have hb:=jM a.body
 have he:=jL a.body
 repeat' (first|apply ab|apply Qt|apply Qu|refine aj ?_|refine ad ?_|refine aB ?_|refine aA ?_|refine aF ?_|refine aD ?_|refine aG ?_|refine bD ?_|refine bP ?_|refine cF ?_|refine cZ ?_|refine cI ?_|refine bT ?_|refine aY ?_|refine aJ ?_|refine bR ?_|refine aL fun _=>?_|refine Qx ?_|apply Qw|apply Qv|apply ar|(refine ao (hc:=hi) (hX:=fun w h=>h.1) ?_)|(refine ao (hc:=hg) (hX:=fun _ _=>trivial) ?_)|(refine ao (hc:=hb) (hX:=fun _ _=>trivial) ?_)|(refine ao (hc:=he) (hX:=fun _ _=>trivial) ?_)|(refine aW ?_)|((fail_if_success (refine aZ ?_));refine aR (ht:=?_) (hf:=?_);all_goals (intro hx_;first|have:=aP hx_|have:=aT hx_|skip))|(refine aH (ht:=?_) (hf:=?_);all_goals (intro hx_;first|have:=aP hx_|have:=aT hx_|skip)))
 all_goals refine al (ap rfl rfl) ?_
 all_goals first
  | rfl
  | (simp_all [audR,sealR];done)
  | (simp_all [audR,sealR];intros;omega)
def bareA (a:ActD):ActD:={ a with scope:=0,group:=⟨#[]⟩,to:=⟨none,0,0⟩,text:=⟨#[]⟩,body:=BoxD.zero,epoch:=0,toL:=[] }
theorem rf (a:ActD):Pu Tryz.prog 241 #[a.v] (fun _=>True) (bareA a).v:=by
 refine ay (args:=[_]) _ Tryz.func241 rfl Tryz.ntmps241 rfl fun av bor w0=>?_
 repeat' (first|refine ji ?_|apply ab|apply Qt|apply Qu|refine aB ?_|refine aF ?_|refine aM fun _=>?_|refine aL fun _=>?_|refine bc ?_|refine aK ?_|apply ar|(refine dL ({ a with scope:=0,group:=⟨#[]⟩,to:=⟨none,0,0⟩,text:=⟨#[]⟩,body:=BoxD.zero }:ActD).cells (h:=?_))|fail)
 exact al (dz (cs:=(bareA a).cells) rfl rfl aI (by rfl)) rfl
def okR (k:Int) (a:ActD):Bool :=
 bif decide (k=0) then (isPublicB a.n&&decide (0≤a.m)&&decide (a.m<20))&&isName a.text else bif decide (k=1) then audienceB a else bif decide (k=2) then audienceB a&&decide ((a.object.size:Int)=32) else bif decide (k=3) then audienceB a&&decide ((a.object.size:Int)=32) else bif decide (k=4) then decide ((a.object.size:Int)=32) else bif decide (k=5) then decide ((a.object.size:Int)=32) else bif decide (k=6) then decide ((a.object.size:Int)=32) else bif decide (k=7) then isId a.target else bif decide (k=8) then isId a.target else bif decide (k=9) then isId a.target else bif decide (k=10) then isId a.target else bif decide (k=11) then isId a.target else bif decide (k=12) then decide ((a.object.size:Int)=32)&&decide ((a.text.size:Int)≤500) else bif decide (k=13) then decide ((a.object.size:Int)=32) else bif decide (k=14) then audienceB a&&decide ((a.object.size:Int)=32) else bif decide (k=15) then isIds a.toL&&isName a.group else bif decide (k=16) then isIds a.toL&&decide (1≤a.scope)&&decide (a.scope≤3)&&groupR a&&decide (0≤a.epoch)&&decide (a.epoch≤1073741824)&&wrappedB a else bif decide (k=17) then (bif !seqB a.object ⟨#[]⟩ then isName a.text&&decide ((a.object.size:Int)=32)&&seqB a.target ⟨#[]⟩ else isName a.text&&isId a.target) else bif decide (k=18) then (isPublicB a.n&&decide (0≤a.m)&&decide (a.m<20)) else bif decide (k=19) then isIds a.toL&&decide (0<(a.to.n:Int))&&wrappedB a&&decide (1≤a.n)&&decide (a.n≤(a.to.n:Int))&&isPublicB a.m else bif decide (k=20) then decide ((a.object.size:Int)=32) else bif decide (k=21) then decide ((a.object.size:Int)=32)&&decide ((a.text.size:Int)≤500) else bif decide (k=22) then decide ((a.object.size:Int)=32)&&decide (0≤a.n)&&decide (a.n≤1) else bif decide (k=23) then isId a.target&&decide ((a.text.size:Int)≤500)&&decide (0≤a.n)&&decide (a.n≤1099511627776) else false
def restA (k:Int) (a:ActD):ActD :=
 bif decide (k=0) then { a with text:=⟨#[]⟩,n:=0,m:=0 } else bif decide (k=1) then bareA a else bif decide (k=2) then { bareA a with object:=⟨#[]⟩ } else bif decide (k=3) then { bareA a with object:=⟨#[]⟩ } else bif decide (k=4) then { a with object:=⟨#[]⟩ } else bif decide (k=5) then { a with object:=⟨#[]⟩ } else bif decide (k=6) then { a with object:=⟨#[]⟩ } else bif decide (k=7) then { a with target:=⟨#[]⟩ } else bif decide (k=8) then { a with target:=⟨#[]⟩ } else bif decide (k=9) then { a with target:=⟨#[]⟩ } else bif decide (k=10) then { a with target:=⟨#[]⟩ } else bif decide (k=11) then { a with target:=⟨#[]⟩ } else bif decide (k=12) then { a with object:=⟨#[]⟩,text:=⟨#[]⟩ } else bif decide (k=13) then { a with object:=⟨#[]⟩ } else bif decide (k=14) then { bareA a with object:=⟨#[]⟩ } else bif decide (k=15) then { a with group:=⟨#[]⟩,to:=⟨none,0,0⟩,toL:=[] } else bif decide (k=16) then { a with scope:=0,group:=⟨#[]⟩,to:=⟨none,0,0⟩,toL:=[],epoch:=0,wraps:=⟨none,0,0⟩,wrapsL:=[] } else bif decide (k=17) then { a with text:=⟨#[]⟩,object:=⟨#[]⟩,target:=⟨#[]⟩ } else bif decide (k=18) then { a with n:=0,m:=0 } else bif decide (k=19) then { a with to:=⟨none,0,0⟩,toL:=[],wraps:=⟨none,0,0⟩,wrapsL:=[],n:=0,m:=0 } else bif decide (k=20) then { a with object:=⟨#[]⟩ } else bif decide (k=21) then { a with object:=⟨#[]⟩,text:=⟨#[]⟩ } else bif decide (k=22) then { a with object:=⟨#[]⟩,n:=0 } else bif decide (k=23) then { a with target:=⟨#[]⟩,text:=⟨#[]⟩,n:=0 } else a
def fitsR (a:ActD):Bool:=okR a.kind a&&zeroR (restA a.kind a)
theorem By (a:ActD):okR 0 a=((isPublicB a.n&&decide (0≤a.m)&&decide (a.m<20))&&isName a.text):=rfl
theorem sS (a:ActD):restA 0 a=({ a with text:=⟨#[]⟩,n:=0,m:=0 }:ActD):=rfl
theorem Bx (a:ActD):okR 1 a=(audienceB a):=rfl
theorem sR (a:ActD):restA 1 a=(bareA a:ActD):=rfl
theorem Bw (a:ActD):okR 2 a=(audienceB a&&decide ((a.object.size:Int)=32)):=rfl
theorem sQ (a:ActD):restA 2 a=({ bareA a with object:=⟨#[]⟩ }:ActD):=rfl
theorem Bv (a:ActD):okR 3 a=(audienceB a&&decide ((a.object.size:Int)=32)):=rfl
theorem sP (a:ActD):restA 3 a=({ bareA a with object:=⟨#[]⟩ }:ActD):=rfl
theorem Bu (a:ActD):okR 4 a=(decide ((a.object.size:Int)=32)):=rfl
theorem sO (a:ActD):restA 4 a=({ a with object:=⟨#[]⟩ }:ActD):=rfl
theorem Bt (a:ActD):okR 5 a=(decide ((a.object.size:Int)=32)):=rfl
theorem sM (a:ActD):restA 5 a=({ a with object:=⟨#[]⟩ }:ActD):=rfl
theorem Bs (a:ActD):okR 6 a=(decide ((a.object.size:Int)=32)):=rfl
theorem sL (a:ActD):restA 6 a=({ a with object:=⟨#[]⟩ }:ActD):=rfl
theorem Br (a:ActD):okR 7 a=(isId a.target):=rfl
theorem sK (a:ActD):restA 7 a=({ a with target:=⟨#[]⟩ }:ActD):=rfl
theorem Bq (a:ActD):okR 8 a=(isId a.target):=rfl
theorem sJ (a:ActD):restA 8 a=({ a with target:=⟨#[]⟩ }:ActD):=rfl
theorem Bp (a:ActD):okR 9 a=(isId a.target):=rfl
theorem sI (a:ActD):restA 9 a=({ a with target:=⟨#[]⟩ }:ActD):=rfl
theorem xZ (a:ActD):okR 10 a=(isId a.target):=rfl
theorem pE (a:ActD):restA 10 a=({ a with target:=⟨#[]⟩ }:ActD):=rfl
theorem xY (a:ActD):okR 11 a=(isId a.target):=rfl
theorem pD (a:ActD):restA 11 a=({ a with target:=⟨#[]⟩ }:ActD):=rfl
theorem xX (a:ActD):okR 12 a=(decide ((a.object.size:Int)=32)&&decide ((a.text.size:Int)≤500)):=rfl
theorem pC (a:ActD):restA 12 a=({ a with object:=⟨#[]⟩,text:=⟨#[]⟩ }:ActD):=rfl
theorem xW (a:ActD):okR 13 a=(decide ((a.object.size:Int)=32)):=rfl
theorem pB (a:ActD):restA 13 a=({ a with object:=⟨#[]⟩ }:ActD):=rfl
theorem xV (a:ActD):okR 14 a=(audienceB a&&decide ((a.object.size:Int)=32)):=rfl
theorem pA (a:ActD):restA 14 a=({ bareA a with object:=⟨#[]⟩ }:ActD):=rfl
theorem xU (a:ActD):okR 15 a=(isIds a.toL&&isName a.group):=rfl
theorem pz (a:ActD):restA 15 a=({ a with group:=⟨#[]⟩,to:=⟨none,0,0⟩,toL:=[] }:ActD):=rfl
theorem xT (a:ActD):okR 16 a=(isIds a.toL&&decide (1≤a.scope)&&decide (a.scope≤3)&&groupR a&&decide (0≤a.epoch)&&decide (a.epoch≤1073741824)&&wrappedB a):=rfl
theorem py (a:ActD):restA 16 a=({ a with scope:=0,group:=⟨#[]⟩,to:=⟨none,0,0⟩,toL:=[],epoch:=0,wraps:=⟨none,0,0⟩,wrapsL:=[] }:ActD):=rfl
theorem xS (a:ActD):okR 17 a=((bif !seqB a.object ⟨#[]⟩ then isName a.text&&decide ((a.object.size:Int)=32)&&seqB a.target ⟨#[]⟩ else isName a.text&&isId a.target)):=rfl
theorem px (a:ActD):restA 17 a=({ a with text:=⟨#[]⟩,object:=⟨#[]⟩,target:=⟨#[]⟩ }:ActD):=rfl
theorem xR (a:ActD):okR 18 a=((isPublicB a.n&&decide (0≤a.m)&&decide (a.m<20))):=rfl
theorem pw (a:ActD):restA 18 a=({ a with n:=0,m:=0 }:ActD):=rfl
theorem xQ (a:ActD):okR 19 a=(isIds a.toL&&decide (0<(a.to.n:Int))&&wrappedB a&&decide (1≤a.n)&&decide (a.n≤(a.to.n:Int))&&isPublicB a.m):=rfl
theorem pu (a:ActD):restA 19 a=({ a with to:=⟨none,0,0⟩,toL:=[],wraps:=⟨none,0,0⟩,wrapsL:=[],n:=0,m:=0 }:ActD):=rfl
theorem xP (a:ActD):okR 20 a=(decide ((a.object.size:Int)=32)):=rfl
theorem pt (a:ActD):restA 20 a=({ a with object:=⟨#[]⟩ }:ActD):=rfl
theorem xO (a:ActD):okR 21 a=(decide ((a.object.size:Int)=32)&&decide ((a.text.size:Int)≤500)):=rfl
theorem pr (a:ActD):restA 21 a=({ a with object:=⟨#[]⟩,text:=⟨#[]⟩ }:ActD):=rfl
theorem xN (a:ActD):okR 22 a=(decide ((a.object.size:Int)=32)&&decide (0≤a.n)&&decide (a.n≤1)):=rfl
theorem pq (a:ActD):restA 22 a=({ a with object:=⟨#[]⟩,n:=0 }:ActD):=rfl
theorem xM (a:ActD):okR 23 a=(isId a.target&&decide ((a.text.size:Int)≤500)&&decide (0≤a.n)&&decide (a.n≤1099511627776)):=rfl
theorem pp (a:ActD):restA 23 a=({ a with target:=⟨#[]⟩,text:=⟨#[]⟩,n:=0 }:ActD):=rfl
theorem pP {a:ActD} (h:¬ (0≤a.kind∧a.kind≤23)):okR a.kind a=false:=by
 rw [okR]
 rw [Zn (show ¬ a.kind=0 by omega),ZB]
 rw [Zn (show ¬ a.kind=1 by omega),ZB]
 rw [Zn (show ¬ a.kind=2 by omega),ZB]
 rw [Zn (show ¬ a.kind=3 by omega),ZB]
 rw [Zn (show ¬ a.kind=4 by omega),ZB]
 rw [Zn (show ¬ a.kind=5 by omega),ZB]
 rw [Zn (show ¬ a.kind=6 by omega),ZB]
 rw [Zn (show ¬ a.kind=7 by omega),ZB]
 rw [Zn (show ¬ a.kind=8 by omega),ZB]
 rw [Zn (show ¬ a.kind=9 by omega),ZB]
 rw [Zn (show ¬ a.kind=10 by omega),ZB]
 rw [Zn (show ¬ a.kind=11 by omega),ZB]
 rw [Zn (show ¬ a.kind=12 by omega),ZB]
 rw [Zn (show ¬ a.kind=13 by omega),ZB]
 rw [Zn (show ¬ a.kind=14 by omega),ZB]
 rw [Zn (show ¬ a.kind=15 by omega),ZB]
 rw [Zn (show ¬ a.kind=16 by omega),ZB]
 rw [Zn (show ¬ a.kind=17 by omega),ZB]
 rw [Zn (show ¬ a.kind=18 by omega),ZB]
 rw [Zn (show ¬ a.kind=19 by omega),ZB]
 rw [Zn (show ¬ a.kind=20 by omega),ZB]
 rw [Zn (show ¬ a.kind=21 by omega),ZB]
 rw [Zn (show ¬ a.kind=22 by omega),ZB]
 rw [Zn (show ¬ a.kind=23 by omega),ZB]
theorem mZ {k:Int} (h:0≤k∧k≤23):k=0∨k=1∨k=2∨k=3∨k=4∨k=5∨k=6∨k=7∨k=8∨k=9∨k=10∨k=11∨k=12∨k=13∨k=14∨k=15∨k=16∨k=17∨k=18∨k=19∨k=20∨k=21∨k=22∨k=23:=by omega
set_option maxRecDepth 20000 in
set_option maxHeartbeats 16000000 in
theorem q8 (a:ActD) (hs:a.Str):Pu Tryz.prog 208 #[a.v] (ActD.at_ · a) (.bool (fitsR a)):=by
 refine ay (args:=[_]) _ Tryz.func208 rfl Tryz.ntmps208 rfl fun av bor w0=>?_
 have c1:=eY a.n
 have c2:=eY a.m
 have c3:=g9 a.text hs.text
 have c4:=g9 a.group hs.group
 have c5:=lr a hs
 have c6:=rf a
 have c7:=fR a.target hs.target
 have c8:=jp a.to a.toL hs.to
 have c9:=jK a hs
 have c10:=mq a
 by_cases hk:0≤a.kind∧a.kind≤23
 · rw [fitsR]
   rcases mZ hk with h|h|h|h|h|h|h|h|h|h|h|h|h|h|h|h|h|h|h|h|h|h|h|h
   · rw [h,By,sS]
     have c0:=bO ({ a with text:=⟨#[]⟩,n:=0,m:=0 }:ActD)
     repeat' (first|refine bm (hab:=by omega) ?_|apply ab|apply Qt|apply Qu|refine aj ?_|refine ad ?_|refine aB ?_|refine aA ?_|refine aF ?_|refine aD ?_|refine aG ?_|refine bj ?_|refine cZ ?_|refine aJ ?_|refine aM fun _=>?_|refine aL fun _=>?_|refine bc ?_|refine aK ?_|refine Qx ?_|apply Qw|apply Qv|apply ar|(refine ao (hc:=c0) (hX:=fun _ _=>trivial) ?_)|(refine ao (hc:=c1) (hX:=fun _ _=>trivial) ?_)|(refine ao (hc:=c3) (hX:=fun _ _=>trivial) ?_)|((fail_if_success (refine aZ ?_));refine aR (ht:=?_) (hf:=?_);all_goals (intro hx_;first|have:=aP hx_|have:=aT hx_|skip))|fail)
     all_goals refine al (ap rfl rfl) ?_
     all_goals first
      | rfl
      | (simp only [*,ZQ,ZO,ZC,ZB,ZE,ZD,ZH,ZG,ZK,ZI,ZP,ZJ,ZN,ZF];done)
      | (simp_all;done)
      | (simp_all;intros;omega)
      | skip
   · rw [h,Bx,sR]
     have c0:=bO (bareA a:ActD)
     repeat' (first|refine bm (hab:=by omega) ?_|refine bt (hab:=by omega) ?_|apply ab|apply Qt|apply Qu|refine aj ?_|refine ad ?_|refine aB ?_|refine aA ?_|refine aF ?_|refine aD ?_|refine aG ?_|refine aJ ?_|refine aM fun _=>?_|refine aL fun _=>?_|refine aK ?_|refine Qx ?_|refine Qy ?_|apply Qv|apply ar|(refine ao (hc:=c0) (hX:=fun _ _=>trivial) ?_)|(refine ao (hc:=c5) (hX:=fun w h=>h) ?_)|(refine ao (hc:=c6) (hX:=fun _ _=>trivial) ?_)|((fail_if_success (refine aZ ?_));refine aR (ht:=?_) (hf:=?_);all_goals (intro hx_;skip))|fail)
     all_goals refine al (ap rfl rfl) ?_
     all_goals first
      | rfl
      | (simp only [*,ZQ,ZO,ZC,ZB,ZE,ZD,ZH,ZG,ZK,ZI,ZP,ZJ,ZN,ZF];done)
      | (simp_all;done)
      | (simp_all;intros;omega)
      | skip
   · rw [h,Bw,sQ]
     have c0:=bO ({ bareA a with object:=⟨#[]⟩ }:ActD)
     repeat' (first|refine bm (hab:=by omega) ?_|refine bt (hab:=by omega) ?_|apply ab|apply Qt|apply Qu|refine aj ?_|refine ad ?_|refine aB ?_|refine aA ?_|refine aF ?_|refine aD ?_|refine aG ?_|refine bP ?_|refine bT ?_|refine aJ ?_|refine aM fun _=>?_|refine aL fun _=>?_|refine bc ?_|refine aK ?_|refine Qx ?_|refine Qy ?_|apply Qw|apply Qv|apply ar|(refine ao (hc:=c0) (hX:=fun _ _=>trivial) ?_)|(refine ao (hc:=c5) (hX:=fun w h=>h) ?_)|(refine ao (hc:=c6) (hX:=fun _ _=>trivial) ?_)|((fail_if_success (refine aZ ?_));refine aR (ht:=?_) (hf:=?_);all_goals (intro hx_;first|have:=aP hx_|have:=aT hx_|skip))|fail)
     all_goals refine al (ap rfl rfl) ?_
     all_goals first
      | rfl
      | (simp only [*,ZQ,ZO,ZC,ZB,ZE,ZD,ZH,ZG,ZK,ZI,ZP,ZJ,ZN,ZF];done)
      | (simp_all;done)
      | (simp_all;intros;omega)
      | skip
   · rw [h,Bv,sP]
     have c0:=bO ({ bareA a with object:=⟨#[]⟩ }:ActD)
     repeat' (first|refine bm (hab:=by omega) ?_|refine bt (hab:=by omega) ?_|apply ab|apply Qt|apply Qu|refine aj ?_|refine ad ?_|refine aB ?_|refine aA ?_|refine aF ?_|refine aD ?_|refine aG ?_|refine bP ?_|refine bT ?_|refine aJ ?_|refine aM fun _=>?_|refine aL fun _=>?_|refine bc ?_|refine aK ?_|refine Qx ?_|refine Qy ?_|apply Qw|apply Qv|apply ar|(refine ao (hc:=c0) (hX:=fun _ _=>trivial) ?_)|(refine ao (hc:=c5) (hX:=fun w h=>h) ?_)|(refine ao (hc:=c6) (hX:=fun _ _=>trivial) ?_)|((fail_if_success (refine aZ ?_));refine aR (ht:=?_) (hf:=?_);all_goals (intro hx_;first|have:=aP hx_|have:=aT hx_|skip))|fail)
     all_goals refine al (ap rfl rfl) ?_
     all_goals first
      | rfl
      | (simp only [*,ZQ,ZO,ZC,ZB,ZE,ZD,ZH,ZG,ZK,ZI,ZP,ZJ,ZN,ZF];done)
      | (simp_all;done)
      | (simp_all;intros;omega)
      | skip
   · rw [h,Bu,sO]
     have c0:=bO ({ a with object:=⟨#[]⟩ }:ActD)
     repeat' (first|refine bm (hab:=by omega) ?_|refine bt (hab:=by omega) ?_|apply ab|apply Qt|apply Qu|refine aj ?_|refine ad ?_|refine aB ?_|refine aA ?_|refine aF ?_|refine aD ?_|refine aG ?_|refine bP ?_|refine bT ?_|refine aJ ?_|refine aM fun _=>?_|refine aL fun _=>?_|refine bc ?_|refine aK ?_|refine Qx ?_|refine Qy ?_|apply Qw|apply Qv|apply ar|(refine ao (hc:=c0) (hX:=fun _ _=>trivial) ?_)|((fail_if_success (refine aZ ?_));refine aR (ht:=?_) (hf:=?_);all_goals (intro hx_;first|have:=aP hx_|have:=aT hx_))|fail)
     all_goals refine al (ap rfl rfl) ?_
     all_goals first
      | rfl
      | (simp only [*,ZQ,ZO,ZC,ZB,ZE,ZD,ZH,ZG,ZK,ZI,ZP,ZJ,ZN,ZF];done)
      | (simp_all;done)
      | (simp_all;intros;omega)
      | skip
   · rw [h,Bt,sM]
     have c0:=bO ({ a with object:=⟨#[]⟩ }:ActD)
     repeat' (first|refine bm (hab:=by omega) ?_|refine bt (hab:=by omega) ?_|apply ab|apply Qt|apply Qu|refine aj ?_|refine ad ?_|refine aB ?_|refine aA ?_|refine aF ?_|refine aD ?_|refine aG ?_|refine bP ?_|refine bT ?_|refine aJ ?_|refine aM fun _=>?_|refine aL fun _=>?_|refine bc ?_|refine aK ?_|refine Qx ?_|refine Qy ?_|apply Qw|apply Qv|apply ar|(refine ao (hc:=c0) (hX:=fun _ _=>trivial) ?_)|((fail_if_success (refine aZ ?_));refine aR (ht:=?_) (hf:=?_);all_goals (intro hx_;first|have:=aP hx_|have:=aT hx_))|fail)
     all_goals refine al (ap rfl rfl) ?_
     all_goals first
      | rfl
      | (simp only [*,ZQ,ZO,ZC,ZB,ZE,ZD,ZH,ZG,ZK,ZI,ZP,ZJ,ZN,ZF];done)
      | (simp_all;done)
      | (simp_all;intros;omega)
      | skip
   · rw [h,Bs,sL]
     have c0:=bO ({ a with object:=⟨#[]⟩ }:ActD)
     repeat' (first|refine bm (hab:=by omega) ?_|refine bt (hab:=by omega) ?_|apply ab|apply Qt|apply Qu|refine aj ?_|refine ad ?_|refine aB ?_|refine aA ?_|refine aF ?_|refine aD ?_|refine aG ?_|refine bP ?_|refine bT ?_|refine aJ ?_|refine aM fun _=>?_|refine aL fun _=>?_|refine bc ?_|refine aK ?_|refine Qx ?_|refine Qy ?_|apply Qw|apply Qv|apply ar|(refine ao (hc:=c0) (hX:=fun _ _=>trivial) ?_)|((fail_if_success (refine aZ ?_));refine aR (ht:=?_) (hf:=?_);all_goals (intro hx_;first|have:=aP hx_|have:=aT hx_))|fail)
     all_goals refine al (ap rfl rfl) ?_
     all_goals first
      | rfl
      | (simp only [*,ZQ,ZO,ZC,ZB,ZE,ZD,ZH,ZG,ZK,ZI,ZP,ZJ,ZN,ZF];done)
      | (simp_all;done)
      | (simp_all;intros;omega)
      | skip
   · rw [h,Br,sK]
     have c0:=bO ({ a with target:=⟨#[]⟩ }:ActD)
     repeat' (first|refine bm (hab:=by omega) ?_|refine bt (hab:=by omega) ?_|apply ab|apply Qt|apply Qu|refine aj ?_|refine ad ?_|refine aB ?_|refine aA ?_|refine aF ?_|refine aD ?_|refine aG ?_|refine aJ ?_|refine aM fun _=>?_|refine aL fun _=>?_|refine bc ?_|refine aK ?_|refine Qx ?_|refine Qy ?_|apply Qw|apply Qv|apply ar|(refine ao (hc:=c0) (hX:=fun _ _=>trivial) ?_)|(refine ao (hc:=c7) (hX:=fun _ _=>trivial) ?_)|((fail_if_success (refine aZ ?_));refine aR (ht:=?_) (hf:=?_);all_goals (intro hx_;skip))|fail)
     all_goals refine al (ap rfl rfl) ?_
     all_goals first
      | rfl
      | (simp only [*,ZQ,ZO,ZC,ZB,ZE,ZD,ZH,ZG,ZK,ZI,ZP,ZJ,ZN,ZF];done)
      | (simp_all;done)
      | (simp_all;intros;omega)
      | skip
   · rw [h,Bq,sJ]
     have c0:=bO ({ a with target:=⟨#[]⟩ }:ActD)
     repeat' (first|refine bm (hab:=by omega) ?_|refine bt (hab:=by omega) ?_|apply ab|apply Qt|apply Qu|refine aj ?_|refine ad ?_|refine aB ?_|refine aA ?_|refine aF ?_|refine aD ?_|refine aG ?_|refine aJ ?_|refine aM fun _=>?_|refine aL fun _=>?_|refine bc ?_|refine aK ?_|refine Qx ?_|refine Qy ?_|apply Qw|apply Qv|apply ar|(refine ao (hc:=c0) (hX:=fun _ _=>trivial) ?_)|(refine ao (hc:=c7) (hX:=fun _ _=>trivial) ?_)|((fail_if_success (refine aZ ?_));refine aR (ht:=?_) (hf:=?_);all_goals (intro hx_;skip))|fail)
     all_goals refine al (ap rfl rfl) ?_
     all_goals first
      | rfl
      | (simp only [*,ZQ,ZO,ZC,ZB,ZE,ZD,ZH,ZG,ZK,ZI,ZP,ZJ,ZN,ZF];done)
      | (simp_all;done)
      | (simp_all;intros;omega)
      | skip
   · rw [h,Bp,sI]
     have c0:=bO ({ a with target:=⟨#[]⟩ }:ActD)
     repeat' (first|refine bm (hab:=by omega) ?_|refine bt (hab:=by omega) ?_|apply ab|apply Qt|apply Qu|refine aj ?_|refine ad ?_|refine aB ?_|refine aA ?_|refine aF ?_|refine aD ?_|refine aG ?_|refine aJ ?_|refine aM fun _=>?_|refine aL fun _=>?_|refine bc ?_|refine aK ?_|refine Qx ?_|refine Qy ?_|apply Qw|apply Qv|apply ar|(refine ao (hc:=c0) (hX:=fun _ _=>trivial) ?_)|(refine ao (hc:=c7) (hX:=fun _ _=>trivial) ?_)|((fail_if_success (refine aZ ?_));refine aR (ht:=?_) (hf:=?_);all_goals (intro hx_;skip))|fail)
     all_goals refine al (ap rfl rfl) ?_
     all_goals first
      | rfl
      | (simp only [*,ZQ,ZO,ZC,ZB,ZE,ZD,ZH,ZG,ZK,ZI,ZP,ZJ,ZN,ZF];done)
      | (simp_all;done)
      | (simp_all;intros;omega)
      | skip
   · rw [h,xZ,pE]
     have c0:=bO ({ a with target:=⟨#[]⟩ }:ActD)
     repeat' (first|refine bm (hab:=by omega) ?_|refine bt (hab:=by omega) ?_|apply ab|apply Qt|apply Qu|refine aj ?_|refine ad ?_|refine aB ?_|refine aA ?_|refine aF ?_|refine aD ?_|refine aG ?_|refine aJ ?_|refine aM fun _=>?_|refine aL fun _=>?_|refine bc ?_|refine aK ?_|refine Qx ?_|refine Qy ?_|apply Qw|apply Qv|apply ar|(refine ao (hc:=c0) (hX:=fun _ _=>trivial) ?_)|(refine ao (hc:=c7) (hX:=fun _ _=>trivial) ?_)|((fail_if_success (refine aZ ?_));refine aR (ht:=?_) (hf:=?_);all_goals (intro hx_;skip))|fail)
     all_goals refine al (ap rfl rfl) ?_
     all_goals first
      | rfl
      | (simp only [*,ZQ,ZO,ZC,ZB,ZE,ZD,ZH,ZG,ZK,ZI,ZP,ZJ,ZN,ZF];done)
      | (simp_all;done)
      | (simp_all;intros;omega)
      | skip
   · rw [h,xY,pD]
     have c0:=bO ({ a with target:=⟨#[]⟩ }:ActD)
     repeat' (first|refine bm (hab:=by omega) ?_|refine bt (hab:=by omega) ?_|apply ab|apply Qt|apply Qu|refine aj ?_|refine ad ?_|refine aB ?_|refine aA ?_|refine aF ?_|refine aD ?_|refine aG ?_|refine aJ ?_|refine aM fun _=>?_|refine aL fun _=>?_|refine bc ?_|refine aK ?_|refine Qx ?_|refine Qy ?_|apply Qv|apply ar|(refine ao (hc:=c0) (hX:=fun _ _=>trivial) ?_)|(refine ao (hc:=c7) (hX:=fun _ _=>trivial) ?_)|((fail_if_success (refine aZ ?_));refine aR (ht:=?_) (hf:=?_);all_goals (intro hx_;skip))|fail)
     all_goals refine al (ap rfl rfl) ?_
     all_goals first
      | rfl
      | (simp only [*,ZQ,ZO,ZC,ZB,ZE,ZD,ZH,ZG,ZK,ZI,ZP,ZJ,ZN,ZF];done)
      | (simp_all;done)
      | (simp_all;intros;omega)
      | skip
   · rw [h,xX,pC]
     have c0:=bO ({ a with object:=⟨#[]⟩,text:=⟨#[]⟩ }:ActD)
     repeat' (first|refine bm (hab:=by omega) ?_|refine bt (hab:=by omega) ?_|apply ab|apply Qt|apply Qu|refine aj ?_|refine ad ?_|refine aB ?_|refine aA ?_|refine aF ?_|refine aD ?_|refine aG ?_|refine bP ?_|refine cF ?_|refine bT ?_|refine aJ ?_|refine aM fun _=>?_|refine aL fun _=>?_|refine bc ?_|refine aK ?_|refine Qx ?_|refine Qy ?_|apply Qw|apply Qv|apply ar|(refine ao (hc:=c0) (hX:=fun _ _=>trivial) ?_)|((fail_if_success (refine aZ ?_));refine aR (ht:=?_) (hf:=?_);all_goals (intro hx_;first|have:=aP hx_|have:=aT hx_))|fail)
     all_goals refine al (ap rfl rfl) ?_
     all_goals first
      | rfl
      | (simp only [*,ZQ,ZO,ZC,ZB,ZE,ZD,ZH,ZG,ZK,ZI,ZP,ZJ,ZN,ZF];done)
      | (simp_all;done)
      | (simp_all;intros;omega)
      | skip
   · rw [h,xW,pB]
     have c0:=bO ({ a with object:=⟨#[]⟩ }:ActD)
     repeat' (first|refine bm (hab:=by omega) ?_|refine bt (hab:=by omega) ?_|apply ab|apply Qt|apply Qu|refine aj ?_|refine ad ?_|refine aB ?_|refine aA ?_|refine aF ?_|refine aD ?_|refine aG ?_|refine bP ?_|refine bT ?_|refine aJ ?_|refine aM fun _=>?_|refine aL fun _=>?_|refine bc ?_|refine aK ?_|refine Qx ?_|refine Qy ?_|apply Qw|apply Qv|apply ar|(refine ao (hc:=c0) (hX:=fun _ _=>trivial) ?_)|((fail_if_success (refine aZ ?_));refine aR (ht:=?_) (hf:=?_);all_goals (intro hx_;first|have:=aP hx_|have:=aT hx_))|fail)
     all_goals refine al (ap rfl rfl) ?_
     all_goals first
      | rfl
      | (simp only [*,ZQ,ZO,ZC,ZB,ZE,ZD,ZH,ZG,ZK,ZI,ZP,ZJ,ZN,ZF];done)
      | (simp_all;done)
      | (simp_all;intros;omega)
      | skip
   · rw [h,xV,pA]
     have c0:=bO ({ bareA a with object:=⟨#[]⟩ }:ActD)
     repeat' (first|refine bm (hab:=by omega) ?_|refine bt (hab:=by omega) ?_|apply ab|apply Qt|apply Qu|refine aj ?_|refine ad ?_|refine aB ?_|refine aA ?_|refine aF ?_|refine aD ?_|refine aG ?_|refine bP ?_|refine bT ?_|refine aJ ?_|refine aM fun _=>?_|refine aL fun _=>?_|refine bc ?_|refine aK ?_|refine Qx ?_|refine Qy ?_|apply Qv|apply ar|(refine ao (hc:=c0) (hX:=fun _ _=>trivial) ?_)|(refine ao (hc:=c5) (hX:=fun w h=>h) ?_)|(refine ao (hc:=c6) (hX:=fun _ _=>trivial) ?_)|((fail_if_success (refine aZ ?_));refine aR (ht:=?_) (hf:=?_);all_goals (intro hx_;first|have:=aP hx_|have:=aT hx_|skip))|fail)
     all_goals refine al (ap rfl rfl) ?_
     all_goals first
      | rfl
      | (simp only [*,ZQ,ZO,ZC,ZB,ZE,ZD,ZH,ZG,ZK,ZI,ZP,ZJ,ZN,ZF];done)
      | (simp_all;done)
      | (simp_all;intros;omega)
      | skip
   · rw [h,xU,pz]
     have c0:=bO ({ a with group:=⟨#[]⟩,to:=⟨none,0,0⟩,toL:=[] }:ActD)
     repeat' (first|refine bm (hab:=by omega) ?_|refine bt (hab:=by omega) ?_|apply ab|apply Qt|apply Qu|refine aj ?_|refine ad ?_|refine aB ?_|refine aA ?_|refine aF ?_|refine aD ?_|refine aG ?_|refine aJ ?_|refine aM fun _=>?_|refine aL fun _=>?_|refine bc ?_|refine aK ?_|refine Qx ?_|refine Qy ?_|apply Qv|apply ar|(refine ao (hc:=c0) (hX:=fun _ _=>trivial) ?_)|(refine ao (hc:=c4) (hX:=fun _ _=>trivial) ?_)|(refine ao (hc:=c8) (hX:=fun w h=>h.1) ?_)|((fail_if_success (refine aZ ?_));refine aR (ht:=?_) (hf:=?_);all_goals (intro hx_;skip))|fail)
     all_goals refine al (ap rfl rfl) ?_
     all_goals first
      | rfl
      | (simp only [*,ZQ,ZO,ZC,ZB,ZE,ZD,ZH,ZG,ZK,ZI,ZP,ZJ,ZN,ZF];done)
      | (simp_all;done)
      | (simp_all;intros;omega)
      | skip
   · rw [h,xT,py]
     have c0:=bO ({ a with scope:=0,group:=⟨#[]⟩,to:=⟨none,0,0⟩,toL:=[],epoch:=0,wraps:=⟨none,0,0⟩,wrapsL:=[] }:ActD)
     repeat' (first|refine bm (hab:=by omega) ?_|refine bt (hab:=by omega) ?_|apply ab|apply Qt|apply Qu|refine aj ?_|refine ad ?_|refine aB ?_|refine aA ?_|refine aF ?_|refine aD ?_|refine aG ?_|refine cF ?_|refine cZ ?_|refine aJ ?_|refine aM fun _=>?_|refine aL fun _=>?_|refine bc ?_|refine aK ?_|refine Qx ?_|refine Qy ?_|apply Qv|apply ar|(refine ao (hc:=c0) (hX:=fun _ _=>trivial) ?_)|(refine ao (hc:=c8) (hX:=fun w h=>h.1) ?_)|(refine ao (hc:=c9) (hX:=fun _ _=>trivial) ?_)|(refine ao (hc:=c10) (hX:=fun w h=>h) ?_)|((fail_if_success (refine aZ ?_));refine aR (ht:=?_) (hf:=?_);all_goals (intro hx_;first|have:=aP hx_|have:=aT hx_|skip))|fail)
     all_goals refine al (ap rfl rfl) ?_
     all_goals first
      | rfl
      | (simp only [*,ZQ,ZO,ZC,ZB,ZE,ZD,ZH,ZG,ZK,ZI,ZP,ZJ,ZN,ZF];done)
      | (simp_all;done)
      | (simp_all;intros;omega)
      | skip
   · rw [h,xS,px]
     have c0:=bO ({ a with text:=⟨#[]⟩,object:=⟨#[]⟩,target:=⟨#[]⟩ }:ActD)
     repeat' (first|refine bm (hab:=by omega) ?_|refine bt (hab:=by omega) ?_|apply ab|apply Qt|apply Qu|refine aj ?_|refine ad ?_|refine aB ?_|refine aA ?_|refine aF ?_|refine aD ?_|refine aG ?_|refine bP ?_|refine cI ?_|refine fu ?_|refine bT ?_|refine aJ ?_|refine aM fun _=>?_|refine aL fun _=>?_|refine bc ?_|refine aK ?_|refine Qx ?_|refine Qy ?_|apply Qv|apply ar|(refine ao (hc:=c0) (hX:=fun _ _=>trivial) ?_)|(refine ao (hc:=c3) (hX:=fun _ _=>trivial) ?_)|(refine ao (hc:=c7) (hX:=fun _ _=>trivial) ?_)|((fail_if_success (refine aZ ?_));refine aR (ht:=?_) (hf:=?_);all_goals (intro hx_;first|have:=aP hx_|have:=aT hx_|skip))|(refine aH (ht:=?_) (hf:=?_);all_goals (intro hx_;skip)))
     all_goals refine al (ap rfl rfl) ?_
     all_goals first
      | rfl
      | (simp only [*,ZQ,ZO,ZC,ZB,ZE,ZD,ZH,ZG,ZK,ZI,ZP,ZJ,ZN,ZF];done)
      | (simp_all;done)
      | (simp_all;intros;omega)
      | skip
   · rw [h,xR,pw]
     have c0:=bO ({ a with n:=0,m:=0 }:ActD)
     repeat' (first|refine bm (hab:=by omega) ?_|refine bt (hab:=by omega) ?_|apply ab|apply Qt|apply Qu|refine aj ?_|refine ad ?_|refine aB ?_|refine aA ?_|refine aF ?_|refine aD ?_|refine aG ?_|refine bj ?_|refine cZ ?_|refine aJ ?_|refine aM fun _=>?_|refine aL fun _=>?_|refine bc ?_|refine aK ?_|refine Qx ?_|refine Qy ?_|apply Qw|apply Qv|apply ar|(refine ao (hc:=c0) (hX:=fun _ _=>trivial) ?_)|(refine ao (hc:=c1) (hX:=fun _ _=>trivial) ?_)|((fail_if_success (refine aZ ?_));refine aR (ht:=?_) (hf:=?_);all_goals (intro hx_;first|have:=aP hx_|have:=aT hx_|skip))|fail)
     all_goals refine al (ap rfl rfl) ?_
     all_goals first
      | rfl
      | (simp only [*,ZQ,ZO,ZC,ZB,ZE,ZD,ZH,ZG,ZK,ZI,ZP,ZJ,ZN,ZF];done)
      | (simp_all;done)
      | (simp_all;intros;omega)
      | skip
   · rw [h,xQ,pu]
     have c0:=bO ({ a with to:=⟨none,0,0⟩,toL:=[],wraps:=⟨none,0,0⟩,wrapsL:=[],n:=0,m:=0 }:ActD)
     repeat' (first|refine bm (hab:=by omega) ?_|refine bt (hab:=by omega) ?_|apply ab|apply Qt|apply Qu|refine aj ?_|refine ad ?_|refine aB ?_|refine aA ?_|refine aF ?_|refine aD ?_|refine aG ?_|refine cF ?_|refine cG ?_|refine cZ ?_|refine aY ?_|refine aJ ?_|refine aM fun _=>?_|refine aL fun _=>?_|refine bc ?_|refine aK ?_|refine Qx ?_|refine Qy ?_|apply Qv|apply ar|(refine ao (hc:=c0) (hX:=fun _ _=>trivial) ?_)|(refine ao (hc:=c2) (hX:=fun _ _=>trivial) ?_)|(refine ao (hc:=c8) (hX:=fun w h=>h.1) ?_)|(refine ao (hc:=c10) (hX:=fun w h=>h) ?_)|((fail_if_success (refine aZ ?_));refine aR (ht:=?_) (hf:=?_);all_goals (intro hx_;first|have:=aP hx_|have:=aT hx_|skip))|fail)
     all_goals refine al (ap rfl rfl) ?_
     all_goals first
      | rfl
      | (simp only [*,ZQ,ZO,ZC,ZB,ZE,ZD,ZH,ZG,ZK,ZI,ZP,ZJ,ZN,ZF];done)
      | (simp_all;done)
      | (simp_all;intros;omega)
      | skip
   · rw [h,xP,pt]
     have c0:=bO ({ a with object:=⟨#[]⟩ }:ActD)
     repeat' (first|refine bm (hab:=by omega) ?_|refine bt (hab:=by omega) ?_|apply ab|apply Qt|apply Qu|refine aj ?_|refine ad ?_|refine aB ?_|refine aA ?_|refine aF ?_|refine aD ?_|refine aG ?_|refine bP ?_|refine bT ?_|refine aJ ?_|refine aM fun _=>?_|refine aL fun _=>?_|refine bc ?_|refine aK ?_|refine Qx ?_|refine Qy ?_|apply Qv|apply ar|(refine ao (hc:=c0) (hX:=fun _ _=>trivial) ?_)|((fail_if_success (refine aZ ?_));refine aR (ht:=?_) (hf:=?_);all_goals (intro hx_;first|have:=aP hx_|have:=aT hx_))|fail)
     all_goals refine al (ap rfl rfl) ?_
     all_goals first
      | rfl
      | (simp only [*,ZQ,ZO,ZC,ZB,ZE,ZD,ZH,ZG,ZK,ZI,ZP,ZJ,ZN,ZF];done)
      | (simp_all;done)
      | (simp_all;intros;omega)
      | skip
   · rw [h,xO,pr]
     have c0:=bO ({ a with object:=⟨#[]⟩,text:=⟨#[]⟩ }:ActD)
     repeat' (first|refine bm (hab:=by omega) ?_|refine bt (hab:=by omega) ?_|apply ab|apply Qt|apply Qu|refine aj ?_|refine ad ?_|refine aB ?_|refine aA ?_|refine aF ?_|refine aD ?_|refine aG ?_|refine bP ?_|refine cF ?_|refine bT ?_|refine aJ ?_|refine aM fun _=>?_|refine aL fun _=>?_|refine bc ?_|refine aK ?_|refine Qx ?_|refine Qy ?_|apply Qv|apply ar|(refine ao (hc:=c0) (hX:=fun _ _=>trivial) ?_)|((fail_if_success (refine aZ ?_));refine aR (ht:=?_) (hf:=?_);all_goals (intro hx_;first|have:=aP hx_|have:=aT hx_))|fail)
     all_goals refine al (ap rfl rfl) ?_
     all_goals first
      | rfl
      | (simp only [*,ZQ,ZO,ZC,ZB,ZE,ZD,ZH,ZG,ZK,ZI,ZP,ZJ,ZN,ZF];done)
      | (simp_all;done)
      | (simp_all;intros;omega)
      | skip
   · rw [h,xN,pq]
     have c0:=bO ({ a with object:=⟨#[]⟩,n:=0 }:ActD)
     repeat' (first|refine bm (hab:=by omega) ?_|refine bt (hab:=by omega) ?_|apply ab|apply Qt|apply Qu|refine aj ?_|refine ad ?_|refine aB ?_|refine aA ?_|refine aF ?_|refine aD ?_|refine aG ?_|refine bP ?_|refine cF ?_|refine cZ ?_|refine bT ?_|refine aJ ?_|refine aM fun _=>?_|refine aL fun _=>?_|refine bc ?_|refine aK ?_|refine Qx ?_|refine Qy ?_|apply Qv|apply ar|(refine ao (hc:=c0) (hX:=fun _ _=>trivial) ?_)|((fail_if_success (refine aZ ?_));refine aR (ht:=?_) (hf:=?_);all_goals (intro hx_;first|have:=aP hx_|have:=aT hx_))|fail)
     all_goals refine al (ap rfl rfl) ?_
     all_goals first
      | rfl
      | (simp only [*,ZQ,ZO,ZC,ZB,ZE,ZD,ZH,ZG,ZK,ZI,ZP,ZJ,ZN,ZF];done)
      | (simp_all;done)
      | (simp_all;intros;omega)
      | skip
   · rw [h,xM,pp]
     have c0:=bO ({ a with target:=⟨#[]⟩,text:=⟨#[]⟩,n:=0 }:ActD)
     repeat' (first|refine bm (hab:=by omega) ?_|refine bt (hab:=by omega) ?_|apply ab|apply Qt|apply Qu|refine aj ?_|refine ad ?_|refine aB ?_|refine aA ?_|refine aF ?_|refine aD ?_|refine aG ?_|refine cF ?_|refine cZ ?_|refine bT ?_|refine aJ ?_|refine aM fun _=>?_|refine aL fun _=>?_|refine bc ?_|refine aK ?_|refine Qx ?_|refine Qy ?_|apply Qv|apply ar|(refine ao (hc:=c0) (hX:=fun _ _=>trivial) ?_)|(refine ao (hc:=c7) (hX:=fun _ _=>trivial) ?_)|((fail_if_success (refine aZ ?_));refine aR (ht:=?_) (hf:=?_);all_goals (intro hx_;first|have:=aP hx_|have:=aT hx_|skip))|fail)
     all_goals refine al (ap rfl rfl) ?_
     all_goals first
      | rfl
      | (simp only [*,ZQ,ZO,ZC,ZB,ZE,ZD,ZH,ZG,ZK,ZI,ZP,ZJ,ZN,ZF];done)
      | (simp_all;done)
      | (simp_all;intros;omega)
      | skip
 · rw [fitsR,pP hk,ZG]
   repeat' (first|refine bt (hab:=by omega) ?_|apply ab|apply Qt|apply Qu|refine aj ?_|refine ad ?_|refine aB ?_|refine aA ?_|refine aF ?_|refine aG ?_|refine aJ ?_|refine aM fun _=>?_|refine aL fun _=>?_|refine aK ?_|refine Qy ?_|apply Qw|apply Qv|apply ar|fail)
   exact al (ap rfl rfl) rfl
def maskB (fs:Nat) (z0 z1 z2 z3 z4 z5 z6 z7 z8 z9 z10:Bool):Bool:=(fs.testBit 0||z0)&&(fs.testBit 1||z1)&&(fs.testBit 2||z2)&&(fs.testBit 3||z3)&&(fs.testBit 4||z4)&&(fs.testBit 5||z5)&&(fs.testBit 6||z6)&&(fs.testBit 7||z7)&&(fs.testBit 8||z8)&&(fs.testBit 9||z9)&&(fs.testBit 10||z10)
def maskOk (fs:Nat) (z0 z1 z2 z3 z4 z5 z6 z7 z8 z9 z10:Bool):Bool:=decide (bitsV .andNot .i64 (useU z0 z1 z2 z3 z4 z5 z6 z7 z8 z9 z10) fs=0)==maskB fs z0 z1 z2 z3 z4 z5 z6 z7 z8 z9 z10
def maskAll (fs:Nat):Bool:=bools fun z0=>bools fun z1=>bools fun z2=>bools fun z3=>bools fun z4=>bools fun z5=>bools fun z6=>bools fun z7=>bools fun z8=>bools fun z9=>bools fun z10=>maskOk fs z0 z1 z2 z3 z4 z5 z6 z7 z8 z9 z10
theorem pW:([1568,252,253,1,2,33,24,412,35,1536,1808,513,546].all maskAll)=true:=by decide +kernel
theorem cJ {fs:Nat} (hfs:fs∈[1568,252,253,1,2,33,24,412,35,1536,1808,513,546]) (z0 z1 z2 z3 z4 z5 z6 z7 z8 z9 z10:Bool):decide (bitsV .andNot .i64 (useU z0 z1 z2 z3 z4 z5 z6 z7 z8 z9 z10) fs=0)=maskB fs z0 z1 z2 z3 z4 z5 z6 z7 z8 z9 z10:=by
 have h:=List.all_eq_true.1 pW fs hfs
 have h1:=ci (ci (ci (ci (ci (ci (ci (ci (ci (ci (ci h z0) z1) z2) z3) z4) z5) z6) z7) z8) z9) z10
 exact eq_of_beq h1
theorem ca (a:ActD):usedV a=useU (seqB a.object ⟨#[]⟩) (seqB a.target ⟨#[]⟩) (decide (a.scope=0)) (seqB a.group ⟨#[]⟩) (decide ((a.to.n:Int)=0)) (seqB a.text ⟨#[]⟩) (boxEq a.body BoxD.zero) (decide (a.epoch=0)) (decide ((a.wraps.n:Int)=0)) (decide (a.n=0)) (decide (a.m=0)):=rfl
theorem lt20 (m:Int):decide (m<20)=decide (m≤19):=decide_eq_decide.2 ae
theorem bC (a:ActD):sealedScopeB a.scope a.group=(decide (1≤a.scope)&&decide (a.scope≤3)&&groupR a):=by
 rw [sealedScopeB,groupR]
 by_cases h2:a.scope=2
 · rw [h2];rfl
 by_cases h1:a.scope=1
 · rw [h1];rfl
 by_cases h3:a.scope=3
 · rw [h3];rfl
 rw [Zn h1,Zn h2,Zn h3]
 by_cases hl:1≤a.scope
 · rw [Zn (show ¬ a.scope≤3 by omega),ZH]
   rfl
 · rw [Zn hl]
   rfl
theorem rD (s:ByteArray) (h:seqB s ⟨#[]⟩=true):decide ((s.size:Int)=32)=false:=by
 rw [dG,ZT] at h
 exact Zn ae
theorem B5 {a:ActD} (h:a.kind=0):ruleB a=(maskB 1568 (seqB a.object ⟨#[]⟩) (seqB a.target ⟨#[]⟩) (decide (a.scope=0)) (seqB a.group ⟨#[]⟩) (decide ((a.to.n:Int)=0)) (seqB a.text ⟨#[]⟩) (boxEq a.body BoxD.zero) (decide (a.epoch=0)) (decide ((a.wraps.n:Int)=0)) (decide (a.n=0)) (decide (a.m=0))&&rule3B a):=by
 have hm:mget (ruleL a) a.kind=some (1568,rule3B a):=by rw [h];rfl
 rw [ruleB,hm]
 simp only
 rw [ca]
 exact congrArg (·&&_) (cJ (fs:=1568) (by decide) _ _ _ _ _ _ _ _ _ _ _)
theorem B4 {a:ActD} (h:a.kind=1):ruleB a=(maskB 252 (seqB a.object ⟨#[]⟩) (seqB a.target ⟨#[]⟩) (decide (a.scope=0)) (seqB a.group ⟨#[]⟩) (decide ((a.to.n:Int)=0)) (seqB a.text ⟨#[]⟩) (boxEq a.body BoxD.zero) (decide (a.epoch=0)) (decide ((a.wraps.n:Int)=0)) (decide (a.n=0)) (decide (a.m=0))&&audienceB a):=by
 have hm:mget (ruleL a) a.kind=some (252,audienceB a):=by rw [h];rfl
 rw [ruleB,hm]
 simp only
 rw [ca]
 exact congrArg (·&&_) (cJ (fs:=252) (by decide) _ _ _ _ _ _ _ _ _ _ _)
theorem B3 {a:ActD} (h:a.kind=2):ruleB a=(maskB 253 (seqB a.object ⟨#[]⟩) (seqB a.target ⟨#[]⟩) (decide (a.scope=0)) (seqB a.group ⟨#[]⟩) (decide ((a.to.n:Int)=0)) (seqB a.text ⟨#[]⟩) (boxEq a.body BoxD.zero) (decide (a.epoch=0)) (decide ((a.wraps.n:Int)=0)) (decide (a.n=0)) (decide (a.m=0))&&rule1B a):=by
 have hm:mget (ruleL a) a.kind=some (253,rule1B a):=by rw [h];rfl
 rw [ruleB,hm]
 simp only
 rw [ca]
 exact congrArg (·&&_) (cJ (fs:=253) (by decide) _ _ _ _ _ _ _ _ _ _ _)
theorem B2 {a:ActD} (h:a.kind=3):ruleB a=(maskB 253 (seqB a.object ⟨#[]⟩) (seqB a.target ⟨#[]⟩) (decide (a.scope=0)) (seqB a.group ⟨#[]⟩) (decide ((a.to.n:Int)=0)) (seqB a.text ⟨#[]⟩) (boxEq a.body BoxD.zero) (decide (a.epoch=0)) (decide ((a.wraps.n:Int)=0)) (decide (a.n=0)) (decide (a.m=0))&&rule1B a):=by
 have hm:mget (ruleL a) a.kind=some (253,rule1B a):=by rw [h];rfl
 rw [ruleB,hm]
 simp only
 rw [ca]
 exact congrArg (·&&_) (cJ (fs:=253) (by decide) _ _ _ _ _ _ _ _ _ _ _)
theorem B1 {a:ActD} (h:a.kind=4):ruleB a=(maskB 1 (seqB a.object ⟨#[]⟩) (seqB a.target ⟨#[]⟩) (decide (a.scope=0)) (seqB a.group ⟨#[]⟩) (decide ((a.to.n:Int)=0)) (seqB a.text ⟨#[]⟩) (boxEq a.body BoxD.zero) (decide (a.epoch=0)) (decide ((a.wraps.n:Int)=0)) (decide (a.n=0)) (decide (a.m=0))&&objectB a):=by
 have hm:mget (ruleL a) a.kind=some (1,objectB a):=by rw [h];rfl
 rw [ruleB,hm]
 simp only
 rw [ca]
 exact congrArg (·&&_) (cJ (fs:=1) (by decide) _ _ _ _ _ _ _ _ _ _ _)
theorem B0 {a:ActD} (h:a.kind=5):ruleB a=(maskB 1 (seqB a.object ⟨#[]⟩) (seqB a.target ⟨#[]⟩) (decide (a.scope=0)) (seqB a.group ⟨#[]⟩) (decide ((a.to.n:Int)=0)) (seqB a.text ⟨#[]⟩) (boxEq a.body BoxD.zero) (decide (a.epoch=0)) (decide ((a.wraps.n:Int)=0)) (decide (a.n=0)) (decide (a.m=0))&&objectB a):=by
 have hm:mget (ruleL a) a.kind=some (1,objectB a):=by rw [h];rfl
 rw [ruleB,hm]
 simp only
 rw [ca]
 exact congrArg (·&&_) (cJ (fs:=1) (by decide) _ _ _ _ _ _ _ _ _ _ _)
theorem BZ {a:ActD} (h:a.kind=6):ruleB a=(maskB 1 (seqB a.object ⟨#[]⟩) (seqB a.target ⟨#[]⟩) (decide (a.scope=0)) (seqB a.group ⟨#[]⟩) (decide ((a.to.n:Int)=0)) (seqB a.text ⟨#[]⟩) (boxEq a.body BoxD.zero) (decide (a.epoch=0)) (decide ((a.wraps.n:Int)=0)) (decide (a.n=0)) (decide (a.m=0))&&objectB a):=by
 have hm:mget (ruleL a) a.kind=some (1,objectB a):=by rw [h];rfl
 rw [ruleB,hm]
 simp only
 rw [ca]
 exact congrArg (·&&_) (cJ (fs:=1) (by decide) _ _ _ _ _ _ _ _ _ _ _)
theorem BY {a:ActD} (h:a.kind=7):ruleB a=(maskB 2 (seqB a.object ⟨#[]⟩) (seqB a.target ⟨#[]⟩) (decide (a.scope=0)) (seqB a.group ⟨#[]⟩) (decide ((a.to.n:Int)=0)) (seqB a.text ⟨#[]⟩) (boxEq a.body BoxD.zero) (decide (a.epoch=0)) (decide ((a.wraps.n:Int)=0)) (decide (a.n=0)) (decide (a.m=0))&&targetB a):=by
 have hm:mget (ruleL a) a.kind=some (2,targetB a):=by rw [h];rfl
 rw [ruleB,hm]
 simp only
 rw [ca]
 exact congrArg (·&&_) (cJ (fs:=2) (by decide) _ _ _ _ _ _ _ _ _ _ _)
theorem BX {a:ActD} (h:a.kind=8):ruleB a=(maskB 2 (seqB a.object ⟨#[]⟩) (seqB a.target ⟨#[]⟩) (decide (a.scope=0)) (seqB a.group ⟨#[]⟩) (decide ((a.to.n:Int)=0)) (seqB a.text ⟨#[]⟩) (boxEq a.body BoxD.zero) (decide (a.epoch=0)) (decide ((a.wraps.n:Int)=0)) (decide (a.n=0)) (decide (a.m=0))&&targetB a):=by
 have hm:mget (ruleL a) a.kind=some (2,targetB a):=by rw [h];rfl
 rw [ruleB,hm]
 simp only
 rw [ca]
 exact congrArg (·&&_) (cJ (fs:=2) (by decide) _ _ _ _ _ _ _ _ _ _ _)
theorem BW {a:ActD} (h:a.kind=9):ruleB a=(maskB 2 (seqB a.object ⟨#[]⟩) (seqB a.target ⟨#[]⟩) (decide (a.scope=0)) (seqB a.group ⟨#[]⟩) (decide ((a.to.n:Int)=0)) (seqB a.text ⟨#[]⟩) (boxEq a.body BoxD.zero) (decide (a.epoch=0)) (decide ((a.wraps.n:Int)=0)) (decide (a.n=0)) (decide (a.m=0))&&targetB a):=by
 have hm:mget (ruleL a) a.kind=some (2,targetB a):=by rw [h];rfl
 rw [ruleB,hm]
 simp only
 rw [ca]
 exact congrArg (·&&_) (cJ (fs:=2) (by decide) _ _ _ _ _ _ _ _ _ _ _)
theorem Af {a:ActD} (h:a.kind=10):ruleB a=(maskB 2 (seqB a.object ⟨#[]⟩) (seqB a.target ⟨#[]⟩) (decide (a.scope=0)) (seqB a.group ⟨#[]⟩) (decide ((a.to.n:Int)=0)) (seqB a.text ⟨#[]⟩) (boxEq a.body BoxD.zero) (decide (a.epoch=0)) (decide ((a.wraps.n:Int)=0)) (decide (a.n=0)) (decide (a.m=0))&&targetB a):=by
 have hm:mget (ruleL a) a.kind=some (2,targetB a):=by rw [h];rfl
 rw [ruleB,hm]
 simp only
 rw [ca]
 exact congrArg (·&&_) (cJ (fs:=2) (by decide) _ _ _ _ _ _ _ _ _ _ _)
theorem Ae {a:ActD} (h:a.kind=11):ruleB a=(maskB 2 (seqB a.object ⟨#[]⟩) (seqB a.target ⟨#[]⟩) (decide (a.scope=0)) (seqB a.group ⟨#[]⟩) (decide ((a.to.n:Int)=0)) (seqB a.text ⟨#[]⟩) (boxEq a.body BoxD.zero) (decide (a.epoch=0)) (decide ((a.wraps.n:Int)=0)) (decide (a.n=0)) (decide (a.m=0))&&targetB a):=by
 have hm:mget (ruleL a) a.kind=some (2,targetB a):=by rw [h];rfl
 rw [ruleB,hm]
 simp only
 rw [ca]
 exact congrArg (·&&_) (cJ (fs:=2) (by decide) _ _ _ _ _ _ _ _ _ _ _)
theorem Ad {a:ActD} (h:a.kind=12):ruleB a=(maskB 33 (seqB a.object ⟨#[]⟩) (seqB a.target ⟨#[]⟩) (decide (a.scope=0)) (seqB a.group ⟨#[]⟩) (decide ((a.to.n:Int)=0)) (seqB a.text ⟨#[]⟩) (boxEq a.body BoxD.zero) (decide (a.epoch=0)) (decide ((a.wraps.n:Int)=0)) (decide (a.n=0)) (decide (a.m=0))&&rule2B a):=by
 have hm:mget (ruleL a) a.kind=some (33,rule2B a):=by rw [h];rfl
 rw [ruleB,hm]
 simp only
 rw [ca]
 exact congrArg (·&&_) (cJ (fs:=33) (by decide) _ _ _ _ _ _ _ _ _ _ _)
theorem Ac {a:ActD} (h:a.kind=13):ruleB a=(maskB 1 (seqB a.object ⟨#[]⟩) (seqB a.target ⟨#[]⟩) (decide (a.scope=0)) (seqB a.group ⟨#[]⟩) (decide ((a.to.n:Int)=0)) (seqB a.text ⟨#[]⟩) (boxEq a.body BoxD.zero) (decide (a.epoch=0)) (decide ((a.wraps.n:Int)=0)) (decide (a.n=0)) (decide (a.m=0))&&objectB a):=by
 have hm:mget (ruleL a) a.kind=some (1,objectB a):=by rw [h];rfl
 rw [ruleB,hm]
 simp only
 rw [ca]
 exact congrArg (·&&_) (cJ (fs:=1) (by decide) _ _ _ _ _ _ _ _ _ _ _)
theorem Ab {a:ActD} (h:a.kind=14):ruleB a=(maskB 253 (seqB a.object ⟨#[]⟩) (seqB a.target ⟨#[]⟩) (decide (a.scope=0)) (seqB a.group ⟨#[]⟩) (decide ((a.to.n:Int)=0)) (seqB a.text ⟨#[]⟩) (boxEq a.body BoxD.zero) (decide (a.epoch=0)) (decide ((a.wraps.n:Int)=0)) (decide (a.n=0)) (decide (a.m=0))&&rule1B a):=by
 have hm:mget (ruleL a) a.kind=some (253,rule1B a):=by rw [h];rfl
 rw [ruleB,hm]
 simp only
 rw [ca]
 exact congrArg (·&&_) (cJ (fs:=253) (by decide) _ _ _ _ _ _ _ _ _ _ _)
theorem Aa {a:ActD} (h:a.kind=15):ruleB a=(maskB 24 (seqB a.object ⟨#[]⟩) (seqB a.target ⟨#[]⟩) (decide (a.scope=0)) (seqB a.group ⟨#[]⟩) (decide ((a.to.n:Int)=0)) (seqB a.text ⟨#[]⟩) (boxEq a.body BoxD.zero) (decide (a.epoch=0)) (decide ((a.wraps.n:Int)=0)) (decide (a.n=0)) (decide (a.m=0))&&rule4B a):=by
 have hm:mget (ruleL a) a.kind=some (24,rule4B a):=by rw [h];rfl
 rw [ruleB,hm]
 simp only
 rw [ca]
 exact congrArg (·&&_) (cJ (fs:=24) (by decide) _ _ _ _ _ _ _ _ _ _ _)
theorem zZ {a:ActD} (h:a.kind=16):ruleB a=(maskB 412 (seqB a.object ⟨#[]⟩) (seqB a.target ⟨#[]⟩) (decide (a.scope=0)) (seqB a.group ⟨#[]⟩) (decide ((a.to.n:Int)=0)) (seqB a.text ⟨#[]⟩) (boxEq a.body BoxD.zero) (decide (a.epoch=0)) (decide ((a.wraps.n:Int)=0)) (decide (a.n=0)) (decide (a.m=0))&&grantB a):=by
 have hm:mget (ruleL a) a.kind=some (412,grantB a):=by rw [h];rfl
 rw [ruleB,hm]
 simp only
 rw [ca]
 exact congrArg (·&&_) (cJ (fs:=412) (by decide) _ _ _ _ _ _ _ _ _ _ _)
theorem zY {a:ActD} (h:a.kind=17):ruleB a=(maskB 35 (seqB a.object ⟨#[]⟩) (seqB a.target ⟨#[]⟩) (decide (a.scope=0)) (seqB a.group ⟨#[]⟩) (decide ((a.to.n:Int)=0)) (seqB a.text ⟨#[]⟩) (boxEq a.body BoxD.zero) (decide (a.epoch=0)) (decide ((a.wraps.n:Int)=0)) (decide (a.n=0)) (decide (a.m=0))&&labelB a):=by
 have hm:mget (ruleL a) a.kind=some (35,labelB a):=by rw [h];rfl
 rw [ruleB,hm]
 simp only
 rw [ca]
 exact congrArg (·&&_) (cJ (fs:=35) (by decide) _ _ _ _ _ _ _ _ _ _ _)
theorem zX {a:ActD} (h:a.kind=18):ruleB a=(maskB 1536 (seqB a.object ⟨#[]⟩) (seqB a.target ⟨#[]⟩) (decide (a.scope=0)) (seqB a.group ⟨#[]⟩) (decide ((a.to.n:Int)=0)) (seqB a.text ⟨#[]⟩) (boxEq a.body BoxD.zero) (decide (a.epoch=0)) (decide ((a.wraps.n:Int)=0)) (decide (a.n=0)) (decide (a.m=0))&&homeB a):=by
 have hm:mget (ruleL a) a.kind=some (1536,homeB a):=by rw [h];rfl
 rw [ruleB,hm]
 simp only
 rw [ca]
 exact congrArg (·&&_) (cJ (fs:=1536) (by decide) _ _ _ _ _ _ _ _ _ _ _)
theorem zW {a:ActD} (h:a.kind=19):ruleB a=(maskB 1808 (seqB a.object ⟨#[]⟩) (seqB a.target ⟨#[]⟩) (decide (a.scope=0)) (seqB a.group ⟨#[]⟩) (decide ((a.to.n:Int)=0)) (seqB a.text ⟨#[]⟩) (boxEq a.body BoxD.zero) (decide (a.epoch=0)) (decide ((a.wraps.n:Int)=0)) (decide (a.n=0)) (decide (a.m=0))&&setupB a):=by
 have hm:mget (ruleL a) a.kind=some (1808,setupB a):=by rw [h];rfl
 rw [ruleB,hm]
 simp only
 rw [ca]
 exact congrArg (·&&_) (cJ (fs:=1808) (by decide) _ _ _ _ _ _ _ _ _ _ _)
theorem zV {a:ActD} (h:a.kind=20):ruleB a=(maskB 1 (seqB a.object ⟨#[]⟩) (seqB a.target ⟨#[]⟩) (decide (a.scope=0)) (seqB a.group ⟨#[]⟩) (decide ((a.to.n:Int)=0)) (seqB a.text ⟨#[]⟩) (boxEq a.body BoxD.zero) (decide (a.epoch=0)) (decide ((a.wraps.n:Int)=0)) (decide (a.n=0)) (decide (a.m=0))&&objectB a):=by
 have hm:mget (ruleL a) a.kind=some (1,objectB a):=by rw [h];rfl
 rw [ruleB,hm]
 simp only
 rw [ca]
 exact congrArg (·&&_) (cJ (fs:=1) (by decide) _ _ _ _ _ _ _ _ _ _ _)
theorem zU {a:ActD} (h:a.kind=21):ruleB a=(maskB 33 (seqB a.object ⟨#[]⟩) (seqB a.target ⟨#[]⟩) (decide (a.scope=0)) (seqB a.group ⟨#[]⟩) (decide ((a.to.n:Int)=0)) (seqB a.text ⟨#[]⟩) (boxEq a.body BoxD.zero) (decide (a.epoch=0)) (decide ((a.wraps.n:Int)=0)) (decide (a.n=0)) (decide (a.m=0))&&rule2B a):=by
 have hm:mget (ruleL a) a.kind=some (33,rule2B a):=by rw [h];rfl
 rw [ruleB,hm]
 simp only
 rw [ca]
 exact congrArg (·&&_) (cJ (fs:=33) (by decide) _ _ _ _ _ _ _ _ _ _ _)
theorem zT {a:ActD} (h:a.kind=22):ruleB a=(maskB 513 (seqB a.object ⟨#[]⟩) (seqB a.target ⟨#[]⟩) (decide (a.scope=0)) (seqB a.group ⟨#[]⟩) (decide ((a.to.n:Int)=0)) (seqB a.text ⟨#[]⟩) (boxEq a.body BoxD.zero) (decide (a.epoch=0)) (decide ((a.wraps.n:Int)=0)) (decide (a.n=0)) (decide (a.m=0))&&rule5B a):=by
 have hm:mget (ruleL a) a.kind=some (513,rule5B a):=by rw [h];rfl
 rw [ruleB,hm]
 simp only
 rw [ca]
 exact congrArg (·&&_) (cJ (fs:=513) (by decide) _ _ _ _ _ _ _ _ _ _ _)
theorem zR {a:ActD} (h:a.kind=23):ruleB a=(maskB 546 (seqB a.object ⟨#[]⟩) (seqB a.target ⟨#[]⟩) (decide (a.scope=0)) (seqB a.group ⟨#[]⟩) (decide ((a.to.n:Int)=0)) (seqB a.text ⟨#[]⟩) (boxEq a.body BoxD.zero) (decide (a.epoch=0)) (decide ((a.wraps.n:Int)=0)) (decide (a.n=0)) (decide (a.m=0))&&rule6B a):=by
 have hm:mget (ruleL a) a.kind=some (546,rule6B a):=by rw [h];rfl
 rw [ruleB,hm]
 simp only
 rw [ca]
 exact congrArg (·&&_) (cJ (fs:=546) (by decide) _ _ _ _ _ _ _ _ _ _ _)
theorem uN {a:ActD} (h:¬ (0≤a.kind∧a.kind≤23)):ruleB a=false:=by
 have hm:mget (ruleL a) a.kind=none:=by
  rw [ruleL]
  rw [mget,show KeyT.eqb a.kind 0=false from Zn ae,ZB]
  rw [mget,show KeyT.eqb a.kind 1=false from Zn ae,ZB]
  rw [mget,show KeyT.eqb a.kind 2=false from Zn ae,ZB]
  rw [mget,show KeyT.eqb a.kind 3=false from Zn ae,ZB]
  rw [mget,show KeyT.eqb a.kind 14=false from Zn ae,ZB]
  rw [mget,show KeyT.eqb a.kind 4=false from Zn ae,ZB]
  rw [mget,show KeyT.eqb a.kind 5=false from Zn ae,ZB]
  rw [mget,show KeyT.eqb a.kind 6=false from Zn ae,ZB]
  rw [mget,show KeyT.eqb a.kind 13=false from Zn ae,ZB]
  rw [mget,show KeyT.eqb a.kind 20=false from Zn ae,ZB]
  rw [mget,show KeyT.eqb a.kind 7=false from Zn ae,ZB]
  rw [mget,show KeyT.eqb a.kind 8=false from Zn ae,ZB]
  rw [mget,show KeyT.eqb a.kind 9=false from Zn ae,ZB]
  rw [mget,show KeyT.eqb a.kind 10=false from Zn ae,ZB]
  rw [mget,show KeyT.eqb a.kind 11=false from Zn ae,ZB]
  rw [mget,show KeyT.eqb a.kind 12=false from Zn ae,ZB]
  rw [mget,show KeyT.eqb a.kind 21=false from Zn ae,ZB]
  rw [mget,show KeyT.eqb a.kind 15=false from Zn ae,ZB]
  rw [mget,show KeyT.eqb a.kind 16=false from Zn ae,ZB]
  rw [mget,show KeyT.eqb a.kind 17=false from Zn ae,ZB]
  rw [mget,show KeyT.eqb a.kind 18=false from Zn ae,ZB]
  rw [mget,show KeyT.eqb a.kind 19=false from Zn ae,ZB]
  rw [mget,show KeyT.eqb a.kind 22=false from Zn ae,ZB]
  rw [mget,show KeyT.eqb a.kind 23=false from Zn ae,ZB]
  rfl
 rw [ruleB,hm]
theorem zS:seqB (⟨#[]⟩:ByteArray) ⟨#[]⟩=true:=by kernel_rfl
theorem zB:boxEq BoxD.zero BoxD.zero=true:=by kernel_rfl
theorem zI:decide ((0:Int)=0)=true:=rfl
theorem zN:decide (((0:Nat):Int)=0)=true:=rfl
theorem k7:Nat.testBit 1 0=true:=by decide +kernel
theorem k0:Nat.testBit 1 1=false:=by decide +kernel
theorem kZ:Nat.testBit 1 2=false:=by decide +kernel
theorem kY:Nat.testBit 1 3=false:=by decide +kernel
theorem kX:Nat.testBit 1 4=false:=by decide +kernel
theorem kW:Nat.testBit 1 5=false:=by decide +kernel
theorem kV:Nat.testBit 1 6=false:=by decide +kernel
theorem kU:Nat.testBit 1 7=false:=by decide +kernel
theorem kT:Nat.testBit 1 8=false:=by decide +kernel
theorem kS:Nat.testBit 1 9=false:=by decide +kernel
theorem io:Nat.testBit 1 10=false:=by decide +kernel
theorem kG:Nat.testBit 2 0=false:=by decide +kernel
theorem kF:Nat.testBit 2 1=true:=by decide +kernel
theorem kE:Nat.testBit 2 2=false:=by decide +kernel
theorem kD:Nat.testBit 2 3=false:=by decide +kernel
theorem kB:Nat.testBit 2 4=false:=by decide +kernel
theorem kA:Nat.testBit 2 5=false:=by decide +kernel
theorem kz:Nat.testBit 2 6=false:=by decide +kernel
theorem ky:Nat.testBit 2 7=false:=by decide +kernel
theorem kx:Nat.testBit 2 8=false:=by decide +kernel
theorem kw:Nat.testBit 2 9=false:=by decide +kernel
theorem im:Nat.testBit 2 10=false:=by decide +kernel
theorem zx:Nat.testBit 24 0=false:=by decide +kernel
theorem zw:Nat.testBit 24 1=false:=by decide +kernel
theorem zu:Nat.testBit 24 2=false:=by decide +kernel
theorem zt:Nat.testBit 24 3=true:=by decide +kernel
theorem zr:Nat.testBit 24 4=true:=by decide +kernel
theorem zq:Nat.testBit 24 5=false:=by decide +kernel
theorem zp:Nat.testBit 24 6=false:=by decide +kernel
theorem zo:Nat.testBit 24 7=false:=by decide +kernel
theorem zn:Nat.testBit 24 8=false:=by decide +kernel
theorem zm:Nat.testBit 24 9=false:=by decide +kernel
theorem xc:Nat.testBit 24 10=false:=by decide +kernel
theorem sz:Nat.testBit 33 0=true:=by decide +kernel
theorem sy:Nat.testBit 33 1=false:=by decide +kernel
theorem sx:Nat.testBit 33 2=false:=by decide +kernel
theorem su:Nat.testBit 33 3=false:=by decide +kernel
theorem sr:Nat.testBit 33 4=false:=by decide +kernel
theorem sj:Nat.testBit 33 5=true:=by decide +kernel
theorem si:Nat.testBit 33 6=false:=by decide +kernel
theorem sf:Nat.testBit 33 7=false:=by decide +kernel
theorem se:Nat.testBit 33 8=false:=by decide +kernel
theorem sd:Nat.testBit 33 9=false:=by decide +kernel
theorem oS:Nat.testBit 33 10=false:=by decide +kernel
theorem zl:Nat.testBit 35 0=true:=by decide +kernel
theorem zk:Nat.testBit 35 1=true:=by decide +kernel
theorem zj:Nat.testBit 35 2=false:=by decide +kernel
theorem zi:Nat.testBit 35 3=false:=by decide +kernel
theorem zg:Nat.testBit 35 4=false:=by decide +kernel
theorem zf:Nat.testBit 35 5=true:=by decide +kernel
theorem ze:Nat.testBit 35 6=false:=by decide +kernel
theorem zd:Nat.testBit 35 7=false:=by decide +kernel
theorem zc:Nat.testBit 35 8=false:=by decide +kernel
theorem zb:Nat.testBit 35 9=false:=by decide +kernel
theorem wR:Nat.testBit 35 10=false:=by decide +kernel
theorem xb:Nat.testBit 252 0=false:=by decide +kernel
theorem xa:Nat.testBit 252 1=false:=by decide +kernel
theorem wZ:Nat.testBit 252 2=true:=by decide +kernel
theorem wY:Nat.testBit 252 3=true:=by decide +kernel
theorem wX:Nat.testBit 252 4=true:=by decide +kernel
theorem wW:Nat.testBit 252 5=true:=by decide +kernel
theorem wV:Nat.testBit 252 6=true:=by decide +kernel
theorem wU:Nat.testBit 252 7=true:=by decide +kernel
theorem wT:Nat.testBit 252 8=false:=by decide +kernel
theorem wS:Nat.testBit 252 9=false:=by decide +kernel
theorem tK:Nat.testBit 252 10=false:=by decide +kernel
theorem kR:Nat.testBit 253 0=true:=by decide +kernel
theorem kQ:Nat.testBit 253 1=false:=by decide +kernel
theorem kP:Nat.testBit 253 2=true:=by decide +kernel
theorem kO:Nat.testBit 253 3=true:=by decide +kernel
theorem kM:Nat.testBit 253 4=true:=by decide +kernel
theorem kL:Nat.testBit 253 5=true:=by decide +kernel
theorem kK:Nat.testBit 253 6=true:=by decide +kernel
theorem kJ:Nat.testBit 253 7=true:=by decide +kernel
theorem kI:Nat.testBit 253 8=false:=by decide +kernel
theorem kH:Nat.testBit 253 9=false:=by decide +kernel
theorem jf:Nat.testBit 253 10=false:=by decide +kernel
theorem wQ:Nat.testBit 412 0=false:=by decide +kernel
theorem wP:Nat.testBit 412 1=false:=by decide +kernel
theorem wO:Nat.testBit 412 2=true:=by decide +kernel
theorem wN:Nat.testBit 412 3=true:=by decide +kernel
theorem wM:Nat.testBit 412 4=true:=by decide +kernel
theorem wL:Nat.testBit 412 5=false:=by decide +kernel
theorem wK:Nat.testBit 412 6=false:=by decide +kernel
theorem wJ:Nat.testBit 412 7=true:=by decide +kernel
theorem wI:Nat.testBit 412 8=true:=by decide +kernel
theorem wH:Nat.testBit 412 9=false:=by decide +kernel
theorem tJ:Nat.testBit 412 10=false:=by decide +kernel
theorem wG:Nat.testBit 513 0=true:=by decide +kernel
theorem wF:Nat.testBit 513 1=false:=by decide +kernel
theorem wE:Nat.testBit 513 2=false:=by decide +kernel
theorem wD:Nat.testBit 513 3=false:=by decide +kernel
theorem wC:Nat.testBit 513 4=false:=by decide +kernel
theorem wB:Nat.testBit 513 5=false:=by decide +kernel
theorem wA:Nat.testBit 513 6=false:=by decide +kernel
theorem wz:Nat.testBit 513 7=false:=by decide +kernel
theorem wy:Nat.testBit 513 8=false:=by decide +kernel
theorem wx:Nat.testBit 513 9=true:=by decide +kernel
theorem tI:Nat.testBit 513 10=false:=by decide +kernel
theorem wv:Nat.testBit 546 0=false:=by decide +kernel
theorem wu:Nat.testBit 546 1=true:=by decide +kernel
theorem wt:Nat.testBit 546 2=false:=by decide +kernel
theorem wr:Nat.testBit 546 3=false:=by decide +kernel
theorem wq:Nat.testBit 546 4=false:=by decide +kernel
theorem wo:Nat.testBit 546 5=true:=by decide +kernel
theorem wm:Nat.testBit 546 6=false:=by decide +kernel
theorem wk:Nat.testBit 546 7=false:=by decide +kernel
theorem wj:Nat.testBit 546 8=false:=by decide +kernel
theorem wi:Nat.testBit 546 9=true:=by decide +kernel
theorem tH:Nat.testBit 546 10=false:=by decide +kernel
theorem up:Nat.testBit 1536 0=false:=by decide +kernel
theorem uo:Nat.testBit 1536 1=false:=by decide +kernel
theorem un:Nat.testBit 1536 2=false:=by decide +kernel
theorem um:Nat.testBit 1536 3=false:=by decide +kernel
theorem ul:Nat.testBit 1536 4=false:=by decide +kernel
theorem uk:Nat.testBit 1536 5=false:=by decide +kernel
theorem uj:Nat.testBit 1536 6=false:=by decide +kernel
theorem ui:Nat.testBit 1536 7=false:=by decide +kernel
theorem ug:Nat.testBit 1536 8=false:=by decide +kernel
theorem uf:Nat.testBit 1536 9=true:=by decide +kernel
theorem qK:Nat.testBit 1536 10=true:=by decide +kernel
theorem ue:Nat.testBit 1568 0=false:=by decide +kernel
theorem ud:Nat.testBit 1568 1=false:=by decide +kernel
theorem uc:Nat.testBit 1568 2=false:=by decide +kernel
theorem ub:Nat.testBit 1568 3=false:=by decide +kernel
theorem ua:Nat.testBit 1568 4=false:=by decide +kernel
theorem tZ:Nat.testBit 1568 5=true:=by decide +kernel
theorem tY:Nat.testBit 1568 6=false:=by decide +kernel
theorem tX:Nat.testBit 1568 7=false:=by decide +kernel
theorem tW:Nat.testBit 1568 8=false:=by decide +kernel
theorem tV:Nat.testBit 1568 9=true:=by decide +kernel
theorem qJ:Nat.testBit 1568 10=true:=by decide +kernel
theorem tU:Nat.testBit 1808 0=false:=by decide +kernel
theorem tT:Nat.testBit 1808 1=false:=by decide +kernel
theorem tS:Nat.testBit 1808 2=false:=by decide +kernel
theorem tR:Nat.testBit 1808 3=false:=by decide +kernel
theorem tQ:Nat.testBit 1808 4=true:=by decide +kernel
theorem tP:Nat.testBit 1808 5=false:=by decide +kernel
theorem tO:Nat.testBit 1808 6=false:=by decide +kernel
theorem tN:Nat.testBit 1808 7=false:=by decide +kernel
theorem tM:Nat.testBit 1808 8=true:=by decide +kernel
theorem tL:Nat.testBit 1808 9=true:=by decide +kernel
theorem qI:Nat.testBit 1808 10=true:=by decide +kernel
theorem Cx {a:ActD} (h:a.kind=0):fitsR a=ruleB a:=by
 rw [B5 h,fitsR,h,By,sS]
 simp only [zeroR,bareA,maskB,zS,zB,zI,zN,ue,ud,uc,ub,ua,tZ,tY,tX,tW,tV,qJ,ZD,ZE,ZJ,ZF,rule1B,rule2B,rule3B,rule4B,rule5B,rule6B,objectB,targetB,homeB,isDigestB,isShortB,withinB,lt20,grantB,setupB,bC]
 ac_rfl
theorem Cv {a:ActD} (h:a.kind=1):fitsR a=ruleB a:=by
 rw [B4 h,fitsR,h,Bx,sR]
 simp only [zeroR,bareA,maskB,zS,zB,zI,zN,xb,xa,wZ,wY,wX,wW,wV,wU,wT,wS,tK,ZD,ZE,ZJ,ZF,rule1B,rule2B,rule3B,rule4B,rule5B,rule6B,objectB,targetB,homeB,isDigestB,isShortB,withinB,lt20,grantB,setupB,bC]
 ac_rfl
theorem Cu {a:ActD} (h:a.kind=2):fitsR a=ruleB a:=by
 rw [B3 h,fitsR,h,Bw,sQ]
 simp only [zeroR,bareA,maskB,zS,zB,zI,zN,kR,kQ,kP,kO,kM,kL,kK,kJ,kI,kH,jf,ZD,ZE,ZJ,ZF,rule1B,rule2B,rule3B,rule4B,rule5B,rule6B,objectB,targetB,homeB,isDigestB,isShortB,withinB,lt20,grantB,setupB,bC]
 ac_rfl
theorem Cs {a:ActD} (h:a.kind=3):fitsR a=ruleB a:=by
 rw [B2 h,fitsR,h,Bv,sP]
 simp only [zeroR,bareA,maskB,zS,zB,zI,zN,kR,kQ,kP,kO,kM,kL,kK,kJ,kI,kH,jf,ZD,ZE,ZJ,ZF,rule1B,rule2B,rule3B,rule4B,rule5B,rule6B,objectB,targetB,homeB,isDigestB,isShortB,withinB,lt20,grantB,setupB,bC]
 ac_rfl
theorem Cq {a:ActD} (h:a.kind=4):fitsR a=ruleB a:=by
 rw [B1 h,fitsR,h,Bu,sO]
 simp only [zeroR,bareA,maskB,zS,zB,zI,zN,k7,k0,kZ,kY,kX,kW,kV,kU,kT,kS,io,ZD,ZE,ZJ,ZF,rule1B,rule2B,rule3B,rule4B,rule5B,rule6B,objectB,targetB,homeB,isDigestB,isShortB,withinB,lt20,grantB,setupB,bC]
 ac_rfl
theorem Cp {a:ActD} (h:a.kind=5):fitsR a=ruleB a:=by
 rw [B0 h,fitsR,h,Bt,sM]
 simp only [zeroR,bareA,maskB,zS,zB,zI,zN,k7,k0,kZ,kY,kX,kW,kV,kU,kT,kS,io,ZD,ZE,ZJ,ZF,rule1B,rule2B,rule3B,rule4B,rule5B,rule6B,objectB,targetB,homeB,isDigestB,isShortB,withinB,lt20,grantB,setupB,bC]
 ac_rfl
theorem Co {a:ActD} (h:a.kind=6):fitsR a=ruleB a:=by
 rw [BZ h,fitsR,h,Bs,sL]
 simp only [zeroR,bareA,maskB,zS,zB,zI,zN,k7,k0,kZ,kY,kX,kW,kV,kU,kT,kS,io,ZD,ZE,ZJ,ZF,rule1B,rule2B,rule3B,rule4B,rule5B,rule6B,objectB,targetB,homeB,isDigestB,isShortB,withinB,lt20,grantB,setupB,bC]
 ac_rfl
theorem Cn {a:ActD} (h:a.kind=7):fitsR a=ruleB a:=by
 rw [BY h,fitsR,h,Br,sK]
 simp only [zeroR,bareA,maskB,zS,zB,zI,zN,kG,kF,kE,kD,kB,kA,kz,ky,kx,kw,im,ZD,ZE,ZJ,ZF,rule1B,rule2B,rule3B,rule4B,rule5B,rule6B,objectB,targetB,homeB,isDigestB,isShortB,withinB,lt20,grantB,setupB,bC]
 ac_rfl
theorem Cm {a:ActD} (h:a.kind=8):fitsR a=ruleB a:=by
 rw [BX h,fitsR,h,Bq,sJ]
 simp only [zeroR,bareA,maskB,zS,zB,zI,zN,kG,kF,kE,kD,kB,kA,kz,ky,kx,kw,im,ZD,ZE,ZJ,ZF,rule1B,rule2B,rule3B,rule4B,rule5B,rule6B,objectB,targetB,homeB,isDigestB,isShortB,withinB,lt20,grantB,setupB,bC]
 ac_rfl
theorem Cl {a:ActD} (h:a.kind=9):fitsR a=ruleB a:=by
 rw [BW h,fitsR,h,Bp,sI]
 simp only [zeroR,bareA,maskB,zS,zB,zI,zN,kG,kF,kE,kD,kB,kA,kz,ky,kx,kw,im,ZD,ZE,ZJ,ZF,rule1B,rule2B,rule3B,rule4B,rule5B,rule6B,objectB,targetB,homeB,isDigestB,isShortB,withinB,lt20,grantB,setupB,bC]
 ac_rfl
theorem AX {a:ActD} (h:a.kind=10):fitsR a=ruleB a:=by
 rw [Af h,fitsR,h,xZ,pE]
 simp only [zeroR,bareA,maskB,zS,zB,zI,zN,kG,kF,kE,kD,kB,kA,kz,ky,kx,kw,im,ZD,ZE,ZJ,ZF,rule1B,rule2B,rule3B,rule4B,rule5B,rule6B,objectB,targetB,homeB,isDigestB,isShortB,withinB,lt20,grantB,setupB,bC]
 ac_rfl
theorem AW {a:ActD} (h:a.kind=11):fitsR a=ruleB a:=by
 rw [Ae h,fitsR,h,xY,pD]
 simp only [zeroR,bareA,maskB,zS,zB,zI,zN,kG,kF,kE,kD,kB,kA,kz,ky,kx,kw,im,ZD,ZE,ZJ,ZF,rule1B,rule2B,rule3B,rule4B,rule5B,rule6B,objectB,targetB,homeB,isDigestB,isShortB,withinB,lt20,grantB,setupB,bC]
 ac_rfl
theorem AV {a:ActD} (h:a.kind=12):fitsR a=ruleB a:=by
 rw [Ad h,fitsR,h,xX,pC]
 simp only [zeroR,bareA,maskB,zS,zB,zI,zN,sz,sy,sx,su,sr,sj,si,sf,se,sd,oS,ZD,ZE,ZJ,ZF,rule1B,rule2B,rule3B,rule4B,rule5B,rule6B,objectB,targetB,homeB,isDigestB,isShortB,withinB,lt20,grantB,setupB,bC]
 ac_rfl
theorem AU {a:ActD} (h:a.kind=13):fitsR a=ruleB a:=by
 rw [Ac h,fitsR,h,xW,pB]
 simp only [zeroR,bareA,maskB,zS,zB,zI,zN,k7,k0,kZ,kY,kX,kW,kV,kU,kT,kS,io,ZD,ZE,ZJ,ZF,rule1B,rule2B,rule3B,rule4B,rule5B,rule6B,objectB,targetB,homeB,isDigestB,isShortB,withinB,lt20,grantB,setupB,bC]
 ac_rfl
theorem AT {a:ActD} (h:a.kind=14):fitsR a=ruleB a:=by
 rw [Ab h,fitsR,h,xV,pA]
 simp only [zeroR,bareA,maskB,zS,zB,zI,zN,kR,kQ,kP,kO,kM,kL,kK,kJ,kI,kH,jf,ZD,ZE,ZJ,ZF,rule1B,rule2B,rule3B,rule4B,rule5B,rule6B,objectB,targetB,homeB,isDigestB,isShortB,withinB,lt20,grantB,setupB,bC]
 ac_rfl
theorem AS {a:ActD} (h:a.kind=15):fitsR a=ruleB a:=by
 rw [Aa h,fitsR,h,xU,pz]
 simp only [zeroR,bareA,maskB,zS,zB,zI,zN,zx,zw,zu,zt,zr,zq,zp,zo,zn,zm,xc,ZD,ZE,ZJ,ZF,rule1B,rule2B,rule3B,rule4B,rule5B,rule6B,objectB,targetB,homeB,isDigestB,isShortB,withinB,lt20,grantB,setupB,bC]
 ac_rfl
theorem AR {a:ActD} (h:a.kind=16):fitsR a=ruleB a:=by
 rw [zZ h,fitsR,h,xT,py]
 simp only [zeroR,bareA,maskB,zS,zB,zI,zN,wQ,wP,wO,wN,wM,wL,wK,wJ,wI,wH,tJ,ZD,ZE,ZJ,ZF,rule1B,rule2B,rule3B,rule4B,rule5B,rule6B,objectB,targetB,homeB,isDigestB,isShortB,withinB,lt20,grantB,setupB,bC]
 ac_rfl
theorem AQ {a:ActD} (h:a.kind=17):fitsR a=ruleB a:=by
 rw [zY h,fitsR,h,xS,px]
 simp only [zeroR,bareA,maskB,zS,zB,zI,zN,zl,zk,zj,zi,zg,zf,ze,zd,zc,zb,wR,ZD,ZE,ZJ,ZF,rule1B,rule2B,rule3B,rule4B,rule5B,rule6B,objectB,targetB,homeB,isDigestB,isShortB,withinB,lt20,grantB,setupB,bC]
 rw [labelB,objectB,targetB,isDigestB]
 cases hz:seqB a.object ⟨#[]⟩ with
 | true =>
  rw [rD _ hz]
  cases isName a.text<;>simp [Bool.and_comm,Bool.and_assoc]
 | false=>cases isName a.text<;>cases decide ((a.object.size:Int)=32)<;>cases seqB a.target ⟨#[]⟩<;>simp [Bool.and_comm,Bool.and_assoc]
theorem AP {a:ActD} (h:a.kind=18):fitsR a=ruleB a:=by
 rw [zX h,fitsR,h,xR,pw]
 simp only [zeroR,bareA,maskB,zS,zB,zI,zN,up,uo,un,um,ul,uk,uj,ui,ug,uf,qK,ZD,ZE,ZJ,ZF,rule1B,rule2B,rule3B,rule4B,rule5B,rule6B,objectB,targetB,homeB,isDigestB,isShortB,withinB,lt20,grantB,setupB,bC]
 ac_rfl
theorem AO {a:ActD} (h:a.kind=19):fitsR a=ruleB a:=by
 rw [zW h,fitsR,h,xQ,pu]
 simp only [zeroR,bareA,maskB,zS,zB,zI,zN,tU,tT,tS,tR,tQ,tP,tO,tN,tM,tL,qI,ZD,ZE,ZJ,ZF,rule1B,rule2B,rule3B,rule4B,rule5B,rule6B,objectB,targetB,homeB,isDigestB,isShortB,withinB,lt20,grantB,setupB,bC]
 ac_rfl
theorem AN {a:ActD} (h:a.kind=20):fitsR a=ruleB a:=by
 rw [zV h,fitsR,h,xP,pt]
 simp only [zeroR,bareA,maskB,zS,zB,zI,zN,k7,k0,kZ,kY,kX,kW,kV,kU,kT,kS,io,ZD,ZE,ZJ,ZF,rule1B,rule2B,rule3B,rule4B,rule5B,rule6B,objectB,targetB,homeB,isDigestB,isShortB,withinB,lt20,grantB,setupB,bC]
 ac_rfl
theorem AM {a:ActD} (h:a.kind=21):fitsR a=ruleB a:=by
 rw [zU h,fitsR,h,xO,pr]
 simp only [zeroR,bareA,maskB,zS,zB,zI,zN,sz,sy,sx,su,sr,sj,si,sf,se,sd,oS,ZD,ZE,ZJ,ZF,rule1B,rule2B,rule3B,rule4B,rule5B,rule6B,objectB,targetB,homeB,isDigestB,isShortB,withinB,lt20,grantB,setupB,bC]
 ac_rfl
theorem AL {a:ActD} (h:a.kind=22):fitsR a=ruleB a:=by
 rw [zT h,fitsR,h,xN,pq]
 simp only [zeroR,bareA,maskB,zS,zB,zI,zN,wG,wF,wE,wD,wC,wB,wA,wz,wy,wx,tI,ZD,ZE,ZJ,ZF,rule1B,rule2B,rule3B,rule4B,rule5B,rule6B,objectB,targetB,homeB,isDigestB,isShortB,withinB,lt20,grantB,setupB,bC]
 ac_rfl
theorem AK {a:ActD} (h:a.kind=23):fitsR a=ruleB a:=by
 rw [zR h,fitsR,h,xM,pp]
 simp only [zeroR,bareA,maskB,zS,zB,zI,zN,wv,wu,wt,wr,wq,wo,wm,wk,wj,wi,tH,ZD,ZE,ZJ,ZF,rule1B,rule2B,rule3B,rule4B,rule5B,rule6B,objectB,targetB,homeB,isDigestB,isShortB,withinB,lt20,grantB,setupB,bC]
 ac_rfl
theorem AJ (a:ActD):fitsR a=ruleB a:=by
 by_cases hk:0≤a.kind∧a.kind≤23
 · rcases mZ hk with h|h|h|h|h|h|h|h|h|h|h|h|h|h|h|h|h|h|h|h|h|h|h|h
   · exact Cx h
   · exact Cv h
   · exact Cu h
   · exact Cs h
   · exact Cq h
   · exact Cp h
   · exact Co h
   · exact Cn h
   · exact Cm h
   · exact Cl h
   · exact AX h
   · exact AW h
   · exact AV h
   · exact AU h
   · exact AT h
   · exact AS h
   · exact AR h
   · exact AQ h
   · exact AP h
   · exact AO h
   · exact AN h
   · exact AM h
   · exact AL h
   · exact AK h
 · rw [uN hk,fitsR,pP hk,ZG]
end Go.Proofs.YtcdilibijnboeaaGreatDoor
