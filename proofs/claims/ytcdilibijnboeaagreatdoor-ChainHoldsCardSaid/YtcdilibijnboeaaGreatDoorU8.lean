/- Joined by program out of: Zw Za Zb Zc Zd Io Jf Ze Bc Ua Ub Uc Ud Pd Pf Pb Pg Nq Nt. -/
import Derived.Test.YtcdilibijnboeaaGreatDoorU7
set_option linter.unusedVariables false
set_option linter.unusedSimpArgs false
namespace Go.Proofs.YtcdilibijnboeaaGreatDoor
open Go Go.Proofs Sy
def quoN (n:Nat):Nat:=if n=0 then 1 else n/3*2+n%3*2/3+1
theorem uH (n:Nat) (hn:n≤1000000):Pu Tryz.prog 81 #[.int .i64 (n:Nat)] (fun _=>True) (.int .i64 (quoN n:Nat)):=by
 refine ay (args:=[_]) _ Tryz.func81 rfl Tryz.ntmps81 rfl fun av bor w0=>?_
 by_cases h0:n=0
 · subst h0
   repeat' (first|apply ab|apply Qu|apply Qv|refine aj ?_|refine ad ?_|refine cB ?_|apply Qx|apply ar|(refine aG (ht:=?_) (hf:=?_);all_goals (intro hx_;first|have:=aP hx_|have:=aS hx_)))
   · exact al (aq rfl rfl) rfl
   · exact absurd this (by decide)
 · have q1:IntKind.i64.wrap ((n:Int).tdiv 3)=((n/3:Nat):Int):=IntWalk.i64_in _ (by show _≤((n/3:Nat):Int)∧((n/3:Nat):Int)≤_;omega)
   have q2:IntKind.i64.wrap (((n/3:Nat):Int)*2)=((n/3*2:Nat):Int):=IntWalk.i64_in _ ae
   have q3:(n:Int).tmod 3=((n%3:Nat):Int):=rfl
   have q4:IntKind.i64.wrap (((n%3:Nat):Int)*2)=((n%3*2:Nat):Int):=IntWalk.i64_in _ ae
   have q5:IntKind.i64.wrap (((n%3*2:Nat):Int).tdiv 3)=((n%3*2/3:Nat):Int):=IntWalk.i64_in _ (by show _≤((n%3*2/3:Nat):Int)∧((n%3*2/3:Nat):Int)≤_;omega)
   have hV:quoN n=n/3*2+n%3*2/3+1:=by rw [quoN,Qg h0]
   have b1:n/3*2≤2*n:=by omega
   have b2:n%3*2/3≤2:=by omega
   rw [hV]
   generalize n/3=x1 at *
   generalize n%3=x2 at *
   generalize x2*2/3=x3 at *
   repeat' (first|refine am (mo rfl rfl (by decide) q1) rfl rfl rfl ?_|refine am (mo rfl rfl (by decide) q5) rfl rfl rfl ?_|refine am (oA rfl rfl q2) rfl rfl rfl ?_|refine am (oA rfl rfl q4) rfl rfl rfl ?_|refine am (oy rfl rfl (by decide) q3) rfl rfl rfl ?_|apply ab|apply Qu|apply Qv|refine aj ?_|refine ad ?_|refine cB ?_|refine be (h:=?_)|apply Qx|apply ar|(refine aG (ht:=?_) (hf:=?_);all_goals (intro hx_;first|have:=aP hx_|have:=aS hx_)))
   all_goals first
    | (exfalso;omega)
    | exact al (aq rfl rfl) (congrArg (Value.int .i64) ae)
def wonB (sv:Nat) (dC:ClaimD→ByteArray) (B:List BallotD) (gn:Int) (c:ClaimD):Bool:=decide (c.gen=gn)&&decide (quoN sv≤(votV (dC c) B).length)
def wonO (sv:Nat) (C:List ClaimD) (dC:ClaimD→ByteArray) (B:List BallotD) (gn:Int):Option ClaimD:=C.find? (wonB sv dC B gn)
structure WonI (C:List ClaimD) (p:ClaimD→Bool) where
 k:Nat
 hk:k≤C.length
 hs:C.find? p=(C.drop k).find? p
set_option maxHeartbeats 4000000 in
theorem Bv (ks ki:SlV) (L:List Int) (I:List ItemD) (au:ByteArray) (gn:Int) (C:List ClaimD) (B:List BallotD) (dC:ClaimD→ByteArray) (hB:B.length≤1000000) (hL:L.length≤1000000)
  (hC:Mk Tryz.prog 82 #[.agg #[ks.v,ki.v],.string au] (fun w=>Items w ki I∧Glob w) (fun u X'=>∃ s:SlV,u=s.v∧∀ w,X' w→Claims w s C))
  (hK:Mk Tryz.prog 194 #[.agg #[ks.v,ki.v],.string au,.int .i64 gn] (fun w=>Items w ki I∧Glob w) (fun u X'=>∃ s:SlV,u=s.v∧∀ w,X' w→Ballots w s B))
  (hD:∀ c∈C,Pu Tryz.prog 14 #[(ofClaimI c).v] Glob (.string (dC c))) :
  Pu Tryz.prog 51 #[.agg #[ks.v,ki.v],.string au,.int .i64 gn] (fun w=>(Ints w ks L∧Items w ki I)∧Glob w) (.tuple #[((wonO L.length C dC B gn).getD ClaimD.zero).v,.bool (wonO L.length C dC B gn).isSome]):=by
 refine ay (args:=[_,_,_]) _ Tryz.func51 rfl Tryz.ntmps51 rfl fun av bor w0=>?_
 refine bI (p:=ks.n=L.length) (fun w h=>h.1.1.len_) fun hkn=>?_
 have hqu:=uH ks.n ae
 rw [wonO]
 have hpd:∀ c,wonB L.length dC B gn c=(decide (c.gen=gn)&&decide (quoN ks.n≤(votV (dC c) B).length)):=fun c=>by rw [hkn];rfl
 generalize wonB L.length dC B gn=p at *
 generalize quoN ks.n=qn at *
 repeat' (first|apply ab|apply Qu|apply Qv|refine aj ?_|refine ad ?_|refine aA ?_|refine az ?_|refine aH ?_|refine aY ?_|refine aM fun _=>?_|refine aN fun _=>?_|apply Qw|(refine ao (hc:=hqu) (hX:=fun _ _=>trivial) ?_)|(refine dA (hc:=hC) (hX:=fun w h=>⟨h.1.2,h.2⟩) fun v1 X1 h1=>?_;obtain ⟨s,rfl,hw⟩:=h1)|fail)
 rename_i b3 b6
 refine bI (p:=s.n=C.length∧s.n≤maxLen∧(0<C.length→s.p.isSome=true)) (fun w h=>⟨by simpa using RowsD.len (hw w h.2),Qq (RowsD.cap (hw w h.2)) (RowsD.max (hw w h.2)),fun h0=>(RowsD.row (hw w h.2) 0 C[0].cells (by simp [Zm h0])).2.1⟩) fun ⟨hsn,hsm,hsp⟩=>?_
 simp only [maxLen] at hsm
 refine aT (ι:=WonI C p) (fun i=>⟨[(1,.string au),(2,.int .i64 gn),(3,.pointer (some ⟨b3,0,none⟩)),(6,.pointer (some ⟨b6,0,none⟩)),(8,.int .i64 (qn:Nat)),(18,s.v),(19,.int .i64 (s.n:Nat)),(20,.int .i64 (i.k:Nat))],[cel b6 51 ClaimD.zero.cells,cel b3 25 [ks.v,ki.v]],fun w=>((Ints w ks L∧Items w ki I)∧Glob w)∧X1 w⟩) (fun i=>C.length-i.k) ⟨0,Nat.zero_le _,rfl⟩ (aw ⟨rfl,rfl,rfl,rfl,rfl,rfl,rfl,rfl,trivial⟩ (aE _) fun _ h=>h) fun i=>?_
 obtain ⟨k,hk,hs⟩:=i
 simp only
 by_cases hlt:k<C.length
 · have hsp':=hsp ae
   obtain ⟨c,hc⟩:∃ c,C[k]?=some c:=⟨_,Zm hlt⟩
   have hcm:=List.mem_of_getElem? hc
   have hdr:C.drop k=c::C.drop (k+1):=by
    rw [List.drop_eq_getElem_cons hlt]
    rw [Zm hlt,Qc] at hc
    rw [hc]
   have hrow:∀ w,((Ints w ks L∧Items w ki I)∧Glob w)∧X1 w→c.cells.length=9∧s.p.isSome=true∧∀ i u,c.cells[i]?=some u→CellAt w s.p (k*9+i) u:=fun w h=>RowsD.row (hw w h.2) k c.cells (by simp [hc])
   have hvo:=tp ks ki I au gn (dC c) B hB hK
   have hdi:=hD c hcm
   have hpc:=hpd c
   generalize votV (dC c) B=V at *
   by_cases hg:c.gen=gn
   · rw [ZA hg,ZD] at hpc
     by_cases hq:qn≤V.length
     · have hF:C.find? p=some c:=by rw [hs,hdr,List.find?_cons,hpc,ZA hq]
       rw [hF]
       repeat' (first|refine am (bK true rfl rfl (ZA ae)) rfl aB rfl ?_|refine am (dQ false rfl rfl (by simp [hg])) rfl aB rfl ?_|refine am (fb true rfl rfl (ZA ae)) rfl aB rfl ?_|apply ab|apply Qu|apply Qv|refine aj ?_|refine ad ?_|refine aA ?_|refine az ?_|refine aH ?_|refine aY ?_|refine aM fun _=>?_|refine aJ ?_|refine Qy ?_|refine Qz ?_|apply Qx|apply Qw|apply ar|(refine bu (q:=k*9) ?_)|(refine co (cs:=c.cells) (hF:=hrow) ?_)|(refine ao (hc:=fg c) (hX:=fun _ _=>trivial) ?_)|(refine ao (hc:=hdi) (hX:=fun w h=>h.1.2) ?_)|(refine dA (hc:=hvo) (hX:=fun w h=>⟨h.1.1.2,h.1.2⟩) fun v2 X2 h2=>?_;obtain ⟨A2,c2,rfl⟩:=h2)|fail)
       all_goals first
        | exact al (dF rfl rfl rfl bX (by rfl)) rfl
     · have hF:C.find? p=(C.drop (k+1)).find? p:=by rw [hs,hdr,List.find?_cons,hpc,Zn hq]
       repeat' (first|refine am (bK true rfl rfl (ZA ae)) rfl aB rfl ?_|refine am (dQ false rfl rfl (by simp [hg])) rfl aB rfl ?_|refine am (fb false rfl rfl (Zn ae)) rfl aB rfl ?_|apply ab|apply Qu|apply Qv|refine aj ?_|refine ad ?_|refine aA ?_|refine az ?_|refine aH ?_|refine aY ?_|refine be (h:=?_)|refine aM fun _=>?_|refine aJ ?_|refine Qy ?_|refine Qz ?_|apply Qx|apply Qw|(refine bu (q:=k*9) ?_)|(refine co (cs:=c.cells) (hF:=hrow) ?_)|(refine ao (hc:=fg c) (hX:=fun _ _=>trivial) ?_)|(refine ao (hc:=hdi) (hX:=fun w h=>h.1.2) ?_)|(refine dA (hc:=hvo) (hX:=fun w h=>⟨h.1.1.2,h.1.2⟩) fun v2 X2 h2=>?_;obtain ⟨A2,c2,rfl⟩:=h2)|fail)
       all_goals first
        | exact ⟨(⟨k+1,hlt,hF⟩:WonI C p),(by show C.length-(k+1)<C.length-k;omega),aw ⟨rfl,rfl,rfl,rfl,rfl,rfl,rfl,rfl,trivial⟩ (.cons _ (aE _)) fun _ h=>h.1⟩
   · have hF:C.find? p=(C.drop (k+1)).find? p:=by rw [hs,hdr,List.find?_cons,hpc,Zn hg,ZG]
     repeat' (first|refine am (bK true rfl rfl (ZA ae)) rfl aB rfl ?_|refine am (dQ true rfl rfl (by simp [hg])) rfl aB rfl ?_|apply ab|apply Qu|apply Qv|refine aj ?_|refine aA ?_|refine az ?_|refine be (h:=?_)|refine aM fun _=>?_|refine aJ ?_|refine Qy ?_|apply Qx|apply Qw|apply aQ|(refine bu (q:=k*9) ?_)|(refine co (cs:=c.cells) (hF:=hrow) ?_)|fail)
     all_goals first
      | exact ⟨(⟨k+1,hlt,hF⟩:WonI C p),(by show C.length-(k+1)<C.length-k;omega),aw ⟨rfl,rfl,rfl,rfl,rfl,rfl,rfl,rfl,trivial⟩ (.cons _ (aE _)) fun _ h=>h⟩
 · have hF:C.find? p=none:=by rw [hs,List.drop_of_length_le (by omega)];rfl
   rw [hF]
   repeat' (first|refine am (bK false rfl rfl (Zn ae)) rfl aB rfl ?_|apply ab|apply Qu|apply Qv|refine ad ?_|refine aJ ?_|refine Qz ?_|apply ar|apply aQ|(refine br (cs:=ClaimD.zero.cells) (hf:=by rfl) ?_)|fail)
   all_goals first
    | exact al (dF rfl rfl rfl bX (by rfl)) rfl
theorem ck {P:Program} {d:Nat} {xs ys:Array Value} {f:Field} {fs:List Field} {a b:Value} {r q:Bool} {w:World}
  (hn:f.name≠ "_") (ha:(part f.type xs f.offset).run P w=.ok a w) (hb:(part f.type ys f.offset).run P w=.ok b w)
  (hr:(Op.equalIn d f.type a b).run P w=.ok r w) (hq:(Op.eqFields d xs ys fs).run P w=.ok q w) :
  (Op.eqFields d xs ys (f::fs)).run P w=.ok (r&&q) w:=by
 rw [Op.eqFields,Qf hn]
 simp only [Sem.run_bind,ha,hb,hr,Result.andThen_ok]
 cases r<;>simp [hq]
theorem gI {P:Program} {d:Nat} {xs ys:Array Value} {w:World}:(Op.eqFields d xs ys []).run P w=.ok true w:=by simp [Op.eqFields]
theorem bw {P:Program} {t:TypeId} {cs:Array Value} {o:Nat} {v:Value} {w:World} [h1:TyOne P t] (hx:cs[o]?=some v):(part t cs o).run P w=.ok v w:=by
 have hag:=(cw (TyOne.out (P:=P) (t:=t)) w).1
 simp [part,hag,hx]
theorem da {P:Program} {d:Nat} {t:TypeId} {k:IntKind} {a b:Int} {w:World} [TyInt P t k]:(Op.equalIn (d+1) t (.int k a) (.int k b)).run P w=.ok (decide (a=b)) w:=by
 rw [run_equalIn_int (P:=P) w d t k k a b TyInt.out]
 congr 1
theorem fj {P:Program} {d:Nat} {t:TypeId} {a b:ByteArray} {w:World} [TyStr P t]:(Op.equalIn (d+1) t (.string a) (.string b)).run P w=.ok (seqB a b) w :=
 run_equalIn_string (P:=P) w d t a b TyStr.out
theorem oQ:Tryz.prog.underlying 44=some (.struct (Tryz.prog.fieldsOf 44)):=by kernel_rfl
theorem qB:Tryz.prog.stoodInHeld 44=false:=by kernel_rfl
theorem wY (w:World):(isAgg 44).run Tryz.prog w=.ok true w:=by kernel_rfl
theorem uk (w:World):(Go.sizeOf 44).run Tryz.prog w=.ok 2 w:=by kernel_rfl
theorem gq {cs:Array Value} {o:Nat} {w:World}:(part 44 cs o).run Tryz.prog w=.ok (.agg (cs.extract o (o+2))) w:=by
 simp [part,wY,uk]
theorem lM {d:Nat} {a b c e:Int} {w:World}:(Op.equalIn (d+2) 44 (.agg #[.int .i64 a,.int .i64 b]) (.agg #[.int .i64 c,.int .i64 e])).run Tryz.prog w=.ok (decide (a=c)&&(decide (b=e)&&true)) w:=by
 rw [run_equalIn_agg w (d+1) _ _ _ oQ qB]
 have hf:(Tryz.prog.fieldsOf 44).toList.map (fun f=>(f.name,f.type,f.offset))=[("E",3,0),("S",3,1)]:=by kernel_rfl
 generalize (Tryz.prog.fieldsOf 44).toList=l at hf
 rcases l with _|⟨⟨n1,t1,o1,_⟩,_|⟨⟨n2,t2,o2,_⟩,_|⟨f3,l⟩⟩⟩
 case cons.cons.nil =>
  simp only [Qt,List.map_nil,List.cons.injEq,Prod.mk.injEq,and_true] at hf
  obtain ⟨⟨rfl,rfl,rfl⟩,rfl,rfl,rfl⟩:=hf
  exact ck (by dsimp only;decide) (bw rfl) (bw rfl) da (ck (by dsimp only;decide) (bw rfl) (bw rfl) da gI)
 all_goals (have:=congrArg List.length hf;simp at this)
def claimEq (a b:ClaimD):Bool:=seqB a.actor b.actor&&(decide (a.base=b.base)&&(seqB a.prev b.prev&&(decide (a.gen=b.gen)&&(decide (a.home=b.home)&&(decide (a.pub=b.pub)&&(decide (a.time=b.time)&&((decide (a.e=b.e)&&(decide (a.s=b.s)&&true))&&true)))))))
theorem lP:Tryz.prog.underlying 51=some (.struct (Tryz.prog.fieldsOf 51)):=by kernel_rfl
theorem mg:Tryz.prog.stoodInHeld 51=false:=by kernel_rfl
theorem mi:Tryz.prog.eqGuardType Tryz.prog.depth 51=false:=by kernel_rfl
theorem oW (w:World) (a b:ClaimD):(Op.equalIn 10000 51 (.agg a.cells.toArray) (.agg b.cells.toArray)).run Tryz.prog w=.ok (claimEq a b) w:=by
 rw [show (10000:Nat)=9999+1 from rfl,run_equalIn_agg w 9999 _ _ _ lP mg]
 have hf:(Tryz.prog.fieldsOf 51).toList.map (fun f=>(f.name,f.type,f.offset))=[("Actor",9,0),("Base",3,1),("Prev",9,2),("Gen",3,3),("Home",3,4),("Public",3,5),("Time",3,6),("Sig",44,7)]:=by kernel_rfl
 generalize (Tryz.prog.fieldsOf 51).toList=l at hf
 rcases l with _|⟨⟨n1,t1,o1,_⟩,_|⟨⟨n2,t2,o2,_⟩,_|⟨⟨n3,t3,o3,_⟩,_|⟨⟨n4,t4,o4,_⟩,_|⟨⟨n5,t5,o5,_⟩,_|⟨⟨n6,t6,o6,_⟩,_|⟨⟨n7,t7,o7,_⟩,_|⟨⟨n8,t8,o8,_⟩,_|⟨g,l⟩⟩⟩⟩⟩⟩⟩⟩⟩
 case cons.cons.cons.cons.cons.cons.cons.cons.nil =>
  simp only [Qt,List.map_nil,List.cons.injEq,Prod.mk.injEq,and_true] at hf
  obtain ⟨⟨rfl,rfl,rfl⟩,⟨rfl,rfl,rfl⟩,⟨rfl,rfl,rfl⟩,⟨rfl,rfl,rfl⟩,⟨rfl,rfl,rfl⟩,⟨rfl,rfl,rfl⟩,⟨rfl,rfl,rfl⟩,rfl,rfl,rfl⟩:=hf
  exact ck (by dsimp only;decide) (bw rfl) (bw rfl) fj (ck (by dsimp only;decide) (bw rfl) (bw rfl) da (ck (by dsimp only;decide) (bw rfl) (bw rfl) fj (ck (by dsimp only;decide) (bw rfl) (bw rfl) da (ck (by dsimp only;decide) (bw rfl) (bw rfl) da (ck (by dsimp only;decide) (bw rfl) (bw rfl) da (ck (by dsimp only;decide) (bw rfl) (bw rfl) da (ck (by dsimp only;decide) gq gq lM (gI))))))))
 all_goals (have:=congrArg List.length hf;simp at this)
theorem lW {N:Nat} {av bor:List Nat} {w0:World} {st:St} {ty t2:TypeId} {x y:Operand} {a b:ClaimD} (hx:ev st.env x=some (.agg a.cells.toArray)) (hy:ev st.env y=some (.agg b.cells.toArray)) :
  Sy.Yields Tryz.prog N av bor w0 st (.binOp .eql 51 x y t2) ty (.bool (claimEq a b)):=Sy.Yields.mk fun A w ok d pos af g=>by
 have h1:=run_eql_struct (P:=Tryz.prog) w 51 a.cells.toArray b.cells.toArray
 rw [oW w a b] at h1
 simp [execOp,ok.eval (st:=st) hx,ok.eval (st:=st) hy,run_eqGuard_agg _ _ _ _ _ _ _ mi,h1]
def ballotEq (a b:BallotD):Bool:=decide (a.server=b.server)&&(seqB a.actor b.actor&&(decide (a.gen=b.gen)&&(seqB a.claim b.claim&&(decide (a.time=b.time)&&((decide (a.e=b.e)&&(decide (a.s=b.s)&&true))&&true)))))
theorem jT:Tryz.prog.underlying 53=some (.struct (Tryz.prog.fieldsOf 53)):=by kernel_rfl
theorem lS:Tryz.prog.stoodInHeld 53=false:=by kernel_rfl
theorem lT:Tryz.prog.eqGuardType Tryz.prog.depth 53=false:=by kernel_rfl
theorem nE (w:World) (a b:BallotD):(Op.equalIn 10000 53 (.agg a.cells.toArray) (.agg b.cells.toArray)).run Tryz.prog w=.ok (ballotEq a b) w:=by
 rw [show (10000:Nat)=9999+1 from rfl,run_equalIn_agg w 9999 _ _ _ jT lS]
 have hf:(Tryz.prog.fieldsOf 53).toList.map (fun f=>(f.name,f.type,f.offset))=[("Server",3,0),("Actor",9,1),("Gen",3,2),("Claim",9,3),("Time",3,4),("Sig",44,5)]:=by kernel_rfl
 generalize (Tryz.prog.fieldsOf 53).toList=l at hf
 rcases l with _|⟨⟨n1,t1,o1,_⟩,_|⟨⟨n2,t2,o2,_⟩,_|⟨⟨n3,t3,o3,_⟩,_|⟨⟨n4,t4,o4,_⟩,_|⟨⟨n5,t5,o5,_⟩,_|⟨⟨n6,t6,o6,_⟩,_|⟨g,l⟩⟩⟩⟩⟩⟩⟩
 case cons.cons.cons.cons.cons.cons.nil =>
  simp only [Qt,List.map_nil,List.cons.injEq,Prod.mk.injEq,and_true] at hf
  obtain ⟨⟨rfl,rfl,rfl⟩,⟨rfl,rfl,rfl⟩,⟨rfl,rfl,rfl⟩,⟨rfl,rfl,rfl⟩,⟨rfl,rfl,rfl⟩,rfl,rfl,rfl⟩:=hf
  exact ck (by dsimp only;decide) (bw rfl) (bw rfl) da (ck (by dsimp only;decide) (bw rfl) (bw rfl) fj (ck (by dsimp only;decide) (bw rfl) (bw rfl) da (ck (by dsimp only;decide) (bw rfl) (bw rfl) fj (ck (by dsimp only;decide) (bw rfl) (bw rfl) da (ck (by dsimp only;decide) gq gq lM (gI))))))
 all_goals (have:=congrArg List.length hf;simp at this)
theorem j5 {N:Nat} {av bor:List Nat} {w0:World} {st:St} {ty t2:TypeId} {x y:Operand} {a b:BallotD} (hx:ev st.env x=some (.agg a.cells.toArray)) (hy:ev st.env y=some (.agg b.cells.toArray)) :
  Sy.Yields Tryz.prog N av bor w0 st (.binOp .eql 53 x y t2) ty (.bool (ballotEq a b)):=Sy.Yields.mk fun A w ok d pos af g=>by
 have h1:=run_eql_struct (P:=Tryz.prog) w 53 a.cells.toArray b.cells.toArray
 rw [nE w a b] at h1
 simp [execOp,ok.eval (st:=st) hx,ok.eval (st:=st) hy,run_eqGuard_agg _ _ _ _ _ _ _ lT,h1]
def keyEq (a b:KeyD):Bool:=decide (a.from_=b.from_)&&(decide (a.public_=b.public_)&&(decide (a.home=b.home)&&true))
theorem oa:Tryz.prog.underlying 35=some (.struct (Tryz.prog.fieldsOf 35)):=by kernel_rfl
theorem pP:Tryz.prog.stoodInHeld 35=false:=by kernel_rfl
theorem pQ:Tryz.prog.eqGuardType Tryz.prog.depth 35=false:=by kernel_rfl
theorem uw (w:World) (a b:KeyD):(Op.equalIn 10000 35 (.agg a.cells.toArray) (.agg b.cells.toArray)).run Tryz.prog w=.ok (keyEq a b) w:=by
 rw [show (10000:Nat)=9999+1 from rfl,run_equalIn_agg w 9999 _ _ _ oa pP]
 have hf:(Tryz.prog.fieldsOf 35).toList.map (fun f=>(f.name,f.type,f.offset))=[("From",3,0),("Public",3,1),("Home",3,2)]:=by kernel_rfl
 generalize (Tryz.prog.fieldsOf 35).toList=l at hf
 rcases l with _|⟨⟨n1,t1,o1,_⟩,_|⟨⟨n2,t2,o2,_⟩,_|⟨⟨n3,t3,o3,_⟩,_|⟨g,l⟩⟩⟩⟩
 case cons.cons.cons.nil =>
  simp only [Qt,List.map_nil,List.cons.injEq,Prod.mk.injEq,and_true] at hf
  obtain ⟨⟨rfl,rfl,rfl⟩,⟨rfl,rfl,rfl⟩,rfl,rfl,rfl⟩:=hf
  exact ck (by dsimp only;decide) (bw rfl) (bw rfl) da (ck (by dsimp only;decide) (bw rfl) (bw rfl) da (ck (by dsimp only;decide) (bw rfl) (bw rfl) da (gI)))
 all_goals (have:=congrArg List.length hf;simp at this)
theorem oB {N:Nat} {av bor:List Nat} {w0:World} {st:St} {ty t2:TypeId} {x y:Operand} {a b:KeyD} (hx:ev st.env x=some (.agg a.cells.toArray)) (hy:ev st.env y=some (.agg b.cells.toArray)) :
  Sy.Yields Tryz.prog N av bor w0 st (.binOp .neq 35 x y t2) ty (.bool (!keyEq a b)):=Sy.Yields.mk fun A w ok d pos af g=>by
 have h1:=run_neq_struct (P:=Tryz.prog) w 35 a.cells.toArray b.cells.toArray
 rw [uw w a b] at h1
 simp [execOp,ok.eval (st:=st) hx,ok.eval (st:=st) hy,run_eqGuard_agg _ _ _ _ _ _ _ pQ,h1]
theorem ei (n l h:Int):Pu Tryz.prog 115 #[.int .i64 n,.int .i64 l,.int .i64 h] (fun _=>True) (.bool (withinB n l h)):=by
 refine ay (args:=[_,_,_]) _ Tryz.func115 rfl Tryz.ntmps115 rfl fun av bor w0=>?_
 repeat' (first|apply ab|apply Qu|apply Qv|refine aj ?_|refine ad ?_|refine aD ?_|refine aF ?_|refine cB ?_|refine aK ?_|apply ar|((fail_if_success (refine aZ ?_));refine aR (ht:=?_) (hf:=?_);all_goals (intro hx_;first|have:=aP hx_|have:=aS hx_))|fail)
 (all_goals (apply al;apply aq;rfl;rfl));all_goals (simp only [withinB, *,ZQ,ZO,ZC,ZB,ZE,ZD,ZH,ZG,ZK,ZI,ZP,ZJ,ZN,ZF];done)
theorem fZ (n:Int):Pu Tryz.prog 117 #[.int .i64 n] (fun _=>True) (.bool (withinB n 0 19)):=by
 refine ay (args:=[_]) _ Tryz.func117 rfl Tryz.ntmps117 rfl fun av bor w0=>?_
 repeat' (first|apply ab|apply Qu|apply Qv|refine aj ?_|refine ad ?_|apply ar|refine ao (hc:=ei _ _ _) ?_|fail)
 all_goals exact al (aq rfl rfl) rfl
theorem gW (n:Int):Pu Tryz.prog 118 #[.int .i64 n] (fun _=>True) (.bool (withinB n 0 1099511627776)):=by
 refine ay (args:=[_]) _ Tryz.func118 rfl Tryz.ntmps118 rfl fun av bor w0=>?_
 repeat' (first|apply ab|apply Qu|apply Qv|refine aj ?_|refine ad ?_|apply ar|refine ao (hc:=ei _ _ _) ?_|fail)
 all_goals exact al (aq rfl rfl) rfl
theorem f0 (s:ByteArray):Pu Tryz.prog 116 #[.string s] (fun _=>True) (.bool (isDigestB s)):=by
 refine ay (args:=[_]) _ Tryz.func116 rfl Tryz.ntmps116 rfl fun av bor w0=>?_
 repeat' (first|apply ab|apply Qu|apply Qv|refine aj ?_|refine ad ?_|refine bR ?_|refine bT ?_|apply ar|fail)
 all_goals exact al (aq rfl rfl) rfl
def sigB (e s:Int):Bool:=withinB e 0 2305843009213693949&&withinB s 0 2305843009213693949
theorem gm (e s:Int):Pu Tryz.prog 119 #[.agg #[.int .i64 e,.int .i64 s]] (fun _=>True) (.bool (sigB e s)):=by
 refine ay (args:=[_]) _ Tryz.func119 rfl Tryz.ntmps119 rfl fun av bor w0=>?_
 repeat' (first|apply ab|apply Qu|apply Qv|refine aj ?_|refine ad ?_|refine aA ?_|refine az ?_|refine aD ?_|refine aF ?_|refine aK ?_|refine aN fun _=>?_|apply ar|refine ao (hc:=ei _ _ _) ?_|((fail_if_success (refine aZ ?_));refine aR (ht:=?_) (hf:=?_);all_goals (intro hx_;skip))|fail)
 (all_goals (apply al;apply aq;rfl;rfl));all_goals (simp only [sigB, *,ZQ,ZO,ZC,ZB,ZE,ZD,ZH,ZG,ZK,ZI,ZP,ZJ,ZN,ZF];done)
def claimR (c:ClaimD):Bool:=isId c.actor&&(withinB c.base 1 1073741824&&(isDigestB c.prev&&(withinB c.gen 0 1073741824&&(withinB c.home 0 19&&(withinB c.pub 1 2305843009213693950&&(withinB c.time 0 1099511627776&&sigB c.e c.s))))))
set_option maxHeartbeats 4000000 in
theorem l4 (c:ClaimD):Pu Tryz.prog 74 #[c.v] (fun _=>True) (.bool (claimR c)):=by
 refine ay (args:=[_]) _ Tryz.func74 rfl Tryz.ntmps74 rfl fun av bor w0=>?_
 repeat' (first|apply ab|apply Qu|apply Qv|refine aj ?_|refine ad ?_|refine aA ?_|refine az ?_|refine aD ?_|refine aF ?_|refine aK ?_|refine aN fun _=>?_|apply ar|refine ao (hc:=fJ _) ?_|refine ao (hc:=ei _ _ _) ?_|refine ao (hc:=f0 _) ?_|refine ao (hc:=fZ _) ?_|refine ao (hc:=gW _) ?_|refine ao (hc:=gm c.e c.s) ?_|(refine aW (vs:=[.int .i64 c.e,.int .i64 c.s]) (hv:=rfl) ?_)|((fail_if_success (refine aZ ?_));refine aR (ht:=?_) (hf:=?_);all_goals (intro hx_;first|have:=aP hx_|have:=aS hx_|skip))|fail)
 (all_goals (apply al;apply aq;rfl;rfl));all_goals (simp only [claimR, *,ZQ,ZO,ZC,ZB,ZE,ZD,ZH,ZG,ZK,ZI,ZP,ZJ,ZN,ZF];done)
def ballotR (b:BallotD):Bool:=withinB b.server 0 19&&(isId b.actor&&(withinB b.gen 0 1073741824&&(isDigestB b.claim&&(withinB b.time 0 1099511627776&&sigB b.e b.s))))
set_option maxHeartbeats 4000000 in
theorem lf (b:BallotD):Pu Tryz.prog 75 #[b.v] (fun _=>True) (.bool (ballotR b)):=by
 refine ay (args:=[_]) _ Tryz.func75 rfl Tryz.ntmps75 rfl fun av bor w0=>?_
 repeat' (first|apply ab|apply Qu|apply Qv|refine aj ?_|refine ad ?_|refine aA ?_|refine az ?_|refine aD ?_|refine aF ?_|refine aK ?_|refine aN fun _=>?_|apply ar|refine ao (hc:=fJ _) ?_|refine ao (hc:=ei _ _ _) ?_|refine ao (hc:=f0 _) ?_|refine ao (hc:=fZ _) ?_|refine ao (hc:=gW _) ?_|refine ao (hc:=gm b.e b.s) ?_|(refine aW (vs:=[.int .i64 b.e,.int .i64 b.s]) (hv:=rfl) ?_)|((fail_if_success (refine aZ ?_));refine aR (ht:=?_) (hf:=?_);all_goals (intro hx_;first|have:=aP hx_|have:=aS hx_|skip))|fail)
 (all_goals (apply al;apply aq;rfl;rfl));all_goals (simp only [ballotR, *,ZQ,ZO,ZC,ZB,ZE,ZD,ZH,ZG,ZK,ZI,ZP,ZJ,ZN,ZF];done)
def plainD (d:DecD):Bool:=decide ((d.to.n:Int)=0)&&decide (d.n=0)
def reasonD (d:DecD):Bool:=decide ((d.text.size:Int)≤500)
def kindA (k:Int):Bool:=decide (k=0)||(decide (k=1)||(decide (k=4)||(decide (k=6)||decide (k=7))))
def kindO (k:Int):Bool:=decide (k=2)||(decide (k=3)||decide (k=5))
def termsB (d:DecD):Bool :=
 bif kindA d.kind then isId d.actor&&(seqB d.object ⟨#[]⟩&&(reasonD d&&plainD d))
 else bif kindO d.kind then seqB d.actor ⟨#[]⟩&&(isDigestB d.object&&(reasonD d&&plainD d))
 else bif decide (d.kind=8) then seqB d.actor ⟨#[]⟩&&(seqB d.object ⟨#[]⟩&&(reasonD d&&(isIds d.toL&&withinB d.n 1 (d.to.n:Nat))))
 else bif decide (d.kind=9) then seqB d.actor ⟨#[]⟩&&(seqB d.object ⟨#[]⟩&&(decide ((d.text.size:Int)≤4096)&&plainD d))
 else false
set_option maxHeartbeats 16000000 in
theorem l3 (d:DecD):Pu Tryz.prog 120 #[d.v] (fun w=>d.at_ w) (.bool (termsB d)):=by
 refine ay (args:=[_]) _ Tryz.func120 rfl Tryz.ntmps120 rfl fun av bor w0=>?_
 have hids:=lC d.to d.toL
 repeat' (first|apply ab|apply Qu|apply Qv|refine aj ?_|refine ad ?_|refine aA ?_|refine az ?_|refine aD ?_|refine aF ?_|refine bR ?_|refine cB ?_|refine cC ?_|refine bT ?_|refine aY ?_|refine aK ?_|refine aN fun _=>?_|refine Qy ?_|apply Qx|apply Qw|apply ar|refine ao (hc:=fJ _) ?_|refine ao (hc:=ei _ _ _) ?_|refine ao (hc:=f0 _) ?_|(refine ao (hc:=hids) (hX:=fun w h=>h) ?_)|((fail_if_success (refine aZ ?_));refine aR (ht:=?_) (hf:=?_);all_goals (intro hx_;first|have:=aP hx_|have:=aS hx_|skip))|(refine aG (ht:=?_) (hf:=?_);all_goals (intro hx_;first|have:=aP hx_|have:=aS hx_)))
 all_goals (apply al;apply aq;rfl;rfl)
 all_goals first
  | rfl
  | (simp_all [termsB,plainD,reasonD,kindA,kindO];done)
  | (simp_all [termsB,plainD,reasonD,kindA,kindO];intros;omega)
def decR (d:DecD):Bool:=withinB d.server 0 19&&(withinB d.number 0 1073741824&&(withinB d.from_ 0 1099511627776&&(withinB d.until_ 0 1099511627776&&(decide (d.from_<d.until_)&&(termsB d&&sigB d.e d.s)))))
set_option maxHeartbeats 4000000 in
theorem iV (d:DecD):Pu Tryz.prog 76 #[d.v] (fun w=>d.at_ w) (.bool (decR d)):=by
 refine ay (args:=[_]) _ Tryz.func76 rfl Tryz.ntmps76 rfl fun av bor w0=>?_
 have hte:=l3 d
 repeat' (first|apply ab|apply Qu|apply Qv|refine aj ?_|refine ad ?_|refine aA ?_|refine az ?_|refine aH ?_|refine aD ?_|refine aF ?_|refine bj ?_|refine aK ?_|refine aN fun _=>?_|apply ar|refine ao (hc:=ei _ _ _) ?_|refine ao (hc:=fZ _) ?_|refine ao (hc:=gW _) ?_|(refine ao (hc:=hte) (hX:=fun w h=>h) ?_)|refine ao (hc:=gm d.e d.s) ?_|(refine aW (vs:=[.int .i64 d.e,.int .i64 d.s]) (hv:=rfl) ?_)|((fail_if_success (refine aZ ?_));refine aR (ht:=?_) (hf:=?_);all_goals (intro hx_;first|have:=aP hx_|have:=aS hx_|skip))|fail)
 (all_goals (apply al;apply aq;rfl;rfl));all_goals (simp only [decR, *,ZQ,ZO,ZC,ZB,ZE,ZD,ZH,ZG,ZK,ZI,ZP,ZJ,ZN,ZF];done)
theorem lL (s:SlV):Pu Tryz.prog 62 #[s.v,.slice none 0 0] (fun _=>True) (.bool (decide ((s.n:Int)=0))):=by
 refine ay (args:=[_,_]) _ Tryz.func62 rfl Tryz.ntmps62 rfl fun av bor w0=>?_
 by_cases h0:s.n=0
 · rw [h0]
   repeat' (first|refine am (dQ false rfl rfl (by rw [h0];rfl)) rfl aB rfl ?_|apply ab|apply Qu|apply Qv|refine aj ?_|refine ad ?_|refine aY ?_|refine Qz ?_|apply Qx|apply Qw|fail)
   refine aT (ι:=Unit) (fun _=>⟨[(12,.int .i64 (s.n:Nat)),(13,.int .i64 0)],[],fun _=>True⟩) (fun _=>0) () (aw ⟨rfl,rfl,trivial⟩ (aE _) fun _ h=>h) fun _=>?_
   repeat' (first|refine am (bK false rfl rfl (by rw [h0];rfl)) rfl aB rfl ?_|apply ab|apply Qu|apply Qv|refine ad ?_|refine Qz ?_|apply ar|apply aQ|fail)
   all_goals exact al (aq rfl rfl) rfl
 · rw [Zn (by omega)]
   repeat' (first|refine am (dQ true rfl rfl (by simp;omega)) rfl aB rfl ?_|apply ab|apply Qu|apply Qv|refine aj ?_|refine ad ?_|refine aY ?_|refine Qy ?_|apply ar|fail)
   all_goals exact al (aq rfl rfl) rfl
theorem rn (s:SlV):Pu Tryz.prog 63 #[s.v,.slice none 0 0] (fun _=>True) (.bool (decide ((s.n:Int)=0))):=by
 refine ay (args:=[_,_]) _ Tryz.func63 rfl Tryz.ntmps63 rfl fun av bor w0=>?_
 by_cases h0:s.n=0
 · rw [h0]
   repeat' (first|refine am (dQ false rfl rfl (by rw [h0];rfl)) rfl aB rfl ?_|apply ab|apply Qu|apply Qv|refine aj ?_|refine ad ?_|refine aY ?_|refine Qz ?_|apply Qx|apply Qw|fail)
   refine aT (ι:=Unit) (fun _=>⟨[(12,.int .i64 (s.n:Nat)),(13,.int .i64 0)],[],fun _=>True⟩) (fun _=>0) () (aw ⟨rfl,rfl,trivial⟩ (aE _) fun _ h=>h) fun _=>?_
   repeat' (first|refine am (bK false rfl rfl (by rw [h0];rfl)) rfl aB rfl ?_|apply ab|apply Qu|apply Qv|refine ad ?_|refine Qz ?_|apply ar|apply aQ|fail)
   all_goals exact al (aq rfl rfl) rfl
 · rw [Zn (by omega)]
   repeat' (first|refine am (dQ true rfl rfl (by simp;omega)) rfl aB rfl ?_|apply ab|apply Qu|apply Qv|refine aj ?_|refine ad ?_|refine aY ?_|refine Qy ?_|apply ar|fail)
   all_goals exact al (aq rfl rfl) rfl
section
variable {P:Program} {N:Nat} {av bor:List Nat} {w0:World} {ops:Array Oper} {rest:List Oper} {kk:St→Prop} {E:Env} {loc:List Res} {X:World→Prop} {n:Nat} {ty t2:TypeId} {pos:String} {af:Array Edge} {g:Option (Nat×Bool)} {bb want:Bool} {x y:Operand}
theorem eF {a b:ClaimD} (h:Sw Tryz.prog N av bor w0 ops rest ⟨(n,.bool (claimEq a b))::E,loc,X⟩ kk) (hx:ev E x=some (.agg a.cells.toArray):=by rfl) (hy:ev E y=some (.agg b.cells.toArray):=by rfl) (hg:gdB ops E g=some (bb,want):=by rfl) (hbb:bb=want:=by exact aB) (hd:Nat.blt n N=true:=by rfl) :
  Sw Tryz.prog N av bor w0 ops (⟨some n,.binOp .eql 51 x y t2,ty,pos,af,g⟩::rest) ⟨E,loc,X⟩ kk:=am (lW hx hy) hg hbb hd h
theorem em {a b:BallotD} (h:Sw Tryz.prog N av bor w0 ops rest ⟨(n,.bool (ballotEq a b))::E,loc,X⟩ kk) (hx:ev E x=some (.agg a.cells.toArray):=by rfl) (hy:ev E y=some (.agg b.cells.toArray):=by rfl) (hg:gdB ops E g=some (bb,want):=by rfl) (hbb:bb=want:=by exact aB) (hd:Nat.blt n N=true:=by rfl) :
  Sw Tryz.prog N av bor w0 ops (⟨some n,.binOp .eql 53 x y t2,ty,pos,af,g⟩::rest) ⟨E,loc,X⟩ kk:=am (j5 hx hy) hg hbb hd h
theorem vt {st:St} {a b c e:Int} (hx:ev st.env x=some (.agg #[.int .i64 a,.int .i64 b])) (hy:ev st.env y=some (.agg #[.int .i64 c,.int .i64 e])) :
  Sy.Yields Tryz.prog N av bor w0 st (.binOp .eql 44 x y t2) ty (.bool (decide (a=c)&&(decide (b=e)&&true))):=Sy.Yields.mk fun A w ok d pos af g=>by
 have h1:=run_eql_struct (P:=Tryz.prog) w 44 #[.int .i64 a,.int .i64 b] #[.int .i64 c,.int .i64 e]
 rw [show (10000:Nat)=9998+2 from rfl,lM] at h1
 have hgu:Tryz.prog.eqGuardType Tryz.prog.depth 44=false:=by kernel_rfl
 simp [execOp,ok.eval (st:=st) hx,ok.eval (st:=st) hy,run_eqGuard_agg _ _ _ _ _ _ _ hgu,h1]
theorem iP {a b c e:Int} (h:Sw Tryz.prog N av bor w0 ops rest ⟨(n,.bool (decide (a=c)&&(decide (b=e)&&true)))::E,loc,X⟩ kk) (hx:ev E x=some (.agg #[.int .i64 a,.int .i64 b]):=by rfl) (hy:ev E y=some (.agg #[.int .i64 c,.int .i64 e]):=by rfl) (hg:gdB ops E g=some (bb,want):=by rfl) (hbb:bb=want:=by exact aB) (hd:Nat.blt n N=true:=by rfl) :
  Sw Tryz.prog N av bor w0 ops (⟨some n,.binOp .eql 44 x y t2,ty,pos,af,g⟩::rest) ⟨E,loc,X⟩ kk:=am (vt hx hy) hg hbb hd h
end
def actZ (a:ActD):Bool:=seqB a.author ⟨#[]⟩&&(decide (a.seq=0)&&(seqB a.prev ⟨#[]⟩&&(decide (a.kind=0)&&(decide (a.time=0)&&(seqB a.object ⟨#[]⟩&&(seqB a.target ⟨#[]⟩&&(decide (a.scope=0)&&(seqB a.group ⟨#[]⟩&&(decide ((a.to.n:Int)=0)&&(seqB a.text ⟨#[]⟩&&(boxEq a.body BoxD.zero&&(decide (a.epoch=0)&&(decide ((a.wraps.n:Int)=0)&&(decide (a.n=0)&&(decide (a.m=0)&&(decide (a.e=0)&&(decide (a.s=0)&&true)))))))))))))))))
set_option maxRecDepth 20000 in
set_option maxHeartbeats 8000000 in
theorem qg (a:ActD):Pu Tryz.prog 30 #[a.v,ActD.zero.v] (fun _=>True) (.bool (actZ a)):=by
 refine ay (args:=[_,_]) _ Tryz.func30 rfl Tryz.ntmps30 rfl fun av bor w0=>?_
 repeat' (first|apply ab|apply Qu|apply Qv|refine aj ?_|refine ad ?_|refine aA ?_|refine az ?_|refine aD ?_|refine aF ?_|refine bR ?_|refine cC ?_|refine aK ?_|refine aN fun _=>?_|apply ar|refine ao (hc:=lL a.to) ?_|refine ao (hc:=rn a.wraps) ?_|(refine ia (a:=a.body) (b:=BoxD.zero) ?_)|(refine iP (a:=a.e) (b:=a.s) (c:=0) (e:=0) ?_)|(refine aW ?_)|((fail_if_success (refine aZ ?_));refine aR (ht:=?_) (hf:=?_);all_goals (intro hx_;first|have:=aP hx_|have:=aS hx_|skip))|fail)
 all_goals refine al (aq rfl rfl) ?_
 all_goals rw [actZ]
 all_goals simp_all [ActD.zero]
def decZ (d:DecD):Bool:=decide (d.server=0)&&(decide (d.number=0)&&(decide (d.kind=0)&&(seqB d.actor ⟨#[]⟩&&(seqB d.object ⟨#[]⟩&&(seqB d.text ⟨#[]⟩&&(decide ((d.to.n:Int)=0)&&(decide (d.n=0)&&(decide (d.from_=0)&&(decide (d.until_=0)&&(decide (d.e=0)&&(decide (d.s=0)&&true)))))))))))
set_option maxRecDepth 20000 in
set_option maxHeartbeats 8000000 in
theorem p8 (d:DecD):Pu Tryz.prog 121 #[d.v,DecD.zero.v] (fun _=>True) (.bool (decZ d)):=by
 refine ay (args:=[_,_]) _ Tryz.func121 rfl Tryz.ntmps121 rfl fun av bor w0=>?_
 repeat' (first|apply ab|apply Qu|apply Qv|refine aj ?_|refine ad ?_|refine aA ?_|refine az ?_|refine aD ?_|refine aF ?_|refine bR ?_|refine cC ?_|refine aK ?_|refine aN fun _=>?_|apply ar|refine ao (hc:=lL d.to) ?_|(refine iP (a:=d.e) (b:=d.s) (c:=0) (e:=0) ?_)|(refine aW (vs:=[.int .i64 d.e,.int .i64 d.s]) (hv:=rfl) ?_)|(refine aW (vs:=[.int .i64 0,.int .i64 0]) (hv:=rfl) ?_)|((fail_if_success (refine aZ ?_));refine aR (ht:=?_) (hf:=?_);all_goals (intro hx_;first|have:=aP hx_|have:=aS hx_|skip))|fail)
 all_goals refine al (aq rfl rfl) ?_
 all_goals rw [decZ]
 all_goals simp_all [DecD.zero]
def sameIZ (i:ItemD):Bool:=decide (i.kind=0)&&(actZ i.act&&(claimEq i.claim ClaimD.zero&&(ballotEq i.ballot BallotD.zero&&decZ i.dec)))
set_option maxRecDepth 20000 in
set_option maxHeartbeats 8000000 in
theorem eU (i:ItemD):Pu Tryz.prog 77 #[i.v,ItemD.zero.v] (fun _=>True) (.bool (sameIZ i)):=by
 refine ay (args:=[_,_]) _ Tryz.func77 rfl Tryz.ntmps77 rfl fun av bor w0=>?_
 repeat' (first|apply ab|apply Qu|apply Qv|refine aj ?_|refine ad ?_|refine aA ?_|refine az ?_|refine aD ?_|refine aF ?_|refine bR ?_|refine aK ?_|refine aN fun _=>?_|apply ar|refine ao (hc:=qg i.act) ?_|refine ao (hc:=p8 i.dec) ?_|(refine eF (a:=i.claim) (b:=ClaimD.zero) ?_)|(refine em (a:=i.ballot) (b:=BallotD.zero) ?_)|(refine aW (vs:=i.act.cells) (hv:=rfl) ?_)|(refine aW (vs:=i.claim.cells) (hv:=rfl) ?_)|(refine aW (vs:=i.ballot.cells) (hv:=rfl) ?_)|(refine aW (vs:=i.dec.cells) (hv:=rfl) ?_)|(refine aW (vs:=ActD.zero.cells) (hv:=rfl) ?_)|(refine aW (vs:=ClaimD.zero.cells) (hv:=rfl) ?_)|(refine aW (vs:=BallotD.zero.cells) (hv:=rfl) ?_)|(refine aW (vs:=DecD.zero.cells) (hv:=rfl) ?_)|((fail_if_success (refine aZ ?_));refine aR (ht:=?_) (hf:=?_);all_goals (intro hx_;first|have:=aP hx_|have:=aS hx_|skip))|fail)
 all_goals refine al (aq rfl rfl) ?_
 all_goals rw [sameIZ]
 all_goals simp_all [ItemD.zero,ofActI]
def textsV (l:List ByteArray):ByteArray:=cats (l.map textV)
structure TxtS (n:Nat) where
 k:Nat
 hk:k≤n
 A:Option Addr
 c:Nat
theorem fC (b:Nat) (A:Option Addr) (c:Nat) (s:ByteArray) (sl:SlV) (l:List ByteArray) (hs:s.size+(textsV l).size≤1099511627776) :
  Ct Tryz.prog 184 #[.pointer (some ⟨b,0,none⟩),sl.v] (bld b A c s) (fun w=>Strs w sl l) fun u R _=>∃ A' c',u=.tuple #[]∧R=bld b A' c' (s++textsV l):=by
 refine cf (args:=[_,_]) _ Tryz.func184 rfl Tryz.ntmps184 rfl fun av bor w0=>?_
 refine bI (p:=sl.n=l.length∧sl.n≤maxLen∧(0<l.length→sl.p.isSome=true)) (fun w h=>⟨h.len_,Qq (RowsD.cap h) (RowsD.max h),h.some_⟩) fun ⟨hn,hm,hp⟩=>?_
 simp only [maxLen] at hm
 repeat' (first|apply ab|apply Qu|apply Qv|refine aj ?_|refine aY ?_|apply Qw|fail)
 have hle:=eH (l.map textV)
 have e0:s++cats ((l.map textV).take 0)=s:=by simp [cats]
 have hs':s.size+(cats (l.map textV)).size≤1099511627776:=hs
 refine aT (ι:=TxtS l.length) (fun i=>⟨[(0,.pointer (some ⟨b,0,none⟩)),(6,sl.v),(7,.int .i64 sl.n),(8,.int .i64 i.k)],bld b i.A i.c (s++cats ((l.map textV).take i.k)),fun w=>Strs w sl l⟩) (fun i=>l.length-i.k) ⟨0,Nat.zero_le _,A,c⟩ (aw ⟨rfl,rfl,rfl,rfl,trivial⟩ (by rw [e0];exact aE _) fun _ h=>h) fun i=>?_
 have hik:=i.hk
 have hout:(s++cats ((l.map textV).take i.k)).size≤1099511627776:=by rw [Zl];have:=hle i.k;omega
 have hout2:(s++cats ((l.map textV).take (i.k+1))).size≤1099511627776:=by rw [Zl];have:=hle (i.k+1);omega
 generalize ho:s++cats ((l.map textV).take i.k)=out at *
 unfold bld
 repeat' (first|apply ab|apply Qu|apply Qv|refine bj ?_|apply Qx|apply Qw|apply aQ|(refine aG (ht:=?_) (hf:=?_);all_goals (intro hx_;first|have:=aP hx_|have:=aS hx_)))
 · have hlt:i.k<l.length:=by omega
   have hp':=hp ae
   obtain ⟨x,hx⟩:∃ x,l[i.k]?=some x:=⟨_,Zm hlt⟩
   have hsucc:=eZ (l.map textV) (k:=i.k) (by simpa using hlt)
   have hget:(l.map textV).getD i.k .empty=textV x:=by simp [hx]
   rw [hget] at hsucc
   have e2:s++cats ((l.map textV).take (i.k+1))=out++textV x:=by rw [hsucc,←ZV,ho]
   have hxs:out.size+(textV x).size≤1099511627776:=by rw [e2,Zl] at hout2;exact hout2
   have hxx:x.size≤1099511627776:=by rw [textV,Zl] at hxs;omega
   repeat' (first|apply ab|refine ad ?_|(refine bu (q:=i.k) ?_)|(refine dD (u:=.string x) (hF:=fun w h=>h.at_ hx) ?_)|fail)
   (refine aU [] (fun _=>True) ak ?_)
   all_goals refine aa 0 ?_<;>refine aa 1 ?_<;>refine aa 2 ?_<;>refine aa 3 ?_<;>refine aa 5 ?_<;>(refine bx 4 6 (h:=?_) (h':=?_);(focus (((refine az ?_);apply ab;refine ai ?_);all_goals ((refine ag 6 ?_;(refine ao (hc:=dH _ ae) ?_);apply ab;refine ai ?_);all_goals (refine ag 7 ?_;(refine aV (size:=1) (z:=.int .u8 0) rfl rfl rfl rfl (fun _=>At.there _ (At.here _)) (fun w G=>ea ae) ae (by simp only [maxLen];omega) rfl ?_ rfl ?_;(with_reducible rfl);intro A1 c1);apply ab;refine ai ?_);all_goals (refine aa 8 ?_);all_goals (refine aa 9 ?_);all_goals (refine ag 10 ?_;(refine bc ?_);apply ab;refine ai ?_);all_goals (refine ax ?_))));rotate_right;(focus (((refine ao (hc:=dH _ ae) ?_);apply ab;refine ai ?_);all_goals ((refine ag 4 ?_;(refine az ?_);apply ab;refine ai ?_);all_goals (refine ag 7 ?_;(refine aV (size:=1) (z:=.int .u8 0) rfl rfl rfl rfl (fun _=>At.there _ (At.here _)) (fun w G=>ea ae) ae (by simp only [maxLen];omega) rfl ?_ rfl ?_;(with_reducible rfl);intro A1 c1);apply ab;refine ai ?_);all_goals (refine aa 8 ?_);all_goals (refine aa 9 ?_);all_goals (refine ag 10 ?_;(refine bc ?_);apply ab;refine ai ?_);all_goals (refine ax ?_)))))<;>(repeat' (first|apply ab|apply Qv|refine aj ?_|refine be (h:=?_)|fail))
   all_goals exact ⟨(⟨i.k+1,hlt,A1,c1⟩:TxtS l.length),(by show l.length-(i.k+1)<l.length-i.k;omega),aw ⟨rfl,rfl,rfl,rfl,trivial⟩ (by
    show List.Sublist (bld b A1 c1 (s++cats ((l.map textV).take (i.k+1)))) _
    rw [e2]
    simp only [bld,Zl,dP,cr]
    exact aE _) fun _ h=>h⟩
 · have hk:i.k=l.length:=by omega
   refine bY (bJ rfl) ⟨i.A,i.c,rfl,?_⟩
   rw [textsV,←ho,hk,List.take_of_length_le (by simp)]
theorem d7 {P:Program} {f:FuncId} {fn:Func} {c:Code} {args:List Value} {pre:List Res} {X:World→Prop} {Post:Value→List Res→(World→Prop)→Prop} (N:Nat)
  (hf:P.funcs[f]?=some fn) (hb:fn.body=some c) (hN:fn.ntmps=N) (hn:Nat.ble args.length N=true)
  (h:∀ av bor w0,Cw P N av bor w0 c ⟨params 0 args,pre,X⟩ (ends P fn N fun u R X'=>∃ R',R'.Sublist R∧Post u R' X')):Ct P f args.toArray pre X Post:=Ct.mk fun w av G=>by
 have h1:=(cf (P:=P) (Post:=fun u R X'=>∃ R',R'.Sublist R∧Post u R' X') N hf hb hN hn h).run w av G
 refine h1.mono fun e w' ⟨u,R,X',he,⟨R',hs,hp⟩,G'⟩=>⟨u,R',X',he,hp,G'.drop hs⟩
def coreCl (c:ClaimD):ByteArray:=textsV [c.actor]++numsV [c.base]++textsV [c.prev]++numsV [c.gen,c.home,c.pub,c.time]
def coreBa (b:BallotD):ByteArray:=numsV [b.server]++textsV [b.actor]++numsV [b.gen]++textsV [b.claim]++numsV [b.time]
def coreDe (d:DecD):ByteArray:=numsV [d.server,d.number,d.kind]++textsV [d.actor,d.object,d.text]++listV d.toL++numsV [d.n,d.from_,d.until_]
structure ClaimD.Lt (c:ClaimD):Prop where
 base:c.base<9223372036854775808
 gen:c.gen<9223372036854775808
 home:c.home<9223372036854775808
 pub:c.pub<9223372036854775808
 time:c.time<9223372036854775808
 e:c.e<9223372036854775808
 s:c.s<9223372036854775808
structure BallotD.Lt (c:BallotD):Prop where
 server:c.server<9223372036854775808
 gen:c.gen<9223372036854775808
 time:c.time<9223372036854775808
 e:c.e<9223372036854775808
 s:c.s<9223372036854775808
structure DecD.Lt (c:DecD):Prop where
 server:c.server<9223372036854775808
 number:c.number<9223372036854775808
 kind:c.kind<9223372036854775808
 n:c.n<9223372036854775808
 from_:c.from_<9223372036854775808
 until_:c.until_<9223372036854775808
 e:c.e<9223372036854775808
 s:c.s<9223372036854775808
set_option maxHeartbeats 8000000 in
theorem mU (b:Nat) (A:Option Addr) (c:Nat) (s:ByteArray) (it:ItemD) (hl:it.claim.Lt) (hs:s.size+(coreCl it.claim).size≤1099511627776) :
  Ct Tryz.prog 110 #[.pointer (some ⟨b,0,none⟩),it.v] (bld b A c s) (fun _=>True) fun u R _=>∃ A' c',u=.tuple #[]∧R=bld b A' c' (s++coreCl it.claim):=by
 refine d7 (args:=[_,_]) _ Tryz.func110 rfl Tryz.ntmps110 rfl fun av bor w0=>?_
 rw [coreCl] at hs ⊢
 simp only [Zl] at hs
 obtain ⟨p0,hp0⟩:∃ p,textsV [it.claim.actor]=p:=⟨_,rfl⟩
 obtain ⟨p1,hp1⟩:∃ p,numsV [it.claim.base]=p:=⟨_,rfl⟩
 obtain ⟨p2,hp2⟩:∃ p,textsV [it.claim.prev]=p:=⟨_,rfl⟩
 obtain ⟨p3,hp3⟩:∃ p,numsV [it.claim.gen,it.claim.home,it.claim.pub,it.claim.time]=p:=⟨_,rfl⟩
 rw [hp0,hp1,hp2,hp3] at hs ⊢
 rw [←ZV,←ZV,←ZV]
 repeat' (first|apply ab|apply Qu|apply Qv|refine aj ?_|refine aA ?_|refine az ?_|refine aM fun _=>?_|refine aN fun _=>?_|refine bU fun _=>?_|refine aJ ?_|(refine aW (vs:=it.claim.cells) (hv:=rfl) ?_)|fail)
 rename_i b3 b4 bs
 refine cq ?_
 refine dB (l:=bld b A c s++[cel b4 51 it.claim.cells,cel b3 57 it.cells]) (by show List.Perm [_,_,_,_] [_,_,_,_];exact (List.perm_append_comm (l₁:=[_,_]) (l₂:=[_,_]))) ?_
 refine cG (pre:=bld b A c (s)) (fr:=[cel b4 51 it.claim.cells,cel b3 57 it.cells]) (hc:=fC b A c (s) ⟨some ⟨bs,0,none⟩,1,1⟩ [it.claim.actor] (by rw [hp0];(try simp only [Zl]);omega)) (hX:=fun w h=>bQ (xs:=[[encB it.claim.actor]]) h.2 rfl (by decide) (by simp)) (h:=?_)
 rintro v R X' ⟨A1,c1,rfl,rfl⟩
 refine cS (X':=(fun _=>True)) (fun w h=>trivial) ?_
 rw [hp0]
 unfold bld
 repeat' (first|apply ab|apply Qu|apply Qv|refine aj ?_|refine aA ?_|refine az ?_|refine bU fun _=>?_|fail)
 rename_i bs
 refine cq ?_
 refine cG (pre:=bld b A1 c1 (s++p0)) (fr:=[cel b4 51 it.claim.cells,cel b3 57 it.cells]) (hc:=ef b A1 c1 (s++p0) ⟨some ⟨bs,0,none⟩,1,1⟩ [it.claim.base] (by simp;exact hl.base) (by rw [hp1];(try simp only [Zl]);omega)) (hX:=fun w h=>bQ (xs:=[[.int .i64 it.claim.base]]) h.2 rfl (by decide) (by simp)) (h:=?_)
 rintro v R X' ⟨A2,c2,rfl,rfl⟩
 refine cS (X':=(fun _=>True)) (fun w h=>trivial) ?_
 rw [hp1]
 unfold bld
 repeat' (first|apply ab|apply Qu|apply Qv|refine aj ?_|refine aA ?_|refine az ?_|refine bU fun _=>?_|fail)
 rename_i bs
 refine cq ?_
 refine cG (pre:=bld b A2 c2 (s++p0++p1)) (fr:=[cel b4 51 it.claim.cells,cel b3 57 it.cells]) (hc:=fC b A2 c2 (s++p0++p1) ⟨some ⟨bs,0,none⟩,1,1⟩ [it.claim.prev] (by rw [hp2];(try simp only [Zl]);omega)) (hX:=fun w h=>bQ (xs:=[[encB it.claim.prev]]) h.2 rfl (by decide) (by simp)) (h:=?_)
 rintro v R X' ⟨A3,c3,rfl,rfl⟩
 refine cS (X':=(fun _=>True)) (fun w h=>trivial) ?_
 rw [hp2]
 unfold bld
 repeat' (first|apply ab|apply Qv|refine aj ?_|refine aA ?_|refine az ?_|refine bU fun _=>?_|fail)
 rename_i bs
 refine cq ?_
 refine cG (pre:=bld b A3 c3 (s++p0++p1++p2)) (fr:=[cel b4 51 it.claim.cells,cel b3 57 it.cells]) (hc:=ef b A3 c3 (s++p0++p1++p2) ⟨some ⟨bs,0,none⟩,4,4⟩ [it.claim.gen,it.claim.home,it.claim.pub,it.claim.time] (by simp;exact ⟨hl.gen,hl.home,hl.pub,hl.time⟩) (by rw [hp3];(try simp only [Zl]);omega)) (hX:=fun w h=>bQ (xs:=[[.int .i64 it.claim.gen],[.int .i64 it.claim.home],[.int .i64 it.claim.pub],[.int .i64 it.claim.time]]) h.2 rfl (by decide) (by simp)) (h:=?_)
 rintro v R X' ⟨A4,c4,rfl,rfl⟩
 refine cS (X':=(fun _=>True)) (fun w h=>trivial) ?_
 rw [hp3]
 repeat' (first|apply ab|fail)
 all_goals exact bY (bJ rfl) ⟨_,List.sublist_append_left _ _,A4,c4,rfl,rfl⟩
set_option maxHeartbeats 8000000 in
theorem rA (b:Nat) (A:Option Addr) (c:Nat) (s:ByteArray) (it:ItemD) (hl:it.ballot.Lt) (hs:s.size+(coreBa it.ballot).size≤1099511627776) :
  Ct Tryz.prog 111 #[.pointer (some ⟨b,0,none⟩),it.v] (bld b A c s) (fun _=>True) fun u R _=>∃ A' c',u=.tuple #[]∧R=bld b A' c' (s++coreBa it.ballot):=by
 refine d7 (args:=[_,_]) _ Tryz.func111 rfl Tryz.ntmps111 rfl fun av bor w0=>?_
 rw [coreBa] at hs ⊢
 simp only [Zl] at hs
 obtain ⟨p0,hp0⟩:∃ p,numsV [it.ballot.server]=p:=⟨_,rfl⟩
 obtain ⟨p1,hp1⟩:∃ p,textsV [it.ballot.actor]=p:=⟨_,rfl⟩
 obtain ⟨p2,hp2⟩:∃ p,numsV [it.ballot.gen]=p:=⟨_,rfl⟩
 obtain ⟨p3,hp3⟩:∃ p,textsV [it.ballot.claim]=p:=⟨_,rfl⟩
 obtain ⟨p4,hp4⟩:∃ p,numsV [it.ballot.time]=p:=⟨_,rfl⟩
 rw [hp0,hp1,hp2,hp3,hp4] at hs ⊢
 rw [←ZV,←ZV,←ZV,←ZV]
 repeat' (first|apply ab|apply Qu|apply Qv|refine aj ?_|refine aA ?_|refine az ?_|refine aM fun _=>?_|refine aN fun _=>?_|refine bU fun _=>?_|refine aJ ?_|(refine aW (vs:=it.ballot.cells) (hv:=rfl) ?_)|fail)
 rename_i b3 b4 bs
 refine cq ?_
 refine dB (l:=bld b A c s++[cel b4 53 it.ballot.cells,cel b3 57 it.cells]) (by show List.Perm [_,_,_,_] [_,_,_,_];exact (List.perm_append_comm (l₁:=[_,_]) (l₂:=[_,_]))) ?_
 refine cG (pre:=bld b A c (s)) (fr:=[cel b4 53 it.ballot.cells,cel b3 57 it.cells]) (hc:=ef b A c (s) ⟨some ⟨bs,0,none⟩,1,1⟩ [it.ballot.server] (by simp;exact hl.server) (by rw [hp0];(try simp only [Zl]);omega)) (hX:=fun w h=>bQ (xs:=[[.int .i64 it.ballot.server]]) h.2 rfl (by decide) (by simp)) (h:=?_)
 rintro v R X' ⟨A1,c1,rfl,rfl⟩
 refine cS (X':=(fun _=>True)) (fun w h=>trivial) ?_
 rw [hp0]
 unfold bld
 repeat' (first|apply ab|apply Qu|apply Qv|refine aj ?_|refine aA ?_|refine az ?_|refine bU fun _=>?_|fail)
 rename_i bs
 refine cq ?_
 refine cG (pre:=bld b A1 c1 (s++p0)) (fr:=[cel b4 53 it.ballot.cells,cel b3 57 it.cells]) (hc:=fC b A1 c1 (s++p0) ⟨some ⟨bs,0,none⟩,1,1⟩ [it.ballot.actor] (by rw [hp1];(try simp only [Zl]);omega)) (hX:=fun w h=>bQ (xs:=[[encB it.ballot.actor]]) h.2 rfl (by decide) (by simp)) (h:=?_)
 rintro v R X' ⟨A2,c2,rfl,rfl⟩
 refine cS (X':=(fun _=>True)) (fun w h=>trivial) ?_
 rw [hp1]
 unfold bld
 repeat' (first|apply ab|apply Qu|apply Qv|refine aj ?_|refine aA ?_|refine az ?_|refine bU fun _=>?_|fail)
 rename_i bs
 refine cq ?_
 refine cG (pre:=bld b A2 c2 (s++p0++p1)) (fr:=[cel b4 53 it.ballot.cells,cel b3 57 it.cells]) (hc:=ef b A2 c2 (s++p0++p1) ⟨some ⟨bs,0,none⟩,1,1⟩ [it.ballot.gen] (by simp;exact hl.gen) (by rw [hp2];(try simp only [Zl]);omega)) (hX:=fun w h=>bQ (xs:=[[.int .i64 it.ballot.gen]]) h.2 rfl (by decide) (by simp)) (h:=?_)
 rintro v R X' ⟨A3,c3,rfl,rfl⟩
 refine cS (X':=(fun _=>True)) (fun w h=>trivial) ?_
 rw [hp2]
 unfold bld
 repeat' (first|apply ab|apply Qu|apply Qv|refine aj ?_|refine aA ?_|refine az ?_|refine bU fun _=>?_|fail)
 rename_i bs
 refine cq ?_
 refine cG (pre:=bld b A3 c3 (s++p0++p1++p2)) (fr:=[cel b4 53 it.ballot.cells,cel b3 57 it.cells]) (hc:=fC b A3 c3 (s++p0++p1++p2) ⟨some ⟨bs,0,none⟩,1,1⟩ [it.ballot.claim] (by rw [hp3];(try simp only [Zl]);omega)) (hX:=fun w h=>bQ (xs:=[[encB it.ballot.claim]]) h.2 rfl (by decide) (by simp)) (h:=?_)
 rintro v R X' ⟨A4,c4,rfl,rfl⟩
 refine cS (X':=(fun _=>True)) (fun w h=>trivial) ?_
 rw [hp3]
 unfold bld
 repeat' (first|apply ab|apply Qv|refine aj ?_|refine aA ?_|refine az ?_|refine bU fun _=>?_|fail)
 rename_i bs
 refine cq ?_
 refine cG (pre:=bld b A4 c4 (s++p0++p1++p2++p3)) (fr:=[cel b4 53 it.ballot.cells,cel b3 57 it.cells]) (hc:=ef b A4 c4 (s++p0++p1++p2++p3) ⟨some ⟨bs,0,none⟩,1,1⟩ [it.ballot.time] (by simp;exact hl.time) (by rw [hp4];(try simp only [Zl]);omega)) (hX:=fun w h=>bQ (xs:=[[.int .i64 it.ballot.time]]) h.2 rfl (by decide) (by simp)) (h:=?_)
 rintro v R X' ⟨A5,c5,rfl,rfl⟩
 refine cS (X':=(fun _=>True)) (fun w h=>trivial) ?_
 rw [hp4]
 repeat' (first|apply ab|fail)
 all_goals exact bY (bJ rfl) ⟨_,List.sublist_append_left _ _,A5,c5,rfl,rfl⟩
set_option maxHeartbeats 8000000 in
theorem oe (b:Nat) (A:Option Addr) (c:Nat) (s:ByteArray) (it:ItemD) (hl:it.dec.Lt) (hs:s.size+(coreDe it.dec).size≤1099511627776) :
  Ct Tryz.prog 112 #[.pointer (some ⟨b,0,none⟩),it.v] (bld b A c s) (fun w=>it.at_ w) fun u R _=>∃ A' c',u=.tuple #[]∧R=bld b A' c' (s++coreDe it.dec):=by
 refine d7 (args:=[_,_]) _ Tryz.func112 rfl Tryz.ntmps112 rfl fun av bor w0=>?_
 rw [coreDe] at hs ⊢
 simp only [Zl] at hs
 obtain ⟨p0,hp0⟩:∃ p,numsV [it.dec.server,it.dec.number,it.dec.kind]=p:=⟨_,rfl⟩
 obtain ⟨p1,hp1⟩:∃ p,textsV [it.dec.actor,it.dec.object,it.dec.text]=p:=⟨_,rfl⟩
 obtain ⟨p2,hp2⟩:∃ p,listV it.dec.toL=p:=⟨_,rfl⟩
 obtain ⟨p3,hp3⟩:∃ p,numsV [it.dec.n,it.dec.from_,it.dec.until_]=p:=⟨_,rfl⟩
 rw [hp0,hp1,hp2,hp3] at hs ⊢
 rw [←ZV,←ZV,←ZV]
 repeat' (first|apply ab|apply Qu|apply Qv|refine aj ?_|refine aA ?_|refine az ?_|refine aM fun _=>?_|refine aN fun _=>?_|refine bU fun _=>?_|refine aJ ?_|(refine aW (vs:=it.dec.cells) (hv:=rfl) ?_)|fail)
 rename_i b3 b4 bs
 refine cq ?_
 refine dB (l:=bld b A c s++[cel b4 55 it.dec.cells,cel b3 57 it.cells]) (by show List.Perm [_,_,_,_] [_,_,_,_];exact (List.perm_append_comm (l₁:=[_,_]) (l₂:=[_,_]))) ?_
 refine cG (pre:=bld b A c (s)) (fr:=[cel b4 55 it.dec.cells,cel b3 57 it.cells]) (hc:=ef b A c (s) ⟨some ⟨bs,0,none⟩,3,3⟩ [it.dec.server,it.dec.number,it.dec.kind] (by simp;exact ⟨hl.server,hl.number,hl.kind⟩) (by rw [hp0];(try simp only [Zl]);omega)) (hX:=fun w h=>bQ (xs:=[[.int .i64 it.dec.server],[.int .i64 it.dec.number],[.int .i64 it.dec.kind]]) h.2 rfl (by decide) (by simp)) (h:=?_)
 rintro v R X' ⟨A1,c1,rfl,rfl⟩
 refine cS (X':=(fun w=>it.at_ w)) (fun w h=>h.1.1) ?_
 rw [hp0]
 unfold bld
 repeat' (first|apply ab|apply Qu|apply Qv|refine aj ?_|refine aA ?_|refine az ?_|refine bU fun _=>?_|fail)
 rename_i bs
 refine cq ?_
 refine cG (pre:=bld b A1 c1 (s++p0)) (fr:=[cel b4 55 it.dec.cells,cel b3 57 it.cells]) (hc:=fC b A1 c1 (s++p0) ⟨some ⟨bs,0,none⟩,3,3⟩ [it.dec.actor,it.dec.object,it.dec.text] (by rw [hp1];(try simp only [Zl]);omega)) (hX:=fun w h=>bQ (xs:=[[encB it.dec.actor],[encB it.dec.object],[encB it.dec.text]]) h.2 rfl (by decide) (by simp)) (h:=?_)
 rintro v R X' ⟨A2,c2,rfl,rfl⟩
 refine cS (X':=(fun w=>it.at_ w)) (fun w h=>h.1.1) ?_
 rw [hp1]
 have hli:=sL it.dec.to it.dec.toL (by rw [hp2];omega)
 rw [hp2] at hli
 unfold bld
 have hsz:(s++p0++p1).size+p2.size≤1099511627776:=by simp only [Zl];omega
 generalize hgo:s++p0++p1=out at *
 have hos:out.size=s.size+p0.size+p1.size:=by rw [←hgo];simp only [Zl]
 repeat' (first|apply ab|apply Qu|fail)
 simp only [Qa,Qb]
 (refine aU [cel b4 55 it.dec.cells] (fun w=>it.at_ w) ak ?_)
 all_goals refine aa 0 ?_<;>refine aa 1 ?_<;>refine aa 2 ?_<;>refine aa 3 ?_<;>refine aa 5 ?_<;>refine aa 6 ?_<;>(refine bx 4 7 (h:=?_) (h':=?_);(focus (((refine az ?_);apply ab;refine ai ?_);all_goals ((refine ag 7 ?_;(refine ao (hc:=hli) (hX:=fun w h=>h.2) ?_);apply ab;refine ai ?_);all_goals (refine ag 8 ?_;(refine aV (size:=1) (z:=.int .u8 0) rfl rfl rfl rfl (fun _=>At.there _ (At.here _)) (fun w G=>ea ae) ae (by simp only [maxLen];omega) rfl ?_ rfl ?_;(with_reducible rfl);intro A3 c3);apply ab;refine ai ?_);all_goals (refine aa 9 ?_);all_goals (refine aa 10 ?_);all_goals (refine ag 11 ?_;(refine bc ?_);apply ab;refine ai ?_);all_goals (refine ax ?_))));rotate_right;(focus (((refine ao (hc:=hli) (hX:=fun w h=>h.2) ?_);apply ab;refine ai ?_);all_goals ((refine ag 4 ?_;(refine az ?_);apply ab;refine ai ?_);all_goals (refine ag 8 ?_;(refine aV (size:=1) (z:=.int .u8 0) rfl rfl rfl rfl (fun _=>At.there _ (At.here _)) (fun w G=>ea ae) ae (by simp only [maxLen];omega) rfl ?_ rfl ?_;(with_reducible rfl);intro A3 c3);apply ab;refine ai ?_);all_goals (refine aa 9 ?_);all_goals (refine aa 10 ?_);all_goals (refine ag 11 ?_;(refine bc ?_);apply ab;refine ai ?_);all_goals (refine ax ?_)))))
 all_goals
  have eb:bld b A3 c3 (out++p2)=[cel b 121 ([(.slice A2 out.size c2:Value)].set 0 (.slice A3 (out.size+p2.size) c3)),orow 5 1 (.slice A3 (out.size+p2.size) c3) (out.size+p2.size) (u8s (bytesI out)++u8s (bytesI p2))]:=by simp [bld,Zl,dP,cr]
  repeat' (first|apply Qv|refine aj ?_|refine aA ?_|refine az ?_|refine bU fun _=>?_|fail)
  rename_i bs
  refine cq ?_
  refine dB (l:=bld b A3 c3 (out++p2)++[cel b4 55 it.dec.cells,cel b3 57 it.cells]) (by rw [eb];exact List.Perm.refl _) ?_
  refine cG (pre:=bld b A3 c3 (out++p2)) (fr:=[cel b4 55 it.dec.cells,cel b3 57 it.cells]) (hc:=ef b A3 c3 (out++p2) ⟨some ⟨bs,0,none⟩,3,3⟩ [it.dec.n,it.dec.from_,it.dec.until_] (by simp;exact ⟨hl.n,hl.from_,hl.until_⟩) (by rw [hp3];(try simp only [Zl]);omega)) (hX:=fun w h=>bQ (xs:=[[.int .i64 it.dec.n],[.int .i64 it.dec.from_],[.int .i64 it.dec.until_]]) h.2 rfl (by decide) (by simp)) (h:=?_)
  rintro v R X' ⟨A4,c4,rfl,rfl⟩
  refine cS (X':=(fun w=>it.at_ w)) (fun w h=>h.1.1) ?_
  rw [hp3]
  repeat' (first|apply ab|fail)
  all_goals exact bY (bJ rfl) ⟨_,List.sublist_append_left _ _,A4,c4,rfl,rfl⟩
def ordV (n:Int):Bool:=decide (0≤n)&&decide (n<2305843009213693950)
theorem lB (n:Int):Pu Tryz.prog 89 #[.int .i64 n] (fun _=>True) (.bool (ordV n)):=by
 refine ay (args:=[_]) _ Tryz.func89 rfl Tryz.ntmps89 rfl fun av bor w0=>?_
 repeat' (first|apply ab|apply Qu|apply Qv|refine aj ?_|refine ad ?_|refine aD ?_|refine aF ?_|refine bj ?_|refine cZ ?_|refine aK ?_|apply ar|((fail_if_success (refine aZ ?_));refine aR (ht:=?_) (hf:=?_);all_goals (intro hx_;first|have:=aP hx_|have:=aS hx_))|fail)
 (all_goals (apply al;apply aq;rfl;rfl));all_goals (simp only [ordV, *,ZQ,ZO,ZC,ZB,ZE,ZD,ZH,ZG,ZK,ZI,ZP,ZJ,ZN,ZF];done)
def verN (p:Int) (msg:ByteArray) (e s:Int):Bool :=
 bif decide (p<1)||decide (2305843009213693951≤p)||!ordV e||!ordV s then false
 else decide (e=(chalN (expV 37 s.toNat * expV p.toNat (2305843009213693950-e.toNat)%2305843009213693951) p.toNat msg:Nat))
set_option maxHeartbeats 4000000 in
theorem mu (p:Int) (msg:ByteArray) (e s:Int) (hm:msg.size≤1000000000000):Pu Tryz.prog 55 #[.int .i64 p,.string msg,(SgD.v ⟨e,s⟩)] Glob (.bool (verN p msg e s)):=by
 refine ay (args:=[_,_,_]) _ Tryz.func55 rfl Tryz.ntmps55 rfl fun av bor w0=>?_
 have hoe:=lB e
 have hos:=lB s
 cases hbad:(decide (p<1)||decide (2305843009213693951≤p)||!ordV e||!ordV s) with
 | true =>
  rw [show verN p msg e s=false from by rw [verN,hbad];rfl]
  repeat' (first|apply ab|apply Qu|apply Qv|refine aj ?_|refine ad ?_|refine aA ?_|refine az ?_|refine aD ?_|refine aF ?_|refine bN ?_|refine bj ?_|refine cZ ?_|refine cb ?_|refine aN fun _=>?_|refine Qy ?_|apply Qx|apply ar|(refine ao (hc:=hoe) (hX:=fun _ _=>trivial) ?_)|(refine ao (hc:=hos) (hX:=fun _ _=>trivial) ?_)|((fail_if_success (refine aZ ?_));refine aR (ht:=?_) (hf:=?_);all_goals (intro hx_;first|have:=aP hx_|have:=aS hx_|skip))|(refine aG (ht:=?_) (hf:=?_);all_goals (intro hx_;skip)))
  all_goals first
   | (apply al;apply aq;rfl;rfl;rfl)
   | (exfalso;simp_all;done)
 | false =>
  have hb:=hbad
  simp only [Bool.or_eq_false_iff,decide_eq_false_iff_not,Bool.not_eq_false'] at hb
  obtain ⟨⟨⟨h1,h2⟩,h3⟩,h4⟩:=hb
  have h3':=h3
  have h4':=h4
  simp only [ordV,ZM,ZT] at h3' h4'
  rw [h3] at hoe
  rw [h4] at hos
  obtain ⟨pn,rfl⟩:∃ n:Nat,p=(n:Int):=⟨p.toNat,by omega⟩
  obtain ⟨en,rfl⟩:∃ n:Nat,e=(n:Int):=⟨e.toNat,by omega⟩
  obtain ⟨sn,rfl⟩:∃ n:Nat,s=(n:Int):=⟨s.toNat,by omega⟩
  obtain ⟨d,hd⟩:∃ d,2305843009213693950-en=d:=⟨_,rfl⟩
  have hsub:IntKind.i64.wrap ((2305843009213693950:Int)-(en:Int))=(d:Int):=by
   rw [show (2305843009213693950:Int)-(en:Int)=(d:Int) from by omega]
   exact IntWalk.i64_in _ ae
  have he1:=yg 37 sn ae
  have he2:=yg pn d ae
  obtain ⟨x1,hx1⟩:∃ x,expV 37 sn=x:=⟨_,rfl⟩
  obtain ⟨x2,hx2⟩:∃ x,expV pn d=x:=⟨_,rfl⟩
  rw [hx1] at he1
  rw [hx2] at he2
  have hmu:=rE x1 x2
  obtain ⟨r,hr⟩:∃ r,x1*x2%2305843009213693951=r:=⟨_,rfl⟩
  have hrl:r<2305843009213693951:=by rw [←hr];exact Nat.mod_lt _ (by decide)
  rw [hr] at hmu
  have hch:=AT r pn msg ae ae hm
  have hV:verN (pn:Int) msg (en:Int) (sn:Int)=decide (((en:Nat):Int)=(chalN r pn msg:Nat)):=by
   rw [verN,hbad,ZB,Qr,Qr,Qr,hd,hx1,hx2,hr]
  rw [hV]
  have hbg:¬ (2305843009213693951:Int)≤(pn:Int):=h2
  have hbl:¬ (pn:Int)<1:=h1
  clear hbad hV hr hx1 hx2 hd
  generalize hcn:chalN r pn msg=cn at hch
  repeat' (first|refine am (bK false rfl rfl (Zn hbl)) rfl aB rfl ?_|refine am (fb false rfl rfl (Zn hbg)) rfl aB rfl ?_|apply ab|apply Qu|apply Qv|refine aj ?_|refine ad ?_|refine aA ?_|refine az ?_|refine aF ?_|refine bN ?_|refine aN fun _=>?_|refine Qz ?_|apply Qx|(refine ao (hc:=hoe) (hX:=fun _ _=>trivial) ?_)|(refine ao (hc:=hos) (hX:=fun _ _=>trivial) ?_)|fail)
  rename_i bs
  (refine aU [cel bs 44 (SgD.cells ⟨(en:Int),(sn:Int)⟩)] Glob ak ?_)
  all_goals refine aa 0 ?_<;>refine aa 1 ?_<;>refine aa 3 ?_<;>refine aa 4 ?_<;>refine aa 5 ?_<;>(refine aa 6 (hy:=by (apply mn (c:=(d:Int));rfl;rfl;exact hsub)) ?_)<;>(refine ag 2 ?_;(refine ao (hc:=he1) (hX:=fun _ h=>by trivial) ?_);apply ab;refine ai ?_)<;>(refine ag 7 ?_;(refine ao (hc:=he2) (hX:=fun _ h=>by trivial) ?_);apply ab;refine ai ?_)<;>(refine ag 8 ?_;(refine ao (hc:=hmu) (hX:=fun _ h=>by trivial) ?_);apply ab;refine ai ?_)<;>refine aa 9 ?_<;>(refine ax ?_)
  all_goals
   repeat' (first|apply Qu|fail)
   (refine aU [cel bs 44 (SgD.cells ⟨(en:Int),(sn:Int)⟩)] Glob ak ?_)
   all_goals refine aa 0 ?_<;>refine aa 1 ?_<;>refine aa 2 ?_<;>refine aa 3 ?_<;>refine aa 4 ?_<;>(refine ag 5 ?_;(refine ao (hc:=hch) (hX:=fun _ h=>h) ?_);apply ab;refine ai ?_)<;>refine aa 6 ?_<;>refine aa 7 ?_<;>(refine ax ?_)
   all_goals
    repeat' (first|apply ar|fail)
    exact al (aq rfl rfl) rfl
def verV (p:Int) (a:ActD):Bool:=rightB a&&verN p (actCore a) a.e a.s
theorem iK (p:Int) (a:ActD) (hr:a.Rng):Pu Tryz.prog 24 #[.int .i64 p,a.v] (fun w=>a.at_ w∧Glob w) (.bool (verV p a)):=by
 refine ay (args:=[_,_]) _ Tryz.func24 rfl Tryz.ntmps24 rfl fun av bor w0=>?_
 have hri:=ew a
 cases hR:rightB a with
 | false =>
  rw [hR] at hri
  rw [show verV p a=false from by rw [verV,hR];rfl]
  repeat' (first|apply ab|apply Qu|apply Qv|refine ad ?_|refine aN fun _=>?_|fail)
  rename_i b3
  (refine aU [cel b3 46 a.cells] (fun w=>a.at_ w∧Glob w) ak ?_)
  all_goals refine aa 0 ?_<;>(refine ag 1 ?_;(refine ao (hc:=hri) (hX:=fun _ h=>h.1) ?_);apply ab;refine ai ?_)<;>refine aa 2 ?_<;>refine aC 3 ?_<;>refine aC 4 ?_<;>refine aC 6 ?_<;>refine aC 7 ?_<;>(refine ag 5 ?_;(refine aK ?_);apply ab;refine ai ?_)<;>(refine ag 8 ?_;(refine aK ?_);apply ab;refine ai ?_)<;>refine aa 9 ?_<;>refine aa 10 ?_<;>(refine ax ?_)
  all_goals
   repeat' (first|apply ar|fail)
   exact al (aq rfl rfl) rfl
 | true =>
  rw [hR] at hri
  have hco:=tc a (d6 hr)
  have hsz:=gb (d6 hr hR)
  rw [hR,ZC] at hco
  have hve:=mu p (coreV a) a.e a.s ae
  have hV:verV p a=verN p (coreV a) a.e a.s:=by rw [verV,actCore,hR];rfl
  rw [hV]
  generalize verN p (coreV a) a.e a.s=V at *
  repeat' (first|apply ab|apply Qu|apply Qv|refine ad ?_|refine aN fun _=>?_|fail)
  rename_i b3
  (refine aU [cel b3 46 a.cells] (fun w=>a.at_ w∧Glob w) ak ?_)
  all_goals refine aa 0 ?_<;>(refine ag 1 ?_;(refine ao (hc:=hri) (hX:=fun _ h=>h.1) ?_);apply ab;refine ai ?_)<;>refine aa 2 ?_<;>refine aa 3 ?_<;>refine aa 4 ?_<;>refine aa 6 ?_<;>(refine aa 7 (hy:=by (apply cF (vs:=SgD.cells ⟨a.e,a.s⟩);rfl;exact .head _;rfl;rfl)) ?_)<;>(refine ag 5 ?_;(refine ao (hc:=hco) (hX:=fun _ h=>h.1) ?_);apply ab;refine ai ?_)<;>(refine ag 8 ?_;(refine ao (hc:=hve) (hX:=fun _ h=>h.2) ?_);apply ab;refine ai ?_)<;>refine aa 9 ?_<;>refine aa 10 ?_<;>(refine ax ?_)
  all_goals
   repeat' (first|apply ar|fail)
   exact al (aq rfl rfl) rfl
def rightK2 (i:ItemD):Bool:=bif decide (i.kind=0) then rightB i.act else bif decide (i.kind=1) then claimR i.claim else bif decide (i.kind=2) then ballotR i.ballot else bif decide (i.kind=3) then decR i.dec else false
def restI (i:ItemD):ItemD:=bif decide (i.kind=0) then ⟨0,ActD.zero,i.claim,i.ballot,i.dec⟩ else bif decide (i.kind=1) then ⟨0,i.act,ClaimD.zero,i.ballot,i.dec⟩ else bif decide (i.kind=2) then ⟨0,i.act,i.claim,BallotD.zero,i.dec⟩ else bif decide (i.kind=3) then ⟨0,i.act,i.claim,i.ballot,DecD.zero⟩ else ⟨0,i.act,i.claim,i.ballot,i.dec⟩
def rightIt (i:ItemD):Bool:=rightK2 i&&sameIZ (restI i)
set_option maxRecDepth 20000 in
set_option maxHeartbeats 16000000 in
theorem gN (i:ItemD):Pu Tryz.prog 44 #[i.v] (fun w=>i.at_ w) (.bool (rightIt i)):=by
 refine ay (args:=[_]) _ Tryz.func44 rfl Tryz.ntmps44 rfl fun av bor w0=>?_
 by_cases h0:i.kind=0
 · have hri:=ew i.act
   have hsa:=eU ⟨0,ActD.zero,i.claim,i.ballot,i.dec⟩
   have e:rightIt i=(rightB i.act&&sameIZ ⟨0,ActD.zero,i.claim,i.ballot,i.dec⟩):=by simp [rightIt,rightK2,restI,h0]
   rw [e]
   generalize rightB i.act=rb at *
   generalize sameIZ ⟨0,ActD.zero,i.claim,i.ballot,i.dec⟩=sb at *
   repeat' (first|refine bm (hab:=by omega) ?_|apply ab|apply Qu|apply Qv|refine aj ?_|refine ad ?_|refine aA ?_|refine az ?_|refine aH ?_|refine aD ?_|refine aF ?_|refine aK ?_|refine aM fun _=>?_|refine aN fun _=>?_|refine bc ?_|refine aJ ?_|refine Qy ?_|apply Qw|apply ar|(refine br (cs:=ActD.zero.cells) (hf:=by rfl) ?_)|(refine ao (hc:=hri) (hX:=fun w h=>h.1) ?_)|(refine ao (hc:=hsa) (hX:=fun _ _=>trivial) ?_)|(refine dN (⟨0,ActD.zero,i.claim,i.ballot,i.dec⟩:ItemD).cells (h:=?_))|(refine aW (vs:=i.act.cells) (hv:=rfl) ?_)|(refine br (cs:=ItemD.zero.cells) (hf:=by rfl) ?_)|((fail_if_success (refine aZ ?_));refine aR (ht:=?_) (hf:=?_);all_goals (intro hx_;skip))|fail)
   all_goals first
    | exact al (aq rfl rfl) rfl
    | (refine al (aq rfl rfl) ?_;simp_all;done)
 by_cases h1:i.kind=1
 · have hri:=l4 i.claim
   have hsa:=eU ⟨0,i.act,ClaimD.zero,i.ballot,i.dec⟩
   have e:rightIt i=(claimR i.claim&&sameIZ ⟨0,i.act,ClaimD.zero,i.ballot,i.dec⟩):=by simp [rightIt,rightK2,restI,h0,h1]
   rw [e]
   generalize claimR i.claim=rb at *
   generalize sameIZ ⟨0,i.act,ClaimD.zero,i.ballot,i.dec⟩=sb at *
   repeat' (first|refine bm (hab:=by omega) ?_|refine bt (hab:=by omega) ?_|apply ab|apply Qu|apply Qv|refine aj ?_|refine ad ?_|refine aA ?_|refine az ?_|refine aH ?_|refine aD ?_|refine aF ?_|refine aK ?_|refine aM fun _=>?_|refine aN fun _=>?_|refine bc ?_|refine aJ ?_|refine Qy ?_|refine Qz ?_|apply Qw|apply ar|(refine br (cs:=ClaimD.zero.cells) (hf:=by rfl) ?_)|(refine ao (hc:=hri) (hX:=fun _ _=>trivial) ?_)|(refine ao (hc:=hsa) (hX:=fun _ _=>trivial) ?_)|(refine dN (⟨0,i.act,ClaimD.zero,i.ballot,i.dec⟩:ItemD).cells (h:=?_))|(refine aW (vs:=i.claim.cells) (hv:=rfl) ?_)|(refine br (cs:=ItemD.zero.cells) (hf:=by rfl) ?_)|((fail_if_success (refine aZ ?_));refine aR (ht:=?_) (hf:=?_);all_goals (intro hx_;skip))|fail)
   all_goals first
    | exact al (aq rfl rfl) rfl
    | (refine al (aq rfl rfl) ?_;simp_all;done)
 by_cases h2:i.kind=2
 · have hri:=lf i.ballot
   have hsa:=eU ⟨0,i.act,i.claim,BallotD.zero,i.dec⟩
   have e:rightIt i=(ballotR i.ballot&&sameIZ ⟨0,i.act,i.claim,BallotD.zero,i.dec⟩):=by simp [rightIt,rightK2,restI,h0,h1,h2]
   rw [e]
   generalize ballotR i.ballot=rb at *
   generalize sameIZ ⟨0,i.act,i.claim,BallotD.zero,i.dec⟩=sb at *
   repeat' (first|refine bm (hab:=by omega) ?_|refine bt (hab:=by omega) ?_|apply ab|apply Qu|apply Qv|refine aj ?_|refine ad ?_|refine aA ?_|refine az ?_|refine aH ?_|refine aD ?_|refine aF ?_|refine aK ?_|refine aM fun _=>?_|refine aN fun _=>?_|refine bc ?_|refine aJ ?_|refine Qy ?_|refine Qz ?_|apply Qw|apply ar|(refine br (cs:=BallotD.zero.cells) (hf:=by rfl) ?_)|(refine ao (hc:=hri) (hX:=fun _ _=>trivial) ?_)|(refine ao (hc:=hsa) (hX:=fun _ _=>trivial) ?_)|(refine dN (⟨0,i.act,i.claim,BallotD.zero,i.dec⟩:ItemD).cells (h:=?_))|(refine aW (vs:=i.ballot.cells) (hv:=rfl) ?_)|(refine br (cs:=ItemD.zero.cells) (hf:=by rfl) ?_)|((fail_if_success (refine aZ ?_));refine aR (ht:=?_) (hf:=?_);all_goals (intro hx_;skip))|fail)
   all_goals first
    | exact al (aq rfl rfl) rfl
    | (refine al (aq rfl rfl) ?_;simp_all;done)
 by_cases h3:i.kind=3
 · have hri:=iV i.dec
   have hsa:=eU ⟨0,i.act,i.claim,i.ballot,DecD.zero⟩
   have e:rightIt i=(decR i.dec&&sameIZ ⟨0,i.act,i.claim,i.ballot,DecD.zero⟩):=by simp [rightIt,rightK2,restI,h0,h1,h2,h3]
   rw [e]
   generalize decR i.dec=rb at *
   generalize sameIZ ⟨0,i.act,i.claim,i.ballot,DecD.zero⟩=sb at *
   repeat' (first|refine bm (hab:=by omega) ?_|refine bt (hab:=by omega) ?_|apply ab|apply Qu|apply Qv|refine aj ?_|refine ad ?_|refine aA ?_|refine az ?_|refine aH ?_|refine aD ?_|refine aF ?_|refine aK ?_|refine aM fun _=>?_|refine aN fun _=>?_|refine bc ?_|refine aJ ?_|refine Qy ?_|refine Qz ?_|apply Qw|apply ar|(refine br (cs:=DecD.zero.cells) (hf:=by rfl) ?_)|(refine ao (hc:=hri) (hX:=fun w h=>h.2) ?_)|(refine ao (hc:=hsa) (hX:=fun _ _=>trivial) ?_)|(refine dN (⟨0,i.act,i.claim,i.ballot,DecD.zero⟩:ItemD).cells (h:=?_))|(refine aW (vs:=i.dec.cells) (hv:=rfl) ?_)|(refine br (cs:=ItemD.zero.cells) (hf:=by rfl) ?_)|((fail_if_success (refine aZ ?_));refine aR (ht:=?_) (hf:=?_);all_goals (intro hx_;skip))|fail)
   all_goals first
    | exact al (aq rfl rfl) rfl
    | (refine al (aq rfl rfl) ?_;simp_all;done)
 have e:rightIt i=false:=by simp [rightIt,rightK2,h0,h1,h2,h3]
 rw [e]
 repeat' (first|refine bt (hab:=by omega) ?_|apply ab|apply Qu|apply Qv|refine aj ?_|refine ad ?_|refine aA ?_|refine az ?_|refine aH ?_|refine aF ?_|refine aK ?_|refine aM fun _=>?_|refine aN fun _=>?_|refine bc ?_|refine aJ ?_|refine Qz ?_|apply Qx|apply Qw|apply ar|fail)
 all_goals exact al (aq rfl rfl) rfl
def formCells (nm:ByteArray) (f:Nat) (e s:Int):List Value:=[.string nm,.func (.func f) #[] #[],.int .i64 e,.int .i64 s]
theorem oD {N:Nat} {av bor:List Nat} {w0:World} {st:St} {ty:TypeId} {x:Operand} {nm:ByteArray} {f:Nat} {e s:Int} (hx:ev st.env x=some (.agg (formCells nm f e s).toArray)):Sy.Yields Tryz.prog N av bor w0 st (.field 125 x 2) ty (.agg #[.int .i64 e,.int .i64 s]):=Sy.Yields.mk fun A w ok d pos af g=>by
 have hp:(part 44 (formCells nm f e s).toArray 2).run Tryz.prog w=.ok (.agg #[.int .i64 e,.int .i64 s]) w:=by rw [gq];rfl
 simp only [formCells] at hx hp
 simp [execOp,ok.eval hx,Instr.field,run_underlying Tryz.underlying125,asAgg,hp]
def nameC:ByteArray:=⟨#[99,108,97,105,109]⟩
theorem lF (it:ItemD) (h:it.kind=1):Pu Tryz.prog 71 #[it.v] (fun _=>True) (.agg (formCells nameC 110 it.claim.e it.claim.s).toArray):=by
 refine ay (args:=[_]) _ Tryz.func71 rfl Tryz.ntmps71 rfl fun av bor w0=>?_
 repeat' (first|refine bm (hab:=by omega) ?_|apply ab|apply Qu|apply Qv|refine ad ?_|refine aA ?_|refine az ?_|refine aM fun _=>?_|refine aN fun _=>?_|refine aJ ?_|refine Qy ?_|apply Qw|apply ar|(refine aW (vs:=[.int .i64 it.claim.e,.int .i64 it.claim.s]) (hv:=rfl) ?_)|(refine br (cs:=formCells nameC 110 it.claim.e it.claim.s) (hf:=by rfl) ?_)|fail)
 all_goals exact al (dm rfl rfl bX (by rfl)) rfl
def msgC (x:ClaimD):ByteArray:=textsV [nameC]++coreCl x
set_option maxHeartbeats 8000000 in
theorem Aa (it:ItemD) (h:it.kind=1) (hl:it.claim.Lt) (hz:(msgC it.claim).size≤1099511627776):Pu Tryz.prog 122 #[it.v] (fun _=>True) (.string (msgC it.claim)):=by
 refine ay (args:=[_]) _ Tryz.func122 rfl Tryz.ntmps122 rfl fun av bor w0=>?_
 have hfo:=lF it h
 rw [msgC] at hz ⊢
 rw [Zl] at hz
 have hS:(⟨#[]⟩:ByteArray)++textsV [nameC]=textsV [nameC]:=ByteArray.empty_append
 have hts:(⟨#[]⟩:ByteArray).size+(textsV [nameC]).size≤1099511627776:=by
  rw [←Zl,hS]
  omega
 repeat' (first|apply ab|apply Qu|apply Qv|refine ad ?_|refine aA ?_|refine az ?_|refine aH ?_|refine aM fun _=>?_|refine aN fun _=>?_|refine bU fun _=>?_|refine aJ ?_|(refine ao (hc:=hfo) (hX:=fun _ _=>trivial) ?_)|fail)
 rename_i bi bf bb bs
 refine cq ?_
 refine iR 5 1 ?_
 refine dB (l:=bld bb none 0 ⟨#[]⟩++[cel bf 125 (formCells nameC 110 it.claim.e it.claim.s),cel bi 57 it.cells]) (List.Perm.swap _ _ _) ?_
 refine cG (pre:=bld bb none 0 ⟨#[]⟩) (fr:=[cel bf 125 (formCells nameC 110 it.claim.e it.claim.s),cel bi 57 it.cells]) (hc:=fC bb none 0 ⟨#[]⟩ ⟨some ⟨bs,0,none⟩,1,1⟩ [nameC] hts) (hX:=fun w h=>bQ (xs:=[[encB nameC]]) h.2 rfl (by decide) (by simp)) (h:=?_)
 rintro v R X' ⟨A1,c1,rfl,rfl⟩
 refine cS (X':=(fun _=>True)) (fun w h=>trivial) ?_
 rw [hS]
 generalize textsV [nameC]=p0 at *
 unfold bld
 repeat' (first|apply ab|apply Qu|apply Qv|refine aA ?_|refine az ?_|refine aH ?_|fail)
 refine cG (pre:=bld bb A1 c1 p0) (fr:=[cel bf 125 (formCells nameC 110 it.claim.e it.claim.s),cel bi 57 it.cells]) (hc:=mU bb A1 c1 p0 it hl hz) (hX:=fun _ _=>trivial) (h:=?_)
 rintro v R X' ⟨A2,c2,rfl,rfl⟩
 unfold bld
 repeat' (first|apply ab|apply Qu|apply Qv|refine aA ?_|refine az ?_|fail)
 refine eN (hm:=ZS _ aI) ?_
 repeat' (first|apply ab|refine ad ?_|apply ar|fail)
 all_goals
  apply al;apply aq;rfl;rfl
  simp only [cX]
def sgnC (p:Int) (x:ClaimD):Bool:=verN p (msgC x) x.e x.s
theorem nA (p:Int) (it:ItemD) (h:it.kind=1) (hl:it.claim.Lt) (hz:(msgC it.claim).size≤1000000000000):Pu Tryz.prog 78 #[.int .i64 p,it.v] (fun w=>it.at_ w∧Glob w) (.bool (sgnC p it.claim)):=by
 refine ay (args:=[_,_]) _ Tryz.func78 rfl Tryz.ntmps78 rfl fun av bor w0=>?_
 have hms:=Aa it h hl ae
 have hfo:=lF it h
 have hve:=mu p (msgC it.claim) it.claim.e it.claim.s hz
 rw [sgnC]
 generalize verN p (msgC it.claim) it.claim.e it.claim.s=V at *
 repeat' (first|apply ab|apply Qu|apply Qv|refine ad ?_|refine aN fun _=>?_|fail)
 rename_i b3
 (refine aU [cel b3 57 it.cells] (fun w=>it.at_ w∧Glob w) ak ?_)
 all_goals refine aa 0 ?_<;>refine aa 1 ?_<;>refine aa 3 ?_<;>(refine ag 2 ?_;(refine ao (hc:=hms) (hX:=fun w h=>trivial) ?_);apply ab;refine ai ?_)<;>(refine ag 4 ?_;(refine ao (hc:=hfo) (hX:=fun _ _=>trivial) ?_);apply ab;refine ai ?_)<;>(refine aa 5 (hy:=by (apply oD;rfl)) ?_)<;>(refine ag 6 ?_;(refine ao (hc:=hve) (hX:=fun w h=>h.2) ?_);apply ab;refine ai ?_)<;>refine aa 7 ?_<;>(refine ax ?_)
 all_goals
  repeat' (first|apply ar|fail)
  exact al (aq rfl rfl) rfl
def nameB:ByteArray:=⟨#[98,97,108,108,111,116]⟩
theorem yb (it:ItemD) (h:it.kind=2):Pu Tryz.prog 71 #[it.v] (fun _=>True) (.agg (formCells nameB 111 it.ballot.e it.ballot.s).toArray):=by
 refine ay (args:=[_]) _ Tryz.func71 rfl Tryz.ntmps71 rfl fun av bor w0=>?_
 repeat' (first|refine bm (hab:=by omega) ?_|refine bt (hab:=by omega) ?_|apply ab|apply Qu|apply Qv|refine ad ?_|refine aA ?_|refine az ?_|refine aM fun _=>?_|refine aN fun _=>?_|refine aJ ?_|refine Qy ?_|refine Qz ?_|apply Qw|apply ar|(refine aW (vs:=[.int .i64 it.ballot.e,.int .i64 it.ballot.s]) (hv:=rfl) ?_)|(refine br (cs:=formCells nameB 111 it.ballot.e it.ballot.s) (hf:=by rfl) ?_)|fail)
 all_goals exact al (dm rfl rfl bX (by rfl)) rfl
def msgB (x:BallotD):ByteArray:=textsV [nameB]++coreBa x
def sgnB (p:Int) (x:BallotD):Bool:=verN p (msgB x) x.e x.s
def nameD:ByteArray:=⟨#[100,101,99,105,115,105,111,110]⟩
theorem ya (it:ItemD) (h:it.kind=3):Pu Tryz.prog 71 #[it.v] (fun _=>True) (.agg (formCells nameD 112 it.dec.e it.dec.s).toArray):=by
 refine ay (args:=[_]) _ Tryz.func71 rfl Tryz.ntmps71 rfl fun av bor w0=>?_
 repeat' (first|refine bt (hab:=by omega) ?_|apply ab|apply Qu|apply Qv|refine ad ?_|refine aA ?_|refine az ?_|refine aM fun _=>?_|refine aN fun _=>?_|refine aJ ?_|refine Qz ?_|apply Qx|apply Qw|apply ar|(refine aW (vs:=[.int .i64 it.dec.e,.int .i64 it.dec.s]) (hv:=rfl) ?_)|(refine br (cs:=formCells nameD 112 it.dec.e it.dec.s) (hf:=by rfl) ?_)|fail)
 all_goals exact al (dm rfl rfl bX (by rfl)) rfl
def msgD (x:DecD):ByteArray:=textsV [nameD]++coreDe x
def sgnD (p:Int) (x:DecD):Bool:=verN p (msgD x) x.e x.s
section
variable {P:Program} {N:Nat} {av bor:List Nat} {w0:World} {ty:TypeId}
theorem nb {st:St} {x:Operand} {t t2 e b':TypeId} [hs:TySl P t e 1 b'] [he:TyInt P e .u8] [h2:TyStr P t2] {b n:Nat} {ns:List Int} (hx:ev st.env x=some (.slice (some ⟨b,0,none⟩) n n)) (hm:cel b e (u8s ns)∈st.loc) (hn:ns.length=n) (hn2:n≤maxLen) :
  Sy.Yields P N av bor w0 st (.convert t t2 x) ty (.string (ofInts ns)):=Sy.Yields.mk fun A w ok d pos af g=>by
 have hh:w.heap[b]?=some (.cells (u8s ns).toArray e (0,0)):=(ok.gam.here _ hm).now
 have ho:ORow w e 1 (.slice (some ⟨b,0,none⟩) n n) n (u8s ns):=jC hh (by simp [u8s,hn]) hn2
 have hl:(u8s ns).length=n:=by have:=ho.1;omega
 rcases ho.2 with ⟨h,_⟩|⟨g,cap,cur,fz,hv,hg,hnc,hcm,hcs,htake,hfz⟩
 · cases h
 · cases hv
   have hlc:=run_loadCells_list (P:=P) w ⟨b,0,none⟩ (u8s ns) (fun j u hj=>by
    have hadd:(⟨b,0,none⟩:Addr).add j=⟨b,j,none⟩:=by unfold Addr.add;split<;>simp_all
    rw [hadd,cell_of_row w b j cur e fz hg]
    rw [←htake,List.getElem?_take] at hj
    split at hj
    · simpa using hj
    · cases hj)
   rw [hl] at hlc
   have h3:=run_bytesToString (P:=P) w ⟨b,0,none⟩ n n ns hlc
   have h4:=run_convert_bytes_string (P:=P) w t t2 e (some ⟨b,0,none⟩) n n (cO hs.out).1 he.out h2.out
   rw [h3] at h4
   simp [execOp,ok.eval hx,h4,ofInts]
end
section
variable {P:Program} {N:Nat} {av bor:List Nat} {w0:World} {st:St} {ty:TypeId} {x y z:Operand} {t t2:TypeId}
theorem yE {e size b':Nat} [hI:TySl P t e size b'] {s:SlV} {kk kk':IntKind} {i j:Int} (hx:ev st.env x=some s.v) (hy:ev st.env y=some (.int kk i)) (hz:ev st.env z=some (.int kk' j)) (h0:0≤i) (h1:i≤j) (h2:j≤(s.c:Int)) :
  Sy.Yields P N av bor w0 st (.slice t x (some y) (some z) none) ty (.slice (s.from size i.toNat).p (j.toNat-i.toNat) (s.c-i.toNat)):=Sy.Yields.mk fun A w ok d pos af g=>by
 obtain ⟨p,m,c⟩:=s
 obtain ⟨hu,inf,hi,hs,hb⟩:=cO hI.out
 have hsz:=Sy.run_sizeOf (P:=P) (w:=w) (t:=e) (n:=size) (by simp [hi,hs])
 have hx':ev st.env x=some (.slice p m c):=hx
 have h2':j≤(c:Int):=h2
 have hj:0≤j:=by omega
 obtain ⟨j,rfl⟩:=Int.eq_ofNat_of_zero_le hj
 have h2'':j≤c:=by omega
 simp [execOp,ok.eval hx',ok.eval hy,ok.eval hz,Instr.sliceAt,run_underlying hu,Instr.slice,Instr.sliceBounds,run_sliceBound,h0,h1,h2',h2'',hsz,SlV.from]
end
section
variable {P:Program} {N:Nat} {av bor:List Nat} {w0:World} {st:St} {ty:TypeId} {x:Operand} {t:TypeId}
theorem cY {e m i c:Nat} [h:TyOne P t] {A:Option Addr} {vs:List Value} {u:Value} (hx:ev st.env x=some (elP A i)) (hm:orow e 1 (.slice A m c) m vs∈st.loc) (hn:m=vs.length) (hi:vs[i]?=some u) :
  Sy.Yields P N av bor w0 st (.load t x) ty u:=Sy.Yields.mk fun B w ok d pos af g=>by
 have e1:(vs.map fun v=>[v]).flatten=vs:=by
  clear hm hn hi
  induction vs with
  | nil=>rfl
  | cons v vs ih=>rw [Qt,List.flatten_cons,ih];rfl
 have ho:=(ok.gam.here _ hm).now
 have hr:RowsD w 1 ⟨A,m,c⟩ (vs.map fun v=>[v]):=cj (e:=e) (by rw [e1];exact ho) (by rw [Z3];exact hn) fun r hr=>by
  obtain ⟨v,_,rfl⟩:=List.mem_map.1 hr
  rfl
 obtain ⟨h1,hp,hc⟩:=RowsD.row hr i [u] (by rw [List.getElem?_map,hi];rfl)
 have hc0:=hc 0 u rfl
 rw [Nat.mul_one,Qk] at hc0
 obtain ⟨a,rfl⟩:=Option.isSome_iff_exists.1 hp
 simp [execOp,ok.eval hx,elP,Instr.loadAt,Instr.sureAddr,loadVar,(cw h.out w).1,hc0.2 a rfl]
end
section
variable {P:Program} {N:Nat} {av bor:List Nat} {w0:World} {ops:Array Oper} {rest:List Oper} {kk:St→Prop} {E:Env} {loc:List Res} {X:World→Prop} {x y:Operand} {t t2:TypeId}
variable {n:Nat} {ty:TypeId} {pos:String} {af:Array Edge} {g:Option (Nat×Bool)} {bb want:Bool}
theorem wQ {k:IntKind} {a b:Int} [hI:TyInt P t k] (h:Sw P N av bor w0 ops rest ⟨(n,.bool false)::E,loc,X⟩ kk) (hx:ev E x=some (.int k a):=by rfl) (hy:ev E y=some (.int k b):=by rfl) (hab:¬ a<b) (hg:gdB ops E g=some (bb,want):=by rfl) (hbb:bb=want:=by exact aB) (hd:Nat.blt n N=true:=by rfl) :
  Sw P N av bor w0 ops (⟨some n,.binOp .lss t x y t2,ty,pos,af,g⟩::rest) ⟨E,loc,X⟩ kk:=bj (hx:=hx) (hy:=hy) (hg:=hg) (hbb:=hbb) (hd:=hd) (h:=by
   have e:∀ u,u=Value.bool false→Sw P N av bor w0 ops rest ⟨(n,u)::E,loc,X⟩ kk:=fun u hu=>hu▸h
   exact e _ (by simp [hab]))
theorem wP {k:IntKind} {a b:Int} [hI:TyInt P t k] (h:Sw P N av bor w0 ops rest ⟨(n,.bool true)::E,loc,X⟩ kk) (hx:ev E x=some (.int k a):=by rfl) (hy:ev E y=some (.int k b):=by rfl) (hab:a<b:=by (first|decide|omega)) (hg:gdB ops E g=some (bb,want):=by rfl) (hbb:bb=want:=by exact aB) (hd:Nat.blt n N=true:=by rfl) :
  Sw P N av bor w0 ops (⟨some n,.binOp .lss t x y t2,ty,pos,af,g⟩::rest) ⟨E,loc,X⟩ kk:=bj (hx:=hx) (hy:=hy) (hg:=hg) (hbb:=hbb) (hd:=hd) (h:=by
   have e:∀ u,u=Value.bool true→Sw P N av bor w0 ops rest ⟨(n,u)::E,loc,X⟩ kk:=fun u hu=>hu▸h
   exact e _ (by simp [hab]))
end
theorem gu:∀ (l:List Int) (r:ByteArray),(l.foldl (fun r n=>r.push (UInt8.ofNat n.toNat)) r)=r++ofInts l
 | [],r=>by simp [ofInts]
 | b::l,r=>by
  have e:ofInts (b::l)=ofInts [b]++ofInts l:=by
   conv=>lhs;rw [ofInts,List.foldl_cons,gu l]
   rfl
  rw [List.foldl_cons,gu l,e,←ZV]
  congr 1
  simp [ofInts,ByteArray.ext_iff]
theorem pG (a:Int) (l:List Int):ofInts [a]++ofInts l=ofInts (a::l):=by
 conv=>rhs;rw [ofInts,List.foldl_cons,gu]
 rfl
set_option maxRecDepth 4000 in
theorem refNumD:∀ (f:Nat) (n:Int),0≤n→n<128 ^ f→f≤9→Pu Tryz.prog 178 #[.int .i64 n] (fun _=>True) (.string (ofInts (numD (f+1) n)))
 | f,n,h0,h1,hf=>by
  have hb:(128:Int) ^ f≤9223372036854775808:=by
   have h4:(128:Nat) ^ f≤128 ^ 9:=Nat.pow_le_pow_right ae hf
   have h5:((128 ^ f:Nat):Int)≤((128 ^ 9:Nat):Int):=by exact_mod_cast h4
   have h6:((128 ^ 9:Nat):Int)=9223372036854775808:=by decide
   have h7:((128 ^ f:Nat):Int)=(128:Int) ^ f:=by simp
   omega
  refine ay (args:=[_]) _ Tryz.func178 rfl Tryz.ntmps178 rfl fun av bor w0=>?_
  by_cases hs:128≤n
  · have hf0:f≠0:=fun e=>by rw [e] at h1;simp at h1;omega
    obtain ⟨g,rfl⟩:∃ g,f=g+1:=⟨f-1,by omega⟩
    have ih:=refNumD g (n.tdiv 128) (by rw [Int.tdiv_eq_ediv_of_nonneg h0];omega) (by
     rw [Int.tdiv_eq_ediv_of_nonneg h0]
     rw [Int.pow_succ] at h1
     omega) ae
    rw [pI hs,←pG]
    have hlw:IntKind.u8.wrap (128+n.tmod 128)=lowD n:=rfl
    have ht1:=Int.tmod_lt_of_pos n (b:=128) ae
    have ht2:=Int.tmod_nonneg 128 h0
    have hq:IntKind.i64.wrap (n.tdiv 128)=n.tdiv 128:=IntWalk.i64_in _ (by rw [Int.tdiv_eq_ediv_of_nonneg h0];omega)
    have hsz:=eI [lowD n]
    have hsz2:=lr (g+1) (n.tdiv 128)
    have hsz3:=eI (numD (g+1) (n.tdiv 128))
    simp only [ZY,Qi,Ql] at hsz
    repeat' (first|refine wQ (hab:=by omega) ?_|apply ab|apply Qu|apply Qv|refine aj ?_|refine ad ?_|refine Qz ?_|apply Qx|fail)
    (apply bH;kernel_rfl)
    all_goals refine aa 0 ?_<;>(refine aa 1 (hy:=by (apply oy;rfl;rfl;decide;rfl)) ?_)<;>refine aa 2 ?_<;>refine aa 3 ?_<;>refine aa 6 ?_<;>(refine aa 7 (hy:=by (apply mo;rfl;rfl;decide;exact hq)) ?_)<;>(refine bx 4 8 (h:=?_) (h':=?_);(focus (((refine bU (vs:=[.int .u8 (lowD n)]) fun _=>?_);apply ab;refine ai ?_);all_goals ((refine bx 5 8 (h:=?_) (h':=?_);(focus (((refine am (nb (ns:=[lowD n]) rfl aI rfl (by decide)) rfl aB rfl ?_);apply ab;refine ai ?_);all_goals ((refine ag 8 ?_;(refine ao (hc:=ih) (hX:=fun _ _=>trivial) ?_);apply ab;refine ai ?_);all_goals (refine aa 9 (hy:=by (apply bD;rfl;rfl;omega)) ?_);all_goals (refine aa 10 ?_);all_goals (refine ax ?_))));rotate_right;(focus (((refine ao (hc:=ih) (hX:=fun _ _=>trivial) ?_);apply ab;refine ai ?_);all_goals ((refine ag 5 ?_;(refine am (nb (ns:=[lowD n]) rfl aI rfl (by decide)) rfl aB rfl ?_);apply ab;refine ai ?_);all_goals (refine aa 9 (hy:=by (apply bD;rfl;rfl;omega)) ?_);all_goals (refine aa 10 ?_);all_goals (refine ax ?_))))))));rotate_right;(focus (((refine ao (hc:=ih) (hX:=fun _ _=>trivial) ?_);apply ab;refine ai ?_);all_goals ((refine ag 4 ?_;(refine bU (vs:=[.int .u8 (lowD n)]) fun _=>?_);apply ab;refine ai ?_);all_goals (refine ag 5 ?_;(refine am (nb (ns:=[lowD n]) rfl aI rfl (by decide)) rfl aB rfl ?_);apply ab;refine ai ?_);all_goals (refine aa 9 (hy:=by (apply bD;rfl;rfl;omega)) ?_);all_goals (refine aa 10 ?_);all_goals (refine ax ?_)))))
    all_goals
     apply ar
     exact al (aq rfl rfl) rfl
  · rw [lq hs]
    repeat' (first|refine wQ (hab:=by omega) ?_|refine wP (hab:=by omega) ?_|apply ab|apply Qu|apply Qv|refine aj ?_|refine ad ?_|refine bU fun _=>?_|refine Qy ?_|refine Qz ?_|apply Qx|apply ar|refine d8 (h:=?_)|(refine am (nb (ns:=[IntKind.u8.wrap n]) rfl aI rfl (by decide)) rfl aB rfl ?_)|fail)
    exact al (aq rfl rfl) rfl
theorem bz (n:Int) (hn:n<9223372036854775808):Pu Tryz.prog 178 #[.int .i64 n] (fun _=>True) (.string (numV n)):=by
 by_cases h0:0≤n
 · have h:=refNumD 9 n h0 (by rw [show (128:Int) ^ 9=9223372036854775808 from by decide];exact hn) (Qp _)
   rw [numV,Zn (by omega)]
   exact h
 · rw [numV,ZA (by omega)]
   refine ay (args:=[_]) _ Tryz.func178 rfl Tryz.ntmps178 rfl fun av bor w0=>?_
   repeat' (first|refine wP (hab:=by omega) ?_|apply ab|apply Qu|apply Qv|refine aj ?_|refine ad ?_|refine Qy ?_|apply ar|fail)
   exact al (aq rfl rfl) rfl
theorem bV (s:ByteArray) (hs:s.size≤1099511627776):Pu Tryz.prog 175 #[.string s] (fun _=>True) (.string (textV s)):=by
 refine ay (args:=[_]) _ Tryz.func175 rfl Tryz.ntmps175 rfl fun av bor w0=>?_
 have:=aO s.size
 repeat' (first|apply ab|apply Qu|apply Qv|refine aj ?_|refine ad ?_|refine bT ?_|apply ar|refine ao (hc:=bz _ ae) ?_|(refine kS ?_)|fail)
 exact al (aq rfl rfl) rfl
theorem lj (s:SlV) (l:List ByteArray) (hs:(listV l).size≤1099511627776):Pu Tryz.prog 215 #[s.v] (fun w=>Strs w s l) (.string (listV l)):=by
 refine ay (args:=[_]) _ Tryz.func215 rfl Tryz.ntmps215 rfl fun av bor w0=>?_
 refine bI (p:=s.n=l.length∧s.n≤maxLen∧(0<l.length→s.p.isSome=true)) (fun w h=>⟨h.len_,Qq (RowsD.cap h) (RowsD.max h),h.some_⟩) fun ⟨hl,hm,hp⟩=>?_
 simp only [maxLen] at hm
 have hn10:=aO s.n
 have hsz:(numV l.length).size+(cats (l.map textV)).size≤1099511627776:=by rw [←Zl];exact hs
 have h0:numV l.length++cats ((l.map textV).take 0)=numV s.n:=by simp [cats,hl]
 repeat' (first|apply ab|apply Qu|apply Qv|refine aj ?_|refine ad ?_|refine aY ?_|apply Qw|refine ao (hc:=bz _ ae) ?_|fail)
 refine aT (ι:=Kth l.length) (fun i=>⟨[(0,s.v),(3,.string (numV l.length++cats ((l.map textV).take i.k))),(4,.int .i64 (i.k:Nat))],[],fun w=>Strs w s l⟩) (fun i=>l.length-i.k) ⟨0,Nat.zero_le _⟩ (aw ⟨rfl,by rw [h0];rfl,rfl,trivial⟩ (aE _) fun _ h=>h) fun i=>?_
 obtain ⟨k,hk⟩:=i
 simp only
 repeat' (first|apply ab|apply Qu|apply Qv|refine aj ?_|refine ad ?_|refine bj ?_|refine aY ?_|apply Qx|apply Qw|apply ar|apply aQ|(refine aG (ht:=?_) (hf:=?_);all_goals (intro hx_;first|have:=aP hx_|have:=aS hx_)))
 · have hlt:k<l.length:=by omega
   have hp':=hp ae
   have hsucc:=eZ (l.map textV) (k:=k) (by rw [Z3];exact hlt)
   have hg:(l.map textV).getD k .empty=textV (l.getD k .empty):=by
    rw [ZL,List.getElem?_map,ZL,Zm hlt];rfl
   have hle:=eH (l.map textV) (k+1)
   rw [hsucc,Zl,hg] at hle
   have hte:(textV (l.getD k .empty)).size=(numV (l.getD k .empty).size).size+(l.getD k .empty).size:=by rw [textV,Zl]
   have hca:(numV l.length++cats ((l.map textV).take k)).size=(numV l.length).size+(cats ((l.map textV).take k)).size:=Zl
   repeat' (first|apply ab|apply Qv|refine aj ?_|refine ad ?_|refine be (h:=?_)|(refine bu (q:=k) ?_)|(refine dD (hF:=fun w h=>Strs.get h hlt) ?_)|refine ao (hc:=bV _ ae) ?_|(refine kS ?_)|fail)
   exact ⟨(⟨k+1,hlt⟩:Kth l.length),(by show l.length-(k+1)<l.length-k;omega),aw ⟨rfl,by rw [hsucc,hg,←ZV];rfl,rfl,trivial⟩ (aE _) fun _ h=>h⟩
 · have hkE:k=l.length:=by omega
   subst hkE
   exact al (aq rfl rfl) (by rw [listV,List.take_of_length_le (by rw [Z3];exact Qp _)])
def u32n (l:List Nat):List Value:=l.map fun (n:Nat)=>.int .u32 (n:Int)
def U32s (w:World) (s:SlV) (l:List Nat):Prop:=RowsD w 1 s (l.map fun (n:Nat)=>[.int .u32 (n:Int)])
def U8s (w:World) (s:SlV) (l:List Nat):Prop:=RowsD w 1 s (l.map fun (n:Nat)=>[.int .u8 (n:Int)])
theorem oJ (l:List Nat):(u32n l).length=l.length:=by simp [u32n]
theorem oK {l:List Nat} {i:Nat} (h:i<l.length):(u32n l)[i]?=some (.int .u32 ((l.getD i 0:Nat):Int)):=by simp [u32n,h]
theorem il {w:World} {s:SlV} {l:List Nat} {f:Nat→Value} (h:RowsD w 1 s (l.map fun n=>[f n])) {i:Nat} (hi:i<l.length):CellAt w s.p i (f (l.getD i 0)):=by
 obtain ⟨_,_,hc⟩:=RowsD.row h i [f (l.getD i 0)] (by rw [List.getElem?_map,Zm hi,ZL,Zm hi];rfl)
 have:=hc 0 _ rfl
 rwa [Nat.mul_one,Qk] at this
theorem gG {w:World} {s:SlV} {l:List Nat} {f:Nat→Value} (h:RowsD w 1 s (l.map fun n=>[f n])):s.n=l.length:=by have:=RowsD.len h;simpa using this
theorem fH {w:World} {s:SlV} {l:List Nat} {f:Nat→Value} (h:RowsD w 1 s (l.map fun n=>[f n])) (h0:0<l.length):s.p.isSome=true:=(RowsD.row h 0 [f l[0]] (by rw [List.getElem?_map,Zm h0];rfl)).2.1
theorem U32s.of_row {w:World} {e n c:Nat} {A:Option Addr} {l:List Nat} (h:ORow w e 1 (.slice A n c) n (u32n l)) (hn:n=l.length):U32s w ⟨A,n,c⟩ l:=by
 have e1:(l.map fun (n:Nat)=>[(.int .u32 (n:Int):Value)]).flatten=u32n l:=by
  clear h hn
  induction l with
  | nil=>rfl
  | cons a l ih=>rw [Qt,List.flatten_cons,ih];rfl
 rw [←e1] at h
 exact cj h (by rw [Z3,hn]) fun r hr=>by
  obtain ⟨n,_,rfl⟩:=List.mem_map.1 hr
  rfl
theorem iN {n:Nat} (h:n<4294967296):IntKind.u32.wrap (n:Int)=(n:Int):=by rw [wrap32,Z0 h]
section
variable {P:Program} {N:Nat} {av bor:List Nat} {w0:World} {st:St} {ty:TypeId} {x y:Operand} {t t2:TypeId} {a b:Nat}
theorem qp (hx:ev st.env x=some (.int .u32 (a:Int))) (hy:ev st.env y=some (.int .u32 (b:Int))) (hc:a*b<4294967296):Sy.Yields P N av bor w0 st (.binOp .mul t x y t2) ty (.int .u32 ((a*b:Nat):Int)) :=
 oA hx hy (by rw [←Int.natCast_mul];exact iN hc)
theorem j4 (hx:ev st.env x=some (.int .i64 (a:Int))) (hy:ev st.env y=some (.int .i64 (b:Int))) (hc:a*b<9223372036854775808):Sy.Yields P N av bor w0 st (.binOp .mul t x y t2) ty (.int .i64 ((a*b:Nat):Int)) :=
 oA hx hy (by rw [←Int.natCast_mul];exact IntWalk.i64_in _ ae)
theorem qt (hx:ev st.env x=some (.int .u32 (a:Int))) (hy:ev st.env y=some (.int .u32 (b:Int))) (hc:a+b<4294967296):Sy.Yields P N av bor w0 st (.binOp .add t x y t2) ty (.int .u32 ((a+b:Nat):Int)) :=
 ms hx hy (by rw [←Int.natCast_add];exact iN hc)
theorem ex (hx:ev st.env x=some (.int .u32 (a:Int))) (hy:ev st.env y=some (.int .u32 (b:Int))):Sy.Yields P N av bor w0 st (.binOp .add t x y t2) ty (.int .u32 (((a+b)%4294967296:Nat):Int)) :=
 ms hx hy (by rw [←Int.natCast_add,wrap32])
theorem gg (hx:ev st.env x=some (.int .u32 (a:Int))) (hy:ev st.env y=some (.int .u32 (b:Int))) (ha:a<4294967296) (hb:b<4294967296):Sy.Yields P N av bor w0 st (.binOp .xor t x y t2) ty (.int .u32 ((a ^^^ b:Nat):Int)) :=
 (IsN.xor (x:=(a:Int)) (y:=(b:Int)) ⟨rfl,ha⟩ ⟨rfl,hb⟩).1▸rF hx hy
theorem j7 (hx:ev st.env x=some (.int .u32 (a:Int))) (hy:ev st.env y=some (.int .u32 (b:Int))) (ha:a<4294967296) (hb:b<4294967296):Sy.Yields P N av bor w0 st (.binOp .and t x y t2) ty (.int .u32 ((a &&& b:Nat):Int)) :=
 (IsN.and (x:=(a:Int)) (y:=(b:Int)) ⟨rfl,ha⟩ ⟨rfl,hb⟩).1▸oF hx hy
theorem qm {k':IntKind} {c:Int} {p:Nat} (hx:ev st.env x=some (.int .u32 (a:Int))) (hy:ev st.env y=some (.int k' c)) (hc:0≤c) (ha:a<4294967296) (hp:(2:Int) ^ (min c.toNat 32)=(p:Int)):Sy.Yields P N av bor w0 st (.binOp .shr t x y t2) ty (.int .u32 ((a/p:Nat):Int)) :=
 (IsN.shr (x:=(a:Int)) ⟨rfl,ha⟩ p hp).1▸rH hx hy hc
theorem Br (hx:ev st.env x=some (.int .u32 (a:Int))) (ha:a<4294967296):Sy.Yields P N av bor w0 st (.unOp .xor t x) ty (.int .u32 ((4294967295 ^^^ a:Nat):Int)):=by
 have hm:IsN (if IntKind.u32.signed then -1 else IntKind.u32.max) 4294967295:=⟨by kernel_rfl,by decide⟩
 exact (hm.xor (y:=(a:Int)) ⟨rfl,ha⟩).1▸qj hx
end
theorem yL {w:World} {s:SlV} {l:List Nat} (h:U32s w s l):Src Tryz.prog w 1 s.v s.n (u32n l):=by
 have e1:(l.map fun (n:Nat)=>[(.int .u32 (n:Int):Value)]).flatten=u32n l:=by
  clear h
  induction l with
  | nil=>rfl
  | cons a l ih=>rw [Qt,List.flatten_cons,ih];rfl
 have h1:=kX (P:=Tryz.prog) (s:=s) h fun cs hcs=>by
  obtain ⟨n,_,rfl⟩:=List.mem_map.1 hcs
  rfl
 rwa [e1] at h1
theorem vP (l:List Nat) {i v:Nat} (h:i<l.length):(u32n l).take (i*1)++[.int .u32 (v:Int)]++(u32n l).drop (i*1+1)=u32n (l.set i v):=by
 rw [Nat.mul_one,u32n,u32n,List.map_set,List.set_eq_take_append_cons_drop,Qf (by rw [Z3];exact h)]
 simp
theorem BA {m n:Nat} (hm:m<4294967296) (h0:0<n) (hn:n<32):bitsV .or .u32 (shrV .u32 (m:Int) (n:Int)) (shlV .u32 (m:Int) (32-(n:Int)))=((rot (2 ^ (32-n)) (2 ^ n) m:Nat):Int):=by
 have hw:32-(n:Int)=((32-n:Nat):Int):=by omega
 rw [hw]
 have h1:IsN (m:Int) m:=⟨rfl,hm⟩
 have h2:=(h1.shr (c:=(n:Int)) (2 ^ n) (by rw [Qr,Nat.min_eq_left (by omega)];simp)).or (h1.shl (c:=((32-n:Nat):Int)) (2 ^ (32-n)) (by rw [Qr,Nat.min_eq_left (by omega)];simp))
 rw [h2.1,rot,Nat.or_comm]
theorem fx {m n:Nat} (hm:m<4294967296) (h0:0<n) (hn:n<32):rot (2 ^ (32-n)) (2 ^ n) m<4294967296:=by
 have h1:IsN (m:Int) m:=⟨rfl,hm⟩
 have h2:=(h1.shl (c:=((32-n:Nat):Int)) (2 ^ (32-n)) (by rw [Qr,Nat.min_eq_left (by omega)];simp)).or (h1.shr (c:=(n:Int)) (2 ^ n) (by rw [Qr,Nat.min_eq_left (by omega)];simp))
 exact h2.2
theorem du (m n:Nat) (hm:m<4294967296) (h0:0<n) (hn:n<32):Pu Tryz.prog 219 #[.int .u32 (m:Int),.int .i64 (n:Int)] (fun _=>True) (.int .u32 ((rot (2 ^ (32-n)) (2 ^ n) m:Nat):Int)):=by
 refine ay (args:=[_,_]) _ Tryz.func219 rfl Tryz.ntmps219 rfl fun av bor w0=>?_
 rw [←BA hm h0 hn]
 repeat' (first|apply ab|apply Qu|apply Qv|refine ad ?_|fail)
 (apply bH;kernel_rfl)
 all_goals refine aa 0 ?_<;>refine aa 1 ?_<;>refine aa 2 ?_<;>refine aa 3 ?_<;>refine aa 4 ?_<;>refine aa 5 ?_<;>refine aa 6 ?_<;>refine aa 7 ?_<;>refine aa 8 ?_<;>(refine ax ?_)
 repeat' (first|apply ar|fail)
 all_goals exact al (aq rfl rfl) rfl
theorem vH {a b c d:Nat} (ha:a<256) (hb:b<256) (hc:c<256) (hd:d<256):wdN a b c d=a*16777216+b*65536+c*256+d:=by
 rw [wdN,Z0 (show a*16777216<4294967296 by omega),Z0 (show b*65536<4294967296 by omega),Z0 (show c*256<4294967296 by omega)]
 have h1:a*16777216 ||| b*65536=a*16777216+b*65536:=by
  have:=Nat.two_pow_add_eq_or_of_lt (i:=24) (b:=b*65536) ae a
  rw [show a*16777216=2 ^ 24*a from by omega]
  exact this.symm
 have h2:(a*16777216+b*65536) ||| c*256=a*16777216+b*65536+c*256:=by
  have:=Nat.two_pow_add_eq_or_of_lt (i:=16) (b:=c*256) ae (a*256+b)
  rw [show a*16777216+b*65536=2 ^ 16*(a*256+b) from by omega]
  exact this.symm
 have h3:(a*16777216+b*65536+c*256) ||| d=a*16777216+b*65536+c*256+d:=by
  have:=Nat.two_pow_add_eq_or_of_lt (i:=8) (b:=d) ae (a*65536+b*256+c)
  rw [show a*16777216+b*65536+c*256=2 ^ 8*(a*65536+b*256+c) from by omega]
  exact this.symm
 rw [h1,h2,h3]
def row1 (l:List Nat) (k:Nat):List Nat:=(List.range k).map (fW l)
def row2 (l:List Nat) (k:Nat):List Nat:=(List.range (16+k)).map (sN (fW l) k)
theorem uD (l:List Nat) (k:Nat):row1 l (k+1)=row1 l k++[fW l k]:=by rw [row1,row1,List.range_succ,Qn];rfl
theorem uB (l:List Nat):row2 l 0=row1 l 16:=rfl
theorem oY (l:List Nat) {k t:Nat} (h:t<16+k):(row2 l k).getD t 0=sN (fW l) k t:=by
 rw [row2,ZL,List.getElem?_map,List.getElem?_range h]
 rfl
theorem uC (l:List Nat) (k:Nat):row2 l (k+1)=row2 l k++[nextW (sN (fW l) k k) (sN (fW l) k (k+1)) (sN (fW l) k (k+9)) (sN (fW l) k (k+14))]:=by
 rw [row2,row2,show 16+(k+1)=(16+k)+1 from by omega,List.range_succ,Qn,Qt,List.map_nil,qH]
 congr 1
 refine List.map_congr_left fun t ht=>?_
 exact nC _ (by rw [List.mem_range] at ht;omega)
theorem im (l:List Nat) (k:Nat):(row2 l k).length=16+k:=by simp [row2]
theorem Cy {l:List Nat} (h:∀ x∈l,x<256) (t:Nat):fW l t<4294967296:=by
 have g:=fun i=>fo h i
 rw [fW,vH (g _) (g _) (g _) (g _)]
 have g0:=g (4*t)
 have g1:=g (4*t+1)
 have g2:=g (4*t+2)
 have g3:=g (4*t+3)
 omega
theorem A6 (f:Nat→Nat) (h:∀ t,f t<4294967296):∀ k t,sN f k t<4294967296
 | 0,t=>h t
 | k+1,t=>by
  rw [sN]
  split
  · exact Nat.mod_lt _ ae
  · exact A6 f h k t
structure RowU (n:Nat) where
 k:Nat
 hk:k≤n
 A:Option Addr
 c:Nat
set_option maxRecDepth 20000 in
set_option maxHeartbeats 4000000 in
theorem pw (s:SlV) (l:List Nat) (hl:l.length=64) (hb:∀ x∈l,x<256):Mk Tryz.prog 217 #[s.v] (fun w=>U8s w s l) (fun u X'=>∃ s':SlV,u=s'.v∧∀ w,X' w→U32s w s' (row2 l 48)):=by
 refine cA (args:=[_]) _ Tryz.func217 rfl Tryz.ntmps217 rfl fun av bor w0=>?_
 refine bI (p:=s.n=64∧s.p.isSome=true) (fun w h=>⟨by rw [gG (f:=fun n=>.int .u8 (n:Int)) h,hl],fH (f:=fun n=>.int .u8 (n:Int)) h ae⟩) fun ⟨hsn,hsp⟩=>?_
 have hg:∀ i,l.getD i 0<256:=fun i=>fo hb i
 repeat' (first|apply ab|apply Qu|apply Qv|refine ad ?_|apply Qw|fail)
 refine cU 128 1 ?_
 refine aT (ι:=RowU 16) (fun i=>⟨[(0,s.v),(3,.slice i.A i.k i.c),(4,.int .i64 (i.k:Nat))],[orow 128 1 (.slice i.A i.k i.c) i.k (u32n (row1 l i.k))],fun w=>U8s w s l⟩) (fun i=>16-i.k) ⟨0,by omega,none,0⟩ (aw ⟨rfl,rfl,rfl,trivial⟩ (.cons_cons _ (ZR _)) fun _ h=>h) fun i=>?_
 obtain ⟨k,hk,A,c⟩:=i
 simp only
 repeat' (first|apply ab|apply Qu|apply Qv|refine aj ?_|refine ad ?_|refine bj ?_|apply Qx|apply Qw|apply aQ|(refine aG (ht:=?_) (hf:=?_);all_goals (intro hx_;first|have:=aP hx_|have:=aS hx_)))
 · have hlt:k<16:=by omega
   have g0:=hg (4*k)
   have g1:=hg (4*k+1)
   have g2:=hg (4*k+2)
   have g3:=hg (4*k+3)
   have hfw:fW l k=l.getD (4*k) 0*16777216+l.getD (4*k+1) 0*65536+l.getD (4*k+2) 0*256+l.getD (4*k+3) 0:=vH g0 g1 g2 g3
   obtain ⟨b0,e0⟩:∃ b,b=l.getD (4*k) 0:=⟨_,rfl⟩
   obtain ⟨b1,e1⟩:∃ b,b=l.getD (4*k+1) 0:=⟨_,rfl⟩
   obtain ⟨b2,e2⟩:∃ b,b=l.getD (4*k+2) 0:=⟨_,rfl⟩
   obtain ⟨b3,e3⟩:∃ b,b=l.getD (4*k+3) 0:=⟨_,rfl⟩
   rw [←e0] at g0 hfw
   rw [←e1] at g1 hfw
   rw [←e2] at g2 hfw
   rw [←e3] at g3 hfw
   have hget:∀ w,U8s w s l→∀ i,i<64→CellAt w s.p i (.int .u8 ((l.getD i 0:Nat):Int)):=fun w h i hi=>il (f:=fun n=>.int .u8 (n:Int)) h ae
   (refine aU [] (fun w=>U8s w s l) ak ?_)
   all_goals refine aa 0 ?_<;>refine aa 1 ?_<;>refine aa 2 ?_<;>(refine aa 3 (hy:=by (apply j4 (a:=4) (b:=k);rfl;rfl;omega)) ?_)<;>(refine aa 4 (hy:=by (apply aL (q:=4*k);rfl;rfl;omega;omega;assumption;omega)) ?_)<;>(refine aa 5 (hy:=by (apply cW (q:=4*k) (u:=.int .u8 (b0:Int));rfl;exact fun w h=>e0▸hget w h (4*k) ae)) ?_)<;>(refine aa 6 (hy:=by (apply jr;rfl;exact iN ae)) ?_)<;>(refine aa 7 (hy:=by (apply qp (b:=16777216);rfl;rfl;omega)) ?_)<;>refine aa 8 ?_<;>refine aa 9 ?_<;>(refine aa 10 (hy:=by (apply j4 (a:=4) (b:=k);rfl;rfl;omega)) ?_)<;>refine aa 11 ?_<;>(refine aa 12 (hy:=by (apply aL (q:=4*k+1);rfl;rfl;omega;omega;assumption;omega)) ?_)<;>(refine aa 13 (hy:=by (apply cW (q:=4*k+1) (u:=.int .u8 (b1:Int));rfl;exact fun w h=>e1▸hget w h (4*k+1) ae)) ?_)<;>(refine aa 14 (hy:=by (apply jr;rfl;exact iN ae)) ?_)<;>(refine aa 15 (hy:=by (apply qp (b:=65536);rfl;rfl;omega)) ?_)<;>(refine aa 16 (hy:=by (apply qt;rfl;rfl;omega)) ?_)<;>refine aa 17 ?_<;>refine aa 18 ?_<;>(refine aa 19 (hy:=by (apply j4 (a:=4) (b:=k);rfl;rfl;omega)) ?_)<;>refine aa 20 ?_<;>(refine aa 21 (hy:=by (apply aL (q:=4*k+2);rfl;rfl;omega;omega;assumption;omega)) ?_)<;>(refine aa 22 (hy:=by (apply cW (q:=4*k+2) (u:=.int .u8 (b2:Int));rfl;exact fun w h=>e2▸hget w h (4*k+2) ae)) ?_)<;>(refine aa 23 (hy:=by (apply jr;rfl;exact iN ae)) ?_)<;>(refine aa 24 (hy:=by (apply qp (b:=256);rfl;rfl;omega)) ?_)<;>(refine aa 25 (hy:=by (apply qt;rfl;rfl;omega)) ?_)<;>refine aa 26 ?_<;>refine aa 27 ?_<;>(refine aa 28 (hy:=by (apply j4 (a:=4) (b:=k);rfl;rfl;omega)) ?_)<;>refine aa 29 ?_<;>(refine aa 30 (hy:=by (apply aL (q:=4*k+3);rfl;rfl;omega;omega;assumption;omega)) ?_)<;>(refine aa 31 (hy:=by (apply cW (q:=4*k+3) (u:=.int .u8 (b3:Int));rfl;exact fun w h=>e3▸hget w h (4*k+3) ae)) ?_)<;>(refine aa 32 (hy:=by (apply jr;rfl;exact iN ae)) ?_)<;>(refine aa 33 (hy:=by (apply qt;rfl;rfl;omega)) ?_)<;>(refine ag 34 ?_;(refine bU (vs:=[.int .u32 ((b0*16777216+b1*65536+b2*256+b3:Nat):Int)]) fun _=>?_);apply ab;refine ai ?_)<;>(refine ag 35 ?_;(refine aV (size:=1) (news:=u32n [b0*16777216+b1*65536+b2*256+b3]) (q:=1) rfl rfl rfl rfl (fun _=>At.there _ (At.here _)) (fun w G=>bo G aI rfl rfl 1) ae (by simp only [maxLen];omega) rfl ?_ rfl ?_;(with_reducible rfl);intro A2 c2);apply ab;refine ai ?_)<;>refine aa 36 ?_<;>(refine ax ?_)
   have hrow:=uD l k
   rw [hfw] at hrow
   repeat' (first|apply ab|apply Qv|refine aj ?_|refine ad ?_|refine be (h:=?_)|fail)
   exact ⟨(⟨k+1,hlt,A2,c2⟩:RowU 16),(by show 16-(k+1)<16-k;omega),aw ⟨rfl,rfl,rfl,trivial⟩ (by rw [hrow,u32n,Qn];exact .cons _ (aE _)) fun _ h=>h⟩
 · obtain rfl:k=16:=by omega
   rw [←uB]
   refine aT (ι:=RowU 48) (fun i=>⟨[(3,.slice i.A (16+i.k) i.c),(5,.int .i64 ((16+i.k:Nat):Int))],[orow 128 1 (.slice i.A (16+i.k) i.c) (16+i.k) (u32n (row2 l i.k))],fun w=>True⟩) (fun i=>48-i.k) ⟨0,by omega,A,c⟩ (aw ⟨rfl,rfl,trivial⟩ (aE _) fun _ h=>trivial) fun i=>?_
   obtain ⟨k,hk,A,c⟩:=i
   simp only
   refine cN aI (fun w h=>cE h ae) fun hAs=>?_
   repeat' (first|apply ab|apply Qu|apply Qv|refine aj ?_|refine ad ?_|refine bj ?_|refine df (h:=?_)|apply Qx|apply Qw|apply ar|apply aQ|(refine aG (ht:=?_) (hf:=?_);all_goals (intro hx_;first|have:=aP hx_|have:=aS hx_)))
   · have hlt:k<48:=by omega
     have hm:∀ t,sN (fW l) k t<4294967296:=A6 _ (Cy hb) k
     have hA:∀ t,t<16+k→(u32n (row2 l k))[t]?=some (.int .u32 ((sN (fW l) k t:Nat):Int)):=fun t h=>by rw [oK (by rw [im];exact h),oY l h]
     have hn:16+k=(u32n (row2 l k)).length:=by rw [oJ,im]
     have hg0:=hA k ae
     have hg1:=hA (k+1) ae
     have hg9:=hA (k+9) ae
     have hg14:=hA (k+14) ae
     have hnx:nextW (sN (fW l) k k) (sN (fW l) k (k+1)) (sN (fW l) k (k+9)) (sN (fW l) k (k+14))=(((sN (fW l) k k+s0N (sN (fW l) k (k+1)))%4294967296+sN (fW l) k (k+9))%4294967296+s1N (sN (fW l) k (k+14)))%4294967296:=rfl
     have hrow:=uC l k
     rw [hnx] at hrow
     have m1:=hm (k+1)
     have m14:=hm (k+14)
     obtain ⟨x0,e0⟩:∃ x,x=sN (fW l) k k:=⟨_,rfl⟩
     obtain ⟨x1,e1⟩:∃ x,x=sN (fW l) k (k+1):=⟨_,rfl⟩
     obtain ⟨x9,e9⟩:∃ x,x=sN (fW l) k (k+9):=⟨_,rfl⟩
     obtain ⟨x14,e14⟩:∃ x,x=sN (fW l) k (k+14):=⟨_,rfl⟩
     rw [←e0] at hg0 hrow
     rw [←e1] at hg1 m1 hrow
     rw [←e9] at hg9 hrow
     rw [←e14] at hg14 m14 hrow
     clear hA hm hnx
     have t7:=du x1 7 m1 ae ae
     have t18:=du x1 18 m1 ae ae
     have t17:=du x14 17 m14 ae ae
     have t19:=du x14 19 m14 ae ae
     have l7:=fx (n:=7) m1 ae ae
     have l18:=fx (n:=18) m1 ae ae
     have l17:=fx (n:=17) m14 ae ae
     have l19:=fx (n:=19) m14 ae ae
     have hs0:s0N x1=(rot (2 ^ (32-7)) (2 ^ 7) x1 ^^^ rot (2 ^ (32-18)) (2 ^ 18) x1) ^^^ (x1/8):=rfl
     have hs1:s1N x14=(rot (2 ^ (32-17)) (2 ^ 17) x14 ^^^ rot (2 ^ (32-19)) (2 ^ 19) x14) ^^^ (x14/1024):=rfl
     rw [hs0,hs1] at hrow
     clear hs0 hs1
     generalize rot (2 ^ (32-7)) (2 ^ 7) x1=r7 at *
     generalize rot (2 ^ (32-18)) (2 ^ 18) x1=r18 at *
     generalize rot (2 ^ (32-17)) (2 ^ 17) x14=r17 at *
     generalize rot (2 ^ (32-19)) (2 ^ 19) x14=r19 at *
     have lx:=Nat.xor_lt_two_pow (n:=32) l7 l18
     have ly:=Nat.xor_lt_two_pow (n:=32) l17 l19
     have d3:x1/8<4294967296:=by omega
     have d10:x14/1024<4294967296:=by omega
     repeat' (first|refine am (gg rfl rfl (by assumption) (by assumption)) rfl aB rfl ?_|refine am (qm (p:=8) rfl rfl (by decide) (by assumption) (by decide)) rfl aB rfl ?_|refine am (qm (p:=1024) rfl rfl (by decide) (by assumption) (by decide)) rfl aB rfl ?_|apply ab|apply Qu|apply Qv|refine aj ?_|refine ad ?_|refine df (h:=?_)|(refine bu (q:=k+1) ?_)|(refine bu (q:=k+14) ?_)|(refine am (cY rfl aI hn hg1) rfl aB rfl ?_)|(refine am (cY rfl aI hn hg14) rfl aB rfl ?_)|(refine ao (hc:=t7) (hX:=fun _ _=>trivial) ?_)|(refine ao (hc:=t18) (hX:=fun _ _=>trivial) ?_)|(refine ao (hc:=t17) (hX:=fun _ _=>trivial) ?_)|(refine ao (hc:=t19) (hX:=fun _ _=>trivial) ?_)|fail)
     obtain ⟨v,hv⟩:∃ v,v=((((x0+(r7 ^^^ r18 ^^^ x1/8))%4294967296+x9)%4294967296+(r17 ^^^ r19 ^^^ x14/1024))%4294967296):=⟨_,rfl⟩
     rw [←hv] at hrow
     (refine aU [] (fun w=>True) ak ?_)
     all_goals refine aa 0 ?_<;>refine aa 1 ?_<;>refine aa 2 ?_<;>refine aa 3 ?_<;>(refine aa 4 (hy:=by (apply aL (q:=k);rfl;rfl;omega;omega;assumption;omega)) ?_)<;>refine aa 6 ?_<;>refine aa 8 ?_<;>refine aa 9 ?_<;>refine aa 10 ?_<;>(refine aa 11 (hy:=by (apply aL (q:=k+9);rfl;rfl;omega;omega;assumption;omega)) ?_)<;>refine aa 14 ?_<;>(refine bx 5 12 (h:=?_) (h':=?_);(focus (((refine am (cY rfl aI hn hg0) rfl aB rfl ?_);apply ab;refine ai ?_);all_goals ((refine aa 7 (hy:=by (apply ex;rfl;rfl)) ?_);all_goals (refine ag 12 ?_;(refine am (cY rfl aI hn hg9) rfl aB rfl ?_);apply ab;refine ai ?_);all_goals (refine aa 13 (hy:=by (apply ex;rfl;rfl)) ?_);all_goals (refine aa 15 (hy:=by (apply ex;rfl;rfl)) ?_);all_goals (refine ag 16 ?_;(rw [←hv];refine bU (vs:=[.int .u32 (v:Int)]) fun _=>?_);apply ab;refine ai ?_);all_goals (refine ag 17 ?_;(refine aV (size:=1) (news:=u32n [v]) (q:=1) rfl rfl rfl rfl (fun _=>At.there _ (At.here _)) (fun w G=>bo G aI rfl rfl 1) ae (by simp only [maxLen];omega) rfl ?_ rfl ?_;(with_reducible rfl);intro A2 c2);apply ab;refine ai ?_);all_goals (refine aa 18 ?_);all_goals (refine ax ?_))));rotate_right;(focus (((refine am (cY rfl aI hn hg9) rfl aB rfl ?_);apply ab;refine ai ?_);all_goals ((refine ag 5 ?_;(refine am (cY rfl aI hn hg0) rfl aB rfl ?_);apply ab;refine ai ?_);all_goals (refine aa 7 (hy:=by (apply ex;rfl;rfl)) ?_);all_goals (refine aa 13 (hy:=by (apply ex;rfl;rfl)) ?_);all_goals (refine aa 15 (hy:=by (apply ex;rfl;rfl)) ?_);all_goals (refine ag 16 ?_;(rw [←hv];refine bU (vs:=[.int .u32 (v:Int)]) fun _=>?_);apply ab;refine ai ?_);all_goals (refine ag 17 ?_;(refine aV (size:=1) (news:=u32n [v]) (q:=1) rfl rfl rfl rfl (fun _=>At.there _ (At.here _)) (fun w G=>bo G aI rfl rfl 1) ae (by simp only [maxLen];omega) rfl ?_ rfl ?_;(with_reducible rfl);intro A2 c2);apply ab;refine ai ?_);all_goals (refine aa 18 ?_);all_goals (refine ax ?_)))))
     all_goals
      repeat' (first|apply ab|apply Qv|refine aj ?_|refine ad ?_|refine be (h:=?_)|fail)
      exact ⟨(⟨k+1,hlt,A2,c2⟩:RowU 48),(by show 48-(k+1)<48-k;omega),aw ⟨rfl,rfl,trivial⟩ (by rw [hrow,u32n,Qn];exact .cons _ (aE _)) fun _ h=>h⟩
   · obtain rfl:k=48:=by omega
     exact al (aq rfl rfl) ⟨⟨A,64,c⟩,rfl,fun w h=>U32s.of_row (h.2 (orow 128 1 (.slice A (16+48) c) (16+48) (u32n (row2 l 48))) aI) (by rw [im])⟩
def S8.l (s:S8):List Nat:=[s.a,s.b,s.c,s.d,s.e,s.f,s.g,s.h]
structure S8.Lt (s:S8):Prop where
 a:s.a<4294967296
 b:s.b<4294967296
 c:s.c<4294967296
 d:s.d<4294967296
 e:s.e<4294967296
 f:s.f<4294967296
 g:s.g<4294967296
 h:s.h<4294967296
theorem oZ (s:S8) (k w:Nat):roundN s k w=⟨(t1N s.h s.e s.f s.g k w+t2N s.a s.b s.c)%4294967296,s.a,s.b,s.c,(s.d+t1N s.h s.e s.f s.g k w)%4294967296,s.e,s.f,s.g⟩:=by
 obtain ⟨a,b,c,d,e,f,g,h⟩:=s
 simp only [roundN,lK]
theorem S8.Lt.round {s:S8} (h:s.Lt) (k w:Nat):(roundN s k w).Lt:=by
 rw [oZ]
 exact ⟨Nat.mod_lt _ ae,h.a,h.b,h.c,Nat.mod_lt _ ae,h.e,h.f,h.g⟩
def rndN (f:Nat→Nat) (s:S8):Nat→S8
 | 0=>s
 | i+1=>roundN (rndN f s i) (kN.getD i 0) (sN f 48 i)
theorem xi (f:Nat→Nat) {s:S8} (h:s.Lt):∀ i,(rndN f s i).Lt
 | 0=>h
 | i+1=>(xi f h i).round _ _
theorem zx (f:Nat→Nat) {i:Nat} (h:i<64):sN f 48 i=sN f i i:=by
 by_cases hi:i≤48
 · have:=ii f (k:=i) (t:=i) (48-i) ae
   rw [show i+(48-i)=48 from by omega] at this
   exact this
 · have:=ii f (k:=48) (t:=i) (i-48) ae
   rw [show 48+(i-48)=i from by omega] at this
   exact this.symm
theorem o0 (f:Nat→Nat) (s:S8):∀ i,i≤64→(kN.take i).foldl stepN (s,winN f 0)=(rndN f s i,winN f i)
 | 0,_=>rfl
 | i+1,h=>by
  have hl:kN.length=64:=by kernel_rfl
  have e:kN.take (i+1)=kN.take i++[kN.getD i 0]:=by
   rw [List.take_add_one,ZL,Zm (by omega)]
   rfl
  rw [e,List.foldl_append,o0 f s i ae,List.foldl_cons,List.foldl_nil,oP,mt,rndN,zx f (by omega)]
  have hw:(winN f i).w0=sN f i i:=by unfold winN;rfl
  rw [hw]
theorem qJ (f:Nat→Nat) (s:S8):roundsN kN s (winN f 0)=rndN f s 64:=by
 have hl:kN.length=64:=by kernel_rfl
 have h:=o0 f s 64 (Qp _)
 rw [List.take_of_length_le (by omega)] at h
 rw [roundsN,h]
theorem Cx (s:S8) (w:W16):(mixN s w).l=[(s.a+(roundsN kN s w).a)%4294967296,(s.b+(roundsN kN s w).b)%4294967296,(s.c+(roundsN kN s w).c)%4294967296,(s.d+(roundsN kN s w).d)%4294967296,(s.e+(roundsN kN s w).e)%4294967296,(s.f+(roundsN kN s w).f)%4294967296,(s.g+(roundsN kN s w).g)%4294967296,(s.h+(roundsN kN s w).h)%4294967296]:=by
 rw [mixN]
 generalize roundsN kN s w=t
 obtain ⟨a,b,c,d,e,f,g,h⟩:=s
 obtain ⟨a',b',c',d',e',f',g',h'⟩:=t
 simp only [addN,lK,S8.l]
theorem BY (s:S8) (w:W16):(mixN s w).Lt:=by
 rw [mixN]
 generalize roundsN kN s w=t
 obtain ⟨a,b,c,d,e,f,g,h⟩:=s
 obtain ⟨a',b',c',d',e',f',g',h'⟩:=t
 simp only [addN,lK]
 exact ⟨Nat.mod_lt _ ae,Nat.mod_lt _ ae,Nat.mod_lt _ ae,Nat.mod_lt _ ae,Nat.mod_lt _ ae,Nat.mod_lt _ ae,Nat.mod_lt _ ae,Nat.mod_lt _ ae⟩
theorem B1:iniN.Lt:=⟨by decide,by decide,by decide,by decide,by decide,by decide,by decide,by decide⟩
set_option maxRecDepth 8000 in
theorem nJ:Mk Tryz.prog 182 #[] (fun _=>True) (fun u X'=>∃ s':SlV,u=s'.v∧∀ w,X' w→U32s w s' iniN.l):=by
 refine cA (args:=[]) _ Tryz.func182 rfl Tryz.ntmps182 rfl fun av bor w0=>?_
 repeat' (first|(refine bU (vs:=u32n iniN.l) fun b=>?_;refine nv 1 8 rfl (by decide) ?_)|apply ab|apply Qu|apply Qv|refine ad ?_|apply ar|fail)
 exact al (aq rfl rfl) ⟨⟨some ⟨b,0,none⟩,8,8⟩,rfl,fun w h=>U32s.of_row (h.2 _ aI) rfl⟩
set_option maxRecDepth 20000 in
theorem qT:Mk Tryz.prog 218 #[] (fun _=>True) (fun u X'=>∃ s':SlV,u=s'.v∧∀ w,X' w→U32s w s' kN):=by
 refine cA (args:=[]) _ Tryz.func218 rfl Tryz.ntmps218 rfl fun av bor w0=>?_
 repeat' (first|(refine bU (vs:=u32n kN) fun b=>?_;refine nv 1 64 rfl (by decide) ?_)|apply ab|apply Qu|apply Qv|refine ad ?_|apply ar|fail)
 exact al (aq rfl rfl) ⟨⟨some ⟨b,0,none⟩,64,64⟩,rfl,fun w h=>U32s.of_row (h.2 _ aI) ak⟩
end Go.Proofs.YtcdilibijnboeaaGreatDoor
namespace Go.Proofs.YtcdilibijnboeaaGreatDoor
open Go Go.Proofs Sy
section
variable {P:Program} {N:Nat} {av bor:List Nat} {w0:World} {st:St} {ty:TypeId} {x y:Operand} {t t2:TypeId} {k:IntKind}
end
end Go.Proofs.YtcdilibijnboeaaGreatDoor
namespace Go.Proofs.YtcdilibijnboeaaGreatDoor
open Go Go.Proofs Sy
section
variable {P:Program} {N:Nat} {av bor:List Nat} {w0:World} {ops:Array Oper} {rest:List Oper} {kk:St→Prop} {E:Env} {loc:List Res} {X:World→Prop} {x y:Operand} {t t2:TypeId}
variable {n:Nat} {ty:TypeId} {pos:String} {af:Array Edge} {g:Option (Nat×Bool)} {bb want:Bool}
end
structure PostTo (P Q:List PostD):Prop where
 to:Q.map (fun p=>(p.to,p.toL,p.pos))=P.map fun p=>(p.to,p.toL,p.pos)
end Go.Proofs.YtcdilibijnboeaaGreatDoor

namespace Go.Proofs.YtcdilibijnboeaaGreatDoor
open Go Go.Proofs Sy
section
variable {P:Program} {N:Nat} {av bor:List Nat} {w0:World} {E:Env} {loc:List Res} {X:World→Prop} {K:Exit→St→Prop} {c:Code}
end
theorem PostTo.len {P Q:List PostD} (h:PostTo P Q):Q.length=P.length:=by have:=congrArg List.length h.to;simpa using this
theorem PostTo.trans {P Q R:List PostD} (h:PostTo P Q) (k:PostTo Q R):PostTo P R:=⟨k.to.trans h.to⟩
theorem PostTo.pos {P Q:List PostD} (h:PostTo P Q) (j:Nat):posP Q j=posP P j:=by
 have e:∀ L:List PostD,posP L j=(L.map fun p=>(p.to,p.toL,p.pos)).findIdx? fun t=>t.2.2==j:=fun L=>by rw [posP,List.findIdx?_map];rfl
 rw [e,e,h.to]
theorem PostTo.mem {P Q:List PostD} (h:PostTo P Q) {p:PostD} (hp:p∈Q):∃ q∈P,q.to=p.to∧q.toL=p.toL:=by
 have h1:(p.to,p.toL,p.pos)∈Q.map fun p=>(p.to,p.toL,p.pos):=List.mem_map_of_mem (f:=fun p:PostD=>(p.to,p.toL,p.pos)) hp
 rw [h.to] at h1
 obtain ⟨q,hq,e⟩:=List.mem_map.1 h1
 simp only [Prod.mk.injEq] at e
 exact ⟨q,hq,e.1,e.2.1⟩
structure OfI (c:ChainD) (P:List PostD) where
 k:Nat
 hk:k≤c.actsL.length
 Q:List PostD
 hQ:Q.map PostD.can=ofP c k
 hT:PostTo P Q
end Go.Proofs.YtcdilibijnboeaaGreatDoor
namespace Go.Proofs.YtcdilibijnboeaaGreatDoor
open Go Go.Proofs Sy
end Go.Proofs.YtcdilibijnboeaaGreatDoor
