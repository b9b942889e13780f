/- Joined. -/
import Derived.Test.YtggionfjlgfihaaGreatDoorI0
import Derived.Test.YtggionfjlgfihaaGreatDoorI19
import Derived.Test.YtggionfjlgfihaaGreatDoorI20
set_option linter.unusedVariables false
set_option linter.unusedSimpArgs false
set_option maxHeartbeats 16000000
namespace Go.Proofs.YtggionfjlgfihaaGreatDoor
open Go Go.Proofs Sy
def quoN (n:Nat):Nat:=if n=0 then 1 else n/3*2+n%3*2/3+1
theorem uk (n:Nat) (hn:n≤1000000):Pu Tryz.prog 190 #[.int .i64 (n:Nat)] (fun _=>True) (.int .i64 (quoN n:Nat)):=by
 refine ar Tryz.func190 Tryz.ntmps190 fun av bor w0=>?_
 by_cases h0:n=0
 · subst h0
   repeat' (first|refine gs ?_|(refine gp ?_ ?_<;>intro hx_ this)|fail)
   · exact ab (ai rfl rfl) rfl
   · exact absurd this (by decide)
 · have q1:IntKind.i64.wrap ((n:Int).tdiv 3)=((n/3:Nat):Int):=IntWalk.i64_in _ (by show _≤((n/3:Nat):Int)∧((n/3:Nat):Int)≤_;omega)
   have q2:IntKind.i64.wrap (((n/3:Nat):Int)*2)=((n/3*2:Nat):Int):=IntWalk.i64_in _ aa
   have q3:(n:Int).tmod 3=((n%3:Nat):Int):=rfl
   have q4:IntKind.i64.wrap (((n%3:Nat):Int)*2)=((n%3*2:Nat):Int):=IntWalk.i64_in _ aa
   have q5:IntKind.i64.wrap (((n%3*2:Nat):Int).tdiv 3)=((n%3*2/3:Nat):Int):=IntWalk.i64_in _ (by show _≤((n%3*2/3:Nat):Int)∧((n%3*2/3:Nat):Int)≤_;omega)
   have hV:quoN n=n/3*2+n%3*2/3+1:=by rw [quoN,if_neg h0]
   have b1:n/3*2≤2*n:=by omega
   have b2:n%3*2/3≤2:=by omega
   rw [hV]
   generalize n/3=x1 at *
   generalize n%3=x2 at *
   generalize x2*2/3=x3 at *
   repeat' (first|refine ak (rQ rfl rfl (by decide) q1) rfl rfl rfl ?_|refine ak (rQ rfl rfl (by decide) q5) rfl rfl rfl ?_|refine ak (vA rfl rfl q2) rfl rfl rfl ?_|refine ak (vA rfl rfl q4) rfl rfl rfl ?_|refine ak (vy rfl rfl (by decide) q3) rfl rfl rfl ?_|refine gs ?_|(refine gp ?_ ?_<;>intro hx_ this)|fail)
   all_goals first
    | (exfalso;omega)
    | exact ab (ai rfl rfl) (congrArg (Value.int .i64) aa)
def wonB (sv:Nat) (dC:Xg→ByteArray) (B:List Xi) (gn:Int) (c:Xg):Bool:=decide (c.gen=gn)&&decide (quoN sv≤(votV (dC c) B).length)
def wonO (sv:Nat) (C:List Xg) (dC:Xg→ByteArray) (B:List Xi) (gn:Int):Option Xg:=C.find? (wonB sv dC B gn)
structure WonI (C:List Xg) (p:Xg→Bool) where
 k:Nat
 hk:k≤C.length
 hs:C.find? p=(C.drop k).find? p
theorem Am (ks ki:Xj) (L:List Int) (I:List Xb) (au:ByteArray) (gn:Int) (C:List Xg) (B:List Xi) (dC:Xg→ByteArray) (hB:B.length≤1000000) (hL:L.length≤1000000)
  (hC:Mk Tryz.prog 191 #[.agg #[ks.v,ki.v],.string au] (fun w=>Items w ki I∧Xf w) (fun u X'=>∃ s:Xj,u=s.v∧∀ w,X' w→Claims w s C))
  (hK:Mk Tryz.prog 226 #[.agg #[ks.v,ki.v],.string au,.int .i64 gn] (fun w=>Items w ki I∧Xf w) (fun u X'=>∃ s:Xj,u=s.v∧∀ w,X' w→Ballots w s B))
  (hD:∀ c∈C,Pu Tryz.prog 19 #[(ofClaimI c).v] Xf (.string (dC c))) :
  Pu Tryz.prog 133 #[.agg #[ks.v,ki.v],.string au,.int .i64 gn] (fun w=>(Ints w ks L∧Items w ki I)∧Xf w) (.tuple #[((wonO L.length C dC B gn).getD Xg.zero).v,.bool (wonO L.length C dC B gn).isSome]):=by
 refine ar Tryz.func133 Tryz.ntmps133 fun av bor w0=>?_
 refine aH (p:=ks.n=L.length) (fun w h=>h.1.1.len_) fun hkn=>?_
 have hqu:=uk ks.n aa
 rw [wonO]
 have hpd:∀ c,wonB L.length dC B gn c=(decide (c.gen=gn)&&decide (quoN ks.n≤(votV (dC c) B).length)):=fun c=>by rw [hkn];rfl
 generalize wonB L.length dC B gn=p at *
 generalize quoN ks.n=qn at *
 repeat' (first|(refine ag (hc:=hqu) ?_)|(refine bm (hc:=hC) (hX:=fun w h=>⟨h.1.2,h.2⟩) fun v1 X1 h1=>?_;obtain ⟨s,rfl,hw⟩:=h1)|refine gs ?_|refine gs1 fun _=>?_|(refine gp ?_ ?_<;>intro hx_ this)|fail)
 rename_i b3 b6
 refine aH (p:=s.n=C.length∧s.n≤maxLen∧(0<C.length→s.p.isSome=true)) (fun w h=>⟨by simpa using Xe.len (hw w h.2),Nat.le_trans (Xe.cap (hw w h.2)) (Xe.max (hw w h.2)),fun h0=>(Xe.row (hw w h.2) 0 C[0].cells (by simp [List.getElem?_eq_getElem h0])).2.1⟩) fun ⟨hsn,hsm,hsp⟩=>?_
 simp only [maxLen] at hsm
 refine am (ι:=WonI C p) (fun i=>⟨[(1,.string au),(2,.int .i64 gn),(3,.pointer (some ⟨b3,0,none⟩)),(6,.pointer (some ⟨b6,0,none⟩)),(8,.int .i64 (qn:Nat)),(18,s.v),(19,.int .i64 (s.n:Nat)),(20,.int .i64 (i.k:Nat))],[cel b6 39 Xg.zero.cells,cel b3 26 [ks.v,ki.v]],fun w=>((Ints w ks L∧Items w ki I)∧Xf w)∧X1 w⟩) (fun i=>C.length-i.k) ⟨0,Nat.zero_le _,rfl⟩ (ae al (aj _) fun _ h=>h) fun i=>?_
 obtain ⟨k,hk,hs⟩:=i
 simp only
 by_cases hlt:k<C.length
 · have hsp':=hsp aa
   obtain ⟨c,hc⟩:∃ c,C[k]?=some c:=⟨_,List.getElem?_eq_getElem hlt⟩
   have hcm:=List.mem_of_getElem? hc
   have hdr:C.drop k=c::C.drop (k+1):=by
    rw [List.drop_eq_getElem_cons hlt]
    rw [List.getElem?_eq_getElem hlt,Option.some.injEq] at hc
    rw [hc]
   have hrow:∀ w,((Ints w ks L∧Items w ki I)∧Xf w)∧X1 w→c.cells.length=9∧s.p.isSome=true∧∀ i u,c.cells[i]?=some u→CellAt w s.p (k*9+i) u:=fun w h=>Xe.row (hw w h.2) k c.cells (by simp [hc])
   have hvo:=tC ks ki I au gn (dC c) B hB hK
   have hdi:=hD c hcm
   have hpc:=hpd c
   generalize votV (dC c) B=V at *
   by_cases hg:c.gen=gn
   · rw [decide_eq_true hg,Bool.true_and] at hpc
     by_cases hq:qn≤V.length
     · have hF:C.find? p=some c:=by rw [hs,hdr,List.find?_cons,hpc,decide_eq_true hq]
       rw [hF]
       repeat' (first|refine aO ?_ (bj true rfl rfl (decide_eq_true aa))|refine aO ?_ (dd false rfl rfl (by simp [hg]))|refine aO ?_ (fX true rfl rfl (decide_eq_true aa))|(refine ag (hc:=fI c) ?_)|(refine ag (hc:=hdi) (hX:=fun w h=>h.1.2) ?_)|(refine bm (hc:=hvo) (hX:=fun w h=>⟨h.1.1.2,h.1.2⟩) fun v2 X2 h2=>?_;obtain ⟨A2,c2,rfl⟩:=h2)|refine gs ?_|refine gs1 fun _=>?_|(refine aE (q:=k*9) ?_)|(refine aS (cs:=c.cells) (hF:=hrow) ?_)|(refine gp ?_ ?_<;>intro hx_ this)|fail)
       all_goals first
        | exact ab (bC rfl rfl rfl aL (by rfl)) rfl
     · have hF:C.find? p=(C.drop (k+1)).find? p:=by rw [hs,hdr,List.find?_cons,hpc,decide_eq_false hq]
       repeat' (first|refine aO ?_ (bj true rfl rfl (decide_eq_true aa))|refine aO ?_ (dd false rfl rfl (by simp [hg]))|refine aO ?_ (fX false rfl rfl (decide_eq_false aa))|(refine ag (hc:=fI c) ?_)|(refine ag (hc:=hdi) (hX:=fun w h=>h.1.2) ?_)|(refine bm (hc:=hvo) (hX:=fun w h=>⟨h.1.1.2,h.1.2⟩) fun v2 X2 h2=>?_;obtain ⟨A2,c2,rfl⟩:=h2)|refine gs ?_|refine gs1 fun _=>?_|(refine aE (q:=k*9) ?_)|(refine aS (cs:=c.cells) (hF:=hrow) ?_)|(refine gp ?_ ?_<;>intro hx_ this)|fail)
       all_goals first
        | exact ⟨(⟨k+1,hlt,hF⟩:WonI C p),(by show C.length-(k+1)<C.length-k;omega),ae al (.cons _ (aj _)) fun _ h=>h.1⟩
   · have hF:C.find? p=(C.drop (k+1)).find? p:=by rw [hs,hdr,List.find?_cons,hpc,decide_eq_false hg,Bool.false_and]
     repeat' (first|refine aO ?_ (bj true rfl rfl (decide_eq_true aa))|refine aO ?_ (dd true rfl rfl (by simp [hg]))|refine gs ?_|refine gs1 fun _=>?_|(refine aE (q:=k*9) ?_)|(refine aS (cs:=c.cells) (hF:=hrow) ?_)|(refine gp ?_ ?_<;>intro hx_ this)|fail)
     all_goals first
      | exact ⟨(⟨k+1,hlt,hF⟩:WonI C p),(by show C.length-(k+1)<C.length-k;omega),ae al (.cons _ (aj _)) fun _ h=>h⟩
 · have hF:C.find? p=none:=by rw [hs,List.drop_of_length_le (by omega)];rfl
   rw [hF]
   repeat' (first|refine aO ?_ (bj false rfl rfl (decide_eq_false aa))|refine gs ?_|refine gs1 fun _=>?_|(refine aM (cs:=Xg.zero.cells) (hf:=by rfl) ?_)|(refine gp ?_ ?_<;>intro hx_ this)|fail)
   all_goals first
    | exact ab (bC rfl rfl rfl aL (by rfl)) rfl
end Go.Proofs.YtggionfjlgfihaaGreatDoor
