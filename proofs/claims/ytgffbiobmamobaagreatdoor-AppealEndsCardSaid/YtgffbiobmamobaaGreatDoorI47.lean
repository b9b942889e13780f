/- Joined. -/
import Derived.Test.YtgffbiobmamobaaGreatDoorI0
import Derived.Test.YtgffbiobmamobaaGreatDoorI44
import Derived.Test.YtgffbiobmamobaaGreatDoorI46
set_option linter.unusedVariables false
set_option linter.unusedSimpArgs false
set_option maxHeartbeats 16000000
namespace Go.Proofs.YtgffbiobmamobaaGreatDoor
open Go Go.Proofs Sy
structure SmC where
 ch:CrtH
 d:Xz
structure SmI where
 k:Nat
 hk:k≤6
 cs:List SmC
 hl:cs.length=k
 hd:∀ (j:Nat) (x:SmC),cs[j]?=some x→x.d.can=heldV [] [] ezO (ezQ.take j)∧CrtOk srvL x.d 62 8 21
 A:Option Addr
 c:Nat
 n:Nat
 hn:n=k
 xs:List Value
 hxs:xs=(cs.map fun x=>x.ch.cells).flatten
theorem cells4 (l:List Xp):∀ r∈l.map Xp.cells,r.length=4:=fun r hr=>by
 obtain ⟨x,_,rfl⟩:=List.mem_map.1 hr
 rfl
theorem cells8 (l:List Xk):∀ r∈l.map Xk.cells,r.length=8:=fun r hr=>by
 obtain ⟨x,_,rfl⟩:=List.mem_map.1 hr
 rfl
theorem v8 (pst:List ByteArray):∀ n,n≤5→heldV pst [] ezO (ezQ.take n)=heldV [] [] ezO (ezQ.take n)
 | 0,_=>(zJ pst).trans (zJ []).symm
 | 1,_=>(xe pst).trans (xe []).symm
 | 2,_=>(zI pst).trans (zI []).symm
 | 3,_=>(xd pst).trans (xd []).symm
 | 4,_=>(xc pst).trans (xc []).symm
 | 5,_=>(xb pst).trans (xb []).symm
 | n+6,h=>absurd h ac
theorem uW {P:Program} {N:Nat} {av bor:List Nat} {w0:World} {k:IntKind} {a b:Int} {st:St} {t t2 ty:TypeId} {x y:Operand} [hI:Xu P t k] (v:Bool) (hx:ev st.env x=some (.int k a)) (hy:ev st.env y=some (.int k b)) (hv:decide (a≤b)=v):Sy.Yields P N av bor w0 st (.binOp .leq t x y t2) ty (.bool v):=hv▸ra hx hy
theorem nE {E l:List Xf} (h:E.map Xf.can=l):E.length=l.length:=by rw [←h,List.length_map]
theorem eJ {L:List Int} {d:Xz} {m n e:Nat} (h:CrtOk L d m n e) (he:e≤1000:=by decide):Ek d.C:=⟨fun c hc=>(h.acts c hc).1,fun c hc=>Nat.le_trans (h.acts c hc).2 he,by rw [h.four];decide⟩
theorem nV {d S:Xz} (h:d.can=S) (hf:∀ i∈d.I,i.dec.Fit) {sv now:Int} {M:List ByteArray} {q:Int} (hp:panelK S.I sv now=(M,q)) {ap:ByteArray} {r:Int×Int} (hv:votesV S.C M ap=r):votesV d.C (panelK d.I sv now).1 ap=r:=by
 subst h
 rw [←gX hf,←ke,←hv]
 exact congrArg (fun x:List ByteArray×Int=>votesV (d.C.map Xa.can) x.1 ap) hp
theorem mN {d S:Xz} (h:d.can=S) (hf:∀ i∈d.I,i.dec.Fit) {sv now:Int} (hk:findK S.I ezG1=some (ofDecI ezD1)) {b:Bool} (hv:overK S.C S.I sv now ezG1=b):overK d.C d.I sv now ezG1=b:=by
 subst h
 exact (tu hf d.C sv now hk qG).symm.trans hv
theorem yn {d S:Xz} (h:d.can=S) (hf:∀ i∈d.I,i.dec.Fit) (hk:findK S.I ezG1=some (ofDecI ezD1)) {l:List ByteArray} (hv:openK S.C S.I ezG1=l):openK d.C d.I ezG1=l:=by
 subst h
 exact (tC hf d.C hk qG).symm.trans hv
theorem ko {d S:Xz} (h:d.can=S) (hf:∀ i∈d.I,i.dec.Fit) {now:Int} (hk:decsV 0 S.I=[ezD0,ezD1]) {l:List Xf} (hv:standK S.C S.I 0 now=l):standK d.C d.I 0 now=l:=by
 subst h
 have hk2:decsV 0 d.I=[ezD0,ezD1]:=(je hf 0).symm.trans hk
 refine (pQ hf d.C 0 now fun x hx=>?_).symm.trans hv
 rw [hk2] at hx
 rcases List.mem_cons.1 hx with rfl|hx
 · exact Bs
 · rw [List.mem_singleton] at hx
   subst hx
   exact qG
set_option maxRecDepth 20000 in
theorem pT:Pu Tryz.prog 4 #[] Xg (.bool true):=by
 refine aq Tryz.func4 Tryz.ntmps4 fun av bor w0=>?_
 apply cw_seq
 apply cw_reg
 repeat' (first|apply ba|apply cw_seq|refine bA ?_|refine aW ?_|refine bM ?_|refine cg ?_|refine aQ ?_|refine dp ?_|refine dq ?_|refine bR ?_|refine cV ?_|refine fx ?_|refine mJ ?_|refine cA ?_|refine eC ?_|refine bz ?_|refine bL ?_|refine aO ?_|refine bN (h:=?_)|refine df ?_|refine di ?_|refine de ?_|refine bc fun _=>?_|refine bG fun _=>?_|refine bD ?_|refine aR ?_|refine cw_cond_t ?_|refine cw_cond_f ?_|apply cw_skip|apply cw_block|apply cw_ret|apply cw_exit|refine sy_beql (h:=?_)|refine eD ?_|refine bC ?_|refine bx ?_|((fail_if_success (refine fP ?_));refine dR (ht:=?_) (hf:=?_);all_goals (intro hx_;first|have:=bm hx_|have:=bT hx_|skip))|(refine cw_cond (ht:=?_) (hf:=?_);all_goals (intro hx_;first|have:=bm hx_|have:=bT hx_|skip)))
 refine cw_reg (h:=?_)
 repeat' (first|refine aL (cs:=ezO0.cells) (hf:=by rfl) ?_|refine aL (cs:=ezO1.cells) (hf:=by rfl) ?_|apply ba|apply cw_seq|refine bA ?_|refine aW ?_|refine bM ?_|refine cg ?_|refine aQ ?_|refine dp ?_|refine dq ?_|refine bR ?_|refine cV ?_|refine fx ?_|refine mJ ?_|refine cA ?_|refine eC ?_|refine bz ?_|refine bL ?_|refine aO ?_|refine bN (h:=?_)|refine df ?_|refine di ?_|refine de ?_|refine bc fun _=>?_|refine bG fun _=>?_|refine bD ?_|refine aR ?_|refine cw_cond_t ?_|refine cw_cond_f ?_|apply cw_skip|apply cw_block|apply cw_ret|apply cw_exit|refine sy_beql (h:=?_)|refine eD ?_|refine bC ?_|refine bx ?_|refine bH (size:=8) (vs:=[.agg ezO0.cells.toArray,.agg ezO1.cells.toArray]) (css:=ezO0.cells++ezO1.cells) (hsz:=by rfl) (hcs:=by rfl) fun _=>?_|((fail_if_success (refine fP ?_));refine dR (ht:=?_) (hf:=?_);all_goals (intro hx_;first|have:=bm hx_|have:=bT hx_|skip))|(refine cw_cond (ht:=?_) (hf:=?_);all_goals (intro hx_;first|have:=bm hx_|have:=bT hx_|skip)))
 rename_i bo
 refine cw_reg (h:=?_)
 repeat' (first|refine aL (cs:=ezQ0.cells) (hf:=by rfl) ?_|refine aL (cs:=ezQ1.cells) (hf:=by rfl) ?_|refine aL (cs:=ezQ2.cells) (hf:=by rfl) ?_|refine aL (cs:=ezQ3.cells) (hf:=by rfl) ?_|refine aL (cs:=ezQ4.cells) (hf:=by rfl) ?_|apply ba|apply cw_seq|refine bA ?_|refine aW ?_|refine bM ?_|refine cg ?_|refine aQ ?_|refine dp ?_|refine dq ?_|refine bR ?_|refine cV ?_|refine fx ?_|refine mJ ?_|refine cA ?_|refine eC ?_|refine bz ?_|refine bL ?_|refine aO ?_|refine bN (h:=?_)|refine df ?_|refine di ?_|refine de ?_|refine bc fun _=>?_|refine bG fun _=>?_|refine bD ?_|refine aR ?_|refine cw_cond_t ?_|refine cw_cond_f ?_|apply cw_skip|apply cw_block|apply cw_ret|apply cw_exit|refine sy_beql (h:=?_)|refine eD ?_|refine bC ?_|refine bx ?_|refine bH (size:=4) (vs:=[.agg ezQ0.cells.toArray,.agg ezQ1.cells.toArray,.agg ezQ2.cells.toArray,.agg ezQ3.cells.toArray,.agg ezQ4.cells.toArray]) (css:=(ezQ.map Xp.cells).flatten) (hsz:=by rfl) (hcs:=by rfl) fun _=>?_|((fail_if_success (refine fP ?_));refine dR (ht:=?_) (hf:=?_);all_goals (intro hx_;first|have:=bm hx_|have:=bT hx_|skip))|(refine cw_cond (ht:=?_) (hf:=?_);all_goals (intro hx_;first|have:=bm hx_|have:=bT hx_|skip)))
 rename_i bq
 refine iG (st':=⟨[(0,.bool false),(1,.slice (some ⟨bo,0,none⟩) 2 2),(2,.slice (some ⟨bq,0,none⟩) 5 5)],[cel bo 50 (ezO0.cells++ezO1.cells)],fun w=>Xg w∧Xe w 4 ⟨some ⟨bq,0,none⟩,5,5⟩ (ezQ.map Xp.cells)⟩) (fm (r:=cel bq 52 (ezQ.map Xp.cells).flatten) ⟨rfl,rfl,rfl,trivial⟩ (al _) fun w x hr=>⟨x,aU hr rfl (by decide) (cells4 _)⟩) ?_
 refine iG (st':=⟨[(0,.bool false),(1,.slice (some ⟨bo,0,none⟩) 2 2),(2,.slice (some ⟨bq,0,none⟩) 5 5)],[],fun w=>(Xg w∧Xe w 4 ⟨some ⟨bq,0,none⟩,5,5⟩ (ezQ.map Xp.cells))∧Xe w 8 ⟨some ⟨bo,0,none⟩,2,2⟩ (ezO.map Xk.cells)⟩) (fm (r:=cel bo 50 (ezO0.cells++ezO1.cells)) ⟨rfl,rfl,rfl,trivial⟩ (al _) fun w x hr=>⟨x,aU hr rfl (by decide) (cells8 _)⟩) ?_
 obtain ⟨so,hso⟩:∃ so:Xi,so=⟨some ⟨bo,0,none⟩,2,2⟩:=⟨_,rfl⟩
 obtain ⟨sq,hsq⟩:∃ sq:Xi,sq=⟨some ⟨bq,0,none⟩,5,5⟩:=⟨_,rfl⟩
 refine bQ 37 6 ?_
 repeat' (first|refine gs ?_|refine gs1 fun _=>?_|(refine gp ?_ ?_<;>intro hx_ this)|fail)
 refine az (ι:=SmI) (fun i=>⟨[(0,.bool false),(1,.slice (some ⟨bo,0,none⟩) 2 2),(2,.slice (some ⟨bq,0,none⟩) 5 5),(3,.slice i.A i.n i.c),(4,.int .i64 (i.k:Nat))],[orow 37 6 (.slice i.A i.n i.c) i.n i.xs],fun w=>((Xg w∧Xe w 4 ⟨some ⟨bq,0,none⟩,5,5⟩ (ezQ.map Xp.cells))∧Xe w 8 ⟨some ⟨bo,0,none⟩,2,2⟩ (ezO.map Xk.cells))∧∀ x∈i.cs,X7 srvL x.ch x.d w⟩) (fun i=>6-i.k) ⟨0,Nat.zero_le _,[],rfl,(fun j x hx=>by cases hx),none,0,0,rfl,[],rfl⟩ (ak an (al _) fun w x=>⟨x,fun y hy=>(List.not_mem_nil hy).elim⟩) fun i=>?_
 obtain ⟨k,hk,cs,hl,hd,A,c,n,hn,xs,hxs⟩:=i
 simp only
 subst hn
 by_cases hlt:n≤5
 · have hok:CaseOk [] ezO (ezQ.take n):=⟨Nat.zero_le _,(show 2≤8 by decide),Nat.le_trans (List.length_take_le _ _) ac,(fun x hx=>(List.not_mem_nil hx).elim),fun x hx=>by
    rcases List.mem_cons.1 hx with rfl|hx
    · decide
    · rw [List.mem_singleton] at hx
      subst hx
      decide⟩
   have hhe:=r3 ⟨⟨none,0,0⟩,⟨some ⟨bo,0,none⟩,2,2⟩,⟨some ⟨bq,0,none⟩,n,5⟩⟩ [] ezO (ezQ.take n) hok
   repeat' (first|refine aw ?_ (uW true rfl rfl (decide_eq_true (show (n:Int)≤(5:Nat) by omega)))|refine aL (cs:=[.slice none 0 0,.slice (some ⟨bo,0,none⟩) 2 2,.slice (some ⟨bq,0,none⟩) n 5]) (hf:=by rfl) ?_|(refine aT (hc:=hhe) (hX:=fun w x=>⟨aN w 6,x.1.2,by rw [List.map_take];exact Xe.take x.1.1.2 (show n≤5 by omega),x.1.1.1⟩) fun v1 X1 h1=>?_;obtain ⟨ch,d,pst,rfl,⟨hdc,hokd⟩,hw1⟩:=h1)|refine gs ?_|refine gs1 fun _=>?_|(refine am (mx rfl rfl ac ac) rfl rfl rfl ?_)|refine bH (size:=6) (vs:=[ch.v]) (css:=ch.cells) (hsz:=by rfl) (hcs:=by rfl) fun _=>?_|(refine gp ?_ ?_<;>intro hx_ this)|fail)
   refine aH (size:=6) (news:=ch.cells) (q:=1) rfl rfl rfl rfl (fun _=>At.there _ (At.here _)) (fun w G=>bu G ay rfl rfl 1) ac (by simp only [maxLen];omega) rfl ?_ rfl ?_
   · (first|with_reducible rfl|with_reducible assumption|with_reducible exact Bool.not_false|with_reducible exact Bool.not_true)
   intro A2 c2
   repeat' (first|refine gs ?_|refine gs1 fun _=>?_|(refine gp ?_ ?_<;>intro hx_ this)|fail)
   exact ⟨(⟨n+1,by omega,cs++[⟨ch,d⟩],by rw [List.length_append,hl];rfl,(fun j x hx=>by
     rcases Nat.lt_or_ge j cs.length with hjl|hjl
     · rw [List.getElem?_append_left hjl] at hx
       exact hd j x hx
     · rw [List.getElem?_append_right hjl] at hx
       obtain ⟨h1,h2⟩:=List.getElem?_eq_some_iff.1 hx
       have hj:j=n:=by
        have h3:j-cs.length<1:=h1
        omega
       subst hj
       have h4:x=⟨ch,d⟩:=by
        have h5:j-cs.length=0:=by omega
        simp only [h5,List.getElem_cons_zero] at h2
        exact h2.symm
       rw [h4]
       exact ⟨hdc.trans (v8 pst j ac),hokd⟩),A2,c2,n+1,rfl,xs++ch.cells,by rw [hxs,List.map_append,List.flatten_append];simp⟩:SmI),(by show 6-(n+1)<6-n;omega),ak an (.cons _ (al _)) fun w x=>⟨x.1.1,fun y hy=>by
     rcases List.mem_append.1 hy with hy|hy
     · exact x.1.2 y hy
     · rw [List.mem_singleton] at hy
       subst hy
       exact hw1 w x.2⟩⟩
 · have hn6:n=6:=by omega
   subst hn6
   obtain ⟨x1,hx1⟩:∃ x,cs[1]?=some x:=⟨_,List.getElem?_eq_getElem ac⟩
   obtain ⟨x3,hx3⟩:∃ x,cs[3]?=some x:=⟨_,List.getElem?_eq_getElem ac⟩
   obtain ⟨x4,hx4⟩:∃ x,cs[4]?=some x:=⟨_,List.getElem?_eq_getElem ac⟩
   obtain ⟨x5,hx5⟩:∃ x,cs[5]?=some x:=⟨_,List.getElem?_eq_getElem ac⟩
   obtain ⟨d1,o1⟩:=hd 1 x1 hx1
   obtain ⟨d3,o3⟩:=hd 3 x3 hx3
   obtain ⟨d4,o4⟩:=hd 4 x4 hx4
   obtain ⟨d5,o5⟩:=hd 5 x5 hx5
   rw [xe] at d1
   rw [xd] at d3
   rw [xc] at d4
   rw [xb] at d5
   have m1:=List.mem_of_getElem? hx1
   have m3:=List.mem_of_getElem? hx3
   have m4:=List.mem_of_getElem? hx4
   have m5:=List.mem_of_getElem? hx5
   have hG5:x5.d.G=[ezG0,ezG1]:=congrArg Xz.G d5
   have hP5:x5.d.P=[ezDT0,ezDT4]:=congrArg Xz.P d5
   have hD5:x5.d.D.length=2:=by
    have h1:=congrArg (fun d:Xz=>d.D.length) d5
    have h2:(x5.d.D.map Xf.can).length=2:=h1
    rwa [List.length_map] at h2
   have v3:=lJ x3.ch.ks x3.ch.ki x3.ch.cs srvL x3.d.I x3.d.C 0 5 ezDT0 (o3.inv.dec (by decide)) (eJ o3)
   have v4:=lJ x4.ch.ks x4.ch.ki x4.ch.cs srvL x4.d.I x4.d.C 0 5 ezDT0 (o4.inv.dec (by decide)) (eJ o4)
   rw [nV d3 (cf o3.inv) xa zE] at v3
   rw [nV d4 (cf o4.inv) zH zD] at v4
   have p5:=we x5.ch.ks x5.ch.ki x5.ch.cs srvL x5.d.I x5.d.C ezG1 (o5.inv.dec (by decide)) (eJ o5)
   rw [yn d5 (cf o5.inv) zK Bi] at p5
   have s3:=fG x3.ch.ks x3.ch.ki x3.ch.cs srvL x3.d.I x3.d.C 0 5 (o3.inv.dec (by decide)) (eJ o3)
   have s5:=fG x5.ch.ks x5.ch.ki x5.ch.cs srvL x5.d.I x5.d.C 0 5 (o5.inv.dec (by decide)) (eJ o5)
   have s6:=fG x5.ch.ks x5.ch.ki x5.ch.cs srvL x5.d.I x5.d.C 0 10 (o5.inv.dec (by decide)) (eJ o5)
   rw [ko d3 (cf o3.inv) xf AS] at s3
   rw [ko d5 (cf o5.inv) nq AR] at s5
   rw [ko d5 (cf o5.inv) nq AQ] at s6
   have w1:=gv x1.ch.ks x1.ch.ki x1.ch.cs srvL x1.d.I x1.d.C 0 5 ezG1 (o1.inv.dec (by decide)) (eJ o1)
   have w3:=gv x3.ch.ks x3.ch.ki x3.ch.cs srvL x3.d.I x3.d.C 0 5 ezG1 (o3.inv.dec (by decide)) (eJ o3)
   have w4:=gv x4.ch.ks x4.ch.ki x4.ch.cs srvL x4.d.I x4.d.C 0 5 ezG1 (o4.inv.dec (by decide)) (eJ o4)
   rw [mN d1 (cf o1.inv) zN Bg] at w1
   rw [mN d3 (cf o3.inv) zM Bf] at w3
   rw [mN d4 (cf o4.inv) zL Be] at w4
   subst hxs
   refine cY (r:=orow 37 6 (.slice A 6 c) 6 (cs.map fun x=>x.ch.cells).flatten) ay (fun w h=>cG h (by decide)) fun hA=>?_
   refine aD (p:=(x5.ch.sd.n=2∧x5.ch.sg.n=2∧x5.ch.sa.n=2)∧x5.ch.sg.p.isSome=true∧x5.ch.sa.p.isSome=true) (fun w x=>by
    have h5:=x.2 x5 m5
    have h6:=h5.dig.len_
    have h7:=h5.app.len_
    rw [hG5] at h6
    rw [hP5] at h7
    exact ⟨⟨h5.dec.len_.trans hD5,h6,h7⟩,h5.dig.some_ (by rw [hG5];decide),h5.app.some_ (by rw [hP5];decide)⟩) fun ⟨⟨k1,k2,k3⟩,k4,k5⟩=>?_
   have hcl6:∀ r∈(cs.map fun x=>x.ch.cells),r.length=6:=fun r hr=>by
    obtain ⟨y,_,rfl⟩:=List.mem_map.1 hr
    rfl
   have hg5:∀ w,((Xg w∧Xe w 4 ⟨some ⟨bq,0,none⟩,5,5⟩ (ezQ.map Xp.cells))∧Xe w 8 ⟨some ⟨bo,0,none⟩,2,2⟩ (ezO.map Xk.cells))∧(∀ x∈cs,X7 srvL x.ch x.d w)→CellAt w x5.ch.sg.p 1 (.string ezG1):=fun w x=>(x.2 x5 m5).dig.at_ (by rw [hG5];rfl)
   have ha5:∀ w,((Xg w∧Xe w 4 ⟨some ⟨bq,0,none⟩,5,5⟩ (ezQ.map Xp.cells))∧Xe w 8 ⟨some ⟨bo,0,none⟩,2,2⟩ (ezO.map Xk.cells))∧(∀ x∈cs,X7 srvL x.ch x.d w)→CellAt w x5.ch.sa.p 0 (.string ezDT0):=fun w x=>(x.2 x5 m5).app.at_ (by rw [hP5];rfl)
   clear hG5 hP5 hD5 d1 d3 d4 d5 o1 o3 o4 o5 hd
   repeat' (first|refine aw ?_ (uW false rfl rfl (decide_eq_false (show ¬ (6:Int)≤(5:Nat) by omega)))|refine aw ?_ (cw false rfl rfl (by simp [k1,k3]))|refine aw ?_ (bg true rfl rfl (decide_eq_true (by first|rfl|omega)))|refine aw ?_ (cS true rfl rfl (c8 _))|(refine ag (hc:=v3) (hX:=fun w x=>⟨(x.2 x3 m3).srv,(x.2 x3 m3).its,(x.2 x3 m3).chn,(x.2 x3 m3).glob⟩) ?_)|(refine ag (hc:=v4) (hX:=fun w x=>⟨(x.2 x4 m4).srv,(x.2 x4 m4).its,(x.2 x4 m4).chn,(x.2 x4 m4).glob⟩) ?_)|(refine aT (hc:=p5) (hX:=fun w x=>⟨(x.2 x5 m5).srv,(x.2 x5 m5).its,(x.2 x5 m5).chn,(x.2 x5 m5).glob⟩) fun v1 X1 h1=>?_;obtain ⟨t1,rfl,hw1⟩:=h1;refine gG (p:=t1.n=1∧t1.p.isSome=true) (fun w x=>⟨(hw1 w x.2).len_,(hw1 w x.2).some_ (by decide)⟩) fun ⟨q1,q2⟩=>?_)|(refine aT (hc:=s3) (hX:=fun w x=>⟨(x.1.2 x3 m3).srv,(x.1.2 x3 m3).its,(x.1.2 x3 m3).chn,(x.1.2 x3 m3).glob⟩) fun v2 X2 h2=>?_;obtain ⟨t2,E2,rfl,⟨hE2,hf2⟩,hw2⟩:=h2;have hl2:E2.length=1:=nE hE2;refine gG (p:=t2.n=E2.length) (fun w x=>(hw2 w x.2).len_) fun q3=>?_)|(refine ag (hc:=w1) (hX:=fun w x=>⟨(x.1.1.2 x1 m1).srv,(x.1.1.2 x1 m1).its,(x.1.1.2 x1 m1).chn,(x.1.1.2 x1 m1).glob⟩) ?_)|(refine ag (hc:=w3) (hX:=fun w x=>⟨(x.1.1.2 x3 m3).srv,(x.1.1.2 x3 m3).its,(x.1.1.2 x3 m3).chn,(x.1.1.2 x3 m3).glob⟩) ?_)|(refine ag (hc:=w4) (hX:=fun w x=>⟨(x.1.1.2 x4 m4).srv,(x.1.1.2 x4 m4).its,(x.1.1.2 x4 m4).chn,(x.1.1.2 x4 m4).glob⟩) ?_)|(refine aT (hc:=s5) (hX:=fun w x=>⟨(x.1.1.2 x5 m5).srv,(x.1.1.2 x5 m5).its,(x.1.1.2 x5 m5).chn,(x.1.1.2 x5 m5).glob⟩) fun v3 X3 h3=>?_;obtain ⟨t3,E3,rfl,⟨hE3,hf3⟩,hw3⟩:=h3;have hl3:E3.length=2:=nE hE3;refine gG (p:=t3.n=E3.length) (fun w x=>(hw3 w x.2).len_) fun q4=>?_)|(refine aT (hc:=s6) (hX:=fun w x=>⟨(x.1.1.1.2 x5 m5).srv,(x.1.1.1.2 x5 m5).its,(x.1.1.1.2 x5 m5).chn,(x.1.1.1.2 x5 m5).glob⟩) fun v4 X4 h4=>?_;obtain ⟨t4,E4,rfl,⟨hE4,hf4⟩,hw4⟩:=h4;have hl4:E4.length=0:=nE hE4;refine gG (p:=t4.n=E4.length) (fun w x=>(hw4 w x.2).len_) fun q5=>?_)|refine gs ?_|refine gs1 fun _=>?_|(refine aA (q:=5*6) ?_)|(refine aA (q:=4*6) ?_)|(refine aA (q:=3*6) ?_)|(refine aA (q:=1*6) ?_)|(refine aA (q:=1) ?_)|(refine aA (q:=0) ?_)|(refine am (eP (xs:=cs.map fun x=>x.ch.cells) (cs:=x5.ch.cells) (i:=5) rfl aC (by rw [List.length_map];exact hl.symm) hcl6 (by rw [List.getElem?_map,hx5];rfl)) rfl rfl rfl ?_)|(refine am (eP (xs:=cs.map fun x=>x.ch.cells) (cs:=x4.ch.cells) (i:=4) rfl aC (by rw [List.length_map];exact hl.symm) hcl6 (by rw [List.getElem?_map,hx4];rfl)) rfl rfl rfl ?_)|(refine am (eP (xs:=cs.map fun x=>x.ch.cells) (cs:=x3.ch.cells) (i:=3) rfl aC (by rw [List.length_map];exact hl.symm) hcl6 (by rw [List.getElem?_map,hx3];rfl)) rfl rfl rfl ?_)|(refine am (eP (xs:=cs.map fun x=>x.ch.cells) (cs:=x1.ch.cells) (i:=1) rfl aC (by rw [List.length_map];exact hl.symm) hcl6 (by rw [List.getElem?_map,hx1];rfl)) rfl rfl rfl ?_)|(refine bE (q:=1) (u:=.string ezG1) (hF:=hg5) ?_)|(refine bE (q:=0) (u:=.string ezDT0) (hF:=ha5) ?_)|(refine aE (vs:=[x5.ch.ks.v,x5.ch.ki.v]) (hv:=rfl) ?_)|(refine aE (vs:=[x4.ch.ks.v,x4.ch.ki.v]) (hv:=rfl) ?_)|(refine aE (vs:=[x3.ch.ks.v,x3.ch.ki.v]) (hv:=rfl) ?_)|(refine aE (vs:=[x1.ch.ks.v,x1.ch.ki.v]) (hv:=rfl) ?_)|(refine bE (q:=0) (u:=.string ezDT0) (hF:=fun w x=>(hw1 w x.1.2).at_ rfl) ?_)|(refine gp ?_ ?_<;>intro hx_ this)|fail)
   all_goals first
    | exact ae (aj rfl rfl) rfl
end Go.Proofs.YtgffbiobmamobaaGreatDoor
