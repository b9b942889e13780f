/- Joined. -/
import Derived.Test.YtgffbiobmamobaaGreatDoorI1
import Derived.RangeFuncSeq
import Derived.OrdersIn
import Derived.Shelf.SlIter.Nil
import Derived.Shelf.SlIterI.Nil
import Derived.Shelf.SortM.Plain
import Derived.Shelf.SortM.SortNone
import Derived.Shelf.Slices.CompactS
import Derived.Test.YtgffbiobmamobaaGreatDoorProg
import Derived.Sort.Walk0
import Derived.Test.YtgffbiobmamobaaGreatDoorI0
set_option linter.unusedVariables false
set_option linter.unusedSimpArgs false
set_option maxHeartbeats 16000000
namespace Go.Proofs.YtgffbiobmamobaaGreatDoor.Sy
open Go Go.RowKit
def fen (ρ:Option Nat):Fence:={ Fence.wide with round:=ρ }
def isDefer:Op→Bool
 | .defer _=>true
 | _=>false
section
variable {P:Program} {N:Nat} {av bor:List Nat} {w0:World} {ops:Array Oper} {st:St}
theorem yD {ρ:Option Nat} {n:Nat} {row:String} {args:Array Value} {w:World} {R:Value→World→Prop} (h:Rows P row args w R):RowsIn (fen ρ) n P row args w R:=fun c cs _=>by
 obtain ⟨v,w',r,s⟩:=h c cs
 exact ⟨v,w',r,stepsIn_wide.2 s⟩
theorem xI {ρ:Option Nat} {n:Nat} {f:FuncId} {args:Array Value} {w:World} {R:Ending→World→Prop} (h:Calls P f args w R):CallsIn (fen ρ) n P f args w R:=(callsIn_wide (n:=n)).2 h
theorem x9 {ρ:Option Nat} {n:Nat} {o:Oper} {a:Act} {w:World} {K K':Act→World→Prop} {k k':St→Prop} (hd:isDefer o.op=false) (hK:∀ a w,K a w→K' a w)
  (h:o.wp P a w K (post N av bor w0 (only k'))):o.wpIn (fen ρ) n P a w K' (post N av bor w0 (only k)):=by
 refine ⟨fun _ _=>trivial,?_⟩
 rw [Oper.semAt_plain _ _ _ (fun c e=>by rw [e] at hd;cases hd)]
 unfold Oper.wp at h
 generalize (execOp a.eval o).run P w=r at *
 cases r with
 | ok nx w' =>
  cases nx<;>simp only [Oper.upon] at h<;>simp only [Oper.uponIn]
  case value u=>exact hK _ _ h
  case skip=>exact hK _ _ h
  case defer d=>exact hK _ _ h
  case enter f args =>
   refine ⟨(fun hh=>by cases hh),?_⟩
   refine xI (Calls.mono h ?_)
   intro e w'' he
   cases e with
   | returned v=>exact hK _ _ he
   | panicked c=>exact (he:False).elim
   | outgrown=>obtain ⟨_,_,h⟩:=he;exact (h:False).elim
  case row row args =>
   refine ⟨(fun hh=>by cases hh),?_⟩
   exact yD (Rows.mono h fun u w'' he=>hK _ _ he)
 | halt x w'=>cases x<;>simp only [Oper.upon] at h<;>exact (h:False).elim
theorem ix {ρ:Option Nat} {n:Nat} {k k':St→Prop} {rest:List Oper} (hr:∀ a w,post N av bor w0 (only k') .normal a w→wpListIn (fen ρ) n P ops (post N av bor w0 (only k)) rest a w):∀ (todo:List Oper) (a:Act) (w:World),todo.all (fun o=>!isDefer o.op)=true →
  wpList P ops (post N av bor w0 (only k')) todo a w→wpListIn (fen ρ) n P ops (post N av bor w0 (only k)) (todo++rest) a w
 | [],a,w,_,h=>hr a w h
 | o::l,a,w,hd,h=>by
  simp only [List.all_cons,Bool.and_eq_true,Bool.not_eq_true'] at hd
  simp only [wpList] at h
  simp only [List.cons_append,wpListIn]
  split
  · rename_i hw
    simp only [hw,if_true] at h
    rcases h with h|⟨_,_,_,h⟩
    · exact x9 hd.1 (fun a w h=>ix hr l a w hd.2 h) h
    · exact (h:False).elim
  · rename_i hw
    simp only [hw] at h
    exact ⟨fun _ _=>trivial,ix hr l _ _ hd.2 h⟩
theorem rR {ρ:Option Nat} {n:Nat} {k:St→Prop} (todo:List Oper) (a:Act) (w:World) (hd:todo.all (fun o=>!isDefer o.op)=true)
  (h:wpList P ops (post N av bor w0 (only k)) todo a w):wpListIn (fen ρ) n P ops (post N av bor w0 (only k)) todo a w:=by
 have:=ix (ρ:=ρ) (n:=n) (k:=k) (rest:=[]) (fun a w h=>h) todo a w hd h
 rwa [List.append_nil] at this
end
def Cr (P:Program) (N:Nat) (av bor:List Nat) (w0:World) (l:Nat) (c:Code) (st:St) (K:Exit→St→Prop):Prop :=
 ∀ n a w,Ok N av bor w0 st a w→c.wpIn (fen (some l)) n P (post N av bor w0 K) a w
theorem Cr.mk {P:Program} {N:Nat} {av bor:List Nat} {w0:World} {l:Nat} {c:Code} {st:St} {K:Exit→St→Prop} (h:∀ n a w,Ok N av bor w0 st a w→c.wpIn (fen (some l)) n P (post N av bor w0 K) a w):Cr P N av bor w0 l c st K:=h
theorem Cr.run {P:Program} {N:Nat} {av bor:List Nat} {w0:World} {l:Nat} {c:Code} {st:St} {K:Exit→St→Prop} (h:Cr P N av bor w0 l c st K):∀ n a w,Ok N av bor w0 st a w→c.wpIn (fen (some l)) n P (post N av bor w0 K) a w:=h
namespace Rd
section
variable {P:Program} {N:Nat} {av bor:List Nat} {w0:World} {l:Nat} {st:St} {K:Exit→St→Prop} {E:Env} {loc:List Xl} {X:World→Prop}
theorem cw_skip (h:K .normal st):Cr P N av bor w0 l .skip st K:=fun n a w ok=>wpIn_skip ⟨st,h,ok⟩
theorem cw_exit {id:Nat} (h:K (.exit id) st):Cr P N av bor w0 l (.exit id) st K:=fun n a w ok=>wpIn_exit ⟨st,h,ok⟩
theorem cw_seq {x y:Code} (h:Cr P N av bor w0 l x st (thn (fun s=>Cr P N av bor w0 l y s K) K)):Cr P N av bor w0 l (.seq x y) st K:=fun n a w ok =>
 wpIn_seq (wpIn_mono (h n a w ok) (fun e a w q=>by
  cases e with
  | panic _=>exact q
  | outgrown=>exact q
  | normal=>obtain ⟨s,h1,h2⟩:=q;exact h1 n a w h2
  | exit _=>exact q
  | goto _=>exact q
  | ret=>exact q))
theorem cw_cond {c:Operand} {x y:Code} {b:Bool} (hc:ev st.env c=some (.bool b):=by rfl) (ht:b=true→Cr P N av bor w0 l x st K) (hf:b=false→Cr P N av bor w0 l y st K) :
  Cr P N av bor w0 l (.cond c x y) st K:=fun n a w ok=>wpIn_cond_split (ok.eval hc) (fun h=>ht h n a w ok) (fun h=>hf h n a w ok)
theorem cw_cond_t {c:Operand} {x y:Code} {b:Bool} (hc:ev st.env c=some (.bool b):=by rfl) (hb:b=true:=by exact ax) (ht:Cr P N av bor w0 l x st K) :
  Cr P N av bor w0 l (.cond c x y) st K:=cw_cond hc (fun _=>ht) (fun h=>by rw [hb] at h;cases h)
theorem cw_cond_f {c:Operand} {x y:Code} {b:Bool} (hc:ev st.env c=some (.bool b):=by rfl) (hb:b=false:=by exact ax) (hf:Cr P N av bor w0 l y st K) :
  Cr P N av bor w0 l (.cond c x y) st K:=cw_cond hc (fun h=>by rw [hb] at h;cases h) (fun _=>hf)
theorem cw_block {id:Nat} {c:Code} (h:Cr P N av bor w0 l c st (blk id K)):Cr P N av bor w0 l (.block id c) st K:=fun n a w ok =>
 wpIn_block (wpIn_mono (h n a w ok) (fun e a w q=>by
  cases e with
  | panic _=>exact q
  | outgrown=>exact q
  | normal=>exact q
  | exit id' =>
   obtain ⟨s,h1,h2⟩:=q
   by_cases hi:id'=id
   · simp only [blk,hi,if_true] at h1
     simp only [Exit.inBlock,hi,if_true]
     exact ⟨s,h1,h2⟩
   · simp only [blk,hi,if_false] at h1
     simp only [Exit.inBlock,hi,if_false]
     exact ⟨s,h1,h2⟩
  | goto _=>exact q
  | ret=>exact q))
theorem reg_post {k:St→Prop} {e:Exit} {a:Act} {w:World} (hk:∀ s,k s→K .normal s) (h:post N av bor w0 (only k) e a w):post N av bor w0 K e a w:=by
 cases e with
 | panic _=>exact h
 | outgrown=>exact h
 | normal=>obtain ⟨s,h1,h2⟩:=h;exact ⟨s,hk s h1,h2⟩
 | exit _=>obtain ⟨s,h1,h2⟩:=h;exact h1.elim
 | goto _=>obtain ⟨s,h1,h2⟩:=h;exact h1.elim
 | ret=>obtain ⟨s,h1,h2⟩:=h;exact h1.elim
theorem cw_reg {id:Nat} {ol:List Oper} (hno:ol.all (fun o=>!isDefer o.op)=true:=by rfl) (h:Sw P N av bor w0 ol.toArray ol st (K .normal)):Cr P N av bor w0 l (.region id ol.toArray false) st K:=fun n a w ok =>
 wpIn_mono (wpIn_region_lit (rR ol a w hno (h.run a w ok))) fun e a w q=>reg_post (fun _ h=>h) q
end
end Rd
def YCt (P:Program) (l:Nat) (args:List Value) (pre:List Xl) (X:World→Prop) (Post:Value→List Xl→(World→Prop)→Prop):Prop :=
 ∀ (n:Nat) (w:World) (av:List Nat),Xr av (fps pre) w pre X w→YieldAt Fence.wide n P l args.toArray w fun e w'=>∃ v R X',e=.returned v∧Post v R X'∧Xr av (fps pre) w R X' w'
def Sv (P:Program) (N:Nat) (av bor:List Nat) (w0:World) (ops:Array Oper) (todo:List Oper) (st:St) (k:St→Prop):Prop :=
 ∀ n a w,Ok N av bor w0 st a w→wpListIn Fence.wide n P ops (post N av bor w0 (only k)) todo a w
section
variable {P:Program} {N:Nat} {av bor:List Nat} {w0:World} {ops:Array Oper} {rest:List Oper} {k:St→Prop} {E:Env} {loc:List Xl} {X:World→Prop} {K:Exit→St→Prop}
variable {d:Option Tmp} {ty:TypeId} {pos:String} {af:Array Edge} {g:Option (Nat×Bool)} {bb want:Bool}
theorem nT (hno:rest.all (fun o=>!isDefer o.op)=true) (h:Sw P N av bor w0 ops rest ⟨E,loc,X⟩ k):Sv P N av bor w0 ops rest ⟨E,loc,X⟩ k:=fun n a w ok=>rR (ρ:=none) rest a w hno (h.run a w ok)
theorem zg {id:Nat} {ol:List Oper} {st:St} (h:Sv P N av bor w0 ol.toArray ol st (K .normal)):Cw P N av bor w0 (.region id ol.toArray false) st K:=Cw.mk fun a w ok =>
 (wpIn_wide (n:=0)).1 (wpIn_mono (wpIn_region_lit (h 0 a w ok)) fun e a w q=>Rd.reg_post (fun _ h=>h) q)
theorem Ak (pre:List Oper) {st:St} (hno:pre.all (fun o=>!isDefer o.op)=true) (h:Sw P N av bor w0 ops pre st (fun s=>Sv P N av bor w0 ops rest s k)):Sv P N av bor w0 ops (pre++rest) st k:=fun n a w ok =>
 ix (ρ:=none) (fun a w ⟨s,h1,h2⟩=>h1 n a w h2) pre a w hno (h.run a w ok)
theorem yk {x:Operand} {xs:List Operand} {ats:Array TypeId} {l:Nat} {args:List Value} {pre fr:List Xl} {X1:World→Prop} {Post:Value→List Xl→(World→Prop)→Prop}
  (hx:ev E x=some (.func (.yield l) #[] #[])) (ha:evs E xs=some args) (hg:gdB ops E g=some (bb,want)) (hb:bb=want) (hd:inB N d=true) (hc:YCt P l args pre X1 Post) (hX:∀ w,X w→X1 w)
  (h:∀ v R X',Post v R X'→Sv P N av bor w0 ops rest ⟨putE E d v,R++fr,fun w=>X w∧X' w⟩ k) :
  Sv P N av bor w0 ops (⟨d,.call ⟨.value x,xs.toArray,ats⟩,ty,pos,af,g⟩::rest) ⟨E,pre++fr,X⟩ k:=fun m a w ok=>by
 simp only [wpListIn]
 rw [bt ok (o:=⟨d,.call ⟨.value x,xs.toArray,ats⟩,ty,pos,af,g⟩) hg]
 subst hb
 simp only [beq_self_eq_true,if_true]
 refine ⟨fun _ _=>trivial,?_⟩
 obtain ⟨av',G0,hback⟩:=ok.call
 obtain ⟨fn,tmps,assign,body,hy,hR⟩:=hc (m-1) w av' (G0.imp hX)
 have e1:xs.toArray.map a.eval=args.toArray:=by rw [List.map_toArray,fJ ok xs args ha]
 have hr:(execOp a.eval ⟨d,.call ⟨.value x,xs.toArray,ats⟩,ty,pos,af,g⟩).run P w=.ok (.round l fn tmps assign body) w:=by
  simp only [execOp,resolve,ok.eval (st:=⟨E,pre++fr,X⟩) hx,Deferred.ofValue,invoke,e1]
  simp only [Sem.run_bind,Sem.run_pure,Result.andThen_ok]
  simpa using hy
 rw [Fence.wide_round,Oper.semAt_none,hr]
 simp only [Oper.uponIn]
 refine ⟨(fun hh=>by cases hh),?_⟩
 refine hR.mono ?_
 rintro e w' ⟨v,R,X',he,hp,G'⟩
 subst he
 have ok':=hback R X' w' G'
 exact h v R X' hp m _ _ (cW d v▸ok'.put hd v)
end
def putEs (E:Env):List Tmp→List Value→Env
 | p::ps,v::vs=>putEs ((p,v)::E) ps vs
 | _,_=>E
theorem oY {N:Nat}:∀ (ps:List Tmp) (vs:List Value) (E:Env) (t:Array Value),ps.all (fun p=>Nat.blt p N)=true→t.size=N→(∀ n v,look E n=some v→t[n]?=some v) →
  ((ps.zip vs).foldl (fun t (p:Tmp×Value)=>t.setIfInBounds p.1 p.2) t).size=N∧∀ n v,look (putEs E ps vs) n=some v→((ps.zip vs).foldl (fun t (p:Tmp×Value)=>t.setIfInBounds p.1 p.2) t)[n]?=some v
 | [],vs,E,t,_,hs,h=>⟨by simpa using hs,fun n v hn=>by simpa [putEs] using h n v (by simpa [putEs] using hn)⟩
 | p::ps,[],E,t,_,hs,h=>⟨by simpa using hs,fun n v hn=>by simpa [putEs] using h n v (by simpa [putEs] using hn)⟩
 | p::ps,v::vs,E,t,hp,hs,h=>by
  simp only [List.all_cons,Bool.and_eq_true] at hp
  simp only [List.zip_cons_cons,List.foldl_cons,putEs]
  refine oY ps vs ((p,v)::E) _ hp.2 (by simpa using hs) fun n u hn=>?_
  have hlt:p<t.size:=by rw [hs];exact Nat.le_of_ble_eq_true hp.1
  simp only [look] at hn
  by_cases e:n=p
  · subst e
    have hb:Nat.beq n n=true:=by simp
    rw [hb] at hn
    simp only [cond_true,Option.some.injEq] at hn
    subst hn
    simp [hlt]
  · rw [nG e] at hn
    simp only [cond_false] at hn
    rw [Array.getElem?_setIfInBounds_ne (Ne.symm e)]
    exact h n u hn
theorem nJ {r r':Xl}:∀ (L:List Xl),At r r' (L++[r]) (L++[r'])
 | []=>.here []
 | x::L=>.there x (nJ L)
section
variable {P:Program} {N:Nat} {av bor:List Nat} {w0:World} {E:Env} {loc:List Xl} {X:World→Prop} {K:Exit→St→Prop}
def lres (l:Nat) (r:Loop):Xl:=⟨[l],fun w=>w.heap[l]?=some (.loop r)⟩
end
end Go.Proofs.YtgffbiobmamobaaGreatDoor.Sy
namespace Go.Proofs.YtgffbiobmamobaaGreatDoor.Sy
open Go Go.RowKit
def Itx {α:Type} (P:Program) (g:FuncId) (lb:List Value) (X1:World→Prop) (enc:α→List Value) (inf:Bool) (xs:List α):Prop :=
 ∀ (l:Nat) (X:World→Prop) (Rs Rx:List α→List Xl→Prop),(∀ w,X w→X1 w) →
  (∀ pre x suf R,xs=pre++x::suf→Rs pre R→YCt P l (enc x) R X fun v R' _=>(v=.bool true∧Rs (pre++[x]) R')∨(v=.bool false∧Rx (pre++[x]) R')) →
  (inf=true→∀ R,¬ Rs xs R) →
  ∀ R0,Rs [] R0→Ct P g (.func (.yield l) #[] #[]::lb).toArray R0 X fun _ R' _=>Rs xs R'∨∃ pre x suf,xs=pre++x::suf∧Rx (pre++[x]) R'
section
variable {P:Program} {N:Nat} {av bor:List Nat} {w0:World} {E:Env} {loc:List Xl} {X:World→Prop} {K:Exit→St→Prop}
def rnd {α:Type} (Inv:List α→List Xl→Prop) (Ix:Code→List α→List Xl→Prop) (xs:List α) (e:Exit) (st:St):Prop :=
 match e with
 | .normal=>∃ loc2,loc2.Sublist st.loc∧Inv xs loc2
 | .ret=>∃ loc2,loc2.Sublist st.loc∧Ix .ret xs loc2
 | .exit id=>∃ loc2,loc2.Sublist st.loc∧Ix (.exit id) xs loc2
 | _=>False
theorem uA {α:Type} {g:Operand} {ps:List Tmp} {assign body:Code} {gf:Nat} {lb:List Value} {enc:α→List Value} {inf:Bool} {xs:List α} {X1:World→Prop}
  (hg:ev E g=some (.func (.func gf) #[] lb.toArray):=by rfl) (hf:Eb P gf:=by first|infer_instance|exact ⟨ai⟩) (hit:Itx P gf lb X1 enc inf xs) (hX:∀ w,X w→X1 w:=by (first|exact fun _ _=>trivial|exact fun _ h=>h|exact fun _ h=>h.1|exact fun _ h=>h.2)) (hps:∀ x,(enc x).length=ps.length) (hpn:ps.all (fun p=>Nat.blt p N)=true:=by rfl)
  (Inv:List α→List Xl→Prop) (Ix:Code→List α→List Xl→Prop) (h0:Inv [] loc) (hinf:inf=true→∀ R,¬ Inv xs R)
  (hround:∀ l pre x suf loc1,xs=pre++x::suf→Inv pre loc1→∀ av bor w0,Cr P N av bor w0 l assign ⟨putEs E ps (enc x),loc1,X⟩ (only fun st1=>∀ av bor w0,Cr P N av bor w0 l body st1 (rnd Inv Ix (pre++[x]))))
  (hdone:∀ loc1,Inv xs loc1→K .normal ⟨E,loc1,X⟩)
  (hleft:∀ c pre x suf loc1,xs=pre++x::suf→Ix c (pre++[x]) loc1→Cw P N av bor w0 c ⟨E,loc1,X⟩ K):Cw P N av bor w0 (.rangeFunc g ps.toArray assign body) ⟨E,loc,X⟩ K:=Cw.mk fun a w ok=>by
 refine (wpIn_wide (n:=0)).1 (wpIn_rangeFunc fun fn _=>?_)
 obtain ⟨rec,hrec⟩:∃ rec:LoopState→Option Code→Loop,rec=fun st pe=>{ state:=st,pending:=pe,fn,tmps:=a.tmps,params:=ps.toArray,assign,body,defers:=w.heap.size }:=⟨_,rfl⟩
 have G0:Xr av bor w0 (loc++mres a.defers) X w:=ok.gamM
 have G1:=(G0.new (.deferred (some [])) (fun w2=>w2.heap[w.heap.size]?=some (.deferred (some []))) fun _ h=>h).new (.loop (rec .ready none)) (fun w2=>w2.heap[(w.alloc (.deferred (some []))).heap.size]?=some (.loop (rec .ready none))) fun _ h=>h
 rw [World.size_alloc] at G1
 obtain ⟨W1,hW1⟩:∃ W1,(w.alloc (.deferred (some []))).alloc (.loop (rec .ready none))=W1:=⟨_,rfl⟩
 rw [hW1] at G1
 obtain ⟨l,hl⟩:∃ l,w.heap.size+1=l:=⟨_,rfl⟩
 obtain ⟨mk,hmk⟩:∃ mk:Deferred,mk={ target:=.collected w.heap.size,args:=#[] }:=⟨_,rfl⟩
 have hM:mres (mk::a.defers)=⟨[w.heap.size],fun w2=>w2.heap[w.heap.size]?=some (.deferred (some []))⟩::mres a.defers:=by subst hmk;rfl
 have G2:Xr av bor w0 ((lres l (rec .ready none)::loc)++mres (mk::a.defers)) X W1:=by
  rw [hM]
  refine G1.perm ?_
  subst hl
  exact List.Perm.cons _ List.perm_middle.symm
 refine ⟨l,[mk],W1,{ target:=.fn (.func gf) lb.toArray,args:=#[.func (.yield l) #[] #[]] },W1,gf,#[.func (.yield l) #[] #[]]++lb.toArray,W1,?_,?_,fun _ _=>trivial,?_,(fun h=>by cases h),?_⟩
 · rw [←hW1,hrec,←hl,hmk,Fence.wide_round]
   exact run_enterLoop_outer _ _ _ _ _
 · simp only [resolve,ok.eval (st:=⟨E,loc,X⟩) hg]
   simp [go_sem]
 · have eg:∀ args w,(callFunc gf args).run P w=.ok (.enter gf args) w:=fun args w=>iV args w
   simp [invoke,go_sem,eg]
 · -- the function that is ranged over
   have hct:=hit l X (fun pre R=>∃ loc1,Inv pre loc1∧R=lres l (rec .ready none)::loc1) (fun pre R=>∃ c loc1,Ix c pre loc1∧R=lres l (rec .done (some c))::loc1) hX ?_ (fun hi R ⟨loc1,hI,_⟩=>hinf hi loc1 hI) (lres l (rec .ready none)::loc) ⟨loc,h0,rfl⟩
   · have e2:(.func (.yield l) #[] #[]::lb:List Value).toArray=#[.func (.yield l) #[] #[]]++lb.toArray:=by simp
     rw [e2] at hct
     refine (callsIn_wide (n:=0)).2 ((hct.run W1 _ G2.start).mono fun e w' ⟨v,R',X',he,hE,G'⟩=>?_)
     subst he
     have hend:∀ (s:LoopState) (pe:Option Code) (loc1:List Xl),s≠.busy→R'=lres l (rec s pe)::loc1→(Instr.endLoop l).run P w'=.ok pe (w'.putObj l (.loop { rec s pe with state:=.exhausted }))∧Xr av bor w0 (loc1++mres (mk::a.defers)) X (w'.putObj l (.loop { rec s pe with state:=.exhausted })):=fun s pe loc1 hs hR=>by
      subst hR
      have G3:=G2.frame G'
      have hl3:w'.heap[l]?=some (.loop (rec s pe)):=(G3.here (lres l (rec s pe)) (by simp)).now
      refine ⟨by have:=run_endLoop (P:=P) hl3 (by rw [hrec];exact hs);rw [hrec] at this ⊢;exact this,?_⟩
      have G4:=G3.turn (w':=w'.putObj l (.loop { rec s pe with state:=.exhausted })) (loc':=⟨[l],fun _=>True⟩::(loc1++mres (mk::a.defers))) (At.here _) rfl rfl rfl (by simp [World.putObj]) (fun i hi=>World.putObj_heap_other hi) (fun _ _=>trivial)
      exact (G4.drop (List.sublist_cons_self _ _)).imp fun w h=>h.1
     rcases hE with ⟨loc1,hI,hR⟩|⟨pre,x,suf,hxs,c,loc1,hI,hR⟩
     · obtain ⟨h1,G5⟩:=hend .ready none loc1 (by simp) hR
       exact ⟨none,_,h1,⟨E,loc1,X⟩,hdone loc1 hI,ok.size,ok.env,G5⟩
     · obtain ⟨h1,G5⟩:=hend .done (some c) loc1 (by simp) hR
       refine ⟨some c,_,h1,?_⟩
       exact (wpIn_wide (n:=0)).2 ((hleft c pre x suf loc1 hxs hI).run _ _ ⟨ok.size,ok.env,G5⟩)
   · -- one round
     rintro pre x suf R hxs ⟨loc1,hI,rfl⟩ n W av' G
     have hlW:W.heap[l]?=some (.loop (rec .ready none)):=(G.here (lres l (rec .ready none)) (by simp)).now
     have hy:=run_yield (P:=P) (args:=(enc x).toArray) hlW (by rw [hrec];simpa using hps x)
     have hrp:∀ s q,(rec s q).params=ps.toArray∧(rec s q).tmps=a.tmps∧(rec s q).assign=assign∧(rec s q).body=body∧(rec s q).state=s:=fun s q=>by subst hrec;exact ⟨rfl,rfl,rfl,rfl,rfl⟩
     refine ⟨_,_,_,_,hy,roundIn_of_wpIn trivial ?_⟩
     rw [(hrp _ _).1,(hrp _ _).2.1,(hrp _ _).2.2.1,(hrp _ _).2.2.2.1]
     have Ga:Xr av' (fps (lres l (rec .ready none)::loc1)) W (loc1++[lres l (rec .ready none)]) X W:=G.perm (List.perm_append_singleton _ _).symm
     have hE:=oY (N:=N) ps (enc x) E a.tmps hpn ok.size ok.env
     have ok0:Ok N (av'++fps [lres l (rec .ready none)]) (fps loc1) W ⟨putEs E ps (enc x),loc1,X⟩ { tmps:=(ps.zip (enc x)).foldl (fun t (p:Tmp×Value)=>t.setIfInBounds p.1 p.2) a.tmps,defers:=[] } W:=⟨hE.1,hE.2,by simpa [mres] using Ga.start⟩
     refine wpIn_mono (F:=fen (some l)) (Q:=post N (av'++fps [lres l (rec .ready none)]) (fps loc1) W (only fun st1=>∀ av bor w0,Cr P N av bor w0 l body st1 (rnd Inv Ix (pre++[x])))) ?_ ?_
     · have:=(hround l pre x suf loc1 hxs hI (av'++fps [lres l (rec .ready none)]) (fps loc1) W).run n _ _ ok0
       simpa using this
     · intro e a1 w1 q
       cases e with
       | panic _=>exact q
       | outgrown=>exact q
       | exit _=>obtain ⟨_,h,_⟩:=q;exact h.elim
       | goto _=>obtain ⟨_,h,_⟩:=q;exact h.elim
       | ret=>obtain ⟨_,h,_⟩:=q;exact h.elim
       | normal =>
        obtain ⟨st1,h1,ok1⟩:=q
        have Gb:=Ga.frame ok1.gamM
        have hl1:w1.heap[l]?=some (.loop (rec .ready none)):=(Gb.here (lres l (rec .ready none)) (by simp)).now
        refine ⟨_,run_beginRound hl1 (hrp _ _).2.2.2.2,?_⟩
        have hb:{ rec .ready none with state:=.busy }=rec .busy none:=by rw [hrec]
        rw [hb]
        have Gc:=Gb.turn (w':=w1.putObj l (.loop (rec .busy none))) (loc':=(st1.loc++mres a1.defers)++[lres l (rec .busy none)]) (nJ _) rfl rfl rfl (by simp [World.putObj]) (fun i hi=>World.putObj_heap_other hi)
         (fun w2 h2=>by rw [h2];exact World.putObj_heap_same (Array.getElem?_eq_some_iff.1 hl1).1)
        have ok1':=(h1 (av'++fps [lres l (rec .busy none)]) (fps (st1.loc++mres a1.defers)) (w1.putObj l (.loop (rec .busy none)))).run n a1 _ ⟨ok1.size,ok1.env,Gc.start.imp fun _ h=>h.2⟩
        have fin:∀ (jump:Option Code) (st2:St) (a2:Act) (w3:World) (loc2:List Xl),Ok N (av'++fps [lres l (rec .busy none)]) (fps (st1.loc++mres a1.defers)) (w1.putObj l (.loop (rec .busy none))) st2 a2 w3→loc2.Sublist st2.loc →
          ∃ w4,(Instr.endRound l jump).run P w3=.ok (.bool jump.isNone) w4∧∃ X',Xr av' (fps (lres l (rec .ready none)::loc1)) W (lres l (rec (if jump.isNone then .ready else .done) jump)::loc2) X' w4:=fun jump st2 a2 w3 loc2 ok2 hs2=>by
         have Gd:=Gc.frame ok2.gamM
         have hl3:w3.heap[l]?=some (.loop (rec .busy none)):=(Gd.here (lres l (rec .busy none)) (by simp)).now
         have he:{ rec .busy none with state:=if jump.isNone then .ready else .done,pending:=jump }=rec (if jump.isNone then .ready else .done) jump:=by rw [hrec]
         have hr:=run_endRound (P:=P) jump hl3
         rw [he] at hr
         have Ge:=Gd.turn (w':=w3.putObj l (.loop (rec (if jump.isNone then .ready else .done) jump))) (loc':=(st2.loc++mres a2.defers)++[lres l (rec (if jump.isNone then .ready else .done) jump)]) (nJ _) rfl rfl rfl (by simp [World.putObj]) (fun i hi=>World.putObj_heap_other hi)
          (fun w2 h2=>by rw [h2];exact World.putObj_heap_same (Array.getElem?_eq_some_iff.1 hl3).1)
         have Gf:=(Ge.drop (loc':=loc2++[lres l (rec (if jump.isNone then .ready else .done) jump)]) ((hs2.trans (List.sublist_append_left _ _)).append_right _)).perm (List.perm_append_singleton _ _)
         exact ⟨_,hr,_,Gf⟩
        refine wpIn_mono ok1' ?_
        intro e a2 w3 q
        cases e with
        | panic _=>exact q
        | outgrown=>exact q
        | goto _=>obtain ⟨_,h,_⟩:=q;exact h.elim
        | exit id =>
         obtain ⟨st2,⟨loc2,hs2,h2⟩,ok2⟩:=q
         obtain ⟨w4,hr,X',Gf⟩:=fin (some (.exit id)) st2 a2 w3 loc2 ok2 hs2
         exact ⟨_,_,hr,.bool false,_,X',rfl,.inr ⟨rfl,_,loc2,h2,rfl⟩,Gf⟩
        | ret =>
         obtain ⟨st2,⟨loc2,hs2,h2⟩,ok2⟩:=q
         obtain ⟨w4,hr,X',Gf⟩:=fin (some .ret) st2 a2 w3 loc2 ok2 hs2
         exact ⟨_,_,hr,.bool false,_,X',rfl,.inr ⟨rfl,_,loc2,h2,rfl⟩,Gf⟩
        | normal =>
         obtain ⟨st2,⟨loc2,hs2,h2⟩,ok2⟩:=q
         obtain ⟨w4,hr,X',Gf⟩:=fin none st2 a2 w3 loc2 ok2 hs2
         exact ⟨_,_,hr,.bool true,_,X',rfl,.inl ⟨rfl,loc2,h2,rfl⟩,Gf⟩
end
namespace Rd
section
variable {P:Program} {N:Nat} {av bor:List Nat} {w0:World} {E:Env} {loc loc0:List Xl} {X X0:World→Prop} {K:Exit→St→Prop} {q:Nat} {l:List Oper}
end
end Rd
section
variable {P:Program} {N:Nat} {av bor:List Nat} {w0:World} {ops:Array Oper} {rest:List Oper} {k:St→Prop} {E:Env} {loc:List Xl} {X:World→Prop}
variable {ty:TypeId} {pos:String} {af:Array Edge} {g:Option (Nat×Bool)} {bb want:Bool}
end
section
variable {P:Program}
end
end Go.Proofs.YtgffbiobmamobaaGreatDoor.Sy
namespace Go.Proofs
open Go.Shelf
def Tryz.sortS_ren:Go.Shelf.Ren:=⟨fun|6=>68|8=>112|9=>111|19=>164|20=>165|21=>155|22=>156|23=>157|24=>158|25=>159|26=>160|27=>161|28=>162|29=>163|36=>183|31=>184|32=>185|37=>186|38=>187|39=>86|41=>195|n=>n,fun|27=>35|29=>9|3=>3|32=>176|26=>35|0=>0|44=>172|46=>207|4=>4|36=>215|35=>214|41=>151|5=>5|9=>9|53=>243|57=>247|63=>254|64=>54|n=>n,fun|n=>n⟩
theorem Tryz.sortS:Go.Proofs.SlLaysM.n6 Tryz.prog Tryz.sortS_ren:={
 mixed:=by kernel_rfl
 f6:=⟨Tryz.f68.name,by decide,Tryz.func68.trans (congrArg some (by kernel_rfl))⟩
 f8:=Tryz.func112.trans (congrArg some (by kernel_rfl))
 f9:=⟨Tryz.f111.name,by decide,Tryz.func111.trans (congrArg some (by kernel_rfl))⟩
 f19:=Tryz.func164.trans (congrArg some (by kernel_rfl))
 f20:=Tryz.func165.trans (congrArg some (by kernel_rfl))
 f21:=⟨Tryz.f155.name,by decide,Tryz.func155.trans (congrArg some (by kernel_rfl))⟩
 f22:=⟨Tryz.f156.name,by decide,Tryz.func156.trans (congrArg some (by kernel_rfl))⟩
 f23:=⟨Tryz.f157.name,by decide,Tryz.func157.trans (congrArg some (by kernel_rfl))⟩
 f24:=⟨Tryz.f158.name,by decide,Tryz.func158.trans (congrArg some (by kernel_rfl))⟩
 f25:=⟨Tryz.f159.name,by decide,Tryz.func159.trans (congrArg some (by kernel_rfl))⟩
 f26:=⟨Tryz.f160.name,by decide,Tryz.func160.trans (congrArg some (by kernel_rfl))⟩
 f27:=⟨Tryz.f161.name,by decide,Tryz.func161.trans (congrArg some (by kernel_rfl))⟩
 f28:=⟨Tryz.f162.name,by decide,Tryz.func162.trans (congrArg some (by kernel_rfl))⟩
 f29:=⟨Tryz.f163.name,by decide,Tryz.func163.trans (congrArg some (by kernel_rfl))⟩
 f31:=Tryz.func184.trans (congrArg some (by kernel_rfl))
 f32:=Tryz.func185.trans (congrArg some (by kernel_rfl))
 f36:=⟨Tryz.f183.name,by decide,Tryz.func183.trans (congrArg some (by kernel_rfl))⟩
 f37:=⟨Tryz.f186.name,by decide,Tryz.func186.trans (congrArg some (by kernel_rfl))⟩
 f38:=⟨Tryz.f187.name,by decide,Tryz.func187.trans (congrArg some (by kernel_rfl))⟩
 f39:=⟨Tryz.f86.name,by decide,Tryz.func86.trans (congrArg some (by kernel_rfl))⟩
 f41:=⟨Tryz.f195.name,by decide,Tryz.func195.trans (congrArg some (by kernel_rfl))⟩
 t0:=Tryz.underlying0
 a0:=Tryz.isAgg0
 z0:=Tryz.sizeOf0
 v0:=Tryz.zeroValue0
 t3:=Tryz.underlying3
 a3:=Tryz.isAgg3
 z3:=Tryz.sizeOf3
 v3:=Tryz.zeroValue3
 t4:=Tryz.underlying4
 a4:=Tryz.isAgg4
 z4:=Tryz.sizeOf4
 v4:=Tryz.zeroValue4
 t5:=Tryz.underlying5
 a5:=Tryz.isAgg5
 z5:=Tryz.sizeOf5
 v5:=Tryz.zeroValue5
 t9:=Tryz.underlying9
 a9:=Tryz.isAgg9
 z9:=Tryz.sizeOf9
 v9:=Tryz.zeroValue9
 t26:=Tryz.underlying35
 a26:=Tryz.isAgg35
 z26:=Tryz.sizeOf35
 v26:=Tryz.zeroValue35
 t27:=Tryz.underlying35
 a27:=Tryz.isAgg35
 z27:=Tryz.sizeOf35
 v27:=Tryz.zeroValue35
 t29:=Tryz.underlying9
 a29:=Tryz.isAgg9
 z29:=Tryz.sizeOf9
 v29:=Tryz.zeroValue9
 t32:=Tryz.underlying176
 a32:=Tryz.isAgg176
 z32:=Tryz.sizeOf176
 v32:=Tryz.zeroValue176
 t35:=Tryz.underlying214
 a35:=Tryz.isAgg214
 z35:=Tryz.sizeOf214
 v35:=Tryz.zeroValue214
 t36:=Tryz.underlying215
 a36:=Tryz.isAgg215
 z36:=Tryz.sizeOf215
 v36:=Tryz.zeroValue215
 t41:=Tryz.underlying151
 a41:=Tryz.isAgg151
 z41:=Tryz.sizeOf151
 v41:=Tryz.zeroValue151
 t44:=Tryz.underlying172
 a44:=Tryz.isAgg172
 z44:=Tryz.sizeOf172
 v44:=Tryz.zeroValue172
 t46:=Tryz.underlying207
 a46:=Tryz.isAgg207
 z46:=Tryz.sizeOf207
 v46:=Tryz.zeroValue207
 t53:=Tryz.underlying243
 a53:=Tryz.isAgg243
 z53:=Tryz.sizeOf243
 v53:=Tryz.zeroValue243
 t57:=Tryz.underlying247
 a57:=Tryz.isAgg247
 z57:=Tryz.sizeOf247
 v57:=Tryz.zeroValue247
 t63:=Tryz.underlying254
 a63:=Tryz.isAgg254
 z63:=Tryz.sizeOf254
 v63:=Tryz.zeroValue254
 t64:=Tryz.underlying54
 a64:=Tryz.isAgg54
 z64:=Tryz.sizeOf54
 v64:=Tryz.zeroValue54 }
def Tryz.compS_ren:Go.Shelf.Ren:=⟨fun|194=>69|n=>n,fun|31=>35|9=>9|3=>3|4=>4|0=>0|n=>n,fun|n=>n⟩
theorem Tryz.compS:Go.Proofs.Lays.n194 Tryz.prog Tryz.compS_ren:={
 mixed:=by kernel_rfl
 f194:=Tryz.func69.trans (congrArg some (by kernel_rfl))
 t0:=Tryz.underlying0
 a0:=Tryz.isAgg0
 z0:=Tryz.sizeOf0
 v0:=Tryz.zeroValue0
 t3:=Tryz.underlying3
 a3:=Tryz.isAgg3
 z3:=Tryz.sizeOf3
 v3:=Tryz.zeroValue3
 t4:=Tryz.underlying4
 a4:=Tryz.isAgg4
 z4:=Tryz.sizeOf4
 v4:=Tryz.zeroValue4
 t9:=Tryz.underlying9
 a9:=Tryz.isAgg9
 z9:=Tryz.sizeOf9
 v9:=Tryz.zeroValue9
 t31:=Tryz.underlying35
 a31:=Tryz.isAgg35
 z31:=Tryz.sizeOf35
 v31:=Tryz.zeroValue35 }
end Go.Proofs
namespace Go.Proofs.YtgffbiobmamobaaGreatDoor.Sy
open Go Go.RowKit
theorem fI {P:Program} {N:Nat} {av bor:List Nat} {w0:World} {ops:Array Oper} {rest:List Oper} {st:St} {k:St→Prop} {d:Option Tmp} {ty:TypeId} {pos:String} {af:Array Edge} {g:Option (Nat×Bool)} {xs:Array Operand} {ts:Array TypeId}
  (h:Sw P N av bor w0 ops (⟨d,.call ⟨.builtin .append,xs,ts⟩,ty,pos,af,g⟩::rest) st k):Sw P N av bor w0 ops (⟨d,.call ⟨.builtin .append,xs,ts⟩,ty,pos,af,g⟩::rest) st k:=h
end Go.Proofs.YtgffbiobmamobaaGreatDoor.Sy
namespace Go.Proofs.YtgffbiobmamobaaGreatDoor.Sy
open Go Go.Proofs
theorem gE (a:ByteArray):a.toList=bl a:=by simp [bl,ByteArray.toList_eq]
theorem xK {a b:ByteArray} (h:bl a=bl b):a=b:=by rw [←rT a,←rT b,h]
theorem seqB_iff {a b:ByteArray}:seqB a b=true↔a=b:=by
 unfold seqB
 rw [gE,gE,beq_iff_eq]
 exact ⟨xK,fun h=>by rw [h]⟩
theorem c8 (a:ByteArray):seqB a a=true:=seqB_iff.2 rfl
theorem seqB_ne {a b:ByteArray}:seqB a b=false↔a≠b:=by
 rw [←Bool.not_eq_true,seqB_iff]
theorem tc (a b:ByteArray):seqB a b=seqB b a:=by
 cases h:seqB b a with
 | true=>rw [seqB_iff.1 h];exact c8 _
 | false=>exact seqB_ne.2 fun e=>seqB_ne.1 h e.symm
def ltB (a b:ByteArray):Bool:=Op.bytesLess a.toList b.toList
theorem m7 {a b:ByteArray}:ltB a b=true↔bl a<bl b:=by
 unfold ltB
 rw [gE,gE,Go.Proofs.bytesLess_eq,decide_eq_true_eq]
theorem fV (a:ByteArray):ltB a a=false:=by
 rw [←Bool.not_eq_true,m7]
 exact List.lt_irrefl _
theorem iZ {a b c:ByteArray} (h:ltB a b=true) (k:ltB b c=true):ltB a c=true:=by
 rw [m7] at *
 exact List.lt_trans h k
theorem tG {a b:ByteArray} (h:ltB a b=true):ltB b a=false:=by
 rw [←Bool.not_eq_true]
 intro k
 have:=iZ h k
 rw [fV] at this
 cases this
theorem l5 {a b:ByteArray} (h:ltB a b=false) (k:ltB b a=false):a=b:=by
 rw [←Bool.not_eq_true,m7] at *
 exact xK (List.le_antisymm (List.not_lt.1 k) (List.not_lt.1 h))
theorem AI {a b:ByteArray} (h:ltB a b=true):a≠b:=by
 rintro rfl
 rw [fV] at h
 cases h
def Asc (l:List ByteArray):Prop:=l.Pairwise fun a b=>ltB a b=true
theorem Asc.getD {l:List ByteArray} (h:Asc l) {i j:Nat} (hij:i<j) (hj:j<l.length):ltB (l.getD i .empty) (l.getD j .empty)=true:=by
 rw [List.getD_eq_getElem?_getD,List.getD_eq_getElem?_getD,List.getElem?_eq_getElem hj,List.getElem?_eq_getElem (by omega)]
 exact List.pairwise_iff_getElem.1 h i j ac hj hij
end Go.Proofs.YtgffbiobmamobaaGreatDoor.Sy
namespace Go.Proofs.YtgffbiobmamobaaGreatDoor.Sy
open Go Go.RowKit
section
variable {P:Program} {N:Nat} {av bor:List Nat} {w0:World}
variable {loc0:List Xl} {X0:World→Prop} {ops:Array Oper} {fuel:Nat} {listed:Array Bool} {E:Env} {loc:List Xl} {X:World→Prop} {k:St→Prop} {K:Exit→St→Prop}
variable {n:Nat} {o:Op} {ty:TypeId} {pos:String} {af:Array Edge} {g:Option (Nat×Bool)} {v:Value} {bb want:Bool}
end
end Go.Proofs.YtgffbiobmamobaaGreatDoor.Sy
namespace Go.Proofs
open Go.Shelf
def Tryz.len64_ren:Go.Shelf.Ren:=⟨fun|129=>165|n=>n,fun|53=>207|3=>3|4=>4|46=>176|5=>5|9=>9|n=>n,fun|n=>n⟩
theorem Tryz.len64:Go.Proofs.Lays.n129 Tryz.prog Tryz.len64_ren:={
 mixed:=by kernel_rfl
 f129:=Tryz.func165.trans (congrArg some (by kernel_rfl))
 t3:=Tryz.underlying3
 a3:=Tryz.isAgg3
 z3:=Tryz.sizeOf3
 v3:=Tryz.zeroValue3
 t4:=Tryz.underlying4
 a4:=Tryz.isAgg4
 z4:=Tryz.sizeOf4
 v4:=Tryz.zeroValue4
 t5:=Tryz.underlying5
 a5:=Tryz.isAgg5
 z5:=Tryz.sizeOf5
 v5:=Tryz.zeroValue5
 t9:=Tryz.underlying9
 a9:=Tryz.isAgg9
 z9:=Tryz.sizeOf9
 v9:=Tryz.zeroValue9
 t46:=Tryz.underlying176
 a46:=Tryz.isAgg176
 z46:=Tryz.sizeOf176
 v46:=Tryz.zeroValue176
 t53:=Tryz.underlying207
 a53:=Tryz.isAgg207
 z53:=Tryz.sizeOf207
 v53:=Tryz.zeroValue207 }
def Tryz.mul64_ren:Go.Shelf.Ren:=⟨fun|264=>190|n=>n,fun|53=>207|46=>176|n=>n,fun|n=>n⟩
theorem Tryz.mul64:Go.Proofs.Lays.n264 Tryz.prog Tryz.mul64_ren:={
 mixed:=by kernel_rfl
 f264:=Tryz.func190.trans (congrArg some (by kernel_rfl))
 t46:=Tryz.underlying176
 a46:=Tryz.isAgg176
 z46:=Tryz.sizeOf176
 v46:=Tryz.zeroValue176
 t53:=Tryz.underlying207
 a53:=Tryz.isAgg207
 z53:=Tryz.sizeOf207
 v53:=Tryz.zeroValue207 }
def Tryz.join_ren:Go.Shelf.Ren:=⟨fun|156=>115|165=>167|166=>168|169=>169|240=>188|241=>189|276=>196|277=>197|n=>n,fun|31=>35|9=>9|3=>3|4=>4|0=>0|20=>20|72=>225|76=>229|70=>223|37=>99|75=>228|127=>249|164=>256|5=>5|80=>231|n=>n,fun|n=>n⟩
theorem Tryz.join:Go.Proofs.Lays.n156 Tryz.prog Tryz.join_ren:={
 mixed:=by kernel_rfl
 f156:=Tryz.func115.trans (congrArg some (by kernel_rfl))
 f165:=Tryz.func167.trans (congrArg some (by kernel_rfl))
 f166:=Tryz.func168.trans (congrArg some (by kernel_rfl))
 f169:=Tryz.func169.trans (congrArg some (by kernel_rfl))
 f240:=Tryz.func188.trans (congrArg some (by kernel_rfl))
 f241:=Tryz.func189.trans (congrArg some (by kernel_rfl))
 f276:=Tryz.func196.trans (congrArg some (by kernel_rfl))
 f277:=Tryz.func197.trans (congrArg some (by kernel_rfl))
 t0:=Tryz.underlying0
 a0:=Tryz.isAgg0
 z0:=Tryz.sizeOf0
 v0:=Tryz.zeroValue0
 t3:=Tryz.underlying3
 a3:=Tryz.isAgg3
 z3:=Tryz.sizeOf3
 v3:=Tryz.zeroValue3
 t4:=Tryz.underlying4
 a4:=Tryz.isAgg4
 z4:=Tryz.sizeOf4
 v4:=Tryz.zeroValue4
 t9:=Tryz.underlying9
 a9:=Tryz.isAgg9
 z9:=Tryz.sizeOf9
 v9:=Tryz.zeroValue9
 t20:=Tryz.underlying20
 a20:=Tryz.isAgg20
 z20:=Tryz.sizeOf20
 v20:=Tryz.zeroValue20
 t31:=Tryz.underlying35
 a31:=Tryz.isAgg35
 z31:=Tryz.sizeOf35
 v31:=Tryz.zeroValue35
 t37:=Tryz.underlying99
 a37:=Tryz.isAgg99
 z37:=Tryz.sizeOf99
 v37:=Tryz.zeroValue99
 t70:=Tryz.underlying223
 a70:=Tryz.isAgg223
 z70:=Tryz.sizeOf223
 v70:=Tryz.zeroValue223
 t72:=Tryz.underlying225
 a72:=Tryz.isAgg225
 z72:=Tryz.sizeOf225
 v72:=Tryz.zeroValue225
 t75:=Tryz.underlying228
 a75:=Tryz.isAgg228
 z75:=Tryz.sizeOf228
 v75:=Tryz.zeroValue228
 t76:=Tryz.underlying229
 a76:=Tryz.isAgg229
 z76:=Tryz.sizeOf229
 v76:=Tryz.zeroValue229
 t127:=Tryz.underlying249
 a127:=Tryz.isAgg249
 z127:=Tryz.sizeOf249
 v127:=Tryz.zeroValue249
 t164:=Tryz.underlying256
 a164:=Tryz.isAgg256
 z164:=Tryz.sizeOf256
 v164:=Tryz.zeroValue256 }
end Go.Proofs
namespace Go.Proofs.YtgffbiobmamobaaGreatDoor
open Go Go.Proofs Sy
section
variable {P:Program} {N:Nat} {av bor:List Nat} {w0:World} {ty:TypeId}
theorem vd {st:St} {x:Operand} {t t2 e b':TypeId} [hs:Ea P t e 1 b'] [he:Xu P e .u8] [h2:X8 P t2] {b n:Nat} {ns:List Int} (hx:ev st.env x=some (.slice (some ⟨b,0,none⟩) n n)) (hm:cel b e (u8s ns)∈st.loc) (hn:ns.length=n) (hn2:n≤maxLen) :
  Sy.Yields P N av bor w0 st (.convert t t2 x) ty (.string (ofInts ns)):=Sy.Yields.mk fun A w ok d pos af g=>by
 have hh:w.heap[b]?=some (.cells (u8s ns).toArray e (0,0)):=(ok.gam.here _ hm).now
 have ho:ORow w e 1 (.slice (some ⟨b,0,none⟩) n n) n (u8s ns):=jx hh (by simp [u8s,hn]) hn2
 have hl:(u8s ns).length=n:=by have:=ho.1;omega
 rcases ho.2 with ⟨h,_⟩|⟨g,cap,cur,fz,hv,hg,hnc,hcm,hcs,htake,hfz⟩
 · cases h
 · cases hv
   have hlc:=run_loadCells_list (P:=P) w ⟨b,0,none⟩ (u8s ns) (fun j u hj=>by
    have hadd:(⟨b,0,none⟩:Addr).add j=⟨b,j,none⟩:=by unfold Addr.add;split<;>simp_all
    rw [hadd,cell_of_row w b j cur e fz hg]
    rw [←htake,List.getElem?_take] at hj
    split at hj
    · simpa using hj
    · cases hj)
   rw [hl] at hlc
   have h3:=run_bytesToString (P:=P) w ⟨b,0,none⟩ n n ns hlc
   have h4:=run_convert_bytes_string (P:=P) w t t2 e (some ⟨b,0,none⟩) n n (bY hs.out).1 he.out h2.out
   rw [h3] at h4
   simp [execOp,ok.eval hx,h4,ofInts]
end
section
variable {P:Program} {N:Nat} {av bor:List Nat} {w0:World} {st:St} {ty:TypeId} {x y z:Operand} {t t2:TypeId}
end
section
variable {P:Program} {N:Nat} {av bor:List Nat} {w0:World} {st:St} {ty:TypeId} {x:Operand} {t:TypeId}
theorem BF {e m i c:Nat} [h:Xv P t] {A:Option Addr} {vs:List Value} {u:Value} (hx:ev st.env x=some (elP A i)) (hm:orow e 1 (.slice A m c) m vs∈st.loc) (hn:m=vs.length) (hi:vs[i]?=some u) :
  Sy.Yields P N av bor w0 st (.load t x) ty u:=Sy.Yields.mk fun B w ok d pos af g=>by
 have e1:(vs.map fun v=>[v]).flatten=vs:=by
  clear hm hn hi
  induction vs with
  | nil=>rfl
  | cons v vs ih=>rw [List.map_cons,List.flatten_cons,ih];rfl
 have ho:=(ok.gam.here _ hm).now
 have hr:Xe w 1 ⟨A,m,c⟩ (vs.map fun v=>[v]):=aM (e:=e) (by rw [e1];exact ho) (by rw [List.length_map];exact hn) fun r hr=>by
  obtain ⟨v,_,rfl⟩:=List.mem_map.1 hr
  rfl
 obtain ⟨h1,hp,hc⟩:=Xe.row hr i [u] (by rw [List.getElem?_map,hi];rfl)
 have hc0:=hc 0 u rfl
 rw [Nat.mul_one,Nat.add_zero] at hc0
 obtain ⟨a,rfl⟩:=Option.isSome_iff_exists.1 hp
 simp [execOp,ok.eval hx,elP,Instr.loadAt,Instr.sureAddr,loadVar,(bI h.out w).1,hc0.2 a rfl]
end
section
variable {P:Program} {N:Nat} {av bor:List Nat} {w0:World} {ops:Array Oper} {rest:List Oper} {kk:St→Prop} {E:Env} {loc:List Xl} {X:World→Prop} {x y:Operand} {t t2:TypeId}
variable {n:Nat} {ty:TypeId} {pos:String} {af:Array Edge} {g:Option (Nat×Bool)} {bb want:Bool}
end
end Go.Proofs.YtgffbiobmamobaaGreatDoor
namespace Go.Proofs.YtgffbiobmamobaaGreatDoor.Sy
open Go Go.RowKit Go.MapKept
class KeyS (P:Program) (kt:TypeId) (κ:Type) [DecidableEq κ] where
 enc:κ→Value
 inj:∀ a b,enc a=enc b→a=b
 check:∀ (w:World) e a,(Instr.checkKey e 10000 kt (enc a)).run P w=.ok () w
 eq:∀ (w:World) a b,(Op.equal kt (enc a) (enc b)).run P w=.ok (decide (a=b)) w
 ask:∀ d a b,P.underlying kt=some d→Instr.sameNow d (enc a) (enc b)=none
 stay:∀ (w:World) a,(Instr.keyThatStays (enc a) (enc a)).run P w=.ok (enc a) w
section
variable {κ:Type} [DecidableEq κ] {β:Type}
end
section
variable {P:Program} {kt:TypeId} {κ:Type} [DecidableEq κ] [K:KeyS P kt κ]
def smapOf (P:Program) (t:TypeId):Option (TypeId×TypeId) :=
 match P.underlying t with
 | some (.map kt et)=>(P.underlying kt).map fun _=>(kt,et)
 | _=>none
class TySMap (P:Program) (t:TypeId) (kt et:outParam Nat):Prop where out:smapOf P t=some (kt,et)
end
section
variable {P:Program} {N:Nat} {av bor:List Nat} {w0:World} {ops:Array Oper} {rest:List Oper} {k:St→Prop} {E:Env} {loc loc':List Xl} {X:World→Prop}
variable {d:Option Tmp} {ty:TypeId} {pos:String} {af:Array Edge} {g:Option (Nat×Bool)} {bb want:Bool}
end
section
variable {κ:Type} [DecidableEq κ] {β:Type}
end
section
variable {P:Program} {kt:TypeId} {κ:Type} [DecidableEq κ] [K:KeyS P kt κ]
end
section
variable {P:Program} {N:Nat} {av bor:List Nat} {w0:World} {ops:Array Oper} {rest:List Oper} {k:St→Prop} {E:Env} {loc loc':List Xl} {X:World→Prop}
variable {d:Option Tmp} {ty:TypeId} {pos:String} {af:Array Edge} {g:Option (Nat×Bool)} {bb want:Bool}
end
end Go.Proofs.YtgffbiobmamobaaGreatDoor.Sy
namespace Go.Proofs.YtgffbiobmamobaaGreatDoor
open Go Go.Proofs Sy
namespace Sy
section
variable {P:Program} {N:Nat} {av bor:List Nat} {w0:World} {loc0:List Xl} {X0:World→Prop} {ops:Array Oper} {fuel:Nat} {listed:Array Bool} {E:Env} {loc:List Xl} {X:World→Prop} {k:St→Prop}
end
end Sy
end Go.Proofs.YtgffbiobmamobaaGreatDoor
