/- Joined. -/
import Derived.Test.YtaolfiikahlmkaaGreatDoorB4
import Derived.RangeFuncSeq
import Derived.OrdersIn
import Derived.Deep.Slices
import Derived.Deep.Fields
import Derived.ChangeSame
import Derived.ChangeArms
import Derived.Carry
import Derived.OpenShut
set_option linter.unusedVariables false
set_option linter.unusedSimpArgs false
set_option maxHeartbeats 16000000
namespace Go.Proofs.YtaolfiikahlmkaaGreatDoor.Sy
open Go Go.RowKit
def fen (ρ:Option Nat):Fence:={ Fence.wide with round:=ρ }
def isDefer:Op→Bool
 | .defer _=>true
 | _=>false
section
variable {P:Program} {N:Nat} {av bor:List Nat} {w0:World} {ops:Array Oper} {st:St}
theorem Hi {ρ:Option Nat} {n:Nat} {row:String} {args:Array Value} {w:World} {R:Value→World→Prop} (h:Rows P row args w R):RowsIn (fen ρ) n P row args w R:=fun c cs _=>by
 obtain ⟨v,w',r,s⟩:=h c cs
 exact ⟨v,w',r,stepsIn_wide.2 s⟩
theorem Fw {ρ:Option Nat} {n:Nat} {f:FuncId} {args:Array Value} {w:World} {R:Ending→World→Prop} (h:Calls P f args w R):CallsIn (fen ρ) n P f args w R:=(callsIn_wide (n:=n)).2 h
theorem F4 {ρ:Option Nat} {n:Nat} {o:Oper} {a:Act} {w:World} {K K':Act→World→Prop} {k k':St→Prop} (hd:isDefer o.op=false) (hK:∀ a w,K a w→K' a w)
  (h:o.wp P a w K (post N av bor w0 (only k'))):o.wpIn (fen ρ) n P a w K' (post N av bor w0 (only k)):=by
 refine ⟨fun _ _=>trivial,?_⟩
 rw [Oper.semAt_plain _ _ _ (fun c e=>by rw [e] at hd;cases hd)]
 unfold Oper.wp at h
 generalize (execOp a.eval o).run P w=r at *
 cases r with
 | ok nx w' =>
  cases nx<;>simp only [Oper.upon] at h<;>simp only [Oper.uponIn]
  case value u=>exact hK _ _ h
  case skip=>exact hK _ _ h
  case defer d=>exact hK _ _ h
  case enter f args =>
   refine ⟨(fun hh=>by cases hh),?_⟩
   refine Fw (Calls.mono h ?_)
   intro e w'' he
   cases e with
   | returned v=>exact hK _ _ he
   | panicked c=>exact (he:False).elim
   | outgrown=>obtain ⟨_,_,h⟩:=he;exact (h:False).elim
  case row row args =>
   refine ⟨(fun hh=>by cases hh),?_⟩
   exact Hi (Rows.mono h fun u w'' he=>hK _ _ he)
 | halt x w'=>cases x<;>simp only [Oper.upon] at h<;>exact (h:False).elim
theorem kc {ρ:Option Nat} {n:Nat} {k k':St→Prop} {rest:List Oper} (hr:∀ a w,post N av bor w0 (only k') .normal a w→wpListIn (fen ρ) n P ops (post N av bor w0 (only k)) rest a w):∀ (todo:List Oper) (a:Act) (w:World),todo.all (fun o=>!isDefer o.op)=true →
  wpList P ops (post N av bor w0 (only k')) todo a w→wpListIn (fen ρ) n P ops (post N av bor w0 (only k)) (todo++rest) a w
 | [],a,w,_,h=>hr a w h
 | o::l,a,w,hd,h=>by
  simp only [List.all_cons,Zq,Bool.not_eq_true'] at hd
  simp only [wpList] at h
  simp only [ZJ,wpListIn]
  split
  · rename_i hw
    simp only [hw,ZM] at h
    rcases h with h|⟨_,_,_,h⟩
    · exact F4 hd.1 (fun a w h=>kc hr l a w hd.2 h) h
    · exact (h:False).elim
  · rename_i hw
    simp only [hw] at h
    exact ⟨fun _ _=>trivial,kc hr l _ _ hd.2 h⟩
theorem yy {ρ:Option Nat} {n:Nat} {k:St→Prop} (todo:List Oper) (a:Act) (w:World) (hd:todo.all (fun o=>!isDefer o.op)=true)
  (h:wpList P ops (post N av bor w0 (only k)) todo a w):wpListIn (fen ρ) n P ops (post N av bor w0 (only k)) todo a w:=by
 have:=kc (ρ:=ρ) (n:=n) (k:=k) (rest:=[]) (fun a w h=>h) todo a w hd h
 rwa [ZI] at this
end
def Cr (P:Program) (N:Nat) (av bor:List Nat) (w0:World) (l:Nat) (c:Code) (st:St) (K:Exit→St→Prop):Prop :=
 ∀ n a w,Ok N av bor w0 st a w→c.wpIn (fen (some l)) n P (post N av bor w0 K) a w
theorem Cr.mk {P:Program} {N:Nat} {av bor:List Nat} {w0:World} {l:Nat} {c:Code} {st:St} {K:Exit→St→Prop} (h:∀ n a w,Ok N av bor w0 st a w→c.wpIn (fen (some l)) n P (post N av bor w0 K) a w):Cr P N av bor w0 l c st K:=h
theorem Cr.run {P:Program} {N:Nat} {av bor:List Nat} {w0:World} {l:Nat} {c:Code} {st:St} {K:Exit→St→Prop} (h:Cr P N av bor w0 l c st K):∀ n a w,Ok N av bor w0 st a w→c.wpIn (fen (some l)) n P (post N av bor w0 K) a w:=h
namespace Rd
section
variable {P:Program} {N:Nat} {av bor:List Nat} {w0:World} {l:Nat} {st:St} {K:Exit→St→Prop} {E:Env} {loc:List Xl} {X:World→Prop}
theorem QT (h:K .normal st):Cr P N av bor w0 l .skip st K:=fun n a w ok=>wpIn_skip ⟨st,h,ok⟩
theorem QQ {x y:Code} (h:Cr P N av bor w0 l x st (thn (fun s=>Cr P N av bor w0 l y s K) K)):Cr P N av bor w0 l (.seq x y) st K:=fun n a w ok =>
 wpIn_seq (wpIn_mono (h n a w ok) (fun e a w q=>by
  cases e with
  | panic _=>exact q
  | outgrown=>exact q
  | normal=>obtain ⟨s,h1,h2⟩:=q;exact h1 n a w h2
  | exit _=>exact q
  | goto _=>exact q
  | ret=>exact q))
theorem dN {c:Operand} {x y:Code} {b:Bool} (hc:ev st.env c=some (.bool b):=by rfl) (ht:b=true→Cr P N av bor w0 l x st K) (hf:b=false→Cr P N av bor w0 l y st K) :
  Cr P N av bor w0 l (.cond c x y) st K:=fun n a w ok=>wpIn_cond_split (ok.eval hc) (fun h=>ht h n a w ok) (fun h=>hf h n a w ok)
theorem QU {c:Operand} {x y:Code} {b:Bool} (hc:ev st.env c=some (.bool b):=by rfl) (hb:b=true:=by exact aw) (ht:Cr P N av bor w0 l x st K) :
  Cr P N av bor w0 l (.cond c x y) st K:=dN hc (fun _=>ht) (fun h=>by rw [hb] at h;cases h)
theorem QV {c:Operand} {x y:Code} {b:Bool} (hc:ev st.env c=some (.bool b):=by rfl) (hb:b=false:=by exact aw) (hf:Cr P N av bor w0 l y st K) :
  Cr P N av bor w0 l (.cond c x y) st K:=dN hc (fun h=>by rw [hb] at h;cases h) (fun _=>hf)
theorem QS {id:Nat} {c:Code} (h:Cr P N av bor w0 l c st (blk id K)):Cr P N av bor w0 l (.block id c) st K:=fun n a w ok =>
 wpIn_block (wpIn_mono (h n a w ok) (fun e a w q=>by
  cases e with
  | panic _=>exact q
  | outgrown=>exact q
  | normal=>exact q
  | exit id' =>
   obtain ⟨s,h1,h2⟩:=q
   by_cases hi:id'=id
   · simp only [blk,hi,ZM] at h1
     simp only [Exit.inBlock,hi,ZM]
     exact ⟨s,h1,h2⟩
   · simp only [blk,hi,if_false] at h1
     simp only [Exit.inBlock,hi,if_false]
     exact ⟨s,h1,h2⟩
  | goto _=>exact q
  | ret=>exact q))
theorem reg_post {k:St→Prop} {e:Exit} {a:Act} {w:World} (hk:∀ s,k s→K .normal s) (h:post N av bor w0 (only k) e a w):post N av bor w0 K e a w:=by
 cases e with
 | panic _=>exact h
 | outgrown=>exact h
 | normal=>obtain ⟨s,h1,h2⟩:=h;exact ⟨s,hk s h1,h2⟩
 | exit _=>obtain ⟨s,h1,h2⟩:=h;exact h1.elim
 | goto _=>obtain ⟨s,h1,h2⟩:=h;exact h1.elim
 | ret=>obtain ⟨s,h1,h2⟩:=h;exact h1.elim
theorem QR {id:Nat} {ol:List Oper} (hno:ol.all (fun o=>!isDefer o.op)=true:=by rfl) (h:Sw P N av bor w0 ol.toArray ol st (K .normal)):Cr P N av bor w0 l (.region id ol.toArray false) st K:=fun n a w ok =>
 wpIn_mono (wpIn_region_lit (yy ol a w hno (h.run a w ok))) fun e a w q=>reg_post (fun _ h=>h) q
end
end Rd
def YCt (P:Program) (l:Nat) (args:List Value) (pre:List Xl) (X:World→Prop) (Post:Value→List Xl→(World→Prop)→Prop):Prop :=
 ∀ (n:Nat) (w:World) (av:List Nat),Xq av (fps pre) w pre X w→YieldAt Fence.wide n P l args.toArray w fun e w'=>∃ v R X',e=.returned v∧Post v R X'∧Xq av (fps pre) w R X' w'
def Sv (P:Program) (N:Nat) (av bor:List Nat) (w0:World) (ops:Array Oper) (todo:List Oper) (st:St) (k:St→Prop):Prop :=
 ∀ n a w,Ok N av bor w0 st a w→wpListIn Fence.wide n P ops (post N av bor w0 (only k)) todo a w
section
variable {P:Program} {N:Nat} {av bor:List Nat} {w0:World} {ops:Array Oper} {rest:List Oper} {k:St→Prop} {E:Env} {loc:List Xl} {X:World→Prop} {K:Exit→St→Prop}
variable {d:Option Tmp} {ty:TypeId} {pos:String} {af:Array Edge} {g:Option (Nat×Bool)} {bb want:Bool}
theorem Dc (hno:rest.all (fun o=>!isDefer o.op)=true) (h:Sw P N av bor w0 ops rest ⟨E,loc,X⟩ k):Sv P N av bor w0 ops rest ⟨E,loc,X⟩ k:=fun n a w ok=>yy (ρ:=none) rest a w hno (h.run a w ok)
theorem Ik {id:Nat} {ol:List Oper} {st:St} (h:Sv P N av bor w0 ol.toArray ol st (K .normal)):Cw P N av bor w0 (.region id ol.toArray false) st K:=Cw.mk fun a w ok =>
 (wpIn_wide (n:=0)).1 (wpIn_mono (wpIn_region_lit (h 0 a w ok)) fun e a w q=>Rd.reg_post (fun _ h=>h) q)
theorem Jm (pre:List Oper) {st:St} (hno:pre.all (fun o=>!isDefer o.op)=true) (h:Sw P N av bor w0 ops pre st (fun s=>Sv P N av bor w0 ops rest s k)):Sv P N av bor w0 ops (pre++rest) st k:=fun n a w ok =>
 kc (ρ:=none) (fun a w ⟨s,h1,h2⟩=>h1 n a w h2) pre a w hno (h.run a w ok)
theorem GO {x:Operand} {xs:List Operand} {ats:Array TypeId} {l:Nat} {args:List Value} {pre fr:List Xl} {X1:World→Prop} {Post:Value→List Xl→(World→Prop)→Prop}
  (hx:ev E x=some (.func (.yield l) #[] #[])) (ha:evs E xs=some args) (hg:gdB ops E g=some (bb,want)) (hb:bb=want) (hd:inB N d=true) (hc:YCt P l args pre X1 Post) (hX:∀ w,X w→X1 w)
  (h:∀ v R X',Post v R X'→Sv P N av bor w0 ops rest ⟨putE E d v,R++fr,fun w=>X w∧X' w⟩ k) :
  Sv P N av bor w0 ops (⟨d,.call ⟨.value x,xs.toArray,ats⟩,ty,pos,af,g⟩::rest) ⟨E,pre++fr,X⟩ k:=fun m a w ok=>by
 simp only [wpListIn]
 rw [bC ok (o:=⟨d,.call ⟨.value x,xs.toArray,ats⟩,ty,pos,af,g⟩) hg]
 subst hb
 simp only [Zy,ZM]
 refine ⟨fun _ _=>trivial,?_⟩
 obtain ⟨av',G0,hback⟩:=ok.call
 obtain ⟨fn,tmps,assign,body,hy,hR⟩:=hc (m-1) w av' (G0.imp hX)
 have e1:xs.toArray.map a.eval=args.toArray:=by rw [List.map_toArray,gK ok xs args ha]
 have hr:(execOp a.eval ⟨d,.call ⟨.value x,xs.toArray,ats⟩,ty,pos,af,g⟩).run P w=.ok (.round l fn tmps assign body) w:=by
  simp only [execOp,resolve,ok.eval (st:=⟨E,pre++fr,X⟩) hx,Deferred.ofValue,invoke,e1]
  simp only [Sem.run_bind,Sem.run_pure,Result.andThen_ok]
  simpa using hy
 rw [Fence.wide_round,Oper.semAt_none,hr]
 simp only [Oper.uponIn]
 refine ⟨(fun hh=>by cases hh),?_⟩
 refine hR.mono ?_
 rintro e w' ⟨v,R,X',he,hp,G'⟩
 subst he
 have ok':=hback R X' w' G'
 exact h v R X' hp m _ _ (cV d v▸ok'.put hd v)
end
def It {α:Type} (P:Program) (g:FuncId) (lb:List Value) (X1:World→Prop) (enc:α→List Value) (xs:List α):Prop :=
 ∀ (l:Nat) (X:World→Prop) (Rs:List α→List Xl→Prop),(∀ w,X w→X1 w) →
  (∀ pre x suf R,xs=pre++x::suf→Rs pre R→YCt P l (enc x) R X fun v R' _=>v=.bool true∧Rs (pre++[x]) R') →
  ∀ R0,Rs [] R0→Ct P g (.func (.yield l) #[] #[]::lb).toArray R0 X fun _ R' _=>Rs xs R'
def putEs (E:Env):List Tmp→List Value→Env
 | p::ps,v::vs=>putEs ((p,v)::E) ps vs
 | _,_=>E
theorem va {N:Nat}:∀ (ps:List Tmp) (vs:List Value) (E:Env) (t:Array Value),ps.all (fun p=>Nat.blt p N)=true→t.size=N→(∀ n v,look E n=some v→t[n]?=some v) →
  ((ps.zip vs).foldl (fun t (p:Tmp×Value)=>t.setIfInBounds p.1 p.2) t).size=N∧∀ n v,look (putEs E ps vs) n=some v→((ps.zip vs).foldl (fun t (p:Tmp×Value)=>t.setIfInBounds p.1 p.2) t)[n]?=some v
 | [],vs,E,t,_,hs,h=>⟨by simpa using hs,fun n v hn=>by simpa [putEs] using h n v (by simpa [putEs] using hn)⟩
 | p::ps,[],E,t,_,hs,h=>⟨by simpa using hs,fun n v hn=>by simpa [putEs] using h n v (by simpa [putEs] using hn)⟩
 | p::ps,v::vs,E,t,hp,hs,h=>by
  simp only [List.all_cons,Zq] at hp
  simp only [List.zip_cons_cons,QE,putEs]
  refine va ps vs ((p,v)::E) _ hp.2 (by simpa using hs) fun n u hn=>?_
  have hlt:p<t.size:=by rw [hs];exact Zw hp.1
  simp only [look] at hn
  by_cases e:n=p
  · subst e
    have hb:Nat.beq n n=true:=by simp
    rw [hb] at hn
    simp only [Zg,ZL] at hn
    subst hn
    simp [hlt]
  · rw [sy e] at hn
    simp only [Zf] at hn
    rw [Array.getElem?_setIfInBounds_ne (Ne.symm e)]
    exact h n u hn
theorem sD {r r':Xl}:∀ (L:List Xl),At r r' (L++[r]) (L++[r'])
 | []=>.here []
 | x::L=>.there x (sD L)
section
variable {P:Program} {N:Nat} {av bor:List Nat} {w0:World} {E:Env} {loc:List Xl} {X:World→Prop} {K:Exit→St→Prop}
def lres (l:Nat) (r:Loop):Xl:=⟨[l],fun w=>w.heap[l]?=some (.loop r)⟩
theorem Fp {α:Type} {g:Operand} {ps:List Tmp} {assign body:Code} {gf:Nat} {lb:List Value} {enc:α→List Value} {xs:List α} {X1:World→Prop}
  (hg:ev E g=some (.func (.func gf) #[] lb.toArray):=by rfl) (hf:Xv P gf:=by first|infer_instance|exact ⟨aj⟩) (hit:It P gf lb X1 enc xs) (hX:∀ w,X w→X1 w:=by (first|exact fun _ _=>trivial|exact fun _ h=>h|exact fun _ h=>h.1|exact fun _ h=>h.2)) (hps:∀ x,(enc x).length=ps.length) (hpn:ps.all (fun p=>Nat.blt p N)=true:=by rfl)
  (Inv:List α→List Xl→Prop) (h0:Inv [] loc)
  (hround:∀ l pre x suf loc1,xs=pre++x::suf→Inv pre loc1→∀ av bor w0,Cr P N av bor w0 l assign ⟨putEs E ps (enc x),loc1,X⟩ (only fun st1=>∀ av bor w0,Cr P N av bor w0 l body st1 (only fun st2=>∃ loc2,loc2.Sublist st2.loc∧Inv (pre++[x]) loc2)))
  (hdone:∀ loc1,Inv xs loc1→K .normal ⟨E,loc1,X⟩):Cw P N av bor w0 (.rangeFunc g ps.toArray assign body) ⟨E,loc,X⟩ K:=Cw.mk fun a w ok=>by
 refine (wpIn_wide (n:=0)).1 (wpIn_rangeFunc fun fn _=>?_)
 obtain ⟨rec,hrec⟩:∃ rec:LoopState→Option Code→Loop,rec=fun st pe=>{ state:=st,pending:=pe,fn,tmps:=a.tmps,params:=ps.toArray,assign,body,defers:=w.heap.size }:=⟨_,rfl⟩
 have G0:Xq av bor w0 (loc++mres a.defers) X w:=ok.gamM
 have G1:=(G0.new (.deferred (some [])) (fun w2=>w2.heap[w.heap.size]?=some (.deferred (some []))) fun _ h=>h).new (.loop (rec .ready none)) (fun w2=>w2.heap[(w.alloc (.deferred (some []))).heap.size]?=some (.loop (rec .ready none))) fun _ h=>h
 rw [World.size_alloc] at G1
 obtain ⟨W1,hW1⟩:∃ W1,(w.alloc (.deferred (some []))).alloc (.loop (rec .ready none))=W1:=⟨_,rfl⟩
 rw [hW1] at G1
 obtain ⟨l,hl⟩:∃ l,w.heap.size+1=l:=⟨_,rfl⟩
 obtain ⟨mk,hmk⟩:∃ mk:Deferred,mk={ target:=.collected w.heap.size,args:=#[] }:=⟨_,rfl⟩
 have hM:mres (mk::a.defers)=⟨[w.heap.size],fun w2=>w2.heap[w.heap.size]?=some (.deferred (some []))⟩::mres a.defers:=by subst hmk;rfl
 have G2:Xq av bor w0 ((lres l (rec .ready none)::loc)++mres (mk::a.defers)) X W1:=by
  rw [hM]
  refine G1.perm ?_
  subst hl
  exact List.Perm.cons _ List.perm_middle.symm
 refine ⟨l,[mk],W1,{ target:=.fn (.func gf) lb.toArray,args:=#[.func (.yield l) #[] #[]] },W1,gf,#[.func (.yield l) #[] #[]]++lb.toArray,W1,?_,?_,fun _ _=>trivial,?_,(fun h=>by cases h),?_⟩
 · rw [←hW1,hrec,←hl,hmk,Fence.wide_round]
   exact run_enterLoop_outer _ _ _ _ _
 · simp only [resolve,ok.eval (st:=⟨E,loc,X⟩) hg]
   simp [go_sem]
 · have eg:∀ args w,(callFunc gf args).run P w=.ok (.enter gf args) w:=fun args w=>kW args w
   simp [invoke,go_sem,eg]
 · -- the function that is ranged over
   have hct:=hit l X (fun pre R=>∃ loc1,Inv pre loc1∧R=lres l (rec .ready none)::loc1) hX ?_ (lres l (rec .ready none)::loc) ⟨loc,h0,rfl⟩
   · have e2:(.func (.yield l) #[] #[]::lb:List Value).toArray=#[.func (.yield l) #[] #[]]++lb.toArray:=by simp
     rw [e2] at hct
     refine (callsIn_wide (n:=0)).2 ((hct.run W1 _ G2.start).mono fun e w' ⟨v,R',X',he,⟨loc1,hI,hR⟩,G'⟩=>?_)
     subst he
     subst hR
     have G3:=G2.frame G'
     have hl3:w'.heap[l]?=some (.loop (rec .ready none)):=(G3.here (lres l (rec .ready none)) (by simp)).now
     refine ⟨none,_,by have:=run_endLoop (P:=P) hl3 (by rw [hrec];simp);rw [hrec] at this;exact this,?_⟩
     refine ⟨⟨E,loc1,X⟩,hdone loc1 hI,ok.size,ok.env,?_⟩
     have G4:=G3.turn (w':=w'.putObj l (.loop { rec .ready none with state:=.exhausted })) (loc':=⟨[l],fun _=>True⟩::(loc1++mres (mk::a.defers))) (At.here _) rfl rfl rfl (by simp [World.putObj]) (fun i hi=>World.putObj_heap_other hi) (fun _ _=>trivial)
     have G5:=(G4.drop (List.sublist_cons_self _ _)).imp fun w h=>h.1
     rw [hrec] at G5
     exact G5
   · -- one round
     rintro pre x suf R hxs ⟨loc1,hI,rfl⟩ n W av' G
     have hlW:W.heap[l]?=some (.loop (rec .ready none)):=(G.here (lres l (rec .ready none)) (by simp)).now
     have hy:=run_yield (P:=P) (args:=(enc x).toArray) hlW (by rw [hrec];simpa using hps x)
     have hrp:∀ s q,(rec s q).params=ps.toArray∧(rec s q).tmps=a.tmps∧(rec s q).assign=assign∧(rec s q).body=body∧(rec s q).state=s:=fun s q=>by subst hrec;exact ⟨rfl,rfl,rfl,rfl,rfl⟩
     refine ⟨_,_,_,_,hy,roundIn_of_wpIn trivial ?_⟩
     rw [(hrp _ _).1,(hrp _ _).2.1,(hrp _ _).2.2.1,(hrp _ _).2.2.2.1]
     have Ga:Xq av' (fps (lres l (rec .ready none)::loc1)) W (loc1++[lres l (rec .ready none)]) X W:=G.perm (List.perm_append_singleton _ _).symm
     have hE:=va (N:=N) ps (enc x) E a.tmps hpn ok.size ok.env
     have hz:(Array.foldl (fun (tmps:Array Value) (x:Tmp×Value)=>tmps.setIfInBounds x.1 x.2) a.tmps (ps.toArray.zip (enc x).toArray))=(ps.zip (enc x)).foldl (fun t (p:Tmp×Value)=>t.setIfInBounds p.1 p.2) a.tmps:=by simp
     have ok0:Ok N (av'++fps [lres l (rec .ready none)]) (fps loc1) W ⟨putEs E ps (enc x),loc1,X⟩ { tmps:=(ps.zip (enc x)).foldl (fun t (p:Tmp×Value)=>t.setIfInBounds p.1 p.2) a.tmps,defers:=[] } W:=⟨hE.1,hE.2,by simpa [mres] using Ga.start⟩
     refine wpIn_mono (F:=fen (some l)) (Q:=post N (av'++fps [lres l (rec .ready none)]) (fps loc1) W (only fun st1=>∀ av bor w0,Cr P N av bor w0 l body st1 (only fun st2=>∃ loc2,loc2.Sublist st2.loc∧Inv (pre++[x]) loc2))) ?_ ?_
     · have:=(hround l pre x suf loc1 hxs hI (av'++fps [lres l (rec .ready none)]) (fps loc1) W).run n _ _ ok0
       simpa using this
     · intro e a1 w1 q
       cases e with
       | panic _=>exact q
       | outgrown=>exact q
       | exit _=>obtain ⟨_,h,_⟩:=q;exact h.elim
       | goto _=>obtain ⟨_,h,_⟩:=q;exact h.elim
       | ret=>obtain ⟨_,h,_⟩:=q;exact h.elim
       | normal =>
        obtain ⟨st1,h1,ok1⟩:=q
        have Gb:=Ga.frame ok1.gamM
        have hl1:w1.heap[l]?=some (.loop (rec .ready none)):=(Gb.here (lres l (rec .ready none)) (by simp)).now
        refine ⟨_,run_beginRound hl1 (hrp _ _).2.2.2.2,?_⟩
        have hb:{ rec .ready none with state:=.busy }=rec .busy none:=by rw [hrec]
        rw [hb]
        have Gc:=Gb.turn (w':=w1.putObj l (.loop (rec .busy none))) (loc':=(st1.loc++mres a1.defers)++[lres l (rec .busy none)]) (sD _) rfl rfl rfl (by simp [World.putObj]) (fun i hi=>World.putObj_heap_other hi)
         (fun w2 h2=>by rw [h2];exact World.putObj_heap_same (QJ.1 hl1).1)
        have ok1':=(h1 (av'++fps [lres l (rec .busy none)]) (fps (st1.loc++mres a1.defers)) (w1.putObj l (.loop (rec .busy none)))).run n a1 _ ⟨ok1.size,ok1.env,Gc.start.imp fun _ h=>h.2⟩
        refine wpIn_mono ok1' ?_
        intro e a2 w3 q
        cases e with
        | panic _=>exact q
        | outgrown=>exact q
        | exit _=>obtain ⟨_,h,_⟩:=q;exact h.elim
        | goto _=>obtain ⟨_,h,_⟩:=q;exact h.elim
        | ret=>obtain ⟨_,h,_⟩:=q;exact h.elim
        | normal =>
         obtain ⟨st2,⟨loc2,hs2,h2⟩,ok2⟩:=q
         have Gd:=Gc.frame ok2.gamM
         have hl3:w3.heap[l]?=some (.loop (rec .busy none)):=(Gd.here (lres l (rec .busy none)) (by simp)).now
         have he:{ rec .busy none with state:=if (none:Option Code).isNone then .ready else .done,pending:=none }=rec .ready none:=by rw [hrec];rfl
         have hr:=run_endRound (P:=P) none hl3
         rw [he] at hr
         have Ge:=Gd.turn (w':=w3.putObj l (.loop (rec .ready none))) (loc':=(st2.loc++mres a2.defers)++[lres l (rec .ready none)]) (sD _) rfl rfl rfl (by simp [World.putObj]) (fun i hi=>World.putObj_heap_other hi)
          (fun w2 h2=>by rw [h2];exact World.putObj_heap_same (QJ.1 hl3).1)
         have Gf:=(Ge.drop (loc':=loc2++[lres l (rec .ready none)]) ((hs2.trans (QC _ _)).append_right _)).perm (List.perm_append_singleton _ _)
         exact ⟨_,_,hr,.bool true,lres l (rec .ready none)::loc2,_,rfl,⟨rfl,loc2,h2,rfl⟩,Gf⟩
end
end Go.Proofs.YtaolfiikahlmkaaGreatDoor.Sy
namespace Go.Proofs.YtaolfiikahlmkaaGreatDoor
open Go Go.Proofs Sy Go.RowKit Go.Deep Go.ChangeShapes Tryz
section
variable {H:Type} {enc:TypeId×Value→H} {P:Program} {w:World} {base:Nat} {spare:Nat→Bool} {held:Bool}
theorem aV {t:TypeId} {fs:Array Field} {fuel:Nat} {cs:List Value} {x:DataW H×List MemPlace} (ht:P.underlying t=some (.struct fs)) (h:DataW.trod enc P w base spare held fuel t cs=some x) {i:Nat} {f:Field} (hf:fs[i]?=some f) {off k:Nat} {t':TypeId} (ho:f.offset=off) (htt:f.type=t') (hk:P.cellsOf t'=k) :
  ∃ n y,DataW.trod enc P w base spare held n t' ((cs.drop off).take k)=some y:=by
 obtain ⟨xs,n,_,_,_,hlen,hg⟩:=DataW.trod_struct ht h
 have h1:=hg i f hf
 have hi:i<fs.size:=(QJ.1 hf).1
 subst ho;subst htt;subst hk
 rw [Zc (by omega)] at h1
 exact ⟨n,_,h1⟩
theorem gI {α:Type} [Inhabited α] {t e:TypeId} {size fuel:Nat} {cs:List Value} {x:DataW H×List MemPlace} (ht:P.underlying t=some (.slice e)) (hc:P.cellsOf e=size) (cells:α→List Value) (Q:α→Prop)
  (each:∀ n cs y,DataW.trod enc P w base spare held n e cs=some y→∃ a,cs=cells a∧Q a) (h:DataW.trod enc P w base spare held fuel t cs=some x) :
  ∃ (s:Xk) (l:List α),cs=[s.v]∧Xf w size s (l.map cells)∧∀ a∈l,Q a:=by
 rcases open_slice ht h with ⟨rfl,_⟩|⟨a,len,cap,m,n,D,Pl,rfl,hb,hl,hm,hmm,hx,hi⟩
 · exact ⟨⟨none,0,0⟩,[],rfl,bz w size,by simp⟩
 · have hlm:len≤m:=by rw [hmm];split<;>omega
   have h1:∀ i,i<len→∃ z:α,w.cells? base (a.add (i*size)) size=some (cells z)∧Q z:=fun i hil=>by
    obtain ⟨cs',h2,h3⟩:=hi i aa
    obtain ⟨z,rfl,hz⟩:=each _ _ _ h3
    rw [hc] at h2
    exact ⟨z,h2,hz⟩
   obtain ⟨F,hF⟩:=choose_lt h1
   refine ⟨⟨some a,len,cap⟩,(List.range len).map F,rfl,⟨by simp,hl,hm,fun i cs' hcs=>?_⟩,fun z hz=>?_⟩
   · simp only [ZY,Z5] at hcs
     have hil:i<len:=by
      cases hr:(List.range len)[i]? with
      | none=>rw [hr] at hcs;cases hcs
      | some k=>have:=(QI.1 hr).1;simpa using this
     rw [List.getElem?_range hil] at hcs
     simp only [Option.map_some,Function.comp_apply,ZL] at hcs
     subst hcs
     obtain ⟨_,hlen,hat⟩:=World.cells?_some (hF i hil).1
     refine ⟨hlen,rfl,fun j u hj=>⟨rfl,fun a' ha'=>?_⟩⟩
     obtain rfl:a=a':=Option.some.inj ha'
     rw [←Go.Deep.add_add,hat j (by rw [←hlen];exact (QI.1 hj).1),hj]
   · simp only [QH,List.mem_range] at hz
     obtain ⟨i,hil,rfl⟩:=hz
     exact (hF i hil).2
theorem CellAt.keep {w':World} {p:Option Addr} {q:Nat} {u:Value} (h:CellAt w p q u) (hs:∀ k,k<w.heap.size→w'.heap[k]?=w.heap[k]?):CellAt w' p q u:=⟨h.1,fun a ha=>by
 have h1:=h.2 a ha
 have h2:(a.add q).block<w.heap.size:=by
  cases hh:w.heap[(a.add q).block]? with
  | none=>simp [World.cell?,hh] at h1
  | some o=>exact (QJ.1 hh).1
 rw [World.cell?_of_block (w:=w) (hs _ h2),h1]⟩
theorem Xf.keep {w':World} {size:Nat} {s:Xk} {xs:List (List Value)} (h:Xf w size s xs) (hs:∀ k,k<w.heap.size→w'.heap[k]?=w.heap[k]?):Xf w' size s xs :=
 ⟨h.len,h.cap,h.max,fun i cs hi=>⟨(h.row i cs hi).1,(h.row i cs hi).2.1,fun j u hj=>CellAt.keep ((h.row i cs hi).2.2 j u hj) hs⟩⟩
theorem CellsAt.keep {w':World} {g:Nat} {l:List Value} (h:CellsAt g l w) (hs:∀ k,k<w.heap.size→w'.heap[k]?=w.heap[k]?):CellsAt g l w':=fun j v hj=>by
 have h1:=h j v hj
 have h2:g<w.heap.size:=by
  cases hh:w.heap[g]? with
  | none=>simp [World.cell?,hh] at h1
  | some o=>exact (QJ.1 hh).1
 rw [World.cell?_of_block (w:=w) (a:=⟨g,j,none⟩) (hs _ h2),h1]
theorem XC.keep {w':World} {c:Xb} (h:XC c w) (hs:∀ k,k<w.heap.size→w'.heap[k]?=w.heap[k]?):XC c w' :=
 ⟨⟨Xf.keep h.1.1 hs,fun a ha=>⟨Xf.keep (h.1.2 a ha).1 hs,Xf.keep (h.1.2 a ha).2 hs⟩⟩,⟨h.2.ini.keep hs,h.2.k.keep hs⟩⟩
theorem Kg {n:Int} (h:(Lit.int .i64 n).wf=true):n<9223372036854775808:=by have:=(Go.bounds_i64 h).2;omega
theorem bp {fuel:Nat} {cs:List Value} {x:DataW H×List MemPlace} (h:DataW.trod enc prog w base spare held fuel 3 cs=some x):∃ n:Int,cs=[.int .i64 n]∧n<9223372036854775808:=by
 obtain ⟨n,h1,_,h3⟩:=DataW.trod_int underlying3 h
 exact ⟨n,h1,Kg h3⟩
theorem bQ {fuel:Nat} {cs:List Value} {x:DataW H×List MemPlace} (h:DataW.trod enc prog w base spare held fuel 9 cs=some x):∃ s:ByteArray,cs=[.string s]∧s.size≤maxLen:=by
 obtain ⟨s,h1,_,h3⟩:=DataW.trod_string underlying9 h
 exact ⟨s,h1,h3⟩
theorem rT {fuel:Nat} {cs:List Value} {x:DataW H×List MemPlace} (h:DataW.trod enc prog w base spare held fuel 39 cs=some x):∃ (s:Xk) (l:List ByteArray),cs=[s.v]∧Strs w s l:=by
 obtain ⟨s,l,h1,h2,_⟩:=gI (α:=ByteArray) underlying39 (size:=1) aj (fun s=>[.string s]) (fun _=>True) (fun n cs y hy=>by obtain ⟨s,h1,_⟩:=bQ hy;exact ⟨s,h1,trivial⟩) h
 exact ⟨s,l,h1,h2⟩
theorem gv {t:TypeId} {fs:Array Field} {P:Program} {fuel k:Nat} {cs:List Value} {x:DataW H×List MemPlace} (ht:P.underlying t=some (.struct fs)) (hk:P.cellsOf t=k) (h:DataW.trod enc P w base spare held fuel t cs=some x):cs.length=k:=by
 obtain ⟨xs,n,_,_,h1,_,_⟩:=DataW.trod_struct ht h
 rw [h1,hk]
theorem um {fuel:Nat} {cs:List Value} {x:DataW H×List MemPlace} (h:DataW.trod enc prog w base spare held fuel 41 cs=some x):∃ b:Xo,cs=b.cells:=by
 have hl:=gv underlying41 (k:=3) aj h
 obtain ⟨n0,y0,h0⟩:=aV (i:=0) (off:=0) (k:=1) (t':=9) underlying41 h rfl rfl rfl aj
 obtain ⟨n1,y1,h1⟩:=aV (i:=1) (off:=1) (k:=1) (t':=9) underlying41 h rfl rfl rfl aj
 obtain ⟨n2,y2,h2⟩:=aV (i:=2) (off:=2) (k:=1) (t':=9) underlying41 h rfl rfl rfl aj
 match cs,hl with
 | [c0,c1,c2],_ =>
  obtain ⟨s0,e0,_⟩:=bQ h0
  obtain ⟨s1,e1,_⟩:=bQ h1
  obtain ⟨s2,e2,_⟩:=bQ h2
  simp at e0 e1 e2
  exact ⟨⟨s0,s1,s2⟩,by rw [e0,e1,e2];rfl⟩
theorem AN {fuel:Nat} {cs:List Value} {x:DataW H×List MemPlace} (h:DataW.trod enc prog w base spare held fuel 112 cs=some x):∃ b:Xy,cs=b.cells∧b.to<9223372036854775808∧b.eph<9223372036854775808:=by
 have hl:=gv underlying112 (k:=5) aj h
 obtain ⟨n0,y0,h0⟩:=aV (i:=0) (off:=0) (k:=1) (t':=3) underlying112 h rfl rfl rfl aj
 obtain ⟨n1,y1,h1⟩:=aV (i:=1) (off:=1) (k:=1) (t':=3) underlying112 h rfl rfl rfl aj
 obtain ⟨n2,y2,h2⟩:=aV (i:=2) (off:=2) (k:=3) (t':=41) underlying112 h rfl rfl rfl aj
 match cs,hl with
 | [c0,c1,c2,c3,c4],_ =>
  obtain ⟨s0,e0,b0⟩:=bp h0
  obtain ⟨s1,e1,b1⟩:=bp h1
  obtain ⟨s2,e2⟩:=um h2
  simp [Xo.cells] at e0 e1 e2
  exact ⟨⟨s0,s1,s2⟩,by simp [Xy.cells,e0,e1,e2],b0,b1⟩
theorem wt {fuel:Nat} {cs:List Value} {x:DataW H×List MemPlace} (h:DataW.trod enc prog w base spare held fuel 42 cs=some x):∃ (s:Xk) (l:List Xy),cs=[s.v]∧Wraps w s l∧∀ b∈l,b.to<9223372036854775808∧b.eph<9223372036854775808:=by
 haveI:Inhabited Xy:=⟨⟨0,0,Xo.zero⟩⟩
 exact gI (α:=Xy) underlying42 (size:=5) aj Xy.cells _ (fun n cs y hy=>AN hy) h
theorem j1 {fuel:Nat} {cs:List Value} {x:DataW H×List MemPlace} (h:DataW.trod enc prog w base spare held fuel 44 cs=some x):∃ e s:Int,cs=[.int .i64 e,.int .i64 s]∧e<9223372036854775808∧s<9223372036854775808:=by
 have hl:=gv underlying44 (k:=2) aj h
 obtain ⟨n0,y0,h0⟩:=aV (i:=0) (off:=0) (k:=1) (t':=3) underlying44 h rfl rfl rfl aj
 obtain ⟨n1,y1,h1⟩:=aV (i:=1) (off:=1) (k:=1) (t':=3) underlying44 h rfl rfl rfl aj
 match cs,hl with
 | [c0,c1],_ =>
  obtain ⟨s0,e0,b0⟩:=bp h0
  obtain ⟨s1,e1,b1⟩:=bp h1
  simp at e0 e1
  exact ⟨s0,s1,by rw [e0,e1],b0,b1⟩
theorem DU {fuel:Nat} {cs:List Value} {x:DataW H×List MemPlace} (h:DataW.trod enc prog w base spare held fuel 46 cs=some x):∃ a:Xa,cs=a.cells∧a.at_ w∧a.Rng∧a.target.size≤maxLen:=by
 have hl:=gv underlying46 (k:=20) aj h
 obtain ⟨n0,y0,h0⟩:=aV (i:=0) (off:=0) (k:=1) (t':=9) underlying46 h rfl rfl rfl aj
 obtain ⟨n1,y1,h1⟩:=aV (i:=1) (off:=1) (k:=1) (t':=3) underlying46 h rfl rfl rfl aj
 obtain ⟨n2,y2,h2⟩:=aV (i:=2) (off:=2) (k:=1) (t':=9) underlying46 h rfl rfl rfl aj
 obtain ⟨n3,y3,h3⟩:=aV (i:=3) (off:=3) (k:=1) (t':=3) underlying46 h rfl rfl rfl aj
 obtain ⟨n4,y4,h4⟩:=aV (i:=4) (off:=4) (k:=1) (t':=3) underlying46 h rfl rfl rfl aj
 obtain ⟨n5,y5,h5⟩:=aV (i:=5) (off:=5) (k:=1) (t':=9) underlying46 h rfl rfl rfl aj
 obtain ⟨n6,y6,h6⟩:=aV (i:=6) (off:=6) (k:=1) (t':=9) underlying46 h rfl rfl rfl aj
 obtain ⟨n7,y7,h7⟩:=aV (i:=7) (off:=7) (k:=1) (t':=3) underlying46 h rfl rfl rfl aj
 obtain ⟨n8,y8,h8⟩:=aV (i:=8) (off:=8) (k:=1) (t':=9) underlying46 h rfl rfl rfl aj
 obtain ⟨n9,y9,h9⟩:=aV (i:=9) (off:=9) (k:=1) (t':=39) underlying46 h rfl rfl rfl aj
 obtain ⟨n10,y10,h10⟩:=aV (i:=10) (off:=10) (k:=1) (t':=9) underlying46 h rfl rfl rfl aj
 obtain ⟨n11,y11,h11⟩:=aV (i:=11) (off:=11) (k:=3) (t':=41) underlying46 h rfl rfl rfl aj
 obtain ⟨n12,y12,h12⟩:=aV (i:=12) (off:=14) (k:=1) (t':=3) underlying46 h rfl rfl rfl aj
 obtain ⟨n13,y13,h13⟩:=aV (i:=13) (off:=15) (k:=1) (t':=42) underlying46 h rfl rfl rfl aj
 obtain ⟨n14,y14,h14⟩:=aV (i:=14) (off:=16) (k:=1) (t':=3) underlying46 h rfl rfl rfl aj
 obtain ⟨n15,y15,h15⟩:=aV (i:=15) (off:=17) (k:=1) (t':=3) underlying46 h rfl rfl rfl aj
 obtain ⟨n16,y16,h16⟩:=aV (i:=16) (off:=18) (k:=2) (t':=44) underlying46 h rfl rfl rfl aj
 match cs,hl with
 | [c0,c1,c2,c3,c4,c5,c6,c7,c8,c9,c10,c11,c12,c13,c14,c15,c16,c17,c18,c19],_ =>
  obtain ⟨s0,e0,b0⟩:=bQ h0
  obtain ⟨s1,e1,b1⟩:=bp h1
  obtain ⟨s2,e2,b2⟩:=bQ h2
  obtain ⟨s3,e3,b3⟩:=bp h3
  obtain ⟨s4,e4,b4⟩:=bp h4
  obtain ⟨s5,e5,b5⟩:=bQ h5
  obtain ⟨s6,e6,b6⟩:=bQ h6
  obtain ⟨s7,e7,b7⟩:=bp h7
  obtain ⟨s8,e8,b8⟩:=bQ h8
  obtain ⟨s9,l9,e9,b9⟩:=rT h9
  obtain ⟨s10,e10,b10⟩:=bQ h10
  obtain ⟨s11,e11⟩:=um h11
  obtain ⟨s12,e12,b12⟩:=bp h12
  obtain ⟨s13,l13,e13,b13,r13⟩:=wt h13
  obtain ⟨s14,e14,b14⟩:=bp h14
  obtain ⟨s15,e15,b15⟩:=bp h15
  obtain ⟨s16,s17,e16,b16,b17⟩:=j1 h16
  simp [Xo.cells] at e0 e1 e2 e3 e4 e5 e6 e7 e8 e9 e10 e11 e12 e13 e14 e15 e16
  refine ⟨⟨s0,s1,s2,s3,s4,s5,s6,s7,s8,s9,s10,s11,s12,s13,s14,s15,s16,s17,l9,l13⟩,?_,⟨b9,b13⟩,⟨⟨b1,b3,b4,b7,b12,b14,b15,b16,b17⟩,r13,by have:=Xf.len b9;simpa [strs] using this,by have:=Xf.len b13;simpa using this⟩,b6⟩
  simp [Xa.cells,e0,e1,e2,e3,e4,e5,e6,e7,e8,e9,e10,e11,e12,e13,e14,e15,e16]
end
end Go.Proofs.YtaolfiikahlmkaaGreatDoor
namespace Go.Proofs.YtaolfiikahlmkaaGreatDoor
open Go Go.Proofs Sy Go.RowKit Go.Deep Go.ChangeShapes Tryz
section
variable {H:Type} {enc:TypeId×Value→H} {P:Program} {w:World} {base:Nat} {spare:Nat→Bool} {held:Bool}
theorem jj {fuel:Nat} {cs:List Value} {x:DataW H×List MemPlace} (h:DataW.trod enc prog w base spare held fuel 39 cs=some x):∃ (s:Xk) (l:List ByteArray),cs=[s.v]∧Strs w s l∧∀ x∈l,x.size≤maxLen:=by
 obtain ⟨s,l,h1,h2,h3⟩:=gI (α:=ByteArray) underlying39 (size:=1) aj (fun s=>[.string s]) (fun s=>s.size≤maxLen) (fun n cs y hy=>by obtain ⟨s,h1,h2⟩:=bQ hy;exact ⟨s,h1,h2⟩) h
 exact ⟨s,l,h1,h2,h3⟩
end
end Go.Proofs.YtaolfiikahlmkaaGreatDoor
namespace Go.Proofs.YtaolfiikahlmkaaGreatDoor
open Go Go.Proofs Sy Tryz
def draftV (c:Xb) (k t:Int):Xa:={ Xa.zero with author:=c.id,seq:=(c.acts.n:Int),prev:=c.prev,kind:=k,time:=t }
theorem Fm (c:Xb) (k t:Int):Pu prog 34 #[c.v,.int .i64 k,.int .i64 t] (fun _=>True) (draftV c k t).v:=by
 refine ax func34 ntmps34 fun av bor w0=>?_
 repeat' (first|refine gs ?_|refine gs1 fun _=>?_|(refine aG (cs:=(draftV c k t).cells) (hf:=by rfl) ?_)|fail)
 exact ab (bV rfl rfl aM (by rfl)) rfl
def undoK (k:Int):Bool:=decide (k=4)||decide (k=5)||decide (k=7)||decide (k=8)||decide (k=10)||decide (k=11)||decide (k=17)||decide (k=23)
theorem sT (k:Int):Pu prog 192 #[.int .i64 k] (fun _=>True) (.bool (undoK k)):=by
 refine ax func192 ntmps192 fun av bor w0=>?_
 repeat' (first|refine gs ?_|(refine gp ?_ ?_<;>intro hx_ this)|fail)
 (all_goals (apply ab;apply ag;rfl;rfl));all_goals (simp only [undoK, *,Za,Zg,Zf];done)
def atK (c:Xb) (o:Option Nat) (p:Int→Bool):Bool:=match o with
 | some j=>p (c.actsL.getD j Xa.zero).kind
 | none=>false
def fitsV (c:Xb) (a:Xa) (pl:Option Nat):Bool :=
 bif !rightB a||!seqB a.author c.id||!decide (a.seq=(c.acts.n:Int))||!seqB a.prev c.prev then false
 else bif decide (a.kind=0) != decide ((c.acts.n:Int)=0) then false
 else bif decide (a.kind=6) then atK c pl undoK
 else bif decide (a.kind=13)||decide (a.kind=14) then atK c pl postK else true
set_option maxRecDepth 20000 in
theorem HU (c:Xb) (a:Xa) (gf:Nat) [Xv prog gf] (lb:List Value) (pl:Option Nat) (Y:World→Prop) (hpl:Pu prog gf (.string a.object::lb).toArray Y (idxP pl)) (hlt:∀ j,pl=some j→j<c.actsL.length) :
  Pu prog 119 #[c.v,a.v,.func (.func gf) #[] lb.toArray] (fun w=>c.at_ w∧a.at_ w∧Y w) (.bool (fitsV c a pl)):=by
 refine ax func119 ntmps119 fun av bor w0=>?_
 refine aQ (p:=c.acts.n=c.actsL.length∧c.acts.n≤maxLen∧(0<c.actsL.length→c.acts.p.isSome=true)) (fun w h=>⟨h.1.len_,h.1.max_,h.1.some_⟩) fun ⟨hl,hm,hp⟩=>?_
 simp only [maxLen] at hm
 have hri:=dX a
 cases hB:(!rightB a||!seqB a.author c.id||!decide (a.seq=(c.acts.n:Int))||!seqB a.prev c.prev) with
 | true =>
  rw [show fitsV c a pl=false from by rw [fitsV,hB];rfl]
  repeat' (first|(refine ae (hc:=hri) (hX:=fun _ h=>h.2.1) ?_)|refine gs ?_|refine gs1 fun _=>?_|(refine gp ?_ ?_<;>intro hx_ this)|fail)
  all_goals first
   | (apply ab;apply ag;rfl;rfl;rfl)
   | (exfalso;simp_all;done)
 | false =>
  have hB':=hB
  simp only [Qj,Bool.not_eq_false',Zv] at hB'
  obtain ⟨⟨⟨e1,e2⟩,e3⟩,e4⟩:=hB'
  rw [e1] at hri
  cases hK:(decide (a.kind=0) != decide ((c.acts.n:Int)=0)) with
  | true =>
   rw [show fitsV c a pl=false from by rw [fitsV,hB,hK];rfl]
   repeat' (first|refine fA (hab:=e3) ?_|(refine ae (hc:=hri) (hX:=fun _ h=>h.2.1) ?_)|refine gs ?_|refine gs1 fun _=>?_|(refine gp ?_ ?_<;>intro hx_ this)|fail)
   all_goals first
    | (apply ab;apply ag;rfl;rfl;rfl)
    | (exfalso;simp_all;done)
  | false =>
   have hF:fitsV c a pl=(bif decide (a.kind=6) then atK c pl undoK else bif decide (a.kind=13)||decide (a.kind=14) then atK c pl postK else true):=by rw [fitsV,hB,hK];rfl
   rw [hF]
   cases pl with
   | none =>
    have hpl':Pu prog gf (.string a.object::lb).toArray Y (.tuple #[.int .i64 0,.bool false]):=hpl
    repeat' (first|refine fA (hab:=e3) ?_|(refine ae (hc:=hri) (hX:=fun _ h=>h.2.1) ?_)|(refine fx (hc:=hpl') (hX:=fun _ h=>h.2.2) (h:=?_))|refine gs ?_|refine gs1 fun _=>?_|(refine gp ?_ ?_<;>intro hx_ this)|fail)
    all_goals first
     | (exfalso;simp_all;done)
     | (apply ab;apply ag;rfl;rfl;simp_all [atK];done)
   | some j =>
    have hjl:=hlt j rfl
    have hp':=hp aa
    obtain ⟨x,hx⟩:∃ x,c.actsL[j]?=some x:=⟨_,Zc hjl⟩
    have hA:∀ p,atK c (some j) p=p x.kind:=fun p=>by simp only [atK,Zp,hx,Qc]
    rw [hA,hA] at hF ⊢
    have hpl':Pu prog gf (.string a.object::lb).toArray Y (.tuple #[.int .i64 (j:Nat),.bool true]):=hpl
    clear hpl
    repeat' (first|refine fA (hab:=e3) ?_|(refine ae (hc:=hri) (hX:=fun _ h=>h.2.1) ?_)|(refine fx (hc:=hpl') (hX:=fun _ h=>h.2.2) (h:=?_))|refine ae (hc:=sT x.kind) ?_|refine ae (hc:=oo x.kind) ?_|refine gs ?_|refine gs1 fun _=>?_|(refine aD (q:=j*20) ?_)|(refine d6 ?_)|(refine cB (q:=j*20+3) (u:=.int .i64 x.kind) (hF:=fun w h=>(Acts.get h.1 hx).2.2 3 _ rfl) ?_)|(refine gp ?_ ?_<;>intro hx_ this)|fail)
    all_goals first
     | (exfalso;simp_all;done)
     | (apply ab;apply ag;rfl;rfl;simp_all;done)
end Go.Proofs.YtaolfiikahlmkaaGreatDoor
namespace Go.Proofs.YtaolfiikahlmkaaGreatDoor
open Go Go.Proofs Sy
structure Xm where
 from_:Int
 public_:Int
 home:Int
def Xm.cells (k:Xm):List Value:=[.int .i64 k.from_,.int .i64 k.public_,.int .i64 k.home]
def Xm.v (k:Xm):Value:=.agg k.cells.toArray
def Xm.zero:Xm:=⟨0,0,0⟩
def Keyz (w:World) (s:Xk) (l:List Xm):Prop:=Xf w 3 s (l.map Xm.cells)
namespace Sy
section
variable {P:Program} {N:Nat} {av bor:List Nat} {w0:World} {ops:Array Oper} {rest:List Oper} {E:Env} {loc:List Xl} {X:World→Prop} {k:St→Prop} {ty:TypeId} {pos:String} {af:Array Edge} {g:Option (Nat×Bool)} {bb want:Bool}
end
end Sy
end Go.Proofs.YtaolfiikahlmkaaGreatDoor
namespace Go.Proofs.YtaolfiikahlmkaaGreatDoor
open Go Go.Proofs Sy
structure Ec where
 acts:List Xa
 keys:List Xm
 prev:ByteArray
 gen:Nat
structure Ef where
 L:List Xa
 id:ByteArray
 won:Nat→Option Xg
 clm:Int→Xg→Bool
 dgC:Xg→ByteArray
 ver:Int→Xa→Bool
 B:Nat
def Ec.key (st:Ec):Int:=(st.keys.getD (st.keys.length-1) Xm.zero).public_
def Ec.ch (st:Ec) (id:ByteArray):Xb:=⟨id,⟨none,st.acts.length,0⟩,⟨none,0,0⟩,st.prev,(st.gen:Int),false,st.acts⟩
def posB (n:Nat) (p:ByteArray) (a:Xa):Bool:=decide (a.seq=(n:Int))&&seqB a.prev p
def addS (st:Ec) (a:Xa):Ec:=⟨st.acts++[a],bif decide (a.kind=18) then st.keys++[⟨((st.acts.length+1:Nat):Int),a.n,a.m⟩] else st.keys,digV a,st.gen⟩
def setI (l:List Xa):Nat→Option Nat
 | 0=>none
 | n+1=>bif decide ((l.getD n Xa.zero).kind=19) then some n else setI l n
def regS (W:Ef) (st:Ec):Option Ec:=match W.won st.gen with
 | none=>none
 | some c=>bif decide (c.base=(st.acts.length:Int))&&seqB c.prev st.prev then (match setI st.acts st.acts.length with
  | none=>none
  | some i=>bif W.clm (st.acts.getD i Xa.zero).m c then some ⟨st.acts,st.keys++[⟨(st.acts.length:Nat),c.pub,c.home⟩],W.dgC c,st.gen+1⟩ else none) else none
def candB (W:Ef) (st:Ec) (a:Xa):Bool:=fitsV (st.ch W.id) a (idxV st.acts a.object)&&W.ver st.key a
def candL (W:Ef) (st:Ec):List Xa:=(W.L.filter (posB st.acts.length st.prev)).filter (candB W st)
def oneA:List Xa→Option Xa
 | [a]=>some a
 | _=>none
def stepS (W:Ef) (st:Ec):Option Ec:=match regS W st with
 | some s=>some s
 | none=>(oneA (candL W st)).map (addS st)
def runS (W:Ef):Nat→Ec→Ec
 | 0,st=>st
 | n+1,st=>match stepS W st with
  | some s=>runS W n s
  | none=>st
def firstB (W:Ef) (a:Xa):Bool:=decide (a.kind=0)&&seqB (idV a.n) W.id&&W.ver a.n a
def firstL (W:Ef):List Xa:=(W.L.filter (posB 0 ⟨#[]⟩)).filter (firstB W)
def begS (a:Xa):Ec:=addS ⟨[],[⟨0,a.n,a.m⟩],⟨#[]⟩,0⟩ a
def finS (W:Ef) (a:Xa):Ec:=runS W (W.L.length+W.B) (begS a)
structure InvS (W:Ef) (st:Ec):Prop where
 seq:∀ i,i<st.acts.length→∃ a∈W.L,a.seq=(i:Int)
 mem:∀ a∈st.acts,a∈W.L
 one:0<st.acts.length
 key:0<st.keys.length
 keyn:st.keys.length≤st.acts.length+st.gen+1
 gen:st.gen≤W.B
theorem ld:∀ {n:Nat} {l:List Int},(∀ i,i<n→(i:Int)∈l)→n≤l.length
 | 0,l,_=>Z2 _
 | n+1,l,h=>by
  have ih:=ld (n:=n) (l:=l.erase (n:Int)) fun i hi=>(List.mem_erase_of_ne aa).2 (h i aa)
  have hm:=h n (Nat.lt_succ_self n)
  rw [List.length_erase_of_mem hm] at ih
  have:0<l.length:=List.length_pos_of_mem hm
  omega
theorem InvS.len {W:Ef} {st:Ec} (h:InvS W st):st.acts.length≤W.L.length:=by
 have:=ld (n:=st.acts.length) (l:=W.L.map Xa.seq) fun i hi=>by
  obtain ⟨a,ha,e⟩:=h.seq i hi
  exact QH.2 ⟨a,ha,e⟩
 simpa using this
def muS (W:Ef) (st:Ec):Nat:=(W.L.length-st.acts.length)+(W.B-st.gen)
theorem fJ {l:List Xa} {a:Xa} (h:oneA l=some a):l=[a]:=by
 cases l with
 | nil=>cases h
 | cons x r =>
  cases r with
  | nil=>rw [oneA,ZL] at h;rw [h]
  | cons y r=>cases h
theorem qm {W:Ef} {st s:Ec} (h:regS W st=some s):∃ c,W.won st.gen=some c∧s.acts=st.acts∧s.gen=st.gen+1∧s.keys.length=st.keys.length+1:=by
 rw [regS] at h
 cases hw:W.won st.gen with
 | none=>rw [hw] at h;cases h
 | some c =>
  rw [hw] at h
  simp only at h
  cases hb:decide (c.base=(st.acts.length:Int))&&seqB c.prev st.prev with
  | false=>rw [hb] at h;cases h
  | true =>
   rw [hb] at h
   cases hs:setI st.acts st.acts.length with
   | none=>rw [hs] at h;cases h
   | some i =>
    rw [hs] at h
    simp only [Zg] at h
    cases hc:W.clm (st.acts.getD i Xa.zero).m c with
    | false=>rw [hc] at h;cases h
    | true =>
     rw [hc,Zg,ZL] at h
     subst h
     exact ⟨c,rfl,rfl,rfl,by simp⟩
theorem kx {W:Ef} {st:Ec} {a:Xa} (h:a∈candL W st):a∈W.L∧a.seq=(st.acts.length:Int)∧candB W st a=true:=by
 rw [candL,QL,QL] at h
 have h2:=h.1.2
 simp only [posB,Zq,Zv] at h2
 exact ⟨h.1.1,h2.1,h.2⟩
theorem BM (st:Ec) (a:Xa):st.keys.length≤(addS st a).keys.length∧(addS st a).keys.length≤st.keys.length+1:=by
 simp only [addS]
 cases decide (a.kind=18) with
 | true=>simp
 | false=>simp
theorem jM {W:Ef} (hB:∀ g c,W.won g=some c→g<W.B) {st s:Ec} (h:InvS W st) (hs:stepS W st=some s):InvS W s∧muS W s+1≤muS W st:=by
 have hl:=h.len
 rw [stepS] at hs
 cases hr:regS W st with
 | some s' =>
  rw [hr,ZL] at hs
  subst hs
  obtain ⟨c,h1,h2,h3,h4⟩:=qm hr
  have:=hB _ _ h1
  refine ⟨⟨by rw [h2];exact h.seq,by rw [h2];exact h.mem,by rw [h2];exact h.one,by omega,by rw [h2,h3];have:=h.keyn;omega,by omega⟩,?_⟩
  simp only [muS,h2,h3]
  omega
 | none =>
  rw [hr] at hs
  cases ho:oneA (candL W st) with
  | none=>rw [ho] at hs;cases hs
  | some a =>
   rw [ho,Option.map_some,ZL] at hs
   subst hs
   have ha:a∈candL W st:=by rw [fJ ho];exact Z3.2 rfl
   obtain ⟨m1,m2,m3⟩:=kx ha
   have hk:=BM st a
   have hal:(addS st a).acts.length=st.acts.length+1:=by simp [addS]
   have hI:InvS W (addS st a):=⟨fun i hi=>by
     rw [hal] at hi
     by_cases e:i=st.acts.length
     · subst e;exact ⟨a,m1,m2⟩
     · exact h.seq i aa,fun x hx=>by
     rcases Qw.1 (show x∈st.acts++[a] from hx) with hx|hx
     · exact h.mem x hx
     · rw [Z3.1 hx];exact m1,by omega,by have:=h.key;omega,by rw [hal];have:=h.keyn;show _≤_+st.gen+1;omega,h.gen⟩
   refine ⟨hI,?_⟩
   have:=hI.len
   simp only [muS,hal] at *
   show _+(W.B-st.gen)+1≤_
   omega
theorem fT {W:Ef} {st:Ec} (h:stepS W st=none):∀ n,runS W n st=st
 | 0=>rfl
 | n+1=>by rw [runS,h]
theorem eT {W:Ef} {st s:Ec} (h:stepS W st=some s) {n:Nat}:runS W (n+1) st=runS W n s:=by rw [runS,h]
theorem sz {W:Ef} {a:Xa} (ha:a∈firstL W):InvS W (begS a)∧muS W (begS a)+1≤W.L.length+W.B:=by
 rw [firstL,QL,QL] at ha
 have h2:=ha.1.2
 simp only [posB,Zq,Zv] at h2
 have h3:=ha.2
 simp only [firstB,Zq,Zv] at h3
 have hk:begS a=⟨[a],[⟨0,a.n,a.m⟩],digV a,0⟩:=by
  rw [begS,addS,h3.1.1]
  rfl
 have hL:0<W.L.length:=List.length_pos_of_mem ha.1.1
 rw [hk]
 refine ⟨⟨fun i hi=>⟨a,ha.1.1,by rw [h2.1,show i=0 from by simpa using hi]⟩,fun x hx=>by rw [Z3.1 hx];exact ha.1.1,by simp,by simp,by simp,Z2 _⟩,?_⟩
 simp only [muS,List.length_singleton]
 omega
end Go.Proofs.YtaolfiikahlmkaaGreatDoor
namespace Go.Proofs.YtaolfiikahlmkaaGreatDoor.Sy
open Go Go.RowKit Go.MapKept
class KeyS (P:Program) (kt:TypeId) (κ:Type) [DecidableEq κ] where
 enc:κ→Value
 inj:∀ a b,enc a=enc b→a=b
 check:∀ (w:World) e a,(Instr.checkKey e 10000 kt (enc a)).run P w=.ok () w
 eq:∀ (w:World) a b,(Op.equal kt (enc a) (enc b)).run P w=.ok (decide (a=b)) w
 ask:∀ d a b,P.underlying kt=some d→Instr.sameNow d (enc a) (enc b)=none
 stay:∀ (w:World) a,(Instr.keyThatStays (enc a) (enc a)).run P w=.ok (enc a) w
section
variable {κ:Type} [DecidableEq κ] {β:Type}
def dget:List (κ×β)→κ→Option β
 | [],_=>none
 | (k',v')::r,k=>bif decide (k=k') then some v' else dget r k
def dput:List (κ×β)→κ→β→List (κ×β)
 | [],k,v=>[(k,v)]
 | (k',v')::r,k,v=>bif decide (k=k') then (k,v)::r else (k',v')::dput r k v
theorem lz:∀ (b:List (κ×β)) (k a:κ) (v:β),dget (dput b k v) a=bif decide (a=k) then some v else dget b a
 | [],k,a,v=>rfl
 | (k',v')::r,k,a,v=>by
  have ih:=lz r k a v
  simp only [dput]
  by_cases hk:k=k'
  · subst hk
    simp only [Zs,Zg,dget]
    cases decide (a=k)<;>rfl
  · simp only [hk,Zr,Zf,dget,ih]
    by_cases ha:a=k'
    · subst ha
      have:¬ a=k:=fun e=>hk e.symm
      simp [this]
    · simp [ha]
theorem vd:∀ {b:List (κ×β)} {k:κ} {v:β},dget b k=some v→(k,v)∈b
 | (k',v')::r,k,v,h=>by
  simp only [dget] at h
  by_cases hk:k=k'
  · simp only [hk,Zs,Zg,ZL] at h
    rw [hk,h]
    exact ao
  · simp only [hk,Zr,Zf] at h
    exact Zu _ (vd h)
end
section
variable {P:Program} {kt:TypeId} {κ:Type} [DecidableEq κ] [K:KeyS P kt κ]
def SMapAt (P:Program) (kt:TypeId) {κ:Type} [DecidableEq κ] [K:KeyS P kt κ] (w:World) (g:Nat) (l:List (κ×Value)):Prop :=
 ∃ es clock,w.heap[g]?=some (.map es clock)∧Stamped es clock∧es.toList.map (fun e=>(e.key,e.val))=l.map fun p=>(K.enc p.1,p.2)
def smapr (P:Program) (kt:TypeId) {κ:Type} [DecidableEq κ] [K:KeyS P kt κ] (g:Nat) (l:List (κ×Value)):Xl:=⟨[g],fun w=>SMapAt P kt w g l⟩
theorem ls (w:World) (k:κ):∀ (es:List MapEntry) (l:List (κ×Value)) (i:Nat),es.map (fun e=>(e.key,e.val))=l.map (fun p=>(K.enc p.1,p.2)) →
  ((Instr.findAsking kt (K.enc k) es i).run P w=.ok none w∧dget l k=none∧(∀ v,dput l k v=l++[(k,v)])∧∀ x∈es,x.key≠K.enc k) ∨
  ∃ j e v0,(Instr.findAsking kt (K.enc k) es i).run P w=.ok (some (i+j,v0)) w∧es[j]?=some e∧e.key=K.enc k∧dget l k=some v0∧∀ v,dput l k v=l.set j (k,v)
 | [],l,i,h=>by
  have:l=[]:=by cases l<;>simp_all
  subst this
  exact .inl ⟨rfl,rfl,fun _=>rfl,by simp⟩
 | e::es,[],i,h=>by simp at h
 | e::es,(k',v')::l,i,h=>by
  simp only [ZZ,List.cons.injEq,Prod.mk.injEq] at h
  obtain ⟨⟨h1,h2⟩,h3⟩:=h
  have hs:(Op.equal kt (K.enc k) e.key).run P w=.ok (decide (k=k')) w:=by rw [h1];exact K.eq w k k'
  by_cases hb:k=k'
  · subst hb
    exact .inr ⟨0,e,v',by simp [Instr.findAsking,hs,h2,Result.andThen],rfl,h1,by simp [dget],fun v=>by simp [dput]⟩
  · have hne:e.key≠K.enc k:=fun q=>hb (K.inj _ _ (q.symm.trans h1))
    rcases ls w k es l (i+1) h3 with ⟨g1,g2,g3,g4⟩|⟨j,e',v0,g1,g2,g3,g4,g5⟩
    · exact .inl ⟨by simp [Instr.findAsking,hs,hb,g1,Result.andThen],by simp [dget,hb,g2],fun v=>by simp [dput,hb,g3],fun x hx=>by
       cases hx with
       | head=>exact hne
       | tail _ hx=>exact g4 x hx⟩
    · exact .inr ⟨j+1,e',v0,by simp [Instr.findAsking,hs,hb,g1,Result.andThen];omega,by simpa using g2,g3,by simp [dget,hb,g4],fun v=>by simp [dput,hb,g5]⟩
theorem jQ {w:World} {d:TypeDesc} (hd:P.underlying kt=some d) (k:κ) {es:List MapEntry} {l:List (κ×Value)} (h:es.map (fun e=>(e.key,e.val))=l.map (fun p=>(K.enc p.1,p.2))) :
  (Instr.findKey kt (K.enc k) es).run P w=(Instr.findAsking kt (K.enc k) es 0).run P w:=by
 cases es with
 | nil=>simp [Instr.findKey,run_underlying hd,Result.andThen,Instr.findNow,Instr.findAsking]
 | cons e es =>
  cases l with
  | nil=>simp at h
  | cons p l =>
   simp only [ZZ,List.cons.injEq,Prod.mk.injEq] at h
   have hs:Instr.sameNow d (K.enc k) e.key=none:=by rw [h.1.1];exact K.ask d k p.1 hd
   simp [Instr.findKey,run_underlying hd,Result.andThen,Instr.findNow,hs]
def smapOf (P:Program) (t:TypeId):Option (TypeId×TypeId) :=
 match P.underlying t with
 | some (.map kt et)=>(P.underlying kt).map fun _=>(kt,et)
 | _=>none
class TySMap (P:Program) (t:TypeId) (kt et:outParam Nat):Prop where out:smapOf P t=some (kt,et)
theorem lK {t kt et:TypeId} (h:smapOf P t=some (kt,et)):P.underlying t=some (.map kt et)∧∃ d,P.underlying kt=some d:=by
 unfold smapOf at h
 split at h
 · rename_i kt et' he
   cases hk:P.underlying kt with
   | none=>simp [hk] at h
   | some d' =>
    simp [hk] at h
    obtain ⟨rfl,rfl⟩:=h
    exact ⟨he,_,hk⟩
 · cases h
theorem tz {w:World} {t et:TypeId} {z:Value} (ht:smapOf P t=some (kt,et)) (hz:zeroOf P et=some z) {g:Nat} {l:List (κ×Value)} (h:SMapAt P kt w g l) (k:κ) :
  (Instr.lookup t (.map (some g)) (K.enc k) false).run P w=.ok ((dget l k).getD z) w:=by
 obtain ⟨h1,d,h2⟩:=lK ht
 obtain ⟨es,clock,hb,hs,hl⟩:=h
 have hzr:(zeroValue et).run P w=.ok z w:=dQ hz w
 have hf:=jQ (w:=w) h2 k hl
 have hc:=K.check w es.isEmpty k
 rcases ls w k es.toList l 0 hl with ⟨g1,g2,g3,g4⟩|⟨j,e,v0,g1,g2,g3,g4,g5⟩
 · rw [g1] at hf
   simp [Instr.lookup,run_underlying h1,MapKept.run_getObj_map hb,hc,hf,hzr,g2,Result.andThen]
 · rw [g1] at hf
   simp [Instr.lookup,run_underlying h1,MapKept.run_getObj_map hb,hc,hf,g4,Result.andThen]
end
section
variable {P:Program} {N:Nat} {av bor:List Nat} {w0:World} {ops:Array Oper} {rest:List Oper} {k:St→Prop} {E:Env} {loc loc':List Xl} {X:World→Prop}
variable {d:Option Tmp} {ty:TypeId} {pos:String} {af:Array Edge} {g:Option (Nat×Bool)} {bb want:Bool}
theorem tk (κ:Type) (kt:TypeId) [DecidableEq κ] [KS:KeyS P kt κ] {n:Nat} {t:TypeId} (hg:gdB ops E g=some (bb,want):=by rfl) (hb:bb=want:=by exact aw) (hd:Nat.blt n N=true:=by rfl)
  (h:∀ q,Sw P N av bor w0 ops rest ⟨(n,.map (some q))::E,smapr P kt q ([]:List (κ×Value))::loc,X⟩ k):Sw P N av bor w0 ops (⟨some n,.makeMap t none,ty,pos,af,g⟩::rest) ⟨E,loc,X⟩ k:=Sw.mk fun a w ok=>by
 have hd':inB N (some n)=true:=by have h1:n<N:=Zw hd;simpa [inB] using h1
 simp only [wpList]
 rw [bC ok (o:=⟨some n,.makeMap t none,ty,pos,af,g⟩) hg]
 subst hb
 simp only [Zy,ZM]
 left
 unfold Oper.wp
 have hr:(execOp a.eval ⟨some n,.makeMap t none,ty,pos,af,g⟩).run P w=.ok (.value (.map (some w.heap.size))) (w.alloc (.map #[] 0)):=by
  have:(newObj (.map #[] 0)).run P w=.ok w.heap.size (w.alloc (.map #[] 0)):=rfl
  simp [execOp,Instr.makeMap,this]
 rw [hr]
 have ok':Ok N av bor w0 ⟨E,smapr P kt w.heap.size ([]:List (κ×Value))::loc,X⟩ a (w.alloc (.map #[] 0)):=(ok.via fun M G=>G.new (.map #[] 0) (fun w2=>SMapAt P kt w2 w.heap.size ([]:List (κ×Value))) fun w2 h=>⟨#[],0,h,stamped_empty 0,rfl⟩)
 exact (h _).run _ _ (cV (some n) _▸ok'.put hd' _)
theorem pR {κ:Type} {kt:TypeId} [DecidableEq κ] [KS:KeyS P kt κ] {st:St} {t et:Nat} [ht:TySMap P t kt et] {z:Value} [hz:Xn P et z] {m x:Operand} {q:Nat} {l:List (κ×Value)} {kk:κ} {o:Option Value} {v:Value} (hm:ev st.env m=some (.map (some q))) (hx:ev st.env x=some (KS.enc kk))
  (hl:∀ w,Xq av bor w0 st.loc st.ext w→SMapAt P kt w q l) (ho:dget l kk=o) (hv:o.getD z=v):Sy.Yields P N av bor w0 st (.lookup t m x false) ty v:=Sy.Yields.mk fun A w ok d pos af g=>by
 have:=tz (P:=P) (t:=t) ht.out hz.out (hl w ok.gam) kk
 subst ho
 subst hv
 simp [execOp,ok.eval hm,ok.eval hx,this]
theorem tt {κ:Type} {kt:TypeId} [DecidableEq κ] [KS:KeyS P kt κ] {q:Nat} {l:List (κ×Value)} (hm:∀ w,X w→SMapAt P kt w q l):∀ w,Xq av bor w0 loc X w→SMapAt P kt w q l:=fun w G=>hm w G.keep.now
end
section
variable {κ:Type} [DecidableEq κ] {β:Type}
theorem lv:∀ (l:List (κ×β)) (k:κ) (u v:β),dput (dput l k u) k v=dput l k v
 | [],k,u,v=>by simp [dput]
 | (k',v')::r,k,u,v=>by
  by_cases h:k=k'
  · subst h;simp [dput]
  · simp [dput,h,lv r k u v]
theorem lw:∀ (l:List (κ×β)) (k:κ) (v:β),dget l k=some v→dput l k v=l
 | [],k,v,h=>by cases h
 | (k',v')::r,k,v,h=>by
  by_cases e:k=k'
  · subst e
    simp only [dget,Zs,Zg,ZL] at h
    simp [dput,h]
  · simp only [dget,e,Zr,Zf] at h
    simp [dput,e,lw r k v h]
end
section
variable {P:Program} {kt:TypeId} {κ:Type} [DecidableEq κ] [K:KeyS P kt κ]
def SMapE (P:Program) (kt:TypeId) {κ:Type} [DecidableEq κ] [K:KeyS P kt κ] (w:World) (g:Nat) (l:List (κ×Value)) (k:κ) (b:Nat):Prop :=
 ∃ es clock j e,w.heap[g]?=some (.map es clock)∧Stamped es clock∧es.toList.map (fun e=>(e.key,e.val))=l.map (fun p=>(K.enc p.1,p.2))∧es[j]?=some e∧e.key=K.enc k∧e.born=b∧∀ v,dput l k v=l.set j (k,v)
def smape (P:Program) (kt:TypeId) {κ:Type} [DecidableEq κ] [K:KeyS P kt κ] (g:Nat) (l:List (κ×Value)) (k:κ) (b:Nat):Xl:=⟨[g],fun w=>SMapE P kt w g l k b⟩
theorem pA {w:World} {t et:TypeId} {z:Value} (ht:smapOf P t=some (kt,et)) (hz:zeroOf P et=some z) {g:Nat} {l:List (κ×Value)} (h:SMapAt P kt w g l) (k:κ) :
  ∃ o b,(Instr.mapEntry t (.map (some g)) (K.enc k)).run P w=.ok (.tuple #[(dget l k).getD z,.int .i64 (b:Nat)]) { w with heap:=w.heap.setIfInBounds g o }∧∀ w':World,w'.heap[g]?=some o→SMapE P kt w' g (dput l k ((dget l k).getD z)) k b:=by
 obtain ⟨h1,d,h2⟩:=lK ht
 obtain ⟨es,clock,hb,hs,hl⟩:=h
 have hf:=jQ (w:=w) h2 k hl
 have hc:=K.check w false k
 have hzr:(zeroValue et).run P w=.ok z w:=dQ hz w
 have hlen:es.size=l.length:=by simpa using congrArg List.length hl
 rcases ls w k es.toList l 0 hl with ⟨g1,g2,g3,g4⟩|⟨j,e,v0,g1,g2,g3,g4,g5⟩
 · rw [g1] at hf
   refine ⟨.map (es.push { key:=K.enc k,val:=z,born:=clock }) (clock+1),clock,?_,fun w' hw=>⟨_,_,es.size,{ key:=K.enc k,val:=z,born:=clock },hw,stamped_push hs g4,?_,by simp,rfl,rfl,fun v=>?_⟩⟩
   · simp [Instr.mapEntry,run_underlying h1,MapKept.run_getObj_map hb,hc,hf,hzr,g2,MapKept.run_setObj_map _ hb,Result.andThen,goInt]
   · rw [g2,Option.getD_none,g3]
     simp [hl]
   · rw [g2,Option.getD_none,lv,g3,g3,hlen]
     simp
 · have hj:es[j]?=some e:=by simpa using g2
   have hst:=K.stay w k
   rw [g1] at hf
   refine ⟨.map (es.modify j fun e=>{ e with key:=K.enc k }) clock,e.born,?_,fun w' hw=>⟨_,_,j,{ e with key:=K.enc k },hw,stamped_modify hs _ _ (fun _ _=>rfl) (fun e' _ he'=>by rw [hj] at he';cases he';exact g3.symm),?_,by simp [QG,hj],rfl,rfl,fun v=>?_⟩⟩
   · simp [Instr.mapEntry,run_underlying h1,MapKept.run_getObj_map hb,hc,hf,hj,g3,g4,hst,MapKept.run_setObj_map _ hb,Result.andThen,goInt]
   · rw [g4,Qc,lw l k v0 g4,←hl]
     apply List.ext_getElem?
     intro q
     simp only [Z5,Qm,QG]
     by_cases e1:j=q
     · subst e1
       simp [hj,g3]
     · simp [e1]
   · rw [g4,Qc,lw l k v0 g4]
     exact g5 v
theorem ms {w:World} {t:TypeId} {g:Nat} {l:List (κ×Value)} {k:κ} {b:Nat} (h:SMapE P kt w g l k b) (v:Value) :
  ∃ o,(Instr.entryStore t (.map (some g)) (.int .i64 (b:Nat)) v).run P w=.ok () { w with heap:=w.heap.setIfInBounds g o }∧∀ w':World,w'.heap[g]?=some o→SMapAt P kt w' g (dput l k v):=by
 obtain ⟨es,clock,j,e,hb,hs,hl,hj,hk,hbn,hset⟩:=h
 have hjl:j<es.size:=(QJ.1 hj).1
 have hje:es[j]=e:=(QJ.1 hj).2
 have hlen:es.size=l.length:=by simpa using congrArg List.length hl
 have hfi:es.findIdx? (fun e=>(e.born:Int)==(b:Int))=some j:=by
  rw [Array.findIdx?_eq_some_iff_getElem]
  refine ⟨hjl,by rw [hje,hbn];simp,fun q hq hp=>?_⟩
  have hnd:=((stamped_iff es clock).1 hs).2.1
  have hq':es[q].born=e.born:=by rw [hbn];have:=beq_iff_eq.1 hp;omega
  have h1:(es.toList.map (·.born))[q]?=some e.born:=by simp [Z5,Qm,Array.getElem?_eq_getElem (show q<es.size by omega),hq']
  have h2:(es.toList.map (·.born))[j]?=some e.born:=by simp [Z5,Qm,hj]
  have:=(List.getElem?_inj (by simp;omega) hnd).1 (h1.trans h2.symm)
  omega
 refine ⟨.map (es.modify j fun e=>{ e with val:=v }) clock,?_,fun w' hw=>⟨_,_,hw,stamped_modify hs _ _ (fun _ _=>rfl) (fun e' _ he'=>rfl),?_⟩⟩
 · have ha:(asIntOf (Value.int IntKind.i64 (b:Nat))).run P w=.ok (.i64,((b:Nat):Int)) w:=rfl
   simp [Instr.entryStore,MapKept.run_getObj_map hb,asInt,ha,hfi,MapKept.run_setObj_map _ hb,Result.andThen]
 · rw [hset]
   apply List.ext_getElem?
   intro q
   have hq:=congrArg (fun l=>l[q]?) hl
   simp only [Z5,Qm] at hq
   simp only [Z5,Qm,QG,List.getElem?_set]
   by_cases e1:j=q
   · subst e1
     simp [hj,show j<l.length by omega,hk]
   · simp [e1,hq]
end
section
variable {P:Program} {N:Nat} {av bor:List Nat} {w0:World} {ops:Array Oper} {rest:List Oper} {k:St→Prop} {E:Env} {loc loc':List Xl} {X:World→Prop}
variable {d:Option Tmp} {ty:TypeId} {pos:String} {af:Array Edge} {g:Option (Nat×Bool)} {bb want:Bool}
theorem rv {lo:Nat→List Xl} {κ:Type} {kt:TypeId} [DecidableEq κ] [KS:KeyS P kt κ] {n:Nat} {t et:Nat} [ht:TySMap P t kt et] {z:Value} [hz:Xn P et z] {m x:Operand} {q:Nat} {l:List (κ×Value)} {kk:κ} {o:Option Value} {u:Value} (hm:ev E m=some (.map (some q)):=by rfl) (hx:ev E x=some (KS.enc kk):=by rfl) (ho:dget l kk=o) (hu:o.getD z=u:=by rfl)
  (hA:∀ b,At (smapr P kt q l) (smape P kt q (dput l kk u) kk b) loc (lo b)) (hg:gdB ops E g=some (bb,want):=by rfl) (hb:bb=want:=by exact aw) (hd:Nat.blt n N=true:=by rfl)
  (h:∀ b:Nat,Sw P N av bor w0 ops rest ⟨(n,.tuple #[u,.int .i64 (b:Nat)])::E,lo b,X⟩ k):Sw P N av bor w0 ops (⟨some n,.mapEntry t m x,ty,pos,af,g⟩::rest) ⟨E,loc,X⟩ k:=Sw.mk fun a w ok=>by
 have hd':inB N (some n)=true:=by have h1:n<N:=Zw hd;simpa [inB] using h1
 subst ho
 subst hu
 simp only [wpList]
 rw [bC ok (o:=⟨some n,.mapEntry t m x,ty,pos,af,g⟩) hg]
 subst hb
 simp only [Zy,ZM]
 left
 unfold Oper.wp
 have hmp:SMapAt P kt w q l:=(ok.gam.here _ (hA 0).mem).now
 obtain ⟨o,b,hr,ho⟩:=pA ht.out hz.out hmp kk
 obtain ⟨es,c,hbk,_⟩:=hmp
 have hs:=heap_set (o':=o) hbk
 have ok':Ok N av bor w0 ⟨E,lo b,X⟩ a { w with heap:=w.heap.setIfInBounds q o }:=ok.via fun M G=>G.turn ((hA b).app M) rfl rfl rfl (by simp) (fun i hi=>hs.2 i hi) fun w2 h2=>ho w2 (h2.trans hs.1)
 have hr':(execOp a.eval ⟨some n,.mapEntry t m x,ty,pos,af,g⟩).run P w=.ok (.value (.tuple #[(dget l kk).getD z,.int .i64 (b:Nat)])) { w with heap:=w.heap.setIfInBounds q o }:=by
  simp [execOp,ok.eval (st:=⟨E,loc,X⟩) hm,ok.eval (st:=⟨E,loc,X⟩) hx,hr]
 rw [hr']
 exact (h b).run _ _ (cV (some n) _▸ok'.put hd' _)
theorem nU {κ:Type} {kt:TypeId} [DecidableEq κ] [KS:KeyS P kt κ] {t:Nat} {m x y:Operand} {q:Nat} {l:List (κ×Value)} {kk:κ} {b:Nat} {v:Value} (hm:ev E m=some (.map (some q)):=by rfl) (hx:ev E x=some (.int .i64 (b:Nat)):=by rfl) (hy:ev E y=some v:=by rfl)
  (hA:At (smape P kt q l kk b) (smapr P kt q (dput l kk v)) loc loc':=by (repeat (first|exact At.here _|apply At.there))) (hg:gdB ops E g=some (bb,want):=by rfl) (hb:bb=want:=by exact aw) (hd:inB N d=true:=by rfl)
  (h:Sw P N av bor w0 ops rest ⟨putE E d undef,loc',X⟩ k):Sw P N av bor w0 ops (⟨d,.entryStore t m x y,ty,pos,af,g⟩::rest) ⟨E,loc,X⟩ k:=Sw.mk fun a w ok=>by
 simp only [wpList]
 rw [bC ok (o:=⟨d,.entryStore t m x y,ty,pos,af,g⟩) hg]
 subst hb
 simp only [Zy,ZM]
 left
 unfold Oper.wp
 have hmp:SMapE P kt w q l kk b:=(ok.gam.here _ hA.mem).now
 obtain ⟨o,hr,ho⟩:=ms (t:=t) hmp v
 obtain ⟨es,c,j,e,hbk,_⟩:=hmp
 have hs:=heap_set (o':=o) hbk
 have ok':Ok N av bor w0 ⟨E,loc',X⟩ a { w with heap:=w.heap.setIfInBounds q o }:=ok.via fun M G=>G.turn (hA.app M) rfl rfl rfl (by simp) (fun i hi=>hs.2 i hi) fun w2 h2=>ho w2 (h2.trans hs.1)
 have hr':(execOp a.eval ⟨d,.entryStore t m x y,ty,pos,af,g⟩).run P w=.ok .skip { w with heap:=w.heap.setIfInBounds q o }:=by
  simp [execOp,ok.eval (st:=⟨E,loc,X⟩) hm,ok.eval (st:=⟨E,loc,X⟩) hx,ok.eval (st:=⟨E,loc,X⟩) hy,hr]
 rw [hr']
 exact h.run _ _ (cV d _▸ok'.put hd _)
end
end Go.Proofs.YtaolfiikahlmkaaGreatDoor.Sy
namespace Go.Proofs.YtaolfiikahlmkaaGreatDoor
open Go Go.Proofs Sy Tryz
abbrev PosK:=Int×ByteArray
def posV (k:PosK):Value:=.agg #[.int .i64 k.1,.string k.2]
theorem nZ (w:World) {cs:Array Value} {off:Nat} {v:Value} (h:cs[off]?=some v):(part 9 cs off).run prog w=.ok v w:=by
 simp [part,isAgg,run_underlying underlying9,h]
theorem Fc (w:World) (d:Nat) (a b:ByteArray):(Op.equalIn (d+1) 9 (.string a) (.string b)).run prog w=.ok (seqB a b) w:=by
 rw [run_equalIn_string w d _ a b underlying9]
 rfl
theorem Av (w:World) (d:Nat) (a b:PosK):(Op.equalIn (d+2) 129 (posV a) (posV b)).run prog w=.ok (decide (a=b)) w:=by
 have p0:∀ x:PosK,(part 3 #[.int .i64 x.1,.string x.2] 0).run prog w=.ok (.int .i64 x.1) w:=fun x=>gV w rfl
 have p1:∀ x:PosK,(part 9 #[.int .i64 x.1,.string x.2] 1).run prog w=.ok (.string x.2) w:=fun x=>nZ w rfl
 unfold posV
 rw [run_equalIn_agg _ _ _ _ _ aj aj]
 simp only [Program.fieldsOf,underlying129]
 simp [Op.eqFields,p0,p1,u9,Fc]
 obtain ⟨a1,a2⟩:=a
 obtain ⟨b1,b2⟩:=b
 by_cases h1:a1=b1<;>cases h2:seqB a2 b2<;>simp [h1,h2]
 · exact fun e=>by rw [e,bP] at h2;cases h2
 · exact seqB_iff.1 h2
instance posK:KeyS prog 129 PosK where
 enc:=posV
 inj:=by
  rintro ⟨a,b⟩ ⟨c,d⟩ h
  simp [posV] at h
  simp [h]
 check:=by
  intro w e a
  have c0:(Instr.checkKey e 9999 3 (.int .i64 a.1)).run prog w=.ok () w:=MapKept.run_checkKey (k:=.int .i64 a.1) underlying3 (show IntKind.i64=IntKind.i64 from rfl) e 9998
  have c1:(Instr.checkKey e 9999 9 (.string a.2)).run prog w=.ok () w:=MapKept.run_checkKey (k:=.string a.2) underlying9 (show True from trivial) e 9998
  have p0:(part 3 #[.int .i64 a.1,.string a.2] 0).run prog w=.ok (.int .i64 a.1) w:=gV w rfl
  have p1:(part 9 #[.int .i64 a.1,.string a.2] 1).run prog w=.ok (.string a.2) w:=nZ w rfl
  unfold posV Instr.checkKey
  simp [run_underlying underlying129,Result.andThen,p0,p1,c0,c1]
 eq:=by
  intro w a b
  exact Av w 9998 a b
 ask:=by
  intro d a b h
  rw [underlying129] at h
  cases h
  rfl
 stay:=by
  intro w a
  have hb:Instr.sameBits (9999+1) (posV a) (posV a)=true:=by simp [posV,Instr.sameBits,MapKept.bytes_beq]
  show (Instr.keyThatStays (posV a) (posV a)).run prog w=.ok (posV a) w
  simp [Instr.keyThatStays,hb]
instance:TySMap prog 123 129 32:=⟨aj⟩
theorem eqbB (a b:ByteArray):Xj.eqb a b=seqB a b:=Bool.eq_iff_iff.2 ((Xj.eqb_iff a b).trans seqB_iff.symm)
theorem mem_sput {k x:ByteArray}:∀ {ks:List ByteArray},x∈sput ks k↔x=k∨x∈ks
 | []=>by simp [sput]
 | a::ks=>by
  have ih:=mem_sput (k:=k) (x:=x) (ks:=ks)
  rw [sput,eqbB]
  cases h:seqB k a with
  | true =>
   obtain rfl:=seqB_iff.1 h
   simp only [Zg,ZH]
   constructor
   · rintro (h|h)
     · exact .inl h
     · exact .inr (.inr h)
   · rintro (h|h|h)
     · exact .inl h
     · exact .inl h
     · exact .inr h
  | false =>
   simp only [Zf,ZH,ih]
   constructor
   · rintro (h|h|h)
     · exact .inr (.inl h)
     · exact .inl h
     · exact .inr (.inr h)
   · rintro (h|h|h)
     · exact .inr (.inl h)
     · exact .inl h
     · exact .inr (.inr h)
theorem eD {k:ByteArray}:∀ {ks:List ByteArray},ks.Nodup→(sput ks k).Nodup
 | [],_=>by simp [sput]
 | a::ks,h=>by
  rw [List.nodup_cons] at h
  rw [sput,eqbB]
  cases hk:seqB k a with
  | true =>
   obtain rfl:=seqB_iff.1 hk
   exact List.nodup_cons.2 h
  | false =>
   refine List.nodup_cons.2 ⟨fun hm=>?_,eD h.2⟩
   rcases mem_sput.1 hm with hm|hm
   · exact seqB_ne.1 hk hm.symm
   · exact h.1 hm
structure Xd where
 id:ByteArray
 author:ByteArray
 pos:Nat
 kind:Int
 scope:Int
 group:ByteArray
 to:Xk
 object:ByteArray
 time:Int
 ed:Xk
 gone:Bool
 toL:List ByteArray
 edL:List Int
def Xd.cells (p:Xd):List Value:=[.string p.id,.string p.author,.int .i64 (p.pos:Nat),.int .i64 p.kind,.int .i64 p.scope,.string p.group,p.to.v,.string p.object,.int .i64 p.time,p.ed.v,.bool p.gone]
def Xd.v (p:Xd):Value:=.agg p.cells.toArray
def Xd.zero:Xd:=⟨⟨#[]⟩,⟨#[]⟩,0,0,0,⟨#[]⟩,⟨none,0,0⟩,⟨#[]⟩,0,⟨none,0,0⟩,false,[],[]⟩
theorem cells11 (L:List Xd):∀ r∈L.map Xd.cells,r.length=11:=fun r hr=>by
 obtain ⟨c,_,rfl⟩:=QH.1 hr
 rfl
def edR (p:Xd):Xl:=orow 3 1 (.slice p.ed.p p.ed.n p.ed.c) p.ed.n (p.edL.map fun n=>.int .i64 n)
def Xd.can (p:Xd):Xd:={ p with to:=⟨none,0,0⟩,ed:=⟨none,0,0⟩ }
def newP (id:ByteArray) (i:Nat) (a:Xa):Xd:=⟨digV a,id,i,a.kind,a.scope,a.group,⟨none,0,0⟩,a.object,a.time,⟨none,0,0⟩,false,a.toL,[]⟩
def openF (c:Xb):Nat→List Xd
 | 0=>[]
 | i+1=>openF c i++(bif postK (c.actsL.getD i Xa.zero).kind then [newP c.id i (c.actsL.getD i Xa.zero)] else [])
def posP (P:List Xd) (j:Nat):Option Nat:=P.findIdx? fun p=>p.pos==j
def refV (l:List Xa) (P:List Xd) (i:Nat):Option Nat:=match idxV l (l.getD i Xa.zero).object with
 | some j=>bif decide (j<i) then posP P j else none
 | none=>none
def goneP (p:Xd):Xd:={ p with gone:=true }
def editB (a:Xa) (p:Xd):Bool:=!p.gone&&decide (a.scope=p.scope)&&seqB a.group p.group&&eqL a.toL p.toL
def editP (a:Xa) (i:Nat) (p:Xd):Xd:=bif editB a p then { p with edL:=p.edL++[(i:Int)] } else p
def modP (P:List Xd) (o:Option Nat) (f:Xd→Xd):List Xd:=match o with
 | some n=>P.set n (f (P.getD n Xd.zero))
 | none=>P
def stepP (l:List Xa) (i:Nat) (P:List Xd):List Xd :=
 bif decide ((l.getD i Xa.zero).kind=13) then modP P (refV l P i) goneP else bif decide ((l.getD i Xa.zero).kind=14) then modP P (refV l P i) (editP (l.getD i Xa.zero) i) else P
def ofP (c:Xb):Nat→List Xd
 | 0=>openF c c.actsL.length
 | i+1=>stepP c.actsL i (ofP c i)
def postsV (c:Xb):List Xd:=ofP c c.actsL.length
theorem DM (P:List Xd) (j:Nat):posP (P.map Xd.can) j=posP P j:=by
 rw [posP,posP,List.findIdx?_map]
 rfl
theorem uf (l:List Xa) (P:List Xd) (i:Nat):refV l (P.map Xd.can) i=refV l P i:=by
 rw [refV,refV]
 cases idxV l (l.getD i Xa.zero).object with
 | none=>rfl
 | some j=>simp only [DM]
theorem Bf (P:List Xd) (n:Nat):(P.map Xd.can).getD n Xd.zero=(P.getD n Xd.zero).can:=by
 rw [Zp,Zp,Z5]
 cases P[n]?<;>rfl
theorem lc (c:Xb):∀ i,(openF c i).length≤i
 | 0=>ZV _
 | i+1=>by
  have ih:=lc c i
  rw [openF,Zz]
  cases postK (c.actsL.getD i Xa.zero).kind with
  | true=>simp only [Zg,List.length_singleton];omega
  | false=>simp only [Zf,ZQ];omega
theorem Hn {P:List Xd} {j n:Nat} (h:posP P j=some n):n<P.length:=by
 rw [posP,QB] at h
 exact h.1
theorem qr (c:Xb):∀ i,∀ p∈openF c i,p.pos<i
 | 0,p,h=>(Qi h).elim
 | i+1,p,h=>by
  rw [openF] at h
  rcases Qw.1 h with h|h
  · have:=qr c i p h
    omega
  · revert h
    cases postK (c.actsL.getD i Xa.zero).kind with
    | true=>intro h;rw [Zg,Z3] at h;subst h;exact Nat.lt_succ_self i
    | false=>intro h;exact (Qi h).elim
theorem gZ {κ β:Type} [Xj κ]:∀ (b:List (κ×β)) (k a:κ) (v:β),mget (mput b k v) a=bif Xj.eqb a k then some v else mget b a
 | [],k,a,v=>rfl
 | (k',v')::r,k,a,v=>by
  have ih:=gZ r k a v
  simp only [mput]
  cases hk:Xj.eqb k k' with
  | true =>
   obtain rfl:=(Xj.eqb_iff k k').1 hk
   simp only [Zg,mget]
   cases Xj.eqb a k<;>rfl
  | false =>
   simp only [Zf,mget,ih]
   cases ha:Xj.eqb a k' with
   | true =>
    obtain rfl:=(Xj.eqb_iff a k').1 ha
    have hne:Xj.eqb a k=false:=by
     rw [←ZD]
     intro e
     rw [(Xj.eqb_iff a k).1 e,(Xj.eqb_iff k k).2 rfl] at hk
     cases hk
    rw [hne]
    rfl
   | false=>rfl
theorem Bb {l:List Xa} {k:Nat} {x:Xa} (hx:l[k]?=some x) (d:ByteArray):idxV (l.take (k+1)) d=(idxV (l.take k) d).or (bif seqB (digV x) d then some k else none):=by
 have hk:k<l.length:=(QI.1 hx).1
 have hl:(l.take k).length=k:=by rw [Qg];omega
 rw [idxV,idxV,Qe,hx,Qs,List.findIdx?_append,hl]
 congr 1
 rw [List.findIdx?_singleton]
 cases seqB (digV x) d with
 | true=>simp
 | false=>simp
theorem ul (P:List Xd) (p:Xd) (j:Nat):posP (P++[p]) j=(posP P j).or (bif p.pos==j then some P.length else none):=by
 rw [posP,posP,List.findIdx?_append]
 congr 1
 rw [List.findIdx?_singleton]
 cases p.pos==j with
 | true=>simp
 | false=>simp
theorem AJ {P:List Xd} {j:Nat} (h:∀ p∈P,p.pos≠j):posP P j=none:=by
 rw [posP,List.findIdx?_eq_none_iff]
 intro p hp
 simpa using h p hp
theorem eqbI (a b:Int):Xj.eqb a b=decide (a=b):=rfl
end Go.Proofs.YtaolfiikahlmkaaGreatDoor
namespace Go.Proofs.YtaolfiikahlmkaaGreatDoor
open Go Go.Proofs Sy Tryz
abbrev postR (s:Xk) (P:List Xd):Xl:=orow 68 11 (.slice s.p s.n s.c) s.n (P.map Xd.cells).flatten
theorem cF:∀ (L:List Xd) (p:Nat) (x:Xd),p<L.length→(L.map Xd.cells).flatten.take (p*11)++x.cells++(L.map Xd.cells).flatten.drop (p*11+11)=((L.set p x).map Xd.cells).flatten
 | [],p,x,h=>absurd h (by simp)
 | c::L,0,x,h=>by
  have h6:c.cells.length=11:=rfl
  rw [List.set_cons_zero,ZZ,ZZ,Z9,Z9,Nat.zero_mul,ZS,List.take_zero,ZK,List.drop_append,h6,Qu (by omega)]
  rfl
 | c::L,p+1,x,h=>by
  have h6:c.cells.length=11:=rfl
  have ih:=cF L p x (by simpa using h)
  rw [List.set_cons_succ,ZZ,ZZ,Z9,Z9,←ih,List.take_append,List.drop_append,h6,Qd aa,Qu aa,
   show (p+1)*11-11=p*11 from by omega,show (p+1)*11+11-11=p*11+11 from by omega,ZK,ZB,ZB,ZB]
theorem cS {P:List Xd} {i j:Nat} {x y:Xd} (hi:P[i]?=some x) (hj:P[j]?=some y):((P.set i y).set j x).Perm P:=by
 obtain ⟨h1,rfl⟩:=QI.1 hi
 obtain ⟨h2,rfl⟩:=QI.1 hj
 exact List.set_set_perm h1 h2
namespace Sy
section
variable {N:Nat} {av bor:List Nat} {w0:World} {st:St} {ty:TypeId} {x y:Operand} {E:Env} {loc:List Xl} {X:World→Prop} {ops:Array Oper} {kk:St→Prop} {pos:String} {af:Array Edge} {g:Option (Nat×Bool)} {rest:List Oper} {bb want:Bool}
theorem bt {A:Option Addr} {m c i:Nat} {P:List Xd} {p:Xd} (hx:ev st.env x=some (elP A (i*11))) (hm:orow 68 11 (.slice A m c) m (P.map Xd.cells).flatten∈st.loc) (hn:m=P.length) (hi:P[i]?=some p) :
  Yields prog N av bor w0 st (.load 68 x) ty p.v:=gP (xs:=P.map Xd.cells) (cs:=p.cells) hx hm (by simp [hn]) (cells11 P) (by simp [hi])
theorem cg {d:Option Tmp} {loc':List Xl} {A:Option Addr} {m c i:Nat} {P:List Xd} {p:Xd} (hx:ev E x=some (elP A (i*11)):=by rfl) (hy:ev E y=some p.v:=by rfl) (hi:i<m:=by omega) (hn:m=P.length)
  (hA:At (orow 68 11 (.slice A m c) m (P.map Xd.cells).flatten) (orow 68 11 (.slice A m c) m ((P.set i p).map Xd.cells).flatten) loc loc':=by (repeat (first|exact At.here _|apply At.there))) (hg:gdB ops E g=some (bb,want):=by rfl) (hb:bb=want:=by exact aw) (hd:inB N d=true:=by rfl)
  (h:Sw prog N av bor w0 ops rest ⟨putE E d undef,loc',X⟩ kk):Sw prog N av bor w0 ops (⟨d,.store 68 x y,ty,pos,af,g⟩::rest) ⟨E,loc,X⟩ kk :=
 nR (i:=i) (size:=11) (vs:=p.cells) aj hx hy rfl rfl rfl hi (cF P i p aa) hA hg hb hd h
variable {n:Nat} {t t2:TypeId}
theorem dL [hI:Xs prog t .i64] {p q:Nat} (h:Sw prog N av bor w0 ops rest ⟨(n,.int .i64 ((p+q:Nat):Int))::E,loc,X⟩ kk) (hx:ev E x=some (.int .i64 (p:Nat)):=by rfl) (hy:ev E y=some (.int .i64 (q:Nat)):=by rfl) (hq:p+q<9223372036854775808) (hg:gdB ops E g=some (bb,want):=by rfl) (hbb:bb=want:=by exact aw) (hd:Nat.blt n N=true:=by rfl) :
  Sw prog N av bor w0 ops (⟨some n,.binOp .add t x y t2,ty,pos,af,g⟩::rest) ⟨E,loc,X⟩ kk:=ef (c:=((p+q:Nat):Int)) hx hy (by rw [←Int.natCast_add];exact IntWalk.i64_in _ aa) hg hbb hd h
theorem eP [hI:Xs prog t .i64] {p q:Nat} (h:Sw prog N av bor w0 ops rest ⟨(n,.int .i64 ((p-q:Nat):Int))::E,loc,X⟩ kk) (hx:ev E x=some (.int .i64 (p:Nat)):=by rfl) (hy:ev E y=some (.int .i64 (q:Nat)):=by rfl) (hq:q≤p∧p<9223372036854775808) (hg:gdB ops E g=some (bb,want):=by rfl) (hbb:bb=want:=by exact aw) (hd:Nat.blt n N=true:=by rfl) :
  Sw prog N av bor w0 ops (⟨some n,.binOp .sub t x y t2,ty,pos,af,g⟩::rest) ⟨E,loc,X⟩ kk:=gS (c:=((p-q:Nat):Int)) hx hy (by rw [show (p:Int)-(q:Int)=((p-q:Nat):Int) by omega];exact IntWalk.i64_in _ aa) hg hbb hd h
end
end Sy
def PermAt (s:Xk) (P:List Xd) (u:Value) (R:List Xl) (X:World→Prop):Prop:=u=.tuple #[]∧∃ Q:List Xd,Q.Perm P∧R=[postR s Q]
structure PermI (P:List Xd) (n:Nat) where
 k:Nat
 hk:k≤n
 Q:List Xd
 hQ:Q.Perm P
theorem bT (s:Xk) (P:List Xd) (a b n:Nat) (fv:Value) (hs:s.n=P.length) (hm:s.n≤1000000) (ha:a+n≤s.n) (hb:b+n≤s.n) :
  Ct prog 292 #[s.v,.int .i64 (a:Nat),.int .i64 (b:Nat),.int .i64 (n:Nat),fv] [postR s P] (fun _=>True) (PermAt s P):=by
 refine cP func292 ntmps292 fun av bor w0=>?_
 refine bY (r:=postR s P) ao (p:=0<s.n→s.p.isSome=true) (fun w h hn=>bK h hn) fun hp=>?_
 repeat' (first|refine gs ?_|fail)
 refine aq (ι:=PermI P n) (fun i=>⟨[(0,s.v),(1,.int .i64 (a:Nat)),(2,.int .i64 (b:Nat)),(3,.int .i64 (n:Nat)),(10,.int .i64 (i.k:Nat))],[postR s i.Q],fun _=>True⟩) (fun i=>n-i.k) ⟨0,Z2 _,P,Ql _⟩ (ai am (ak _) fun _ h=>h) fun i=>?_
 obtain ⟨k,hk,Q,hQ⟩:=i
 simp only
 have hl:=hQ.length_eq
 repeat' (first|refine gs ?_|(refine gp ?_ ?_<;>intro hx_ this)|fail)
 · have hlt:k<n:=by omega
   have hp':=hp aa
   obtain ⟨x,hx⟩:∃ x,Q[a+k]?=some x:=⟨_,Zc aa⟩
   obtain ⟨y,hy⟩:∃ y,Q[b+k]?=some y:=⟨_,Zc aa⟩
   (refine ap ⟨[0,1,2,3,4,5,6,7,8,9,10,11,12,14,15,16,17,18],[(13,⟨[],[(19,⟨[20],[(21,⟨[22],[(23,⟨[],[]⟩)]⟩)]⟩)]⟩),(19,⟨[],[(13,⟨[20],[(21,⟨[22],[(23,⟨[],[]⟩)]⟩)]⟩)]⟩)]⟩ [] (fun _=>True) (h:=?_))
   all_goals repeat' (first|refine gd ?_|refine ay (hy:=by first|(apply aB (q:=(a+k)*11);rfl;rfl;omega;omega;assumption;(rfl))|(apply aB (q:=(b+k)*11);rfl;rfl;omega;omega;assumption;(rfl))) ?_|refine az ?_ (h':=?_)|exact aA|(refine al (bt (i:=a+k) (P:=Q) rfl ao aa hx) rfl rfl rfl ?_)|(refine al (bt (i:=b+k) (P:=Q) rfl ao aa hy) rfl rfl rfl ?_)|((refine cg (i:=a+k) (p:=y) rfl rfl aa (by first|omega|(simp only [Z7];omega)) (At.here _) rfl aw rfl ?_))|((refine cg (i:=b+k) (p:=x) rfl rfl aa (by (simp only [Z7];omega)) (At.here _) rfl aw rfl ?_))|fail)
   all_goals
    repeat' (first|refine gs ?_|fail)
    exact ⟨(⟨k+1,hlt,(Q.set (a+k) y).set (b+k) x,(cS hx hy).trans hQ⟩:PermI P n),(by show n-(k+1)<n-k;omega),ai am (ak _) fun _ h=>h⟩
 · exact aR (aH rfl) ⟨rfl,Q,hQ,rfl⟩
section
variable {N:Nat} {av bor:List Nat} {w0:World} {ops:Array Oper} {rest:List Oper} {k:St→Prop} {E:Env} {X:World→Prop} {d:Option Tmp} {ty:TypeId} {pos:String} {af:Array Edge} {g:Option (Nat×Bool)} {bb want:Bool}
theorem cb {x:Operand} {xs:List Operand} {ats:Array TypeId} {f:FuncId} {args:List Value} {s:Xk} {Q:List Xd}
  (hx:ev E x=some (.func (.func f) #[] #[]):=by rfl) (ha:evs E xs=some args:=by rfl) (hg:gdB ops E g=some (bb,want):=by rfl) (hb:bb=want:=by exact aw) (hd:inB N d=true:=by rfl) (hf:Xv prog f:=by first|infer_instance|exact ⟨aj⟩)
  (hc:Ct prog f args.toArray [postR s Q] (fun _=>True) (PermAt s Q))
  (h:∀ Q':List Xd,Q'.Perm Q→Sw prog N av bor w0 ops rest ⟨putE E d (.tuple #[]),[postR s Q'],X⟩ k) :
  Sw prog N av bor w0 ops (⟨d,.call ⟨.value x,xs.toArray,ats⟩,ty,pos,af,g⟩::rest) ⟨E,[postR s Q],X⟩ k :=
 bO (pre:=[postR s Q]) (fr:=[]) (first:=#[]) (caps:=#[]) (Post:=PermAt s Q) hx ha rfl hg hb hd hf (by simpa using hc) (fun _ _=>trivial) fun u R X' ⟨h1,Q',h2,h3⟩=>by
  subst h1
  subst h3
  refine jf (fun a w ok=>?_) (h Q' h2)
  exact ok.via fun M G=>G.imp fun _ h=>h.1
end
structure RotI (P:List Xd) (p q:Nat) where
 i:Nat
 j:Nat
 h1:1≤i
 h2:i≤p
 h3:1≤j
 h4:j≤q
 Q:List Xd
 hQ:Q.Perm P
theorem fa (s:Xk) (P:List Xd) (a m b:Nat) (fv:Value) (hs:s.n=P.length) (hm:s.n≤1000000) (ha:a<m) (hb:m<b) (hbs:b≤s.n) :
  Ct prog 268 #[s.v,.int .i64 (a:Nat),.int .i64 (m:Nat),.int .i64 (b:Nat),fv] [postR s P] (fun _=>True) (PermAt s P):=by
 refine cP func268 ntmps268 fun av bor w0=>?_
 repeat' (first|refine eP (hq:=by omega) ?_|refine gs ?_|fail)
 refine aq (ι:=RotI P (m-a) (b-m)) (fun r=>⟨[(0,s.v),(2,.int .i64 (m:Nat)),(4,fv),(10,.int .i64 (r.i:Nat)),(11,.int .i64 (r.j:Nat))],[postR s r.Q],fun _=>True⟩) (fun r=>r.i+r.j) ⟨m-a,b-m,by omega,by omega,by omega,by omega,P,Ql _⟩ (ai am (ak _) fun _ h=>h) fun r=>?_
 obtain ⟨i,j,h1,h2,h3,h4,Q,hQ⟩:=r
 simp only
 have hl:=hQ.length_eq
 by_cases hij:i=j
 · repeat' (first|refine fA ?_|refine eP (hq:=by omega) ?_|refine gs ?_|(refine cb (hc:=bT s Q (m-i) m i fv aa hm aa aa) (h:=fun Q2 hQ2=>?_))|fail)
   exact aR (aH rfl) ⟨rfl,Q2,hQ2.trans hQ,rfl⟩
 · repeat' (first|refine eP (hq:=by omega) ?_|refine dL (hq:=by omega) ?_|refine gs ?_|(refine cb (hc:=bT s Q (m-i) m j fv aa hm aa aa) (h:=fun Q2 hQ2=>?_))|(refine cb (hc:=bT s Q (m-i) (m+j-i) i fv aa hm aa aa) (h:=fun Q2 hQ2=>?_))|(refine gp ?_ ?_<;>intro hx_ this)|fail)
   · exact ⟨(⟨i-j,j,by omega,by omega,h3,h4,Q2,hQ2.trans hQ⟩:RotI P (m-a) (b-m)),(by show i-j+j<i+j;omega),ai am (ak _) fun _ h=>h⟩
   · exact ⟨(⟨i,j-i,h1,h2,by omega,by omega,Q2,hQ2.trans hQ⟩:RotI P (m-a) (b-m)),(by show i+(j-i)<i+j;omega),ai am (ak _) fun _ h=>h⟩
   · have h9:(i:Int)=(j:Int):=by simpa using hx_
     exact absurd (show i=j by omega) hij
def cmpB (x y:ByteArray):Int:=bif Op.bytesLess x.toList y.toList then -1 else bif !(Op.bytesLess x.toList y.toList||seqB x y) then 1 else 0
theorem EQ (x:ByteArray):Pu prog 142 #[.string x] (fun _=>True) (.bool false):=by
 refine ax func142 ntmps142 fun av bor w0=>?_
 have h:=bP x
 repeat' (first|refine gs ?_|fail)
 apply ab;apply ag;rfl;rfl
 rw [h]
 rfl
theorem wR (x y:ByteArray):Pu prog 84 #[.string x,.string y] (fun _=>True) (.int .i64 (cmpB x y)):=by
 refine ax func84 ntmps84 fun av bor w0=>?_
 repeat' (first|refine ae (hc:=EQ _) ?_|refine gs ?_|(refine xJ ?_)|(refine xK ?_)|(refine gp ?_ ?_<;>intro hx_ this)|fail)
 (all_goals (apply ab;apply ag;rfl;rfl));all_goals first|(simp only [cmpB, *,Za,Zg,Zf];done)|(simp_all [cmpB];done)
theorem dz (x y:Xd):Pu prog 83 #[x.v,y.v] (fun _=>True) (.int .i64 (cmpB x.id y.id)):=by
 refine ax func83 ntmps83 fun av bor w0=>?_
 have h:=wR x.id y.id
 generalize cmpB x.id y.id=k at *
 repeat' (first|(refine ae (hc:=h) ?_)|refine gs ?_|refine gs1 fun _=>?_|fail)
 exact ab (ag rfl rfl) rfl
def cmpF:Value:=.func (.func 83) #[] #[]
end Go.Proofs.YtaolfiikahlmkaaGreatDoor
namespace Go.Proofs.YtaolfiikahlmkaaGreatDoor
open Go Go.Proofs Sy Tryz
theorem jk:∀ (L:List Xd) (n j:Nat) (p p':Xd) (v:Value),L[n]?=some p→j<11→p'.cells=p.cells.take j++[v]++p.cells.drop (j+1)→(L.map Xd.cells).flatten.take (n*11+j)++[v]++(L.map Xd.cells).flatten.drop (n*11+j+1)=((L.set n p').map Xd.cells).flatten
 | [],n,j,p,p',v,h,_,_=>by simp at h
 | c::L,0,j,p,p',v,h,hj,hc=>by
  have h6:c.cells.length=11:=rfl
  obtain rfl:c=p:=by simpa using h
  rw [List.set_cons_zero,ZZ,ZZ,Z9,Z9,Nat.zero_mul,ZS,List.take_append_of_le_length aa,List.drop_append_of_le_length aa,hc,ZB,ZB,ZB]
 | c::L,n+1,j,p,p',v,h,hj,hc=>by
  have h6:c.cells.length=11:=rfl
  have ih:=jk L n j p p' v (by simpa using h) hj hc
  rw [List.set_cons_succ,ZZ,ZZ,Z9,Z9,←ih,List.take_append,List.drop_append,h6,Qd aa,Qu aa,
   show (n+1)*11+j-11=n*11+j from by omega,show (n+1)*11+j+1-11=n*11+j+1 from by omega,ZK,ZB,ZB,ZB]
namespace Sy
section
variable {N:Nat} {av bor:List Nat} {w0:World} {st:St} {ty:TypeId} {x y:Operand} {E:Env} {loc:List Xl} {X:World→Prop} {ops:Array Oper} {kk:St→Prop} {pos:String} {af:Array Edge} {g:Option (Nat×Bool)} {rest:List Oper} {bb want:Bool} {t:TypeId}
theorem kK {A:Option Addr} {q:Nat} {ad:Addr} (hx:ev st.env x=some (elP A q)) (hp:A=some ad):Yields prog N av bor w0 st (.nilCheck x) ty (elP A q):=by
 subst hp
 exact fO (a:=ad.add q) hx
theorem ro {n:Nat} {A:Option Addr} {q:Nat} {ad:Addr} (h:Sw prog N av bor w0 ops rest ⟨(n,elP A q)::E,loc,X⟩ kk) (hx:ev E x=some (elP A q):=by rfl) (hp:A=some ad) (hg:gdB ops E g=some (bb,want):=by rfl) (hbb:bb=want:=by exact aw) (hd:Nat.blt n N=true:=by rfl) :
  Sw prog N av bor w0 ops (⟨some n,.nilCheck x,ty,pos,af,g⟩::rest) ⟨E,loc,X⟩ kk:=al (kK hx hp) hg hbb hd h
theorem ew [h:Xx prog t] {A:Option Addr} {m c i j:Nat} {P:List Xd} {p:Xd} {u:Value} (hx:ev st.env x=some (elP A (i*11+j))) (hm:orow 68 11 (.slice A m c) m (P.map Xd.cells).flatten∈st.loc) (hn:m=P.length) (hi:P[i]?=some p) (hj:p.cells[j]?=some u) :
  Yields prog N av bor w0 st (.load t x) ty u:=Sy.Yields.mk fun B w ok d pos af g=>by
 have hr:=bu (ok.gam.here _ hm).now (by simp [hn]) (cells11 P)
 obtain ⟨h1,hp,hc⟩:=Xf.row hr i p.cells (by simp [hi])
 obtain ⟨a,rfl⟩:=QM.1 hp
 simp [execOp,ok.eval hx,elP,Instr.loadAt,Instr.sureAddr,loadVar,(bX h.out w).1,(hc j u hj).2 a rfl]
theorem Jl {P:Program} {d:Option Tmp} {loc':List Xl} {e size m q c:Nat} {A:Option Addr} {xs xs':List Value} {v:Value} (hsz:(P.info? t).map (·.size)=some 1) (hx:ev E x=some (elP A q):=by rfl) (hy:ev E y=some v:=by rfl) (hv:v.cells.toList=[v]) (h1:v.oneCell'=true:=by rfl) (hq:q<m*size)
  (hxs:xs.take q++[v]++xs.drop (q+1)=xs') (hA:At (orow e size (.slice A m c) m xs) (orow e size (.slice A m c) m xs') loc loc':=by (repeat (first|exact At.here _|apply At.there))) (hg:gdB ops E g=some (bb,want):=by rfl) (hb:bb=want:=by exact aw) (hd:inB N d=true:=by rfl)
  (h:Sw P N av bor w0 ops rest ⟨putE E d undef,loc',X⟩ kk):Sw P N av bor w0 ops (⟨d,.store t x y,ty,pos,af,g⟩::rest) ⟨E,loc,X⟩ kk:=Sw.mk fun a w ok=>by
 have ho:ORow w e size (.slice A m c) m xs:=(ok.gam.here _ hA.mem).now
 rcases ho.2 with ⟨_,h0⟩|⟨b,cap,cur,fz,hs,hb',hnc,hcm,hcs,htake,hfz⟩
 · rw [h0] at hq
   omega
 simp only [Value.slice.injEq] at hs
 obtain ⟨rfl,_,rfl⟩:=hs
 have hm2:m*size≤cur.size:=by rw [hcs];exact Qz _ hnc
 have hst:=d7 P b q e fz [v] 0 cur w hb' hfz (by simp;omega) (by simpa using h1)
 have hadd:(⟨b,0,none⟩:Addr).add q=⟨b,q,none⟩:=by unfold Addr.add;split<;>simp_all
 simp only [wpList]
 rw [bC ok (o:=⟨d,.store t x y,ty,pos,af,g⟩) hg]
 subst hb
 simp only [Zy,ZM]
 left
 unfold Oper.wp
 have hs:v.cells.size=1:=by have:=congrArg List.length hv;simpa using this
 generalize hnew:(cur.toList.take q++[v]++cur.toList.drop (q+1)).toArray=new at *
 have hr:(execOp a.eval ⟨d,.store t x y,ty,pos,af,g⟩).run P w=.ok .skip (w.setRow b new):=by
  try simp only [ZR,List.length_singleton,hnew] at hst
  simp [execOp,ok.eval (st:=⟨E,loc,X⟩) hx,ok.eval (st:=⟨E,loc,X⟩) hy,elP,hadd,Instr.storeAt,Instr.sureAddr,storeVar,run_sizeOf hsz,hs,hv,hst]
 rw [hr]
 have hsn:new.size=cur.size:=by
  rw [←hnew]
  simpa using jY cur.toList [v] q 1 cur.size rfl aa (by simp)
 have ho':ORow (w.setRow b new) e size (.slice (some ⟨b,0,none⟩) m c) m xs':=by
  refine ⟨by rw [←hxs];exact jY xs [v] q 1 (m*size) rfl aa ho.1,.inr ⟨b,c,new,fz,rfl,Go.setRow_heap w b cur new e fz hb',hnc,hcm,hsn.trans hcs,?_,by rw [hsn];exact hfz⟩⟩
  rw [←hnew,←hxs,←htake]
  exact p5 cur.toList [v] q 1 (m*size) rfl aa (by simpa using hm2)
 have ok':Ok N av bor w0 ⟨E,loc',X⟩ a (w.setRow b new):=(ok.via fun M G=>G.swap (hA.app M) rfl rfl rfl (by rw [Go.setRow_size];exact ZV _) (fun j _ hj=>Go.setRow_other w b j new (by rintro rfl;exact hj (by simp [orow,Value.ownBlock]))) (by simp [orow,Value.ownBlock]) (fun j hj=>by
  have hj:j=b:=by simpa [orow,Value.ownBlock] using hj
  subst hj
  exact ⟨by rw [Go.setRow_size];exact (QJ.1 hb').1,.inl (by simp [orow,Value.ownBlock])⟩) (dT ho'))
 exact h.run _ _ (cV d _▸ok'.put hd _)
theorem xP {d:Option Tmp} {loc':List Xl} {A:Option Addr} {m c i j:Nat} {P:List Xd} (p':Xd) {p:Xd} {v:Value} (hi:P[i]?=some p) (hj:j<11) (hc:p'.cells=p.cells.take j++[v]++p.cells.drop (j+1)) (hn:m=P.length) (hsz:(prog.info? t).map (·.size)=some 1) (hx:ev E x=some (elP A (i*11+j)):=by rfl) (hy:ev E y=some v:=by rfl) (hv:v.cells.toList=[v]) (h1:v.oneCell'=true:=by rfl)
  (hA:At (orow 68 11 (.slice A m c) m (P.map Xd.cells).flatten) (orow 68 11 (.slice A m c) m ((P.set i p').map Xd.cells).flatten) loc loc':=by (repeat (first|exact At.here _|apply At.there))) (hg:gdB ops E g=some (bb,want):=by rfl) (hb:bb=want:=by exact aw) (hd:inB N d=true:=by rfl)
  (h:Sw prog N av bor w0 ops rest ⟨putE E d undef,loc',X⟩ kk):Sw prog N av bor w0 ops (⟨d,.store t x y,ty,pos,af,g⟩::rest) ⟨E,loc,X⟩ kk:=by
 have hil:=(QI.1 hi).1
 exact Jl hsz hx hy hv h1 aa (jk P i j p p' v hi hj hc) hA hg hb hd h
end
end Sy
end Go.Proofs.YtaolfiikahlmkaaGreatDoor
namespace Go.Proofs.YtaolfiikahlmkaaGreatDoor
open Go Go.Proofs Sy Tryz
instance:Ek prog 176 3 (keyD Int):=⟨aj⟩
instance:Ek prog 124 3 (keyD ByteArray):=⟨aj⟩
structure RegI (c:Xb) where
 k:Nat
 hk:k≤c.actsL.length
 P:List Xd
 hP:P.map Xd.can=openF c k
 hz:∀ p∈P,p.ed=⟨none,0,0⟩∧p.edL=[]
 pl:List (ByteArray×Value)
 hpl:∀ d,mget pl d=(idxV (c.actsL.take k) d).map fun (j:Nat)=>Value.int .i64 (j:Int)
 num:List (Int×Value)
 hnum:∀ j:Nat,mget num (j:Int)=(posP P j).map fun (n:Nat)=>Value.int .i64 (n:Int)
 n:Nat
 hn:n=P.length
 xs:List Value
 hxs:xs=(P.map Xd.cells).flatten
 A:Option Addr
 cp:Nat
def RegI.s {c:Xb} (r:RegI c):Xk:=⟨r.A,r.n,r.cp⟩
def regC (c:Xb) (u:Value) (q1 q2:Nat):List Value:=c.cells++[u,.map (some q1),.map (some q2)]
def RegAt (c:Xb) (u:Value) (R:List Xl) (X:World→Prop):Prop:=∃ (r:RegI c) (b b1 q1 q2:Nat),r.k=c.actsL.length∧u=.pointer (some ⟨b,0,none⟩)∧R=[cel b 178 (regC c r.s.v q1 q2),mapr q2 r.pl,mapr q1 r.num,cel b1 35 c.cells,postR r.s r.P]∧∀ w,X w→∀ p∈r.P,Strs w p.to p.toL
namespace Sy
section
variable {P:Program} {N:Nat} {av bor:List Nat} {w0:World} {loc0:List Xl} {X0:World→Prop} {ops:Array Oper} {fuel:Nat} {listed:Array Bool} {E:Env} {loc:List Xl} {X:World→Prop} {k:St→Prop}
end
end Sy
structure BldH where
 ks:Xk
 ki:Xk
 id:ByteArray
 fork:Bool
 q1:Nat
 q2:Nat
 cl:Xg
 wn:Bool
def bldC (h:BldH) (sa sk:Xk) (prev:ByteArray) (gen:Int):List Value:=[h.ks.v,h.ki.v,.string h.id,.slice sa.p sa.n sa.c,.slice sk.p sk.n sk.c,.string prev,.int .i64 gen,.bool h.fork,.map (some h.q1),.map (some h.q2),.string h.cl.actor,.int .i64 h.cl.base,.string h.cl.prev,.int .i64 h.cl.gen,.int .i64 h.cl.home,.int .i64 h.cl.pub,.int .i64 h.cl.time,.int .i64 h.cl.e,.int .i64 h.cl.s,.bool h.wn]
def actR (s:Xk) (L:List Xa):Xl:=orow 46 20 (.slice s.p s.n s.c) s.n (L.map Xa.cells).flatten
def keyR (s:Xk) (L:List Xm):Xl:=orow 133 3 (.slice s.p s.n s.c) s.n (L.map Xm.cells).flatten
def bldR (b:Nat) (h:BldH) (sa sk:Xk) (st:Ec) (pl:List (ByteArray×Value)):List Xl:=[cel b 126 (bldC h sa sk st.prev (st.gen:Nat)),actR sa st.acts,keyR sk st.keys,mapr h.q2 pl]
def PlOk (pl:List (ByteArray×Value)) (l:List Xa):Prop:=∀ d,mget pl d=(idxV l d).map fun (j:Nat)=>Value.int .i64 (j:Int)
structure BldOk (sa sk:Xk) (st:Ec) (pl:List (ByteArray×Value)):Prop where
 hn:sa.n=st.acts.length
 hk:sk.n=st.keys.length
 hp:PlOk pl st.acts
def BldAt (b:Nat) (h:BldH) (st:Ec) (v u:Value) (R:List Xl):Prop:=u=v∧∃ (sa sk:Xk) (pl:List (ByteArray×Value)),BldOk sa sk st pl∧R=bldR b h sa sk st pl
theorem qH (l:List Xa) (x:Xa) (d:ByteArray):idxV (l++[x]) d=(idxV l d).or (bif seqB (digV x) d then some l.length else none):=by
 rw [idxV,idxV,List.findIdx?_append]
 congr 1
 rw [List.findIdx?_singleton]
 cases seqB (digV x) d with
 | true=>simp
 | false=>simp
theorem DO {pl:List (ByteArray×Value)} {l:List Xa} (h:PlOk pl l) {x:Xa} {j:Nat} (hj:idxV l (digV x)=some j):PlOk pl (l++[x]):=fun d=>by
 rw [qH,h d]
 cases hs:seqB (digV x) d with
 | true =>
  obtain rfl:=seqB_iff.1 hs
  rw [hj]
  rfl
 | false=>cases idxV l d<;>rfl
theorem DP {pl:List (ByteArray×Value)} {l:List Xa} (h:PlOk pl l) {x:Xa} (hj:idxV l (digV x)=none):PlOk (mput pl (digV x) (.int .i64 (l.length:Nat))) (l++[x]):=fun d=>by
 rw [gZ,qH,eqbB]
 cases hs:seqB d (digV x) with
 | true =>
  obtain rfl:=seqB_iff.1 hs
  rw [hj,hs]
  rfl
 | false =>
  rw [kU (digV x) d,hs,h d]
  cases idxV l d<;>rfl
theorem FL (b:Nat) (h:BldH) (sa sk:Xk) (st:Ec) (pl:List (ByteArray×Value)) (ok:BldOk sa sk st pl) (a:Xa) (ha:a.Rng) (hs:a.Sm) (hl:st.acts.length≤1000000) (hl2:st.keys.length≤1000000) :
  Ct prog 65 #[.pointer (some ⟨b,0,none⟩),a.v] (bldR b h sa sk st pl) (fun w=>a.at_ w∧Xe w) (fun u R _=>BldAt b h (addS st a) (.tuple #[]) u R):=by
 obtain ⟨hn,hk,hp⟩:=ok
 refine eK (args:=[_,_]) _ func65 rfl ntmps65 rfl fun av bor w0=>?_
 have hlk:=hp (digV a)
 unfold bldR actR keyR
 repeat' (first|refine gs ?_|refine gs1 fun _=>?_|fail)
 rename_i b1
 refine ib (ι:=Option Addr×Nat) (fun i=>⟨[(0,.pointer (some ⟨b,0,none⟩)),(3,.pointer (some ⟨b1,0,none⟩)),(4,.pointer (some ⟨b,2,none⟩)),(5,.int .i64 (sa.n:Nat))],[cel b1 46 a.cells,cel b 126 (bldC h ⟨i.1,sa.n+1,i.2⟩ sk st.prev (st.gen:Nat)),orow 46 20 (.slice i.1 (sa.n+1) i.2) (sa.n+1) ((st.acts.map Xa.cells).flatten++a.cells),orow 133 3 (.slice sk.p sk.n sk.c) sk.n (st.keys.map Xm.cells).flatten,mapr h.q2 pl],fun w=>a.at_ w∧Xe w⟩) ?_ fun i=>?_
 · (refine ap ⟨[0,1,2,3,5],[(4,⟨[],[(6,⟨[],[(7,⟨[8,9],[(10,⟨[],[]⟩)]⟩)]⟩)]⟩),(6,⟨[],[(4,⟨[],[(7,⟨[8,9],[(10,⟨[],[]⟩)]⟩)]⟩)]⟩)]⟩ [cel b1 46 a.cells] (fun w=>a.at_ w∧Xe w) (h:=?_))
   all_goals repeat' (first|refine gdz ?_|refine az ?_ (h':=?_)|exact aA|refine cN (size:=20) (vs:=[a.v]) (css:=a.cells) (hsz:=by rfl) (hcs:=by rfl) fun _=>?_|(refine jv ?_;refine aL (size:=20) (news:=a.cells) (q:=1) rfl rfl rfl rfl (fun _=>by (repeat (first|with_reducible exact At.here _|apply At.there))) (fun w G=>bN G aM rfl rfl 1) aa (by simp only [maxLen];omega) rfl ?_ rfl ?_;(with_reducible rfl);intro A2 c2)|fail)
   all_goals exact ⟨(_,_),ai am (Z0 _ (ak _)) fun w h=>h⟩
 obtain ⟨A2,c2⟩:=i
 simp only
 repeat' (first|refine gs ?_|fail)
 refine bF (hc:=iw a ha hs) fun v1 X1 h1=>?_
 obtain ⟨x',rfl,hdig,hr',hat⟩:=h1
 refine ae (hc:=gL x' hr') (hX:=fun w h=>⟨hat w h.2,h.1.2⟩) ?_
 rw [hdig]
 generalize hD:digV a=D at hlk
 refine eF ?_
 refine bD ?_
 refine cj ?_
 apply aJ
 apply QQ
 refine ib (ι:={ pl':List (ByteArray×Value) // PlOk pl' (st.acts++[a]) }) (fun i=>⟨[(3,.pointer (some ⟨b1,0,none⟩)),(4,.pointer (some ⟨b,2,none⟩)),(5,.int .i64 (sa.n:Nat))],[cel b1 46 a.cells,cel b 126 (bldC h ⟨A2,sa.n+1,c2⟩ sk D (st.gen:Nat)),orow 46 20 (.slice A2 (sa.n+1) c2) (sa.n+1) ((st.acts.map Xa.cells).flatten++a.cells),orow 133 3 (.slice sk.p sk.n sk.c) sk.n (st.keys.map Xm.cells).flatten,mapr h.q2 i.1],fun w=>a.at_ w∧Xe w⟩) ?_ fun i=>?_
 · have hpn:=fun hj=>DP hp (x:=a) hj
   have hpo:=fun j hj=>DO hp (x:=a) (j:=j) hj
   rw [hD] at hpn hpo
   cases hj:idxV st.acts D with
   | none =>
    rw [hj] at hlk
    apply QQ
    (refine ap ⟨[0,1,2,3,4,5,6,7],[(8,⟨[9,10,11,12,13],[]⟩)]⟩ [cel b1 46 a.cells,cel b 126 (bldC h ⟨A2,sa.n+1,c2⟩ sk D (st.gen:Nat)),orow 46 20 (.slice A2 (sa.n+1) c2) (sa.n+1) ((st.acts.map Xa.cells).flatten++a.cells),orow 133 3 (.slice sk.p sk.n sk.c) sk.n (st.keys.map Xm.cells).flatten,mapr h.q2 pl] (fun w=>(a.at_ w∧Xe w)∧X1 w) (h:=?_))
    all_goals repeat' (first|refine gdz ?_|refine az ?_ (h':=?_)|exact aA|(refine co (κ:=ByteArray) (kk:=D) (b:=false) (v:=.int .i64 0) (hl:=de aM) (ho:=hlk) ?_)|fail)
    all_goals
     repeat' (first|refine gs ?_|fail)
     (refine ap ⟨[0,1,2,3,4,5,6,7,8],[(9,⟨[],[]⟩)]⟩ [cel b1 46 a.cells,cel b 126 (bldC h ⟨A2,sa.n+1,c2⟩ sk D (st.gen:Nat)),orow 46 20 (.slice A2 (sa.n+1) c2) (sa.n+1) ((st.acts.map Xa.cells).flatten++a.cells),orow 133 3 (.slice sk.p sk.n sk.c) sk.n (st.keys.map Xm.cells).flatten] (fun w=>(a.at_ w∧Xe w)∧X1 w) (h:=?_))
     all_goals repeat' (first|refine gdz ?_|refine az ?_ (h':=?_)|exact aA|(refine dB (κ:=ByteArray) (kk:=D) (v:=.int .i64 (sa.n:Nat)) ?_)|fail)
     all_goals exact ⟨⟨mput pl D (.int .i64 (sa.n:Nat)),by rw [hn];exact hpn hj⟩,ai am (ak _) fun w h=>h.1⟩
   | some j =>
    rw [hj] at hlk
    apply QQ
    (refine ap ⟨[0,1,2,3,4,5,6,7],[(8,⟨[9,10,11,12,13],[]⟩)]⟩ [cel b1 46 a.cells,cel b 126 (bldC h ⟨A2,sa.n+1,c2⟩ sk D (st.gen:Nat)),orow 46 20 (.slice A2 (sa.n+1) c2) (sa.n+1) ((st.acts.map Xa.cells).flatten++a.cells),orow 133 3 (.slice sk.p sk.n sk.c) sk.n (st.keys.map Xm.cells).flatten,mapr h.q2 pl] (fun w=>(a.at_ w∧Xe w)∧X1 w) (h:=?_))
    all_goals repeat' (first|refine gdz ?_|refine az ?_ (h':=?_)|exact aA|(refine co (κ:=ByteArray) (kk:=D) (b:=true) (v:=.int .i64 (j:Nat)) (hl:=de aM) (ho:=hlk) ?_)|fail)
    all_goals
     repeat' (first|refine gs ?_|fail)
     exact ⟨⟨pl,hpo j hj⟩,ai am (ak _) fun w h=>h.1⟩
 obtain ⟨pl',hpl'⟩:=i
 simp only
 clear hp hlk hdig hr' hat
 have hfl:((st.acts++[a]).map Xa.cells).flatten=(st.acts.map Xa.cells).flatten++a.cells:=by simp
 by_cases hk18:a.kind=18
 · have hst:addS st a=⟨st.acts++[a],st.keys++[⟨((sa.n+1:Nat):Int),a.n,a.m⟩],D,st.gen⟩:=by rw [addS,hk18,hD,hn];rfl
   have hfk:((st.keys++[(⟨((sa.n+1:Nat):Int),a.n,a.m⟩:Xm)]).map Xm.cells).flatten=(st.keys.map Xm.cells).flatten++Xm.cells ⟨((sa.n+1:Nat):Int),a.n,a.m⟩:=by simp
   repeat' (first|refine aF (hab:=hk18) ?_|refine gs ?_|fail)
   (refine ap ⟨[0,1,2,3,5,6,7,8,9,10,11],[(4,⟨[],[(12,⟨[],[(13,⟨[14,15],[(16,⟨[],[]⟩)]⟩)]⟩)]⟩),(12,⟨[],[(4,⟨[],[(13,⟨[14,15],[(16,⟨[],[]⟩)]⟩)]⟩)]⟩)]⟩ [cel b1 46 a.cells] (fun w=>a.at_ w∧Xe w) (h:=?_))
   all_goals repeat' (first|refine gdz ?_|refine ay (hsub:=by exact aK) (hy:=by (apply dt (cs:=Xm.cells ⟨((sa.n+1:Nat):Int),a.n,a.m⟩);rfl;rfl)) ?_|refine az ?_ (h':=?_)|exact aA|refine cN (size:=3) (vs:=[Xm.v ⟨((sa.n+1:Nat):Int),a.n,a.m⟩]) (css:=Xm.cells ⟨((sa.n+1:Nat):Int),a.n,a.m⟩) (hsz:=by rfl) (hcs:=by rfl) fun _=>?_|(refine jv ?_;refine aL (size:=3) (news:=Xm.cells ⟨((sa.n+1:Nat):Int),a.n,a.m⟩) (q:=1) rfl rfl rfl rfl (fun _=>by (repeat (first|with_reducible exact At.here _|apply At.there))) (fun w G=>bN G aM rfl rfl 1) aa (by simp only [maxLen];omega) rfl ?_ rfl ?_;(with_reducible rfl);intro A3 c3)|fail)
   all_goals
    refine aR (aH rfl) ⟨_,Z0 _ (Z0 _ (ak _)),rfl,⟨A2,sa.n+1,c2⟩,⟨A3,sk.n+1,c3⟩,pl',⟨?_,?_,?_⟩,?_⟩
    · rw [hst,Zz,hn];rfl
    · rw [hst,Zz,hk];rfl
    · rw [hst];exact hpl'
    · rw [hst]
      unfold bldR actR keyR
      rw [hfl,hfk]
      rfl
 · repeat' (first|refine aI (hab:=hk18) ?_|refine gs ?_|fail)
   have hst:addS st a=⟨st.acts++[a],st.keys,D,st.gen⟩:=by rw [addS,hD,Zd hk18];rfl
   refine aR (aH rfl) ⟨_,Z0 _ (ak _),rfl,⟨A2,sa.n+1,c2⟩,sk,pl',⟨?_,?_,?_⟩,?_⟩
   · rw [hst,Zz,hn];rfl
   · rw [hst,hk]
   · rw [hst];exact hpl'
   · rw [hst]
     unfold bldR actR keyR
     rw [hfl]
end Go.Proofs.YtaolfiikahlmkaaGreatDoor
namespace Go.Proofs.YtaolfiikahlmkaaGreatDoor
open Go Go.Proofs Sy Tryz
def BldH.look (h:BldH) (o:Option Xg):BldH:={ h with cl:=o.getD Xg.zero,wn:=o.isSome }
def bldCel (b:Nat) (h:BldH) (sa sk:Xk) (st:Ec):Xl:=cel b 126 (bldC h sa sk st.prev (st.gen:Nat))
theorem yw (b:Nat) (h:BldH) (sa sk:Xk) (st:Ec) (o:Option Xg) (Y:World→Prop)
  (hwon:Pu prog 115 #[.agg #[h.ks.v,h.ki.v],.string h.id,.int .i64 (st.gen:Nat)] Y (.tuple #[(o.getD Xg.zero).v,.bool o.isSome])) :
  Ct prog 66 #[.pointer (some ⟨b,0,none⟩)] [bldCel b h sa sk st] Y (fun u R _=>u=.tuple #[]∧R=[bldCel b (h.look o) sa sk st]):=by
 refine eK (args:=[_]) _ func66 rfl ntmps66 rfl fun av bor w0=>?_
 unfold bldCel
 generalize hc:o.getD Xg.zero=c at hwon
 generalize hi:o.isSome=i at hwon
 have hL:h.look o={ h with cl:=c,wn:=i }:=by rw [BldH.look,hc,hi]
 rw [hL]
 (refine ap ⟨[0,1,2,3,4,6,7,8,9,11,12,13,14],[(5,⟨[],[(10,⟨[],[(15,⟨[],[(16,⟨[17,18,19,20,21],[(22,⟨[23,24],[(25,⟨[],[]⟩)]⟩)]⟩)]⟩)]⟩),(15,⟨[],[(10,⟨[],[(16,⟨[17,18,19,20,21],[(22,⟨[23,24],[(25,⟨[],[]⟩)]⟩)]⟩)]⟩)]⟩)]⟩),(10,⟨[],[(5,⟨[],[(15,⟨[],[(16,⟨[17,18,19,20,21],[(22,⟨[23,24],[(25,⟨[],[]⟩)]⟩)]⟩)]⟩)]⟩),(15,⟨[],[(5,⟨[],[(16,⟨[17,18,19,20,21],[(22,⟨[23,24],[(25,⟨[],[]⟩)]⟩)]⟩)]⟩)]⟩)]⟩),(15,⟨[],[(5,⟨[],[(10,⟨[],[(16,⟨[17,18,19,20,21],[(22,⟨[23,24],[(25,⟨[],[]⟩)]⟩)]⟩)]⟩)]⟩),(10,⟨[],[(5,⟨[],[(16,⟨[17,18,19,20,21],[(22,⟨[23,24],[(25,⟨[],[]⟩)]⟩)]⟩)]⟩)]⟩)]⟩)]⟩ [] (fun w=>Y w) (h:=?_))
 all_goals repeat' (first|(refine ae (hc:=hwon) ?_)|refine gd ?_|refine az ?_ (h':=?_)|exact aA|(refine aE (vs:=[h.ks.v,h.ki.v]) (hv:=rfl) ?_)|(refine dP (bldC { h with cl:=c } sa sk st.prev (st.gen:Nat)) (h:=?_))|fail)
 all_goals exact aR (aH rfl) ⟨_,ak _,rfl,rfl⟩
namespace Sy
section
variable {P:Program} {N:Nat} {av bor:List Nat} {w0:World} {st:St} {t:TypeId} {ty:TypeId} {x:Operand}
theorem gQ {e size m i c j:Nat} [h:Xx P t] {A:Option Addr} {xs:List (List Value)} {cs:List Value} {u:Value} (hx:ev st.env x=some (elP A (i*size+j))) (hm:orow e size (.slice A m c) m xs.flatten∈st.loc) (hn:m=xs.length) (hs:∀ r∈xs,r.length=size) (hi:xs[i]?=some cs) (hj:cs[j]?=some u) :
  Yields P N av bor w0 st (.load t x) ty u:=Sy.Yields.mk fun B w ok d pos af g=>by
 have hr:=bu (ok.gam.here _ hm).now hn hs
 obtain ⟨h1,hp,hc⟩:=Xf.row hr i cs hi
 obtain ⟨a,rfl⟩:=QM.1 hp
 simp [execOp,ok.eval hx,elP,Instr.loadAt,Instr.sureAddr,loadVar,(bX h.out w).1,(hc j u hj).2 a rfl]
theorem fQ [h:Xx P t] {bl j:Nat} {v:Value} (hx:ev st.env x=some (.pointer (some ⟨bl,j,none⟩))) (hF:∀ w,st.ext w→w.cell? ⟨bl,j,none⟩=some v):Yields P N av bor w0 st (.load t x) ty v:=Sy.Yields.mk fun B w ok d pos af g=>by
 simp [execOp,ok.eval hx,Instr.loadAt,Instr.sureAddr,loadVar,(bX h.out w).1,hF w ok.gam.keep.now]
end
end Sy
def CelD (b:Nat) (cs:List Value) (w:World):Prop:=∀ j v,cs[j]?=some v→w.cell? ⟨b,j,none⟩=some v
theorem fF {b T:Nat} {cs:List Value} {w:World} (h:(cel b T cs).F w):CelD b cs w:=fun j v hj=>by
 have h1:w.heap[b]?=some (.cells cs.toArray T (0,0)):=h
 simp [World.cell?,h1,hj]
theorem Fs (b b1:Nat) (h:BldH) (sa sk:Xk) (st:Ec) (pl:List (ByteArray×Value)) (hp:PlOk pl st.acts) (d:ByteArray) :
  Pu prog 118 #[.string d,.pointer (some ⟨b1,0,none⟩)] (fun w=>CelD b1 [.pointer (some ⟨b,0,none⟩)] w∧CelD b (bldC h sa sk st.prev (st.gen:Nat)) w∧MapAt w h.q2 pl) (idxP (idxV st.acts d)):=by
 refine ax func118 ntmps118 fun av bor w0=>?_
 have hlk:=hp d
 cases hj:idxV st.acts d with
 | none =>
  rw [hj] at hlk
  repeat' (first|refine gs ?_|(refine al (fQ rfl (fun w h=>h.1 0 _ rfl)) rfl rfl rfl ?_)|(refine al (fQ rfl (fun w h=>h.2.1 9 _ rfl)) rfl rfl rfl ?_)|(refine co (κ:=ByteArray) (kk:=d) (b:=false) (v:=.int .i64 0) (hl:=mH fun w h=>h.2.2) (ho:=hlk) ?_)|fail)
  exact ab (gF rfl rfl rfl) rfl
 | some j =>
  rw [hj] at hlk
  repeat' (first|refine gs ?_|(refine al (fQ rfl (fun w h=>h.1 0 _ rfl)) rfl rfl rfl ?_)|(refine al (fQ rfl (fun w h=>h.2.1 9 _ rfl)) rfl rfl rfl ?_)|(refine co (κ:=ByteArray) (kk:=d) (b:=true) (v:=.int .i64 (j:Nat)) (hl:=mH fun w h=>h.2.2) (ho:=hlk) ?_)|fail)
  exact ab (gF rfl rfl rfl) rfl
end Go.Proofs.YtaolfiikahlmkaaGreatDoor
namespace Go.Proofs.YtaolfiikahlmkaaGreatDoor
open Go Go.Proofs Sy
structure Ej where
 rank:Int
 dg:ByteArray
 a:Xa
def Ej.cells (f:Ej):List Value:=.int .i64 f.rank::.string f.dg::f.a.cells
def fndR (s:Xk) (P:List Ej):Xl:=orow 243 22 (.slice s.p s.n s.c) s.n (P.map Ej.cells).flatten
theorem HT (P:List Ej):∀ r∈P.map Ej.cells,r.length=22:=fun r hr=>by
 obtain ⟨c,_,rfl⟩:=QH.1 hr
 rfl
def cmpA:Value:=.func (.func 184) #[] #[]
def PermA (s:Xk) (P:List Ej) (u:Value) (R:List Xl) (X:World→Prop):Prop:=u=.tuple #[]∧∃ Q:List Ej,Q.Perm P∧R=[fndR s Q]
def SortA (n:Nat):Prop:=∀ (s:Xk) (P:List Ej),s.n=P.length→P.length≤n→Ct Tryz.prog 183 #[s.v,cmpA] [fndR s P] (fun _=>True) (PermA s P)
end Go.Proofs.YtaolfiikahlmkaaGreatDoor
