/- Joined. -/
import Derived.Test.YtgffbiobmamobaaGreatDoorI0
import Derived.Test.YtgffbiobmamobaaGreatDoorI1
import Derived.Test.YtgffbiobmamobaaGreatDoorI2
import Derived.Test.YtgffbiobmamobaaGreatDoorI14
import Derived.Test.YtgffbiobmamobaaGreatDoorI19
set_option linter.unusedVariables false
set_option linter.unusedSimpArgs false
set_option maxHeartbeats 16000000
namespace Go.Proofs.YtgffbiobmamobaaGreatDoor
open Go Go.Proofs Sy
theorem qb {a:Xc} (h:a.Rng) {s1 s2:Xi} (h1:s1.n=a.to.n) (h2:s2.n=a.wraps.n):(a.re s1 s2).Rng:=⟨h.ints,h.wints,h1.trans h.to_len,h2.trans h.wraps_len⟩
theorem vD {a:Xc} (h:a.Sm) {s1 s2:Xi} (h1:s1.n=a.to.n) (h2:s2.n=a.wraps.n):(a.re s1 s2).Sm:=⟨by show s1.n*16≤_;rw [h1];exact h.to,by show s2.n*64≤_;rw [h2];exact h.wraps,h.target⟩
theorem vZ:Xc.zero.Rng:=⟨by decide,fun w hw=>(List.not_mem_nil hw).elim,rfl,rfl⟩
theorem rx:Xc.zero.Sm:=⟨by decide,by decide,by decide⟩
theorem kz {k:Eg} {a:Xc} (h:a.Rng):(actSignV k a).Rng:=by
 rw [actSignV]
 cases rightB (a.sig Ef.zero)&&rightK k with
 | false=>exact vZ
 | true=>exact rA h (lQ _ _).1 (lQ _ _).2
theorem mM {k:Eg} {a:Xc} (h:a.Sm):(actSignV k a).Sm:=by
 rw [actSignV]
 cases rightB (a.sig Ef.zero)&&rightK k with
 | false=>exact rx
 | true=>exact ⟨h.to,h.wraps,h.target⟩
def Xc.can (a:Xc):Xc:=a.re ⟨none,a.to.n,0⟩ ⟨none,a.wraps.n,0⟩
theorem lp (a:Xc) {s1 s2:Xi} (h1:s1.n=a.to.n) (h2:s2.n=a.wraps.n):(a.re s1 s2).can=a.can:=by
 show a.re ⟨none,s1.n,0⟩ ⟨none,s2.n,0⟩=a.re ⟨none,a.to.n,0⟩ ⟨none,a.wraps.n,0⟩
 rw [h1,h2]
def Xa.can (c:Xa):Xa:={ c with acts:=⟨none,c.acts.n,0⟩,keys:=⟨none,c.keys.n,0⟩,actsL:=c.actsL.map Xc.can }
def actorB:ByteArray:=⟨#[97,99,116,111,114]⟩
def idC (i:Nat):Xa:={ Xa.zero with id:=idA21 i }
def draftB (i:Nat):Xc:={ draftV (idC i) 0 0 with text:=actorB,n:=(keyA i).p }
def actB (i:Nat):Xc:=actSignV (keyA i) (draftB i)
theorem li (i:Nat):(draftB i).Rng:=by
 have:=(wz i).1
 have z:(0:Int)<9223372036854775808:=by decide
 exact ⟨⟨z,z,z,z,z,this,z,z,z⟩,fun w hw=>(List.not_mem_nil hw).elim,rfl,rfl⟩
theorem mq (i:Nat):(draftB i).Sm:=⟨by show 0*16≤_;omega,by show 0*64≤_;omega,(show 0≤maxLen by decide)⟩
def beginC (i:Nat):Xa:={ idC i with acts:=⟨none,1,0⟩,keys:=⟨none,1,0⟩,prev:=digV (actB i),actsL:=[(actB i).can] }
section
variable {N:Nat} {av bor:List Nat} {w0:World} {E:Env} {loc:List Xl} {X:World→Prop}
theorem fm {E':Env} {l':List Xl} {r:Xl} {X':World→Prop} (he:sub E E') (hl:(r::l').Sublist loc) (hx:∀ w,X w→r.F w→X' w):∀ a w,Ok N av bor w0 ⟨E,loc,X⟩ a w→Ok N av bor w0 ⟨E',l',X'⟩ a w:=fun a w ok=>by
 have h1:=ak (E':=E') (l':=r::l') (X':=X) he hl (fun _ h=>h) a w ok
 exact h1.via fun M G=>(Xr.give G).imp fun w h=>hx w h.1 h.2
end
def newC (i:Nat) (a:Xc) (b1 b2:Nat):Xa:={ idC i with acts:=⟨some ⟨b1,0,none⟩,1,1⟩,keys:=⟨some ⟨b2,0,none⟩,1,1⟩,prev:=digV (actB i),actsL:=[a] }
theorem wm {i:Nat} {a:Xc} (h:a.can=(actB i).can) (b1 b2:Nat):(newC i a b1 b2).can=beginC i:=by
 simp only [newC,Xa.can,beginC,List.map_cons,List.map_nil,h]
theorem yP {w:World} {i:Nat} {a:Xc} {b1 b2:Nat} (h:w.heap[b1]?=some (.cells a.cells.toArray 72 (0,0))) (ha:a.at_ w):(newC i a b1 b2).at_ w :=
 ⟨aU (xs:=[a.cells]) (e:=72) (by simpa using h) rfl (by decide) (fun r hr=>by rw [List.mem_singleton] at hr;subst hr;rfl),fun x hx=>by
  have hx:x∈[a]:=hx
  rw [List.mem_singleton] at hx
  subst hx
  exact ha⟩
structure BegI where
 k:Nat
 hk:k≤4
 L:List Xa
 hL:L.map Xa.can=(List.range k).map beginC
 xs:List Value
 hxs:xs=(L.map Xa.cells).flatten
 hb:∀ c∈L,Xx c.actsL∧c.actsL.length≤1
 A:Option Addr
 c:Nat
set_option maxRecDepth 20000 in
theorem xL:Ct Tryz.prog 35 #[] [] Xg (fun u R X=>∃ (L:List Xa) (A:Option Addr) (c:Nat),L.map Xa.can=(List.range 4).map beginC∧(∀ c∈L,Xx c.actsL∧c.actsL.length≤1)∧u=.slice A 4 c∧R=[orow 65 6 u 4 (L.map Xa.cells).flatten]∧∀ w,X w→Xg w∧∀ c∈L,c.at_ w):=by
 refine dZ Tryz.func35 Tryz.ntmps35 fun av bor w0=>?_
 refine bQ 65 6 ?_
 repeat' (first|refine gs ?_|refine gs1 fun _=>?_|fail)
 refine az (ι:=BegI) (fun i=>⟨[(1,.slice i.A i.k i.c),(2,.int .i64 (i.k:Nat))],[orow 65 6 (.slice i.A i.k i.c) i.k i.xs],fun w=>Xg w∧∀ c∈i.L,c.at_ w⟩) (fun i=>4-i.k) ⟨0,by omega,[],rfl,[],rfl,(fun c hc=>(List.not_mem_nil hc).elim),none,0⟩ (ak an (al _) fun _ h=>⟨h,fun c hc=>(List.not_mem_nil hc).elim⟩) fun i=>?_
 obtain ⟨k,hk,L,hL,xs,hxs,hbL,A,cc⟩:=i
 simp only
 repeat' (first|refine gs ?_|refine gs1 fun _=>?_|(refine gp ?_ ?_<;>intro hx_ this)|fail)
 · have hlt:k<4:=by omega
   have hid:=rW k ac
   have hky:=nd k ac
   have hv:(keyA k).v=.agg #[.int .i64 (keyA k).s,.int .i64 (keyA k).p]:=rfl
   have hky':=hky
   rw [hv] at hky'
   have hdr:=bF (idC k) 0 0
   have hsg:=ii (keyA k) (draftB k) (li k) (mq k)
   have hbr:(actB k).Rng:=kz (li k)
   have hbs:(actB k).Sm:=mM (mq k)
   repeat' (first|(refine ag (hc:=hid) ?_)|(refine ag (hc:=hdr) ?_)|(refine ag (hc:=hky') ?_)|refine gs ?_|refine gs1 fun _=>?_|(refine aL (cs:=(idC k).cells) (hf:=by rfl) ?_)|(refine am (j5 rfl) rfl rfl rfl ?_)|(refine gp ?_ ?_<;>intro hx_ this)|fail)
   rename_i b
   have hdb:∀ w:World,(draftB k).at_ w:=fun w=>⟨aN w 1,aN w 5⟩
   refine ej (ι:={ s:Xi×Xi // s.1.n=(actB k).to.n∧s.2.n=(actB k).wraps.n }) (fun s=>⟨[(1,.slice A k cc),(2,.int .i64 (k:Nat)),(3,.pointer (some ⟨b,0,none⟩))],[cel b 72 ((actB k).re s.1.1 s.1.2).cells,orow 65 6 (.slice A k cc) k xs],fun w=>(Xg w∧∀ c∈L,c.at_ w)∧((actB k).re s.1.1 s.1.2).at_ w⟩) ?_ fun s=>?_
   · (refine ao ⟨[0],[(1,⟨[],[(2,⟨[],[(3,⟨[],[(4,⟨[],[]⟩)]⟩)]⟩)]⟩),(2,⟨[],[(1,⟨[],[(3,⟨[],[(4,⟨[],[]⟩)]⟩)]⟩)]⟩)]⟩ [] (fun _=>True) (h:=?_))
     all_goals repeat' (first|(refine ag (hc:=hky) ?_)|((refine aT (hc:=hsg) (hX:=fun w h=>⟨hdb w,h.1⟩) fun v2 X2 h2=>?_;obtain ⟨s1,s2,rfl,e1,e2,hat⟩:=h2;rw [show actSignV (keyA k) (draftB k)=actB k from rfl] at *))|refine gd ?_|refine aF ?_ (h':=?_)|exact aG|refine gs1 fun _=>?_|(refine gq ?_ ?_<;>intro hx_ this)|fail)
     all_goals exact ⟨⟨(s1,s2),e1,e2⟩,ak an (al _) fun w h=>⟨h.1,hat w h.2⟩⟩
   obtain ⟨⟨s1,s2⟩,e1,e2⟩:=s
   simp only at e1 e2
   have hra:=qb hbr e1 e2
   have hsa:=vD hbs e1 e2
   have hdi:=fq ((actB k).re s1 s2) hra hsa
   rw [g9 e1 e2] at hdi
   have hcr:=lp (actB k) e1 e2
   simp only
   generalize hAr:(actB k).re s1 s2=a at *
   refine ll (ι:=Option Addr×Nat×Nat×Nat) (fun j=>⟨[(1,.slice j.1 (k+1) j.2.1),(2,.int .i64 (k:Nat))],[cel j.2.2.1 72 a.cells,orow 65 6 (.slice j.1 (k+1) j.2.1) (k+1) (xs++[.string (idA21 k),.slice (some ⟨j.2.2.1,0,none⟩) 1 1,.slice (some ⟨j.2.2.2,0,none⟩) 1 1,.string (digV (actB k)),.int .i64 0,.bool false])],fun w=>(Xg w∧∀ c∈L,c.at_ w)∧a.at_ w⟩) ?_ fun j=>?_
   · (refine ao ⟨[0,1,3,5,6,7,9],[(2,⟨[],[(4,⟨[],[(8,⟨[],[(10,⟨[11],[(12,⟨[],[(13,⟨[14],[]⟩)]⟩)]⟩)]⟩),(10,⟨[],[(8,⟨[11],[(12,⟨[],[(13,⟨[14],[]⟩)]⟩)]⟩)]⟩)]⟩),(8,⟨[],[(4,⟨[],[(10,⟨[11],[(12,⟨[],[(13,⟨[14],[]⟩)]⟩)]⟩)]⟩),(10,⟨[],[(4,⟨[11],[(12,⟨[],[(13,⟨[14],[]⟩)]⟩)]⟩)]⟩)]⟩),(10,⟨[],[(4,⟨[],[(8,⟨[11],[(12,⟨[],[(13,⟨[14],[]⟩)]⟩)]⟩)]⟩),(8,⟨[],[(4,⟨[11],[(12,⟨[],[(13,⟨[14],[]⟩)]⟩)]⟩)]⟩)]⟩)]⟩),(4,⟨[],[(2,⟨[],[(8,⟨[],[(10,⟨[11],[(12,⟨[],[(13,⟨[14],[]⟩)]⟩)]⟩)]⟩),(10,⟨[],[(8,⟨[11],[(12,⟨[],[(13,⟨[14],[]⟩)]⟩)]⟩)]⟩)]⟩),(8,⟨[],[(2,⟨[],[(10,⟨[11],[(12,⟨[],[(13,⟨[14],[]⟩)]⟩)]⟩)]⟩)]⟩)]⟩),(8,⟨[],[(2,⟨[],[(4,⟨[],[(10,⟨[11],[(12,⟨[],[(13,⟨[14],[]⟩)]⟩)]⟩)]⟩),(10,⟨[],[(4,⟨[11],[(12,⟨[],[(13,⟨[14],[]⟩)]⟩)]⟩)]⟩)]⟩),(4,⟨[],[(2,⟨[],[(10,⟨[11],[(12,⟨[],[(13,⟨[14],[]⟩)]⟩)]⟩)]⟩)]⟩)]⟩)]⟩ [cel b 72 a.cells] (fun _=>True) (h:=?_))
     all_goals repeat' (first|(refine ag (hc:=hid) (hX:=fun _ h=>h.1.1) ?_)|(refine ag (hc:=hdi) (hX:=fun _ h=>⟨h.2,h.1.1⟩) ?_)|refine gd ?_|refine aJ (hy:=by first|(apply cT (cs:=[.int .i64 0,.int .i64 a.n,.int .i64 0]);rfl;rfl)|(apply cT;rfl;rfl)) ?_|refine aF ?_ (h':=?_)|exact aG|refine bH (size:=20) (vs:=[.agg a.cells.toArray]) (css:=a.cells) (hsz:=by rfl) (hcs:=by rfl) fun _=>?_|refine bH (size:=3) (vs:=[.agg #[.int .i64 0,.int .i64 a.n,.int .i64 0]]) (css:=[.int .i64 0,.int .i64 a.n,.int .i64 0]) (hsz:=by rfl) (hcs:=by rfl) fun _=>?_|refine bH (size:=6) (hsz:=by rfl) (hcs:=by rfl) fun _=>?_|(refine fI ?_;refine aH (size:=6) (q:=1) rfl rfl rfl rfl (fun _=>by (repeat (first|exact At.here _|apply At.there))) (fun w G=>bu G ay rfl rfl 1) ac (by simp only [maxLen];omega) rfl ?_ rfl ?_;(first|with_reducible rfl|with_reducible assumption|with_reducible exact Bool.not_false|with_reducible exact Bool.not_true);intro A2 c2)|refine gs1 fun _=>?_|(refine gq ?_ ?_<;>intro hx_ this)|fail)
     all_goals first
      | exact ⟨(_,_,_,_),ak an (List.Sublist.cons _ (List.Sublist.cons _ (List.Sublist.cons_cons _ (List.Sublist.cons _ (al _))))) fun _ h=>h⟩
      | exact ⟨(_,_,_,_),ak an (List.Sublist.cons _ (List.Sublist.cons_cons _ (List.Sublist.cons _ (List.Sublist.cons _ (al _))))) fun _ h=>h⟩
   · obtain ⟨A2,c2,b1,b2⟩:=j
     simp only
     repeat' (first|refine gs ?_|refine gs1 fun _=>?_|(refine gp ?_ ?_<;>intro hx_ this)|fail)
     exact ⟨(⟨k+1,hlt,L++[newC k a b1 b2],by rw [List.map_append,List.map_cons,List.map_nil,wm hcr,hL,List.range_succ,List.map_append];rfl,xs++(newC k a b1 b2).cells,by rw [hxs,List.map_append,List.flatten_append,List.map_cons,List.map_nil,List.flatten_cons,List.flatten_nil,List.append_nil],(fun c hc=>by
      rcases List.mem_append.1 hc with hc|hc
      · exact hbL c hc
      · rw [List.mem_singleton] at hc
        subst hc
        exact ⟨⟨fun x hx=>by have hx:x∈[a]:=hx;rw [List.mem_singleton] at hx;subst hx;exact hra,fun x hx=>by have hx:x∈[a]:=hx;rw [List.mem_singleton] at hx;subst hx;exact hsa⟩,Nat.le_refl 1⟩),A2,c2⟩:BegI),(by show 4-(k+1)<4-k;omega),
      fm (r:=cel b1 72 a.cells) ⟨rfl,rfl,trivial⟩ (al _) fun w h hr=>⟨h.1.1,fun c hc=>by
       rcases List.mem_append.1 hc with hc|hc
       · exact h.1.2 c hc
       · rw [List.mem_singleton] at hc
         subst hc
         exact yP hr h.2⟩⟩
 · have hk4:k=4:=by omega
   subst hk4
   exact ae (aj rfl rfl) ⟨L,A,cc,hL,hbL,rfl,by rw [hxs],fun w h=>h⟩
end Go.Proofs.YtgffbiobmamobaaGreatDoor
