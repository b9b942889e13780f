/- Joined. -/
import Derived.Test.YtaolfiikahlmkaaGreatDoorZ5
set_option linter.unusedVariables false
set_option linter.unusedSimpArgs false
set_option maxHeartbeats 16000000
namespace Go.Proofs.YtaolfiikahlmkaaGreatDoor
open Go Go.Proofs Sy
def rtextV (c:ChainD) (i:Int):Bool:=decide (0≤i)&&(match c.actsL[i.toNat]? with
 | some a=>postK a.kind||decide (a.kind=14)
 | none=>false)
def rmemV (c:ChainD) (i:Int):List ByteArray:=bif wellV c i then (match c.actsL[i.toNat]? with
 | some a=>membersV c i a.scope a.group a.toL
 | none=>[]) else []
def pubV (c:ChainD) (i:Int):Bool:=match c.actsL[i.toNat]? with
 | some a=>decide (a.scope=0)
 | none=>false
def readL (c:ChainD) (i:Int):List ByteArray:=bif rtextV c i&&!pubV c i then compB (sortB (rmemV c i++[c.id])) else []
def readB (c:ChainD) (i:Int):Bool:=!rtextV c i||!pubV c i
def mayV (c:ChainD) (i:Int) (r:ByteArray):Bool:=rtextV c i&&(seqB r c.id||pubV c i||hasS (rmemV c i) r)
theorem sZ {c:ChainD} {n sc:Int} {g:ByteArray} {toL:List ByteArray} {x:ByteArray} (h:x∈membersV c n sc g toL):x≠c.id∧x∉sortB (tieV c.actsL n).b:=by
 rw [membersV,g9,QM] at h
 have h2:=h.2
 simp only [keepM,Zp,Bool.not_eq_true'] at h2
 exact ⟨seqB_ne.1 h2.1,hasS_false.1 h2.2⟩
theorem lS (c:ChainD) (n sc:Int) (g:ByteArray) (toL:List ByteArray):Asc (membersV c n sc g toL):=l8 _
theorem yk {c:ChainD} {i:Int} {a:ActD} (h:c.actsL[i.toNat]?=some a):rmemV c i=bif wellV c i then membersV c i a.scope a.group a.toL else []:=by
 rw [rmemV,h]
structure ReadF (c:ChainD) (i:Int) (a:ActD) (l:List ByteArray):Prop where
 asc:Asc l
 own:c.id∈l
 mem:∀ x∈l,x≠c.id→x∈membersV c i a.scope a.group a.toL
 len:l.length=1+(bif wellV c i then (membersV c i a.scope a.group a.toL).length else 0)
theorem Agree.mono {n m:Nat} {l l':List ActD} (h:Agree n l l') (hm:m≤n):Agree m l l':=⟨fun k hk=>h.at_ k aa,ZY hm h.left,ZY hm h.right⟩
theorem rs {n:Nat} {c d:ChainD} (h:Agree n c.actsL d.actsL) (hid:c.id=d.id) (a:ActD):wellA c n a=wellA d n a:=by
 rw [wellA,wellA,qR h,iy h hid]
theorem rr {n:Nat} {c d:ChainD} (h:Agree (n+1) c.actsL d.actsL) (hid:c.id=d.id):wellV c n=wellV d n:=by
 rw [wellV,wellV,ZZ,h.at_ n (by omega)]
 cases d.actsL[n]? with
 | none=>rfl
 | some a =>
  show (_&&wellA c n a)=(_&&wellA d n a)
  rw [rs (h.mono aa) hid]
theorem rZ {n:Nat} {c d:ChainD} (h:Agree (n+1) c.actsL d.actsL) (hid:c.id=d.id):rmemV c n=rmemV d n:=by
 rw [rmemV,rmemV,rr h hid,ZZ,h.at_ n (by omega)]
 cases d.actsL[n]? with
 | none=>rfl
 | some a=>simp only [iy (h.mono (show n≤n+1 by omega)) hid]
theorem qt {n:Nat} {c d:ChainD} (h:Agree (n+1) c.actsL d.actsL):rtextV c n=rtextV d n:=by
 rw [rtextV,rtextV,ZZ,h.at_ n (by omega)]
theorem uK {n:Nat} {c d:ChainD} (h:Agree (n+1) c.actsL d.actsL):pubV c n=pubV d n:=by
 rw [pubV,pubV,ZZ,h.at_ n (by omega)]
theorem nQ {n:Nat} {c d:ChainD} (h:Agree (n+1) c.actsL d.actsL) (hid:c.id=d.id) (r:ByteArray):mayV c n r=mayV d n r:=by
 rw [mayV,mayV,qt h,uK h,rZ h hid,hid]
theorem Es (a:ActD) (sc:Int) (g:ByteArray) (n:Nat):gOk a.can sc g n=gOk a sc g n:=rfl
theorem gX (l:List ActD) (sc:Int) (g:ByteArray):∀ k,grantF (l.map ActD.can) sc g k=grantF l sc g k
 | 0=>rfl
 | k+1=>by rw [grantF,grantF,gX l sc g k,iD,Es]
theorem eW (l:List ActD) (n sc:Int) (g:ByteArray):epochO (l.map ActD.can) n sc g=(epochO l n sc g).map ActD.can:=by
 rw [epochO,epochO,grantV,grantV,gX,ZF]
 cases decide ((0:Int)<((grantF l sc g (limN n l.length)).2:Nat)) with
 | false=>rfl
 | true=>rw [Zf,Zf,Z7]
theorem la (l:List ActD) (g:ByteArray):∀ k,circF (l.map ActD.can) g k=(circF l g k).map ActD.can
 | 0=>rfl
 | k+1=>by
  rw [circF,circF,la l g k,iD]
  show (bif decide ((l.getD k ActD.zero).kind=15)&&seqB (l.getD k ActD.zero).group g then _ else _)=_
  cases decide ((l.getD k ActD.zero).kind=15)&&seqB (l.getD k ActD.zero).group g<;>rfl
structure SimC (c d:ChainD):Prop where
 id:c.id=d.id
 acts:c.actsL.map ActD.can=d.actsL.map ActD.can
theorem SimC.len {c d:ChainD} (h:SimC c d):c.actsL.length=d.actsL.length:=by
 have:=congrArg List.length h.acts
 rwa [ZF,ZF] at this
theorem SimC.at_ {c d:ChainD} (h:SimC c d) (k:Nat):c.actsL[k]?.map ActD.can=d.actsL[k]?.map ActD.can:=by
 rw [←Z7,←Z7,h.acts]
theorem SimC.tie {c d:ChainD} (h:SimC c d) (n:Int):tieV c.actsL n=tieV d.actsL n:=by rw [←rA c.actsL,h.acts,rA]
theorem SimC.epoch {c d:ChainD} (h:SimC c d) (n sc:Int) (g:ByteArray):(epochO c.actsL n sc g).map ActD.can=(epochO d.actsL n sc g).map ActD.can:=by rw [←eW,h.acts,eW]
theorem SimC.circ {c d:ChainD} (h:SimC c d) (g:ByteArray) (k:Nat):(circF c.actsL g k).map ActD.can=(circF d.actsL g k).map ActD.can:=by rw [←la,h.acts,la]
theorem qF {α:Type} {f:ActD→α} (hf:∀ a:ActD,f a.can=f a) {o p:Option ActD} (h:o.map ActD.can=p.map ActD.can):o.map f=p.map f:=by
 have e:∀ q:Option ActD,q.map f=(q.map ActD.can).map f:=fun q=>by cases q<;>simp [hf]
 rw [e o,e p,h]
theorem SimC.members {c d:ChainD} (h:SimC c d) (n sc:Int) (g:ByteArray) (toL:List ByteArray):membersV c n sc g toL=membersV d n sc g toL:=by
 have e2:(circF c.actsL g (limN n c.actsL.length)).map (·.toL)=(circF d.actsL g (limN n d.actsL.length)).map (·.toL):=by
  rw [h.len]
  exact qF (fun _=>rfl) (h.circ g _)
 have e3:keepM c=keepM d:=by funext bs x;simp only [keepM,h.id]
 simp only [membersV,listOf,h.tie n,e2,e3]
theorem SimC.wellA {c d:ChainD} (h:SimC c d) (i:Int) (a:ActD):wellA c i a=wellA d i a:=by
 have e:=h.epoch i a.scope a.group
 unfold Go.Proofs.YtaolfiikahlmkaaGreatDoor.wellA
 rw [h.members]
 revert e
 cases epochO c.actsL i a.scope a.group with
 | none =>
  cases epochO d.actsL i a.scope a.group with
  | none=>exact fun _=>rfl
  | some y=>exact fun e=>by cases e
 | some x =>
  cases epochO d.actsL i a.scope a.group with
  | none=>exact fun e=>by cases e
  | some y =>
   intro e
   have e':x.can=y.can:=Option.some.inj e
   have e1:x.epoch=y.epoch:=(congrArg ActD.epoch e' :)
   have e2:x.toL=y.toL:=(congrArg ActD.toL e' :)
   simp only [e1,e2]
theorem mB (c:ChainD) (i:Int) (a:ActD):wellA c i a.can=wellA c i a:=rfl
theorem SimC.well {c d:ChainD} (h:SimC c d) (i:Int):wellV c i=wellV d i:=by
 have e:=h.at_ i.toNat
 rw [wellV,wellV]
 revert e
 cases c.actsL[i.toNat]? with
 | none =>
  cases d.actsL[i.toNat]? with
  | none=>exact fun _=>rfl
  | some y=>exact fun e=>by cases e
 | some x =>
  cases d.actsL[i.toNat]? with
  | none=>exact fun e=>by cases e
  | some y =>
   intro e
   have e':x.can=y.can:=Option.some.inj e
   simp only
   rw [←mB c i x,←mB d i y,e',h.wellA]
theorem SimC.rmem {c d:ChainD} (h:SimC c d) (i:Int):rmemV c i=rmemV d i:=by
 have e:=h.at_ i.toNat
 rw [rmemV,rmemV,h.well]
 revert e
 cases c.actsL[i.toNat]? with
 | none =>
  cases d.actsL[i.toNat]? with
  | none=>exact fun _=>rfl
  | some y=>exact fun e=>by cases e
 | some x =>
  cases d.actsL[i.toNat]? with
  | none=>exact fun e=>by cases e
  | some y =>
   intro e
   have e':x.can=y.can:=Option.some.inj e
   have e1:x.scope=y.scope:=(congrArg ActD.scope e' :)
   have e2:x.toL=y.toL:=(congrArg ActD.toL e' :)
   have e3:x.group=y.group:=(congrArg ActD.group e' :)
   simp only [e1,e2,e3,h.members]
theorem SimC.kinds {c d:ChainD} (h:SimC c d) (i:Int):rtextV c i=rtextV d i∧pubV c i=pubV d i:=by
 have e:=h.at_ i.toNat
 rw [rtextV,rtextV,pubV,pubV]
 revert e
 cases c.actsL[i.toNat]? with
 | none =>
  cases d.actsL[i.toNat]? with
  | none=>exact fun _=>⟨rfl,rfl⟩
  | some y=>exact fun e=>by cases e
 | some x =>
  cases d.actsL[i.toNat]? with
  | none=>exact fun e=>by cases e
  | some y =>
   intro e
   have e':x.can=y.can:=Option.some.inj e
   have e1:x.scope=y.scope:=(congrArg ActD.scope e' :)
   have e2:x.kind=y.kind:=(congrArg ActD.kind e' :)
   simp only [e1,e2,and_self]
theorem SimC.may {c d:ChainD} (h:SimC c d) (i:Int) (r:ByteArray):mayV c i r=mayV d i r:=by
 rw [mayV,mayV,(h.kinds i).1,(h.kinds i).2,h.rmem,h.id]
theorem ul {l:List ActD} {i:Nat} {t:TieS} {x:ActD} {r:ByteArray} (hk:x.kind≠6) (h:r∈t.b):r∈(stepT l i t x).b:=by
 rw [stepT,Zc hk]
 cases decide (x.kind=7) with
 | true=>exact h
 | false =>
  cases decide (x.kind=8) with
  | true=>exact h
  | false =>
   cases decide (x.kind=9) with
   | true=>exact h
   | false =>
    cases decide (x.kind=10) with
    | true=>exact mem_sput.2 (.inr h)
    | false =>
     cases decide (x.kind=11) with
     | true=>exact h
     | false=>exact h
theorem rH {l:List ActD} {i:Nat} {t:TieS} {x:ActD} (hk:x.kind=10):x.target∈(stepT l i t x).b:=by
 rw [stepT,Zc (by rw [hk];decide),Zc (by rw [hk];decide),Zc (by rw [hk];decide),Zd hk]
 exact mem_sput.2 (.inl rfl)
theorem ko {l:List ActD} {n:Nat} {r:ByteArray} (hk:(l.getD n ActD.zero).kind=10) (ht:(l.getD n ActD.zero).target=r):∀ i,n<i→(∀ j,n<j→j<i→(l.getD j ActD.zero).kind≠6)→r∈(tieF l i).b
 | 0,h,_=>absurd h (Nat.not_lt_zero _)
 | i+1,h,hno=>by
  rw [tieF]
  rcases Nat.lt_succ_iff_lt_or_eq.1 h with h1|rfl
  · exact ul (hno i h1 (Nat.lt_succ_self _)) (ko hk ht i h1 fun j a b=>hno j a aa)
  · rw [←ht];exact rH hk
theorem td {d:ChainD} {i:Nat} {r:ByteArray} (hi:i<d.actsL.length) (hb:r∈(tieF d.actsL i).b) (hr:r≠d.id) (hm:mayV d i r=true):pubV d i=true:=by
 rw [mayV,Zp,Bool.or_eq_true,Bool.or_eq_true] at hm
 rcases hm.2 with (h|h)|h
 · exact absurd (seqB_iff.1 h) hr
 · exact h
 · exfalso
   have h1:=hasS_iff.1 h
   rw [rmemV,ZZ,Zb hi] at h1
   cases hw:wellV d i with
   | false=>rw [hw] at h1;cases h1
   | true =>
    rw [hw] at h1
    refine (sZ h1).2 (mem_sortB.2 ?_)
    rw [tieV,di (by omega)]
    exact hb
theorem sdel_sub {k:ByteArray}:∀ {ks:List ByteArray},(sdel ks k).Sublist ks
 | []=>al _
 | a::ks=>by
  rw [sdel]
  cases KeyT.eqb k a with
  | true=>exact List.sublist_cons_self _ _
  | false=>exact sdel_sub.cons_cons a
theorem dX {k:ByteArray} {ks:List ByteArray} (h:ks.Nodup):(sdel ks k).Nodup:=h.sublist sdel_sub
theorem iz {k x:ByteArray}:∀ {ks:List ByteArray},ks.Nodup→(x∈sdel ks k↔x≠k∧x∈ks)
 | [],_=>by simp [sdel]
 | a::ks,h=>by
  rw [List.nodup_cons] at h
  have ih:=iz (k:=k) (x:=x) h.2
  rw [sdel,eqbB]
  cases hk:seqB k a with
  | true =>
   obtain rfl:=seqB_iff.1 hk
   simp only [Zf,ZI]
   constructor
   · intro hx
     exact ⟨fun e=>h.1 (e▸hx),.inr hx⟩
   · rintro ⟨h1,h2|h2⟩
     · exact absurd h2 h1
     · exact h2
  | false =>
   have hne:=seqB_ne.1 hk
   simp only [Ze,ZI,ih]
   constructor
   · rintro (h1|⟨h1,h2⟩)
     · exact ⟨fun e=>hne (e▸h1),.inl h1⟩
     · exact ⟨h1,.inr h2⟩
   · rintro ⟨h1,h2|h2⟩
     · exact .inl h2
     · exact .inr ⟨h1,h2⟩
structure TNd (t:TieS):Prop where
 f:t.f.Nodup
 a:t.a.Nodup
 b:t.b.Nodup
 m:t.m.Nodup
structure MovOk (x y:List ByteArray) (id:ByteArray) (inn ch:Bool):Prop where
 asc:Asc y
 same:ch=false→x=y
 xin:ch=true→∀ z∈x,seqB z id=false→hasS y z=true
 yin:ch=true→∀ z∈y,seqB z id=false→hasS x z=true
 has:ch=true→hasS y id=inn
theorem bP {ks:List ByteArray} (h:ks.Nodup) (id:ByteArray) (inn:Bool):MovOk (sortB ks) (sortB ks) id inn false :=
 ⟨lf h,fun _=>rfl,fun e=>(by cases e),fun e=>(by cases e),fun e=>(by cases e)⟩
theorem mg {ks:List ByteArray} (h:ks.Nodup) (id:ByteArray):MovOk (sortB ks) (sortB (sput ks id)) id true true :=
 ⟨lf (eV h),fun e=>(by cases e),fun _ z hz _=>hasS_iff.2 (mem_sortB.2 (mem_sput.2 (.inr (mem_sortB.1 hz)))),
  fun _ z hz hn=>hasS_iff.2 (mem_sortB.2 ((mem_sput.1 (mem_sortB.1 hz)).resolve_left (seqB_ne.1 hn))),fun _=>hasS_iff.2 (mem_sortB.2 (mem_sput.2 (.inl rfl)))⟩
theorem gQ {ks:List ByteArray} (h:ks.Nodup) (id:ByteArray):MovOk (sortB ks) (sortB (sdel ks id)) id false true :=
 ⟨lf (dX h),fun e=>(by cases e),fun _ z hz hn=>hasS_iff.2 (mem_sortB.2 ((iz h).2 ⟨seqB_ne.1 hn,mem_sortB.1 hz⟩)),
  fun _ z hz hn=>hasS_iff.2 (mem_sortB.2 ((iz h).1 (mem_sortB.1 hz)).2),fun _=>by
   cases hh:hasS (sortB (sdel ks id)) id with
   | false=>rfl
   | true=>exact absurd rfl ((iz h).1 (mem_sortB.1 (hasS_iff.1 hh))).1⟩
def foB (k:Int) (u:Bool):Bool:=bif decide (k=7) then true else bif decide (k=10) then !u else false
def acB (k:Int) (u:Bool):Bool:=bif decide (k=8) then true else bif decide (k=9)&&!u then true else decide (k=10)&&!u
structure Mov4 (t t':TieS) (id:ByteArray) (k:Int) (u:Bool):Prop where
 f:MovOk (sortB t.f) (sortB t'.f) id (decide (k=7)&&!u) (foB k u)
 a:MovOk (sortB t.a) (sortB t'.a) id (decide (k=8)&&!u) (acB k u)
 b:MovOk (sortB t.b) (sortB t'.b) id (decide (k=10)&&!u) (decide (k=10))
 m:MovOk (sortB t.m) (sortB t'.m) id (decide (k=11)&&!u) (decide (k=11))
theorem sV {t:TieS} (h:TNd t) (id:ByteArray) {k:Int} (u:Bool) (h7:k≠7) (h8:k≠8) (h9:u=true∨k≠9) (h10:k≠10) (h11:k≠11):Mov4 t t id k u:=by
 have e1:foB k u=false:=by rw [foB,Zc h7,Zc h10];rfl
 have e2:acB k u=false:=by
  rw [acB,Zc h8,Zc h10]
  rcases h9 with rfl|h9
  · simp
  · rw [Zc h9];rfl
 refine ⟨?_,?_,?_,?_⟩
 · rw [e1];exact bP h.f _ _
 · rw [e2];exact bP h.a _ _
 · rw [Zc h10];exact bP h.b _ _
 · rw [Zc h11];exact bP h.m _ _
theorem wQ {t:TieS} (h:TNd t) (y:ActD):Mov4 t (undoT t y) y.target y.kind true∧TNd (undoT t y):=by
 by_cases h7:y.kind=7
 · have e:undoT t y={ t with f:=sdel t.f y.target }:=by rw [undoT,h7];rfl
   rw [e,h7]
   exact ⟨⟨gQ h.f _,bP h.a _ _,bP h.b _ _,bP h.m _ _⟩,⟨dX h.f,h.a,h.b,h.m⟩⟩
 by_cases h8:y.kind=8
 · have e:undoT t y={ t with a:=sdel t.a y.target }:=by rw [undoT,h8];rfl
   rw [e,h8]
   exact ⟨⟨bP h.f _ _,gQ h.a _,bP h.b _ _,bP h.m _ _⟩,⟨h.f,dX h.a,h.b,h.m⟩⟩
 by_cases h10:y.kind=10
 · have e:undoT t y={ t with b:=sdel t.b y.target }:=by rw [undoT,h10];rfl
   rw [e,h10]
   exact ⟨⟨bP h.f _ _,bP h.a _ _,gQ h.b _,bP h.m _ _⟩,⟨h.f,h.a,dX h.b,h.m⟩⟩
 by_cases h11:y.kind=11
 · have e:undoT t y={ t with m:=sdel t.m y.target }:=by rw [undoT,h11];rfl
   rw [e,h11]
   exact ⟨⟨bP h.f _ _,bP h.a _ _,bP h.b _ _,gQ h.m _⟩,⟨h.f,h.a,h.b,dX h.m⟩⟩
 have e:undoT t y=t:=by rw [undoT,Zc h7,Zc h8,Zc h10,Zc h11];rfl
 rw [e]
 exact ⟨sV h _ _ h7 h8 (.inl rfl) h10 h11,h⟩
theorem xO {l:List ActD} {i:Nat} {t:TieS} (h:TNd t) {x:ActD} (h6:x.kind≠6):Mov4 t (stepT l i t x) x.target x.kind false∧TNd (stepT l i t x):=by
 by_cases h7:x.kind=7
 · have e:stepT l i t x={ t with f:=sput t.f x.target }:=by rw [stepT,h7];rfl
   rw [e,h7]
   exact ⟨⟨mg h.f _,bP h.a _ _,bP h.b _ _,bP h.m _ _⟩,⟨eV h.f,h.a,h.b,h.m⟩⟩
 by_cases h8:x.kind=8
 · have e:stepT l i t x={ t with a:=sput t.a x.target }:=by rw [stepT,h8];rfl
   rw [e,h8]
   exact ⟨⟨bP h.f _ _,mg h.a _,bP h.b _ _,bP h.m _ _⟩,⟨h.f,eV h.a,h.b,h.m⟩⟩
 by_cases h9:x.kind=9
 · have e:stepT l i t x={ t with a:=sdel t.a x.target }:=by rw [stepT,h9];rfl
   rw [e,h9]
   exact ⟨⟨bP h.f _ _,gQ h.a _,bP h.b _ _,bP h.m _ _⟩,⟨h.f,dX h.a,h.b,h.m⟩⟩
 by_cases h10:x.kind=10
 · have e:stepT l i t x={ t with b:=sput t.b x.target,f:=sdel t.f x.target,a:=sdel t.a x.target }:=by rw [stepT,h10];rfl
   rw [e,h10]
   exact ⟨⟨gQ h.f _,gQ h.a _,mg h.b _,bP h.m _ _⟩,⟨dX h.f,dX h.a,eV h.b,h.m⟩⟩
 by_cases h11:x.kind=11
 · have e:stepT l i t x={ t with m:=sput t.m x.target }:=by rw [stepT,h11];rfl
   rw [e,h11]
   exact ⟨⟨bP h.f _ _,bP h.a _ _,bP h.b _ _,mg h.m _⟩,⟨h.f,h.a,h.b,eV h.m⟩⟩
 have e:stepT l i t x=t:=by rw [stepT,Zc h7,Zc h8,Zc h9,Zc h10,Zc h11,Zc h6];rfl
 rw [e]
 exact ⟨sV h _ _ h7 h8 (.inr h9) h10 h11,h⟩
theorem xM {l:List ActD} {i:Nat} {t:TieS} {x:ActD} (h6:x.kind=6):stepT l i t x=match idxV l x.object with|some j=>bif decide ((j:Int)<(i:Int)) then undoT t (l.getD j ActD.zero) else t|none=>t:=by
 rw [stepT,h6]
 rfl
theorem AX {l:List ActD} {i:Nat} {t:TieS} (h:TNd t) (x:ActD):TNd (stepT l i t x):=by
 by_cases h6:x.kind=6
 · rw [xM h6]
   cases idxV l x.object with
   | none=>exact h
   | some j =>
    show TNd (bif decide ((j:Int)<(i:Int)) then undoT t (l.getD j ActD.zero) else t)
    cases decide ((j:Int)<(i:Int)) with
    | true=>exact (wQ h _).2
    | false=>exact h
 · exact (xO h h6).2
theorem vA (l:List ActD):∀ n,TNd (tieF l n)
 | 0=>⟨List.nodup_nil,List.nodup_nil,List.nodup_nil,List.nodup_nil⟩
 | n+1=>AX (vA l n) _
structure MM (t t':TieS) (id:ByteArray) (f1 f2 a1 a2 b1 b2 m1 m2:Bool):Prop where
 f:MovOk (sortB t.f) (sortB t'.f) id f1 f2
 a:MovOk (sortB t.a) (sortB t'.a) id a1 a2
 b:MovOk (sortB t.b) (sortB t'.b) id b1 b2
 m:MovOk (sortB t.m) (sortB t'.m) id m1 m2
theorem kA (s r:SlV) (l m:List ByteArray):Pu Tryz.prog 17 #[s.v,r.v] (fun w=>Strs w s l∧Strs w r m) (.bool (eqL l m)):=by
 refine ak (args:=[_,_]) _ Tryz.func17 rfl Tryz.ntmps17 rfl fun av bor w0=>?_
 refine aM (p:=(s.n=l.length∧s.n≤maxLen∧(0<l.length→s.p.isSome=true))∧(r.n=m.length∧r.n≤maxLen∧(0<m.length→r.p.isSome=true))) (fun w h=>⟨⟨h.1.len_,ZY (RowsD.cap h.1) (RowsD.max h.1),h.1.some_⟩,⟨h.2.len_,ZY (RowsD.cap h.2) (RowsD.max h.2),h.2.some_⟩⟩) fun ⟨⟨hl,hm,hp⟩,⟨hl',hm',hp'⟩⟩=>?_
 simp only [maxLen] at hm hm'
 repeat' (first|refine gs ?_|(refine gp ?_ ?_<;>intro hx_ this)|fail)
 · apply ad;apply ag;rfl;rfl
   have:¬ l.length=m.length:=by
    have h1:¬ (s.n:Int)=(r.n:Int):=by simpa using hx_
    omega
   simp only [eqL,Zc this,Zj]
 have hlm:l.length=m.length:=by
  have h1:(s.n:Int)=(r.n:Int):=by simpa using hx_
  omega
 refine ar (ι:=Upto l.length (eqBad l m)) (fun i=>⟨[(0,s.v),(1,r.v),(5,.int .i64 i.k)],[],fun w=>Strs w s l∧Strs w r m⟩) (fun i=>l.length-i.k) (Upto.zero _ _) (aj (by repeat (first|exact trivial|refine ⟨rfl,?_⟩)) (al _) fun _ h=>h) fun i=>?_
 have hik:=i.hk
 repeat' (first|refine gs ?_|(refine gp ?_ ?_<;>intro hx_ this)|fail)
 · have hlt:i.k<l.length:=by omega
   have hlt':i.k<m.length:=by omega
   have hp1:=hp aa
   have hp2:=hp' aa
   (refine bo ⟨[0,1,2,3,4,5,6,7,8],[]⟩ (h:=?_))
   all_goals repeat' (first|refine gd ?_|refine ay (hy:=by first|(apply aC (q:=i.k);rfl;rfl;omega;omega;assumption;omega)|(apply dR;rfl;exact fun w h=>Strs.get h.1 hlt)|(apply dR;rfl;exact fun w h=>Strs.get h.2 hlt')) ?_|refine az ?_ (h':=?_)|exact aA|(refine gq ?_ ?_<;>intro hx_ this)|fail)
   repeat' (first|refine gs ?_|(refine gp ?_ ?_<;>intro hx_ this)|fail)
   · apply ad;apply ag;rfl;rfl
     rw [eqL,cM hlt (by assumption),Zk]
   · exact ⟨i.next hlt (by assumption),(by show l.length-(i.k+1)<l.length-i.k;omega),aj (by repeat (first|exact trivial|refine ⟨rfl,?_⟩)) (al _) fun _ h=>h⟩
 · apply ad;apply ag;rfl;rfl
   rw [eqL,i.all aa,Zd hlm]
   rfl
theorem oa (c:ChainD) (hc:ActsOk c.actsL) (hcl:c.actsL.length≤1000000) (hto:∀ x∈c.actsL,x.to.n≤1000000) (n sc:Int) (g:ByteArray) (st:SlV) (toL:List ByteArray) (htl:toL.length≤1000000) :
  Pu Tryz.prog 32 #[c.v,.int .i64 n,.int .i64 sc,.string g,st.v] (fun w=>XC c w∧Strs w st toL) (.bool (freshV c n sc g toL)):=by
 refine ak (args:=[_,_,_,_,_]) _ Tryz.func32 rfl Tryz.ntmps32 rfl fun av bor w0=>?_
 have hF:freshV c n sc g toL=(!((epochO c.actsL n sc g).isSome)||!(eqL (((epochO c.actsL n sc g).map (·.toL)).getD []) (membersV c n sc g toL))):=rfl
 have hep:=gC c hc n sc g
 have hme:=ez c hc hcl hto n sc g st toL htl
 generalize epochO c.actsL n sc g=o at *
 generalize membersV c n sc g toL=M at *
 repeat' (first|refine gs ?_|refine gs1 fun _=>?_|fail)
 refine bS (hc:=hep) (hX:=fun w h=>h.1) fun v1 X1 h1=>?_
 obtain ⟨s1,rfl,hs1⟩:=h1
 repeat' (first|refine gs ?_|refine gs1 fun _=>?_|(refine gp ?_ ?_<;>intro hx_ this)|fail)
 · apply ad;apply ag;rfl;rfl
   rw [hF]
   simp only [*,Zt,Zr,Zf,Ze,Zh,Zg,Zk,Zj,Zn,Zl,Zs,Zm,Zq,Zi]
 · refine bS (hc:=hme) (hX:=fun w h=>h.1) fun v2 X2 h2=>?_
   obtain ⟨s2,rfl,hs2⟩:=h2
   repeat' (first|(refine ab (hc:=pN s1 s2 _ _) (hX:=fun w h=>⟨hs1 w h.1.2,hs2 w h.2⟩) ?_)|refine gs ?_|refine gs1 fun _=>?_|(refine gp ?_ ?_<;>intro hx_ this)|fail)
   apply ad;apply ag;rfl;rfl
   rw [hF]
   simp only [*,Zt,Zr,Zf,Ze,Zh,Zg,Zk,Zj,Zn,Zl,Zs,Zm,Zq,Zi]
theorem A9 (c:ChainD):Pu Tryz.prog 28 #[c.v] (XC c) (.bool (shortV c)):=by
  refine ak (args:=[_]) _ Tryz.func28 rfl Tryz.ntmps28 rfl fun av bor w0=>?_
  refine aM XC.know fun ⟨hl,hm,hp,hcap⟩=>?_
  simp only [maxLen] at hm
  repeat' (first|refine gs ?_|refine gs1 fun _=>?_|fail)
  rename_i b1
  repeat' (first|refine gs ?_|refine gs1 fun _=>?_|(refine gp ?_ ?_<;>intro hx_ this)|fail)
  · apply ad;apply ag;rfl;rfl
    rw [shortV,Zc aa,Zj]
  refine ar (ι:=Upto c.actsL.length (shortBad c.actsL)) (fun i=>⟨[(1,.pointer (some ⟨b1,0,none⟩)),(3,.int .i64 i.k)],[cel b1 35 c.cells],XC c⟩) (fun i=>c.actsL.length-i.k) (Upto.zero _ _) (aj (by repeat (first|exact trivial|refine ⟨rfl,?_⟩)) (al _) fun _ h=>h) fun i=>?_
  have hik:=i.hk
  repeat' (first|refine gs ?_|refine gs1 fun _=>?_|(refine gp ?_ ?_<;>intro hx_ this)|fail)
  · have hlt:i.k<c.actsL.length:=by omega
    have hp':=hp aa
    obtain ⟨x,hx⟩:∃ x,c.actsL[i.k]?=some x:=⟨_,Zb hlt⟩
    have hB:shortBad c.actsL i.k=(decide (8<x.to.n)||decide (8<x.wraps.n)||decide (600<x.text.size)||decide (600<x.body.data.size)):=by simp only [shortBad,Zo,hx,Qe]
    repeat' (first|refine gs ?_|refine gs1 fun _=>?_|(refine aO (q:=i.k*20) ?_)|(refine ca (cs:=x.cells) (hF:=fun w h=>Acts.get h.1 hx) ?_)|(refine gp ?_ ?_<;>intro hx_ this)|fail)
    all_goals first
      | (apply ad;apply ag;rfl;rfl
         have hb:shortBad c.actsL i.k=true:=by
           rw [hB];simp only [Bool.or_eq_true,Zw];simp only [Zw,Qd] at *;omega
         rw [shortV,cM hlt hb,Zk])
      | (have hb:shortBad c.actsL i.k=false:=by
           rw [hB];simp only [Ql,Qd];simp only [Zw,Qd] at *;omega
         exact ⟨i.next hlt hb,(by show c.actsL.length-(i.k+1)<c.actsL.length-i.k;omega),aj (by repeat (first|exact trivial|refine ⟨rfl,?_⟩)) (Z2 _ (al _)) fun _ h=>h⟩)
  · apply ad;apply ag;rfl;rfl
    rw [shortV,i.all aa,Zd (by omega)]
    rfl
def chainA:ChainD:={ ChainD.zero with id:=idA }
theorem fH (w:World) (h:Glob w):XC chainA w:=⟨⟨aY w 20,fun _ ha=>(by cases ha)⟩,h⟩
theorem gE:ActsOk chainA.actsL:=⟨fun _ ha=>(by cases ha),fun _ ha=>(by cases ha)⟩
theorem qY:epochO chainA.actsL 0 1 ⟨#[]⟩=none:=by rfl
theorem qX:grantV chainA.actsL 0 1 ⟨#[]⟩=(0,0):=by rfl
theorem DE:membersV chainA 0 3 ⟨#[]⟩ [idB]=[idB]:=by decide +kernel
theorem DD:membersV chainA 0 3 ⟨#[]⟩ [idA]=[]:=by decide +kernel
theorem rN:Pu Tryz.prog 26 #[] Glob (.bool true):=by
 refine ak (args:=[]) _ Tryz.func26 rfl Tryz.ntmps26 rfl fun av bor w0=>?_
 repeat' (first|refine gs ?_|refine gs1 fun _=>?_|(refine aF ?_)|(refine gp ?_ ?_<;>intro hx_ this)|fail)
 refine bS (hc:=gC chainA gE 0 1 ⟨#[]⟩) (hX:=fun w h=>fH w h) fun v1 X1 h1=>?_
 rw [qY] at h1
 obtain ⟨s1,rfl,hs1⟩:∃ s:SlV,v1=.tuple #[.int .i64 0,s.v,.bool false]∧∀ w,X1 w→Strs w s []:=h1
 refine jG (p:=s1.n=0) (fun w h=>RowsD.len (hs1 w h.2)) fun hn1=>?_
 repeat' (first|refine gs ?_|refine gs1 fun _=>?_|(refine gp ?_ ?_<;>intro hx_ this)|fail)
 have hgr:Pu Tryz.prog 31 #[chainA.v,.int .i64 0,.int .i64 1,.string ⟨#[]⟩] (XC chainA) (.tuple #[.int .i64 0,.bool false]):=by
  have:=lc chainA 0 1 ⟨#[]⟩
  rw [qX] at this
  exact this
 refine ab (hc:=hgr) (hX:=fun w h=>fH w h.1) ?_
 repeat' (first|refine gs ?_|refine gs1 fun _=>?_|(refine cR (len:=1) (vs:=[encB idB]) fun b3=>?_)|(refine gp ?_ ?_<;>intro hx_ this)|fail)
 rename_i b2 b3
 refine bL ?_
 refine bS (hc:=ez chainA gE (by decide) (fun _ ha=>(Qk ha).elim) 0 3 ⟨#[]⟩ ⟨some ⟨b3,0,none⟩,1,1⟩ [idB] (by decide)) (hX:=fun w h=>⟨fH w h.1.1,fR (l:=[idB]) h.2 (by decide)⟩) fun v2 X2 h2=>?_
 rw [DE] at h2
 obtain ⟨s2,rfl,hs2⟩:=h2
 repeat' (first|refine gs ?_|refine gs1 fun _=>?_|(refine cR (len:=1) (vs:=[encB idA]) fun b3=>?_)|(refine gp ?_ ?_<;>intro hx_ this)|fail)
 rename_i b4
 refine bL ?_
 refine bS (hc:=ez chainA gE (by decide) (fun _ ha=>(Qk ha).elim) 0 3 ⟨#[]⟩ ⟨some ⟨b4,0,none⟩,1,1⟩ [idA] (by decide)) (hX:=fun w h=>⟨fH w h.1.1.1.1,fR (l:=[idA]) h.2 (by decide)⟩) fun v3 X3 h3=>?_
 rw [DD] at h3
 obtain ⟨s3,rfl,hs3⟩:=h3
 refine jG (p:=s3.n=0) (fun w h=>RowsD.len (hs3 w h.2)) fun hn3=>?_
 have hfr:=oa chainA gE (by decide) (fun _ ha=>(Qk ha).elim) 0 1 ⟨#[]⟩ ⟨none,0,0⟩ [] (by decide)
 rw [show freshV chainA 0 1 ⟨#[]⟩ []=true from by rfl] at hfr
 have hwe:=vw chainA gE (by decide) (fun _ ha=>(Qk ha).elim) 0
 rw [show wellV chainA 0=false from by rfl] at hwe
 repeat' (first|refine aP ?_|(refine ab (hc:=hfr) (hX:=fun w h=>⟨fH w h.1.1.1.1.1,aY w 1⟩) ?_)|refine gs ?_|refine gs1 fun _=>?_|(refine cR (len:=1) (vs:=[encB idB]) fun b3=>?_)|(refine gp ?_ ?_<;>intro hx_ this)|fail)
 · rename_i b5
   refine bL ?_
   have hsa:∀ r:SlV,Pu Tryz.prog 17 #[s2.v,r.v] (fun w=>Strs w s2 [idB]∧Strs w r [idB]) (.bool true):=fun r=>by
    have:=kA s2 r [idB] [idB]
    rw [show eqL [idB] [idB]=true from by decide +kernel] at this
    exact this
   refine ab (hc:=hsa ⟨some ⟨b5,0,none⟩,1,1⟩) (hX:=fun w h=>⟨hs2 w h.1.1.1.2,fR (l:=[idB]) h.2 (by decide)⟩) ?_
   repeat' (first|(refine ab (hc:=hwe) (hX:=fun w h=>fH w h.1.1.1.1.1.1) ?_)|refine gs ?_|refine gs1 fun _=>?_|(refine gp ?_ ?_<;>intro hx_ this)|fail)
   · apply ad;apply ag;rfl;rfl
     rfl
   · exact absurd hn3 aa
 · exact absurd hn1 aa
theorem Ce {a:ActD} {sc:Int} {g:ByteArray} {nx:Nat} (h:gOk a sc g nx=true):a.kind=16∧a.scope=sc∧seqB a.group g=true∧a.epoch=(nx:Int):=by
 simp only [gOk,Zp,Zw] at h
 exact ⟨h.1.1.1,h.1.1.2,h.1.2,h.2⟩
theorem lK (l:List ActD) (sc:Int) (g:ByteArray):∀ k,k≤l.length→((grantF l sc g k).2=0→(grantF l sc g k).1=0)∧(0<(grantF l sc g k).2→∃ x,l[(grantF l sc g k).1]?=some x∧x.kind=16∧x.scope=sc∧seqB x.group g=true∧x.epoch=((grantF l sc g k).2:Int)-1)
 | 0,_=>⟨fun _=>rfl,fun h=>absurd h (Nat.lt_irrefl _)⟩
 | k+1,hk=>by
  have ih:=lK l sc g k aa
  simp only [grantF]
  cases hb:gOk (l.getD k ActD.zero) sc g (grantF l sc g k).2 with
  | true =>
   have hg:=Ce hb
   have hx:l[k]?=some (l.getD k ActD.zero):=by rw [Zo,Zb (by omega)];rfl
   refine ⟨fun h=>by simp at h,fun _=>⟨l.getD k ActD.zero,hx,hg.1,hg.2.1,hg.2.2.1,?_⟩⟩
   rw [hg.2.2.2]
   simp only [Zf]
   omega
  | false=>exact ih
theorem EY (a:ActD):a.can.can=a.can:=CC a rfl rfl
def nuC (id:ByteArray) (l:List ActD):ChainD:={ ChainD.zero with id:=id,actsL:=l }
theorem A7 (c:ChainD) {l:List ActD} (h:c.actsL.map ActD.can=l):SimC c (nuC c.id l):=⟨rfl,by
 show _=l.map ActD.can
 rw [←h,Z0]
 exact Qz fun a _=>(EY a).symm⟩
theorem g7 (l:List ActD) (a:ActD):Agree l.length l (l++[a]):=⟨fun k hk=>(ZG hk).symm,ZX _,by rw [ZA];omega⟩
theorem iY (l:List ActD) (a:ActD):(l++[a]).getD l.length ActD.zero=a:=by
 rw [Zo,ZV (ZX _),Nat.sub_self];rfl
theorem j4 (l:List ActD) (a:ActD):(l++[a]).length=l.length+1:=by rw [ZA];rfl
theorem rz (l:List ActD) (a:ActD):tieV (l++[a]) ((l.length+1:Nat):Int)=stepT (l++[a]) l.length (tieV l (l.length:Nat)) a:=by
 rw [tieV,tieV,di (by rw [j4];omega),di (ZX _),tieF,iY,ji (g7 l a) _ (ZX _)]
theorem xN {l:List ActD} {i:Nat} {t:TieS} {x:ActD} (h6:x.kind≠6) (h7:x.kind≠7) (h8:x.kind≠8) (h9:x.kind≠9) (h10:x.kind≠10) (h11:x.kind≠11):stepT l i t x=t:=by
 rw [stepT,Zc h6,Zc h7,Zc h8,Zc h9,Zc h10,Zc h11]
 rfl
theorem zc (l:List ActD) (a:ActD) (g:ByteArray) (h:a.kind≠15):circF (l++[a]) g (l.length+1)=circF l g l.length:=by
 rw [circF,iY,Zc h,Zj,Ze,iJ (g7 l a) g _ (ZX _)]
theorem tL (l:List ActD) (a:ActD) (g:ByteArray) (h:a.kind≠15):circF (l++[a]) g (limN ((l.length+1:Nat):Int) (l++[a]).length)=circF l g (limN (l.length:Nat) l.length):=by
 rw [di (by rw [j4];omega),di (ZX _),zc l a g h]
theorem lE {c:ChainD} {n sc:Int} {g:ByteArray} {toL:List ByteArray} {y:ByteArray}:y∈membersV c n sc g toL↔y∈listOf c n sc g toL∧y≠c.id∧y∉(tieV c.actsL n).b:=by
 rw [membersV,g9,QM,keepM,Zp,Bool.not_eq_true',Bool.not_eq_true',seqB_ne,hasS_false,mem_sortB]
section
variable {id:ByteArray} {l:List ActD} {a:ActD} {sc:Int} {g:ByteArray} {toL:List ByteArray}
theorem qK (h6:a.kind≠6) (h7:a.kind≠7) (h8:a.kind≠8) (h9:a.kind≠9) (h10:a.kind≠10) (h11:a.kind≠11) (h15:a.kind≠15) :
  membersV (nuC id (l++[a])) ((l.length+1:Nat):Int) sc g toL=membersV (nuC id l) (l.length:Nat) sc g toL:=by
 have e1:tieV (nuC id (l++[a])).actsL ((l.length+1:Nat):Int)=tieV (nuC id l).actsL (l.length:Nat):=by
  show tieV (l++[a]) _=tieV l _
  rw [rz,xN h6 h7 h8 h9 h10 h11]
 have e2:circF (nuC id (l++[a])).actsL g (limN ((l.length+1:Nat):Int) (nuC id (l++[a])).actsL.length)=circF (nuC id l).actsL g (limN (l.length:Nat) (nuC id l).actsL.length):=tL l a g h15
 have e3:keepM (nuC id (l++[a]))=keepM (nuC id l):=rfl
 simp only [membersV,listOf,e1,e2,e3]
theorem oQ (h:a.kind=10) (y:ByteArray):y∈membersV (nuC id (l++[a])) ((l.length+1:Nat):Int) sc g toL↔y∈membersV (nuC id l) (l.length:Nat) sc g toL∧y≠a.target:=by
 have hnd:TNd (tieV l (l.length:Nat)):=vA l _
 have ht:tieV (l++[a]) ((l.length+1:Nat):Int)=⟨sdel (tieV l (l.length:Nat)).f a.target,sdel (tieV l (l.length:Nat)).a a.target,sput (tieV l (l.length:Nat)).b a.target,(tieV l (l.length:Nat)).m⟩:=by
  rw [rz,stepT,h]
  rfl
 have hl:y∈listOf (nuC id (l++[a])) ((l.length+1:Nat):Int) sc g toL∧y≠a.target↔y∈listOf (nuC id l) (l.length:Nat) sc g toL∧y≠a.target:=by
  rw [listOf,listOf]
  change (y∈(bif decide (sc=1) then sortB (tieV (l++[a]) ((l.length+1:Nat):Int)).a else bif decide (sc=2) then ((circF (l++[a]) g (limN ((l.length+1:Nat):Int) (l++[a]).length)).map (·.toL)).getD [] else bif decide (sc=3) then toL else [])∧_) ↔
   (y∈(bif decide (sc=1) then sortB (tieV l (l.length:Nat)).a else bif decide (sc=2) then ((circF l g (limN (l.length:Nat) l.length)).map (·.toL)).getD [] else bif decide (sc=3) then toL else [])∧_)
  rw [tL l a g (by rw [h];decide),ht]
  cases decide (sc=1) with
  | false=>exact Iff.rfl
  | true =>
   simp only [Zf]
   rw [mem_sortB,mem_sortB,iz hnd.a]
   exact ⟨fun h=>⟨h.1.2,h.2⟩,fun h=>⟨⟨h.2,h.1⟩,h.2⟩⟩
 rw [lE,lE]
 show _∧y≠id∧y∉(tieV (l++[a]) ((l.length+1:Nat):Int)).b↔(_∧y≠id∧y∉(tieV l (l.length:Nat)).b)∧_
 rw [ht]
 simp only [mem_sput,not_or]
 constructor
 · rintro ⟨h1,h2,h3,h4⟩
   exact ⟨⟨(hl.1 ⟨h1,h3⟩).1,h2,h4⟩,h3⟩
 · rintro ⟨⟨h1,h2,h3⟩,h4⟩
   exact ⟨(hl.2 ⟨h1,h4⟩).1,h2,h4,h3⟩
theorem iX (l:List ActD) (sc:Int) (g:ByteArray):grantV l (l.length:Nat) sc g=grantF l sc g l.length:=by rw [grantV,di (ZX _)]
theorem lJ (l:List ActD) (a:ActD) (sc:Int) (g:ByteArray):grantV (l++[a]) ((l.length+1:Nat):Int) sc g=bif gOk a sc g (grantV l (l.length:Nat) sc g).2 then (l.length,(grantV l (l.length:Nat) sc g).2+1) else grantV l (l.length:Nat) sc g:=by
 rw [iX,grantV,di (by rw [j4];omega),grantF,iY,←gY (g7 l a) sc g _ (ZX _)]
theorem nM (l:List ActD) (sc:Int) (g:ByteArray):((epochO l (l.length:Nat) sc g).map (·.epoch+1)).getD 0=(((grantV l (l.length:Nat) sc g).2:Nat):Int):=by
 have h:=lK l sc g l.length (ZX _)
 rw [epochO,iX]
 generalize grantF l sc g l.length=gv at *
 obtain ⟨k,nx⟩:=gv
 simp only at h ⊢
 by_cases h0:0<nx
 · obtain ⟨x,hx,-,-,-,he⟩:=h.2 h0
   rw [Zd aa,Zf,hx]
   show x.epoch+1=_
   omega
 · rw [Zc aa,Ze]
   show (0:Int)=_
   omega
theorem yM (ha:a.kind=16) (hs:a.scope=sc) (hg:a.group=g) (he:a.epoch=((epochO l (l.length:Nat) sc g).map (·.epoch+1)).getD 0) :
  grantV (l++[a]) ((l.length+1:Nat):Int) sc g=(l.length,(grantV l (l.length:Nat) sc g).2+1)∧epochO (l++[a]) ((l.length+1:Nat):Int) sc g=some a:=by
 have h1:grantV (l++[a]) ((l.length+1:Nat):Int) sc g=(l.length,(grantV l (l.length:Nat) sc g).2+1):=by
  rw [lJ,gOk,Zd ha,Zd hs,hg,cW,he,nM,Zd rfl]
  rfl
 refine ⟨h1,?_⟩
 rw [epochO,h1,Zd aa,Zf,ZV (ZX _),Nat.sub_self]
 rfl
theorem uX (ha:a.kind≠16):grantV (l++[a]) ((l.length+1:Nat):Int) sc g=grantV l (l.length:Nat) sc g∧epochO (l++[a]) ((l.length+1:Nat):Int) sc g=epochO l (l.length:Nat) sc g:=by
 have h1:grantV (l++[a]) ((l.length+1:Nat):Int) sc g=grantV l (l.length:Nat) sc g:=by
  rw [lJ,gOk,Zc ha]
  rfl
 refine ⟨h1,?_⟩
 have hle:=fG l sc g l.length
 rw [epochO,epochO,h1]
 by_cases h0:0<(grantV l (l.length:Nat) sc g).2
 · rw [Zd aa,Zf,Zf]
   refine ZG ?_
   rw [iX] at h0 ⊢
   exact hle.2 h0
 · rw [Zc aa,Ze,Ze]
end
theorem BW {l m:List ByteArray} (hl:Asc l) (hm:Asc m) {x:ByteArray} (hx:x∈l) (h:∀ y,y∈m↔y∈l∧y≠x):m.length+1=l.length:=by
 have hp:(x::m).Perm l:=by
  refine (List.perm_ext_iff_of_nodup (List.nodup_cons.2 ⟨fun hh=>((h x).1 hh).2 rfl,hm.nodup⟩) hl.nodup).2 fun y=>?_
  rw [ZI,h y]
  constructor
  · rintro (rfl|h)
    · exact hx
    · exact h.1
  · intro hy
    by_cases e:y=x
    · exact .inl e
    · exact .inr ⟨hy,e⟩
 have:=hp.length_eq
 rwa [ZB] at this
theorem allBk {n:Nat} {bad:Nat→Bool} (h:allB n bad=true) {k:Nat} (hk:k<n):bad k=false:=by
 simp only [allB,List.all_eq_true,List.mem_range] at h
 simpa using h k hk
theorem Gz {l m:List ByteArray} (h:eqL l m=true):l=m:=by
 rw [eqL,Zp,Zw] at h
 refine List.ext_getElem h.1 fun i h1 h2=>?_
 have h3:=allBk h.2 h1
 rw [eqBad,Bool.not_eq_false',Zo,Zo,Zb h1,Zb h2] at h3
 exact seqB_iff.1 h3
theorem yU {l m:List ByteArray} {x:ByteArray} (h1:x∈l) (h2:x∉m):eqL l m=false:=by
 cases h:eqL l m with
 | false=>rfl
 | true=>rw [Gz h] at h1;exact absurd h1 h2
structure More (c d:ChainD) (a:ActD):Prop where
 id:d.id=c.id
 acts:d.actsL.map ActD.can=c.actsL.map ActD.can++[a.can]
theorem More.len {c d:ChainD} {a:ActD} (h:More c d a):d.actsL.length=c.actsL.length+1:=by
 have:=congrArg List.length h.acts
 rwa [ZF,j4,ZF] at this
section
variable {c d:ChainD} {a:ActD} {sc:Int} {g:ByteArray} {toL:List ByteArray}
theorem More.sims (h:More c d a):SimC c (nuC c.id (c.actsL.map ActD.can))∧SimC d (nuC c.id (c.actsL.map ActD.can++[a.can])):=⟨A7 c rfl,by rw [←h.id];exact A7 d h.acts⟩
theorem lenC (c:ChainD):((c.actsL.map ActD.can).length:Nat)=c.actsL.length:=ZF ..
theorem oK (h:More c d a) (h6:a.kind≠6) (h7:a.kind≠7) (h8:a.kind≠8) (h9:a.kind≠9) (h10:a.kind≠10) (h11:a.kind≠11) (h15:a.kind≠15) :
  membersV d (d.actsL.length:Nat) sc g toL=membersV c (c.actsL.length:Nat) sc g toL:=by
 obtain ⟨s1,s2⟩:=h.sims
 rw [s2.members,s1.members,h.len]
 have:=qK (id:=c.id) (l:=c.actsL.map ActD.can) (a:=a.can) (sc:=sc) (g:=g) (toL:=toL) h6 h7 h8 h9 h10 h11 h15
 rwa [lenC] at this
theorem lr (h:More c d a) (ka:a.kind=16) (hs:a.scope=sc) (hg:a.group=g) (he:a.epoch=((epochO c.actsL (c.actsL.length:Nat) sc g).map (·.epoch+1)).getD 0) :
  grantV d.actsL (d.actsL.length:Nat) sc g=(c.actsL.length,(grantV c.actsL (c.actsL.length:Nat) sc g).2+1)∧(epochO d.actsL (d.actsL.length:Nat) sc g).map ActD.can=some a.can:=by
 have h1:=yM (l:=c.actsL.map ActD.can) (a:=a.can) (sc:=sc) (g:=g) ka hs hg (by
  rw [lenC,eW,Option.map_map]
  exact he)
 rw [lenC,←h.len,←h.acts] at h1
 have h2:∀ (x:List ActD) (n:Int),grantV (x.map ActD.can) n sc g=grantV x n sc g:=fun x n=>by rw [grantV,grantV,gX,ZF]
 rw [h2,h2,eW] at h1
 exact h1
theorem ls (h:More c d a) (ka:a.kind=10) :
  (grantV d.actsL (d.actsL.length:Nat) sc g=grantV c.actsL (c.actsL.length:Nat) sc g∧(epochO d.actsL (d.actsL.length:Nat) sc g).map ActD.can=(epochO c.actsL (c.actsL.length:Nat) sc g).map ActD.can) ∧
  ∀ y,y∈membersV d (d.actsL.length:Nat) sc g toL↔y∈membersV c (c.actsL.length:Nat) sc g toL∧y≠a.target:=by
 have h1:=uX (l:=c.actsL.map ActD.can) (a:=a.can) (sc:=sc) (g:=g) (by show a.kind≠16;rw [ka];decide)
 rw [lenC,←h.len,←h.acts] at h1
 have h2:∀ (x:List ActD) (n:Int),grantV (x.map ActD.can) n sc g=grantV x n sc g:=fun x n=>by rw [grantV,grantV,gX,ZF]
 rw [h2,h2,eW,eW] at h1
 refine ⟨h1,fun y=>?_⟩
 obtain ⟨s1,s2⟩:=h.sims
 rw [s2.members,s1.members,h.len]
 have:=oQ (id:=c.id) (l:=c.actsL.map ActD.can) (a:=a.can) (sc:=sc) (g:=g) (toL:=toL) ka y
 rwa [lenC] at this
end
theorem BU {c d:ChainD} {b:ActD} (h:More c d b) {i:Nat} (hi:i<c.actsL.length) (r:ByteArray):mayV d i r=mayV c i r:=by
 obtain ⟨s1,s2⟩:=h.sims
 have hA:Agree (i+1) (nuC c.id (c.actsL.map ActD.can++[b.can])).actsL (nuC c.id (c.actsL.map ActD.can)).actsL:=((g7 (c.actsL.map ActD.can) b.can).mono (by rw [ZF];omega)).symm
 rw [s2.may,s1.may]
 exact nQ hA rfl r
structure Tail (d e:ChainD) (M:List ActD):Prop where
 id:e.id=d.id
 acts:e.actsL=d.actsL++M
 und:∀ a∈M,a.kind≠6
theorem BT {d e:ChainD} {M:List ActD} (h:Tail d e M) {i:Nat} (hi:i<d.actsL.length) (r:ByteArray):mayV e i r=mayV d i r:=by
 refine nQ ⟨fun k hk=>?_,?_,by omega⟩ h.id r
 · rw [h.acts,ZG (by omega)]
 · rw [h.acts,ZA];omega
theorem yn {c d e:ChainD} {b:ActD} {M:List ActD} {r:ByteArray} (h:More c d b) (hk:b.kind=10) (ht:b.target=r) (hr:r≠c.id) (t:Tail d e M) (i:Nat) :
  (i<c.actsL.length→mayV e i r=mayV c i r)∧(c.actsL.length<i→i<e.actsL.length→mayV e i r=true→pubV e i=true):=by
 have hl:=h.len
 refine ⟨fun hi=>(BT t aa r).trans (BU h hi r),fun hi hie hm=>?_⟩
 have hcan:(d.actsL.map ActD.can).getD c.actsL.length ActD.zero=b.can:=by
  rw [h.acts]
  have:=iY (c.actsL.map ActD.can) b.can
  rwa [ZF] at this
 rw [iD] at hcan
 have hg:e.actsL.getD c.actsL.length ActD.zero=d.actsL.getD c.actsL.length ActD.zero:=by
  rw [t.acts,Zo,Zo,ZG (by omega)]
 have e1:(e.actsL.getD c.actsL.length ActD.zero).kind=10:=by rw [hg];exact ((congrArg ActD.kind hcan :)).trans hk
 have e2:(e.actsL.getD c.actsL.length ActD.zero).target=r:=by rw [hg];exact ((congrArg ActD.target hcan :)).trans ht
 refine td hie (ko e1 e2 i hi fun j h1 h2=>?_) (by rw [t.id,h.id];exact hr) hm
 have hj:e.actsL.getD j ActD.zero∈M:=by
  rw [t.acts,Zo,ZV aa,Zb (by rw [t.acts,ZA] at hie;omega)]
  exact ZQ _
 exact t.und _ hj
theorem rV (c:ChainD) (i:Int):Pu Tryz.prog 80 #[c.v,.int .i64 i] (XC c) (.bool (rtextV c i)):=by
  refine ak (args:=[_,_]) _ Tryz.func80 rfl Tryz.ntmps80 rfl fun av bor w0=>?_
  refine aM XC.know fun ⟨hl,hm,hp,hcap⟩=>?_
  simp only [maxLen] at hm
  by_cases hi:0≤i∧i<c.actsL.length
  · obtain ⟨hi0,hi1⟩:=hi
    have hlt:i.toNat<c.actsL.length:=by omega
    have hp':=hp aa
    obtain ⟨x,hx⟩:∃ x,c.actsL[i.toNat]?=some x:=⟨_,Zb hlt⟩
    have hT:rtextV c i=(postK x.kind||decide (x.kind=14)):=by
      rw [rtextV,Zd aa,Zg,hx]
    repeat' (first|refine ab (hc:=jn x.kind) ?_|refine gs ?_|refine gs1 fun _=>?_|(refine aO (q:=i.toNat * 20) ?_)|(refine fQ ?_)|(refine cU (q:=i.toNat * 20+3) (u:=.int .i64 x.kind) (hF:=fun w h=>(Acts.get h.1 hx).2.2 3 _ rfl) ?_)|(refine gp ?_ ?_<;>intro hx_ this)|fail)
    all_goals first
      | (exfalso;omega)
      | (apply ad;apply ag;rfl;rfl
         simp only [hT, *,Zt,Zr,Zf,Ze,Zh,Zg,Zk,Zj,Zn,Zl,Zs,Zm,Zq,Zi])
  · have hT:rtextV c i=false:=by
      rw [rtextV]
      by_cases h0:0≤i
      · rw [List.getElem?_eq_none aa,Zk]
      · rw [Zc h0,Zj]
    repeat' (first|refine gs ?_|refine gs1 fun _=>?_|(refine gp ?_ ?_<;>intro hx_ this)|fail)
    all_goals first
      | (exfalso;omega)
      | (apply ad;apply ag;rfl;rfl
         simp only [hT, *,Zt,Zr,Zf,Ze,Zh,Zg,Zk,Zj,Zn,Zl,Zs,Zm,Zq,Zi])
theorem ny {c:ChainD} {i:Int} (h:rtextV c i=true):∃ q x,i=(q:Nat)∧c.actsL[q]?=some x:=by
 simp only [rtextV,Zp,Zw] at h
 obtain ⟨q,rfl⟩:=Int.eq_ofNat_of_zero_le h.1
 have h2:=h.2
 rw [ZZ] at h2
 cases hx:c.actsL[q]? with
 | none=>rw [hx] at h2;cases h2
 | some x=>exact ⟨q,x,rfl,hx⟩
theorem zb (l:List ByteArray):(compB l).length≤l.length:=by
 have:=Lib.compact_length_le (l.map bl)
 simpa [compB] using this
theorem lD {c:ChainD} (hc:ActsOk c.actsL) (hcl:c.actsL.length≤1000000) (hto:∀ x∈c.actsL,x.to.n≤1000000) (n sc:Int) (g:ByteArray) {toL:List ByteArray} (htl:toL.length≤1000000):(membersV c n sc g toL).length≤1000000:=by
 have h1:=zb (sortB ((listOf c n sc g toL).filter (keepM c (sortB (tieV c.actsL n).b))))
 rw [iT] at h1
 have h2:=Qa (keepM c (sortB (tieV c.actsL n).b)) (listOf c n sc g toL)
 have h3:(listOf c n sc g toL).length≤1000000:=by
  unfold listOf
  cases decide (sc=1) with
  | true=>simp only [Zf];rw [iT];have:=(mC hc n).a.len;omega
  | false =>
   simp only [Ze]
   cases decide (sc=2) with
   | true =>
    simp only [Zf]
    cases ho:circF c.actsL g (limN n c.actsL.length) with
    | none=>simp
    | some x =>
     have hx:=k9 (by rw [gR];omega) ho
     have h4:=(hc.rng x hx).to_len
     have h5:=hto x hx
     show x.toL.length≤_
     omega
   | false =>
    simp only [Ze]
    cases decide (sc=3) with
    | true=>exact htl
    | false=>simp
 show (compB _).length≤_
 omega
theorem Bl {c:ChainD} (hc:ActsOk c.actsL) (hcl:c.actsL.length≤1000000) (hto:∀ x∈c.actsL,x.to.n≤1000000) (i:Int):(rmemV c i).length≤1000000:=by
 unfold rmemV
 cases wellV c i with
 | false=>simp
 | true =>
  simp only [Zf]
  cases hx:c.actsL[i.toNat]? with
  | none=>simp
  | some a =>
   have hm:=Z6 hx
   have h1:=(hc.rng a hm).to_len
   have h2:=hto a hm
   exact lD hc hcl hto i a.scope a.group aa
theorem wO {c:ChainD} {i:Int} (h:wellV c i=true):∃ q x,i=(q:Nat)∧c.actsL[q]?=some x:=by
 simp only [wellV,Zp,Zw] at h
 obtain ⟨q,rfl⟩:=Int.eq_ofNat_of_zero_le h.1
 have h2:=h.2
 rw [ZZ] at h2
 cases hx:c.actsL[q]? with
 | none=>rw [hx] at h2;cases h2
 | some x=>exact ⟨q,x,rfl,hx⟩
theorem lp (c:ChainD) (hc:ActsOk c.actsL) (hcl:c.actsL.length≤1000000) (hto:∀ x∈c.actsL,x.to.n≤1000000) (i:Int):Ct Tryz.prog 81 #[c.v,.int .i64 i] [] (XC c) (fun u R _=>OwnStrs (rmemV c i) u R):=by
 refine dN (args:=[_,_]) (Post:=OwnStrs (rmemV c i)) _ Tryz.func81 rfl Tryz.ntmps81 rfl fun av bor w0=>?_
 refine aM XC.know fun ⟨hl,hm,hp,hcap⟩=>?_
 simp only [maxLen] at hm
 have hwe:=vw c hc hcl hto i
 cases hw:wellV c i with
 | false =>
  rw [hw] at hwe
  refine cJ 9 1 ?_
  repeat' (first|(refine ab (hc:=hwe) (hX:=fun w h=>h) ?_)|refine gs ?_|refine gs1 fun _=>?_|(refine gp ?_ ?_<;>intro hx_ this)|fail)
  have e:rmemV c i=[]:=by rw [rmemV,hw];rfl
  rw [e]
  exact ad (ag rfl rfl) ⟨_,Z2 _ (al _),none,0,rfl,rfl⟩
 | true =>
  rw [hw] at hwe
  obtain ⟨q,x,rfl,hx⟩:=wO hw
  have hlt:=(QJ.1 hx).1
  have hp':=hp aa
  have hxm:=Z6 hx
  have h1:=(hc.rng x hxm).to_len
  have h2:=hto x hxm
  have e:rmemV c (q:Nat)=membersV c (q:Nat) x.scope x.group x.toL:=by rw [yk (a:=x) (by rw [ZZ];exact hx),hw];rfl
  rw [e]
  have hme:=nO c hc hcl hto (q:Nat) x.scope x.group x.to x.toL aa
  generalize membersV c (q:Nat) x.scope x.group x.toL=M at *
  repeat' (first|(refine ab (hc:=hwe) (hX:=fun w h=>h) ?_)|(refine AV (hc:=hme) (hX:=fun w h=>⟨h,(h.1.2 x hxm).1⟩) ?_;rintro v R X' ⟨A,c2,rfl,rfl⟩)|refine gs ?_|refine gs1 fun _=>?_|(refine aO (q:=q*20) ?_)|(refine ca (cs:=x.cells) (hF:=fun w h=>Acts.get h.1 hx) ?_)|(refine gp ?_ ?_<;>intro hx_ this)|fail)
  exact ad (ag rfl rfl) ⟨_,Z3 _ (Zu _),A,c2,rfl,rfl⟩
theorem iA (c:ChainD) (hc:ActsOk c.actsL) (hcl:c.actsL.length≤1000000) (hto:∀ x∈c.actsL,x.to.n≤1000000) (i:Int) (r:ByteArray):Pu Tryz.prog 40 #[c.v,.int .i64 i,.string r] (XC c) (.bool (mayV c i r)):=by
 refine ak (args:=[_,_,_]) _ Tryz.func40 rfl Tryz.ntmps40 rfl fun av bor w0=>?_
 refine aM XC.know fun ⟨hl,hm,hp,hcap⟩=>?_
 simp only [maxLen] at hm
 have hte:=rV c i
 cases ht:rtextV c i with
 | false =>
  rw [ht] at hte
  repeat' (first|(refine ab (hc:=hte) (hX:=fun w h=>h) ?_)|refine gs ?_|refine gs1 fun _=>?_|(refine gp ?_ ?_<;>intro hx_ this)|fail)
  apply ad;apply ag;rfl;rfl
  rw [mayV,ht]
  rfl
 | true =>
  rw [ht] at hte
  obtain ⟨q,x,rfl,hx⟩:=ny ht
  have hlt:=(QJ.1 hx).1
  have hp':=hp aa
  have hpb:pubV c (q:Nat)=decide (x.scope=0):=by rw [pubV,ZZ,hx]
  have hM:mayV c (q:Nat) r=(seqB r c.id||decide (x.scope=0)||hasS (rmemV c (q:Nat)) r):=by rw [mayV,ht,hpb];rfl
  rw [hM]
  have hrm:=pB (lp c hc hcl hto (q:Nat))
  generalize rmemV c (q:Nat)=M at *
  repeat' (first|(refine ab (hc:=hte) (hX:=fun w h=>h) ?_)|(refine bS (hc:=hrm) (hX:=fun w h=>h) fun v1 X1 h1=>?_;obtain ⟨s1,rfl,hs1⟩:=h1)|(refine ab (hc:=eM s1 M r) (hX:=fun w h=>hs1 w h.2) ?_)|refine gs ?_|refine gs1 fun _=>?_|(refine aO (q:=q*20) ?_)|(refine fQ ?_)|(refine cU (q:=q*20+7) (u:=.int .i64 x.scope) (hF:=fun w h=>(Acts.get h.1 hx).2.2 7 _ rfl) ?_)|(refine gp ?_ ?_<;>intro hx_ this)|fail)
  all_goals
   apply ad;apply ag;rfl;rfl
   simp only [*,Zt,Zr,Zf,Ze,Zh,Zg,Zk,Zj,Zn,Zl,Zs,Zm,Zq,Zi]
theorem qA (c:ChainD) (hc:ActsOk c.actsL) (hcl:c.actsL.length≤1000000) (hto:∀ x∈c.actsL,x.to.n≤1000000) (i:Int):Mk Tryz.prog 79 #[c.v,.int .i64 i] (XC c) fun u X=>∃ s:SlV,u=.tuple #[s.v,.bool (readB c i)]∧∀ w,X w→Strs w s (readL c i):=by
 refine bZ (args:=[_,_]) _ Tryz.func79 rfl Tryz.ntmps79 rfl fun av bor w0=>?_
 refine aM XC.know fun ⟨hl,hm,hp,hcap⟩=>?_
 simp only [maxLen] at hm
 have hte:=rV c i
 cases ht:rtextV c i with
 | false =>
  rw [ht] at hte
  repeat' (first|(refine ab (hc:=hte) (hX:=fun w h=>h) ?_)|refine gs ?_|refine gs1 fun _=>?_|(refine gp ?_ ?_<;>intro hx_ this)|fail)
  have e1:readB c i=true:=by rw [readB,ht];rfl
  have e2:readL c i=[]:=by rw [readL,ht];rfl
  rw [e1,e2]
  exact ad (dH rfl rfl rfl) ⟨⟨none,0,0⟩,rfl,fun w _=>aY w 1⟩
 | true =>
  rw [ht] at hte
  obtain ⟨q,x,rfl,hx⟩:=ny ht
  have hlt:=(QJ.1 hx).1
  have hp':=hp aa
  have hpb:pubV c (q:Nat)=decide (x.scope=0):=by rw [pubV,ZZ,hx]
  have e1:readB c (q:Nat)=!decide (x.scope=0):=by rw [readB,ht,hpb];rfl
  have e2:readL c (q:Nat)=bif !decide (x.scope=0) then compB (sortB (rmemV c (q:Nat)++[c.id])) else []:=by rw [readL,ht,hpb];rfl
  repeat' (first|(refine ab (hc:=hte) (hX:=fun w h=>h) ?_)|refine gs ?_|refine gs1 fun _=>?_|(refine aO (q:=q*20) ?_)|(refine fQ ?_)|(refine cU (q:=q*20+7) (u:=.int .i64 x.scope) (hF:=fun w h=>(Acts.get h.1 hx).2.2 7 _ rfl) ?_)|(refine gp ?_ ?_<;>intro hx_ this)|fail)
  · rw [e1,e2,hx_]
    exact ad (dH rfl rfl rfl) ⟨⟨none,0,0⟩,rfl,fun w _=>aY w 1⟩
  · rename_i b2
    rw [hx_] at e1 e2
    simp only [Zl,Zf] at e1 e2
    rw [e1,e2]
    have hrm:=lp c hc hcl hto (q:Nat)
    have hrl:=Bl hc hcl hto (q:Nat)
    generalize rmemV c (q:Nat)=M at *
    refine fX (ι:=RowI) (fun i=>⟨[(6,.slice i.A (M.length+1) i.c)],[orow 9 1 (.slice i.A (M.length+1) i.c) (M.length+1) (M.map encB++[encB c.id])],XC c⟩) ?_ fun i=>?_
    · (refine aq ⟨[0,1,3,4],[(2,⟨[],[(5,⟨[],[(6,⟨[7],[]⟩)]⟩)]⟩),(5,⟨[],[(2,⟨[],[(6,⟨[7],[]⟩)]⟩)]⟩)]⟩ [cel b2 35 c.v.cells.toList] (fun w=>XC c w) (h:=?_))
      all_goals repeat' (first|(refine AV (hc:=hrm) (hX:=fun w h=>h) ?_;rintro v R X' ⟨A,c2,rfl,rfl⟩)|refine gdz ?_|refine az ?_ (h':=?_)|exact aA|refine cR (len:=1) (vs:=[encB c.id]) fun _=>?_|(refine ia ?_;refine aN (size:=1) (z:=.string ⟨#[]⟩) (news:=[encB c.id]) (q:=1) rfl rfl rfl rfl (fun _=>by (repeat (first|exact At.here _|apply At.there))) (fun w G=>bX G bz rfl rfl 1) aa (by simp only [maxLen];omega) rfl ?_ rfl ?_;(first|with_reducible rfl|with_reducible assumption|with_reducible exact Zl|with_reducible exact Zn);intro A2 c2)|refine gs1 fun _=>?_|(refine gq ?_ ?_<;>intro hx_ this)|fail)
      all_goals first
       | exact ⟨⟨A2,c2⟩,aj ⟨rfl,trivial⟩ (Z3 _ (Zu _)) fun _ h=>h.1⟩
       | exact ⟨⟨A2,c2⟩,aj ⟨rfl,trivial⟩ (Z2 _ (Z3 _ (Zu _))) fun _ h=>h.1⟩
    · have hsp:M.map encB++[encB c.id]=(M++[c.id]).map encB:=by simp
      rw [hsp]
      have hfl:M.length+1≤1000000000:=by omega
      repeat' (first|refine gs ?_|refine gs1 fun _=>?_|fail)
      refine eZ (hc:=ij hfl) (hX:=fun _ _=>trivial) ?_
      repeat' (first|refine gs ?_|refine gs1 fun _=>?_|fail)
      refine fa (hc:=iH) (hX:=fun _ _=>trivial) ?_
      rintro _ _ X2 ⟨A3,c3,rfl,rfl⟩
      repeat' (first|refine gs ?_|refine gs1 fun _=>?_|fail)
      exact ad (dH rfl rfl rfl) ⟨⟨A3,_,c3⟩,rfl,fun w h=>gJ (h.2 _ ax) rfl⟩
theorem nq (c:ChainD):Pu Tryz.prog 39 #[c.v] (XC c) (.bool (shortV c)):=by
  refine ak (args:=[_]) _ Tryz.func39 rfl Tryz.ntmps39 rfl fun av bor w0=>?_
  refine aM XC.know fun ⟨hl,hm,hp,hcap⟩=>?_
  simp only [maxLen] at hm
  repeat' (first|refine gs ?_|refine gs1 fun _=>?_|fail)
  rename_i b1
  repeat' (first|refine gs ?_|refine gs1 fun _=>?_|(refine gp ?_ ?_<;>intro hx_ this)|fail)
  · apply ad;apply ag;rfl;rfl
    rw [shortV,Zc aa,Zj]
  refine ar (ι:=Upto c.actsL.length (shortBad c.actsL)) (fun i=>⟨[(1,.pointer (some ⟨b1,0,none⟩)),(3,.int .i64 i.k)],[cel b1 35 c.cells],XC c⟩) (fun i=>c.actsL.length-i.k) (Upto.zero _ _) (aj (by repeat (first|exact trivial|refine ⟨rfl,?_⟩)) (al _) fun _ h=>h) fun i=>?_
  have hik:=i.hk
  repeat' (first|refine gs ?_|refine gs1 fun _=>?_|(refine gp ?_ ?_<;>intro hx_ this)|fail)
  · have hlt:i.k<c.actsL.length:=by omega
    have hp':=hp aa
    obtain ⟨x,hx⟩:∃ x,c.actsL[i.k]?=some x:=⟨_,Zb hlt⟩
    have hB:shortBad c.actsL i.k=(decide (8<x.to.n)||decide (8<x.wraps.n)||decide (600<x.text.size)||decide (600<x.body.data.size)):=by simp only [shortBad,Zo,hx,Qe]
    repeat' (first|refine gs ?_|refine gs1 fun _=>?_|(refine aO (q:=i.k*20) ?_)|(refine ca (cs:=x.cells) (hF:=fun w h=>Acts.get h.1 hx) ?_)|(refine gp ?_ ?_<;>intro hx_ this)|fail)
    all_goals first
      | (apply ad;apply ag;rfl;rfl
         have hb:shortBad c.actsL i.k=true:=by
           rw [hB];simp only [Bool.or_eq_true,Zw];simp only [Zw,Qd] at *;omega
         rw [shortV,cM hlt hb,Zk])
      | (have hb:shortBad c.actsL i.k=false:=by
           rw [hB];simp only [Ql,Qd];simp only [Zw,Qd] at *;omega
         exact ⟨i.next hlt hb,(by show c.actsL.length-(i.k+1)<c.actsL.length-i.k;omega),aj (by repeat (first|exact trivial|refine ⟨rfl,?_⟩)) (Z2 _ (al _)) fun _ h=>h⟩)
  · apply ad;apply ag;rfl;rfl
    rw [shortV,i.all aa,Zd (by omega)]
    rfl
def exP1:ActD:={ ActD.zero with kind:=1 }
def exP2:ActD:={ ActD.zero with kind:=1,scope:=1 }
def exP3:ActD:={ ActD.zero with kind:=5 }
def exL:List ActD:=[exP1,exP2,exP3]
def chainR (b:Nat):ChainD:=⟨idA,⟨some ⟨b,0,none⟩,3,3⟩,⟨none,0,0⟩,⟨#[]⟩,0,false,exL⟩
theorem eu {P:ActD→Prop} (h1:P exP1) (h2:P exP2) (h3:P exP3):∀ a∈exL,P a:=by
 intro a ha
 simp only [exL,ZI,Qk,or_false] at ha
 rcases ha with rfl|rfl|rfl
 · exact h1
 · exact h2
 · exact h3
theorem gZ:ActsOk exL:=⟨eu ⟨by decide,fun w hw=>absurd hw (by show ¬ w∈[];simp),rfl,rfl⟩ ⟨by decide,fun w hw=>absurd hw (by show ¬ w∈[];simp),rfl,rfl⟩ ⟨by decide,fun w hw=>absurd hw (by show ¬ w∈[];simp),rfl,rfl⟩,
 eu ⟨by decide,by decide,by decide⟩ ⟨by decide,by decide,by decide⟩ ⟨by decide,by decide,by decide⟩⟩
theorem d9 {b:Nat} {w:World} (h:Glob w) (hc:(cel b 46 (exL.map ActD.cells).flatten).F w):XC (chainR b) w :=
 ⟨⟨bt hc rfl (by decide) (fI exL),eu ⟨aY w 1,aY w 5⟩ ⟨aY w 1,aY w 5⟩ ⟨aY w 1,aY w 5⟩⟩,h⟩
theorem nj:Pu Tryz.prog 38 #[] Glob (.bool true):=by
 refine ak (args:=[]) _ Tryz.func38 rfl Tryz.ntmps38 rfl fun av bor w0=>?_
 repeat' (first|refine aF (cs:=exP1.cells) (hf:=by rfl) ?_|refine aF (cs:=exP2.cells) (hf:=by rfl) ?_|refine aF (cs:=exP3.cells) (hf:=by rfl) ?_|refine gs ?_|refine gs1 fun _=>?_|refine du (vs:=[.agg exP1.cells.toArray,.agg exP2.cells.toArray,.agg exP3.cells.toArray]) (css:=(exL.map ActD.cells).flatten) (hsz:=by rfl) (hcs:=by rfl) fun bR=>?_;refine bL ?_|refine aF ?_|(refine gp ?_ ?_<;>intro hx_ this)|fail)
 rename_i b2
 have r0:=qA (chainR bR) gZ (by show 3≤_;omega) (eu (by decide) (by decide) (by decide)) 0
 have r1:=qA (chainR bR) gZ (by show 3≤_;omega) (eu (by decide) (by decide) (by decide)) 1
 have r2:=qA (chainR bR) gZ (by show 3≤_;omega) (eu (by decide) (by decide) (by decide)) 2
 rw [show readB (chainR bR) 0=false from by kernel_rfl,show readL (chainR bR) 0=[] from by kernel_rfl] at r0
 rw [show readB (chainR bR) 1=true from by kernel_rfl,show readL (chainR bR) 1=[idA] from by kernel_rfl] at r1
 rw [show readB (chainR bR) 2=true from by kernel_rfl,show readL (chainR bR) 2=[] from by kernel_rfl] at r2
 refine bS (hc:=r0) (hX:=fun w h=>d9 h.1 h.2) fun v1 X1 h1=>?_
 obtain ⟨s1,rfl,hs1⟩:=h1
 refine jG (p:=s1.n=0) (fun w h=>RowsD.len (hs1 w h.2)) fun hn1=>?_
 repeat' (first|refine gs ?_|refine gs1 fun _=>?_|fail)
 refine bS (hc:=r1) (hX:=fun w h=>d9 h.1.1 h.1.2) fun v2 X2 h2=>?_
 obtain ⟨s2,rfl,hs2⟩:=h2
 repeat' (first|refine gs ?_|refine gs1 fun _=>?_|fail)
 refine bS (hc:=r2) (hX:=fun w h=>d9 h.1.1.1 h.1.1.2) fun v3 X3 h3=>?_
 obtain ⟨s3,rfl,hs3⟩:=h3
 refine jG (p:=s3.n=0) (fun w h=>RowsD.len (hs3 w h.2)) fun hn3=>?_
 have hsa:∀ r:SlV,Pu Tryz.prog 17 #[s2.v,r.v] (fun w=>Strs w s2 [idA]∧Strs w r [idA]) (.bool true):=fun r=>by
  have:=kA s2 r [idA] [idA]
  rw [show eqL [idA] [idA]=true from by decide +kernel] at this
  exact this
 have m0:=iA (chainR bR) gZ (by show 3≤_;omega) (eu (by decide) (by decide) (by decide)) 0 ⟨#[]⟩
 have m1:=iA (chainR bR) gZ (by show 3≤_;omega) (eu (by decide) (by decide) (by decide)) 1 ⟨#[]⟩
 have m2:=iA (chainR bR) gZ (by show 3≤_;omega) (eu (by decide) (by decide) (by decide)) 1 idA
 have m3:=iA (chainR bR) gZ (by show 3≤_;omega) (eu (by decide) (by decide) (by decide)) 2 idA
 have m4:=iA (chainR bR) gZ (by show 3≤_;omega) (eu (by decide) (by decide) (by decide)) 3 idA
 have m5:=iA (chainR bR) gZ (by show 3≤_;omega) (eu (by decide) (by decide) (by decide)) (-1) idA
 rw [show mayV (chainR bR) 0 ⟨#[]⟩=true from by kernel_rfl] at m0
 rw [show mayV (chainR bR) 1 ⟨#[]⟩=false from by kernel_rfl] at m1
 rw [show mayV (chainR bR) 1 idA=true from by kernel_rfl] at m2
 rw [show mayV (chainR bR) 2 idA=false from by kernel_rfl] at m3
 rw [show mayV (chainR bR) 3 idA=false from by kernel_rfl] at m4
 rw [show mayV (chainR bR) (-1) idA=false from by kernel_rfl] at m5
 repeat' (first|refine aP (hab:=by omega) ?_|(refine cR (len:=1) (vs:=[encB idA]) fun b3=>?_;refine bL ?_;refine ab (hc:=hsa ⟨some ⟨b3,0,none⟩,1,1⟩) (hX:=fun w h=>⟨hs2 w h.1.1.2,fR (l:=[idA]) h.2 (by decide)⟩) ?_)|(refine ab (hc:=m0) (hX:=fun w h=>d9 h.1.1.1.1.1 h.1.1.1.1.2) ?_)|(refine ab (hc:=m1) (hX:=fun w h=>d9 h.1.1.1.1.1 h.1.1.1.1.2) ?_)|(refine ab (hc:=m2) (hX:=fun w h=>d9 h.1.1.1.1.1 h.1.1.1.1.2) ?_)|(refine ab (hc:=m3) (hX:=fun w h=>d9 h.1.1.1.1.1 h.1.1.1.1.2) ?_)|(refine ab (hc:=m4) (hX:=fun w h=>d9 h.1.1.1.1.1 h.1.1.1.1.2) ?_)|(refine ab (hc:=m5) (hX:=fun w h=>d9 h.1.1.1.1.1 h.1.1.1.1.2) ?_)|refine gs ?_|refine gs1 fun _=>?_|(refine gp ?_ ?_<;>intro hx_ this)|fail)
 · apply ad;apply ag;rfl;rfl
   rfl
end Go.Proofs.YtaolfiikahlmkaaGreatDoor
namespace Go.Proofs.YtaolfiikahlmkaaGreatDoor
open Go Go.Proofs Sy
section
variable {P:Program} {N:Nat} {av bor:List Nat} {w0:World} {x y:Operand} {t t2:TypeId} {ty:TypeId} {st:St} {k:IntKind} {a b:Int}
theorem cf [hI:TyInt P t k] (v:Bool) (hx:ev st.env x=some (.int k a)) (hy:ev st.env y=some (.int k b)) (hv:decide (a<b)=v):Sy.Yields P N av bor w0 st (.binOp .lss t x y t2) ty (.bool v):=hv▸vu hx hy
theorem jf [hI:TyInt P t k] (v:Bool) (hx:ev st.env x=some (.int k a)) (hy:ev st.env y=some (.int k b)) (hv:decide (b≤a)=v):Sy.Yields P N av bor w0 st (.binOp .geq t x y t2) ty (.bool v):=hv▸vv hx hy
theorem dS [hI:TyInt P t k] (v:Bool) (hx:ev st.env x=some (.int k a)) (hy:ev st.env y=some (.int k b)) (hv:decide (a=b)=v):Sy.Yields P N av bor w0 st (.binOp .eql t x y t2) ty (.bool v):=hv▸o0 hx hy
theorem dp [hI:TyInt P t k] (v:Bool) (hx:ev st.env x=some (.int k a)) (hy:ev st.env y=some (.int k b)) (hv:(!decide (a=b))=v):Sy.Yields P N av bor w0 st (.binOp .neq t x y t2) ty (.bool v):=hv▸vt hx hy
theorem dA [hI:TyStr P t] {a b:ByteArray} (v:Bool) (hx:ev st.env x=some (.string a)) (hy:ev st.env y=some (.string b)) (hv:seqB a b=v):Sy.Yields P N av bor w0 st (.binOp .eql t x y t2) ty (.bool v):=hv▸pY hx hy
theorem vq {a b:ByteArray} (v:Bool) (hx:ev st.env x=some (.string a)) (hy:ev st.env y=some (.string b)) (hv:(!seqB a b)=v):Sy.Yields P N av bor w0 st (.binOp .neq t x y t2) ty (.bool v):=hv▸pX hx hy
end
end Go.Proofs.YtaolfiikahlmkaaGreatDoor
namespace Go.Proofs.YtaolfiikahlmkaaGreatDoor
open Go Go.Proofs Sy
structure ClaimD where
 actor:ByteArray
 base:Int
 prev:ByteArray
 gen:Int
 home:Int
 pub:Int
 time:Int
 e:Int
 s:Int
structure BallotD where
 server:Int
 actor:ByteArray
 gen:Int
 claim:ByteArray
 time:Int
 e:Int
 s:Int
structure DecD where
 server:Int
 number:Int
 kind:Int
 actor:ByteArray
 object:ByteArray
 text:ByteArray
 to:SlV
 n:Int
 from_:Int
 until_:Int
 e:Int
 s:Int
 toL:List ByteArray
structure ItemD where
 kind:Int
 act:ActD
 claim:ClaimD
 ballot:BallotD
 dec:DecD
def ClaimD.cells (c:ClaimD):List Value:=[.string c.actor,.int .i64 c.base,.string c.prev,.int .i64 c.gen,.int .i64 c.home,.int .i64 c.pub,.int .i64 c.time,.int .i64 c.e,.int .i64 c.s]
def ClaimD.v (c:ClaimD):Value:=.agg c.cells.toArray
def ClaimD.zero:ClaimD:=⟨⟨#[]⟩,0,⟨#[]⟩,0,0,0,0,0,0⟩
def BallotD.cells (b:BallotD):List Value:=[.int .i64 b.server,.string b.actor,.int .i64 b.gen,.string b.claim,.int .i64 b.time,.int .i64 b.e,.int .i64 b.s]
def BallotD.v (b:BallotD):Value:=.agg b.cells.toArray
def BallotD.zero:BallotD:=⟨0,⟨#[]⟩,0,⟨#[]⟩,0,0,0⟩
def DecD.cells (d:DecD):List Value:=[.int .i64 d.server,.int .i64 d.number,.int .i64 d.kind,.string d.actor,.string d.object,.string d.text,d.to.v,.int .i64 d.n,.int .i64 d.from_,.int .i64 d.until_,.int .i64 d.e,.int .i64 d.s]
def DecD.v (d:DecD):Value:=.agg d.cells.toArray
def DecD.zero:DecD:=⟨0,0,0,⟨#[]⟩,⟨#[]⟩,⟨#[]⟩,⟨none,0,0⟩,0,0,0,0,0,[]⟩
def DecD.at_ (w:World) (d:DecD):Prop:=Strs w d.to d.toL
def ItemD.cells (i:ItemD):List Value:=.int .i64 i.kind::(i.act.cells++i.claim.cells++i.ballot.cells++i.dec.cells)
def ItemD.v (i:ItemD):Value:=.agg i.cells.toArray
def ItemD.at_ (w:World) (i:ItemD):Prop:=ActD.at_ w i.act∧DecD.at_ w i.dec
def ofActI (a:ActD):ItemD:=⟨0,a,ClaimD.zero,BallotD.zero,DecD.zero⟩
def ItemD.zero:ItemD:=ofActI ActD.zero
def Items (w:World) (s:SlV) (l:List ItemD):Prop:=RowsD w 49 s (l.map ItemD.cells)∧∀ i∈l,ItemD.at_ w i
theorem Items.len_ {w:World} {s:SlV} {l:List ItemD} (h:Items w s l):s.n=l.length:=by simpa using RowsD.len h.1
theorem Items.max_ {w:World} {s:SlV} {l:List ItemD} (h:Items w s l):s.n≤maxLen:=ZY (RowsD.cap h.1) (RowsD.max h.1)
theorem Items.get {w:World} {s:SlV} {l:List ItemD} (h:Items w s l) {k:Nat} {x:ItemD} (hx:l[k]?=some x):x.cells.length=49∧s.p.isSome=true∧∀ j u,x.cells[j]?=some u→CellAt w s.p (k*49+j) u:=RowsD.row h.1 k x.cells (by simp [hx])
theorem Items.some_ {w:World} {s:SlV} {l:List ItemD} (h:Items w s l) (h0:0<l.length):s.p.isSome=true:=(h.get (k:=0) (x:=l[0]) (Zb h0)).2.1
namespace SrG
section
variable {P:Program} {N:Nat} {av bor:List Nat} {w0:World} {st:St} {ty:TypeId} {x y:Operand} {t t2:TypeId} {k:IntKind}
theorem y_gtrT_g {a b:Int} [hI:TyInt P t k] (hx:ev st.env x=some (.int k a)) (hy:ev st.env y=some (.int k b)) (hab:b<a):Sy.Yields P N av bor w0 st (.binOp .gtr t x y t2) ty (.bool true):=by
 have h:=rp (P:=P) (N:=N) (av:=av) (bor:=bor) (w0:=w0) (st:=st) (ty:=ty) (t:=t) (t2:=t2) hx hy
 rwa [Zd hab] at h
theorem y_gtrF_g {a b:Int} [hI:TyInt P t k] (hx:ev st.env x=some (.int k a)) (hy:ev st.env y=some (.int k b)) (hab:¬ b<a):Sy.Yields P N av bor w0 st (.binOp .gtr t x y t2) ty (.bool false):=by
 have h:=rp (P:=P) (N:=N) (av:=av) (bor:=bor) (w0:=w0) (st:=st) (ty:=ty) (t:=t) (t2:=t2) hx hy
 rwa [Zc hab] at h
end
section
variable {N:Nat} {av bor:List Nat} {w0:World} {st:St} {ty:TypeId} {x y:Operand} {E:Env} {loc:List Res} {X:World→Prop} {ops:Array Oper} {kk k:St→Prop} {pos:String} {af:Array Edge} {g:Option (Nat×Bool)} {rest:List Oper} {bb want:Bool} {n:Nat} {t t2:TypeId} {d:Option Tmp}
theorem aV [hI:TyInt Tryz.prog t .i64] {p q:Nat} (h:Sw Tryz.prog N av bor w0 ops rest ⟨(n,.int .i64 ((p+q:Nat):Int))::E,loc,X⟩ kk) (hx:ev E x=some (.int .i64 (p:Nat)):=by rfl) (hy:ev E y=some (.int .i64 (q:Nat)):=by rfl) (hq:p+q<9223372036854775808) (hg:gdB ops E g=some (bb,want):=by rfl) (hbb:bb=want:=by exact am) (hd:Nat.blt n N=true:=by rfl) :
  Sw Tryz.prog N av bor w0 ops (⟨some n,.binOp .add t x y t2,ty,pos,af,g⟩::rest) ⟨E,loc,X⟩ kk:=co (c:=((p+q:Nat):Int)) hx hy (by rw [←Int.natCast_add];exact IntWalk.i64_in _ aa) hg hbb hd h
theorem bp [hI:TyInt Tryz.prog t .i64] {p q:Nat} (h:Sw Tryz.prog N av bor w0 ops rest ⟨(n,.int .i64 ((p-q:Nat):Int))::E,loc,X⟩ kk) (hx:ev E x=some (.int .i64 (p:Nat)):=by rfl) (hy:ev E y=some (.int .i64 (q:Nat)):=by rfl) (hq:q≤p∧p<9223372036854775808) (hg:gdB ops E g=some (bb,want):=by rfl) (hbb:bb=want:=by exact am) (hd:Nat.blt n N=true:=by rfl) :
  Sw Tryz.prog N av bor w0 ops (⟨some n,.binOp .sub t x y t2,ty,pos,af,g⟩::rest) ⟨E,loc,X⟩ kk:=cO (c:=((p-q:Nat):Int)) hx hy (by rw [show (p:Int)-(q:Int)=((p-q:Nat):Int) by omega];exact IntWalk.i64_in _ aa) hg hbb hd h
theorem FQ (x:Nat):shrV .u64 (x:Int) 1=((x/2:Nat):Int):=by
 show (x:Int).fdiv (2 ^ (min (1:Int).toNat 64))=_
 rw [show (2:Int) ^ (min (1:Int).toNat 64)=((2:Nat):Int) from rfl,←Int.ofNat_fdiv]
theorem da {p:Nat} {x y:Operand} (h:Sw Tryz.prog N av bor w0 ops rest ⟨(n,.int .u64 ((p/2:Nat):Int))::E,loc,X⟩ k) (hx:ev E x=some (.int .u64 (p:Nat)):=by rfl) (hy:ev E y=some (.int .u64 1):=by rfl) (hg:gdB ops E g=some (bb,want):=by rfl) (hbb:bb=want:=by exact am) (hd:Nat.blt n N=true:=by rfl) :
  Sw Tryz.prog N av bor w0 ops (⟨some n,.binOp .shr t x y t2,ty,pos,af,g⟩::rest) ⟨E,loc,X⟩ k:=ui hx hy (by decide) hg hbb hd (by rw [FQ];exact h)
theorem wT {p:Nat} (h:p<9223372036854775808):IntKind.u64.wrap (p:Int)=(p:Int):=by
 simp [IntKind.wrap,IntKind.signed,IntKind.bits]
 omega
theorem sy_toU_g [h1:TyInt Tryz.prog t .i64] [h2:TyInt Tryz.prog t2 .u64] {p:Nat} {x:Operand} (h:Sw Tryz.prog N av bor w0 ops rest ⟨(n,.int .u64 (p:Nat))::E,loc,X⟩ k) (hx:ev E x=some (.int .i64 (p:Nat)):=by rfl) (hq:p<9223372036854775808) (hg:gdB ops E g=some (bb,want):=by rfl) (hbb:bb=want:=by exact am) (hd:Nat.blt n N=true:=by rfl) :
  Sw Tryz.prog N av bor w0 ops (⟨some n,.convert t t2 x,ty,pos,af,g⟩::rest) ⟨E,loc,X⟩ k:=qe hx (wT hq) hg hbb hd h
theorem sy_toI_g [h1:TyInt Tryz.prog t .u64] [h2:TyInt Tryz.prog t2 .i64] {p:Nat} {x:Operand} (h:Sw Tryz.prog N av bor w0 ops rest ⟨(n,.int .i64 (p:Nat))::E,loc,X⟩ k) (hx:ev E x=some (.int .u64 (p:Nat)):=by rfl) (hq:p<9223372036854775808) (hg:gdB ops E g=some (bb,want):=by rfl) (hbb:bb=want:=by exact am) (hd:Nat.blt n N=true:=by rfl) :
  Sw Tryz.prog N av bor w0 ops (⟨some n,.convert t t2 x,ty,pos,af,g⟩::rest) ⟨E,loc,X⟩ k:=qe hx (IntWalk.i64_in _ aa) hg hbb hd h
theorem sy_lssF_g {x y:Operand} {k':IntKind} {a b:Int} [hI:TyInt Tryz.prog t k'] (h:Sw Tryz.prog N av bor w0 ops rest ⟨(n,.bool false)::E,loc,X⟩ k) (hx:ev E x=some (.int k' a):=by rfl) (hy:ev E y=some (.int k' b):=by rfl) (hab:¬ a<b) (hg:gdB ops E g=some (bb,want):=by rfl) (hbb:bb=want:=by exact am) (hd:Nat.blt n N=true:=by rfl) :
  Sw Tryz.prog N av bor w0 ops (⟨some n,.binOp .lss t x y t2,ty,pos,af,g⟩::rest) ⟨E,loc,X⟩ k:=bA (hx:=hx) (hy:=hy) (hg:=hg) (hbb:=hbb) (hd:=hd) (h:=by
   have e:∀ u,u=Value.bool false→Sw Tryz.prog N av bor w0 ops rest ⟨(n,u)::E,loc,X⟩ k:=fun u hu=>hu▸h
   exact e _ (by simp [hab]))
theorem sy_lssT_g {x y:Operand} {k':IntKind} {a b:Int} [hI:TyInt Tryz.prog t k'] (h:Sw Tryz.prog N av bor w0 ops rest ⟨(n,.bool true)::E,loc,X⟩ k) (hx:ev E x=some (.int k' a):=by rfl) (hy:ev E y=some (.int k' b):=by rfl) (hab:a<b:=by (first|decide|omega)) (hg:gdB ops E g=some (bb,want):=by rfl) (hbb:bb=want:=by exact am) (hd:Nat.blt n N=true:=by rfl) :
  Sw Tryz.prog N av bor w0 ops (⟨some n,.binOp .lss t x y t2,ty,pos,af,g⟩::rest) ⟨E,loc,X⟩ k:=bA (hx:=hx) (hy:=hy) (hg:=hg) (hbb:=hbb) (hd:=hd) (h:=by
   have e:∀ u,u=Value.bool true→Sw Tryz.prog N av bor w0 ops rest ⟨(n,u)::E,loc,X⟩ k:=fun u hu=>hu▸h
   exact e _ (by simp [hab]))
theorem dZ [hI:TyInt Tryz.prog t .i64] {p q:Nat} (h:Sw Tryz.prog N av bor w0 ops rest ⟨(n,.int .i64 ((p*q:Nat):Int))::E,loc,X⟩ k) (hx:ev E x=some (.int .i64 (p:Nat)):=by rfl) (hy:ev E y=some (.int .i64 (q:Nat)):=by rfl) (hq:p*q<9223372036854775808) (hg:gdB ops E g=some (bb,want):=by rfl) (hbb:bb=want:=by exact am) (hd:Nat.blt n N=true:=by rfl) :
  Sw Tryz.prog N av bor w0 ops (⟨some n,.binOp .mul t x y t2,ty,pos,af,g⟩::rest) ⟨E,loc,X⟩ k:=eI (c:=((p*q:Nat):Int)) hx hy (by rw [←Int.natCast_mul];exact IntWalk.i64_in _ aa) hg hbb hd h
end
structure BinI_g (lo hi:Nat) where
 i:Nat
 j:Nat
 h1:lo≤i
 h2:i≤j
 h3:j≤hi
structure MerI_g (a m b mid:Nat) where
 i:Nat
 j:Nat
 h1:i≤j
 h2:mid<m→mid+m≤i+b∧j≤mid
 h3:m≤mid→a≤i∧j≤m
def cmpB_g (x y:ByteArray):Int:=bif Op.bytesLess x.toList y.toList then -1 else bif !(Op.bytesLess x.toList y.toList||seqB x y) then 1 else 0
theorem uR (x:ByteArray):Pu Tryz.prog 142 #[.string x] (fun _=>True) (.bool false):=by
 refine ak (args:=[_]) _ Tryz.func142 rfl Tryz.ntmps142 rfl fun av bor w0=>?_
 have h:=cW x
 repeat' (first|refine gs ?_|(refine gp ?_ ?_<;>intro hx_ this)|fail)
 apply ad;apply ag;rfl;rfl
 rw [h]
 rfl
theorem g6 (x y:ByteArray):Pu Tryz.prog 84 #[.string x,.string y] (fun _=>True) (.int .i64 (cmpB_g x y)):=by
 refine ak (args:=[_,_]) _ Tryz.func84 rfl Tryz.ntmps84 rfl fun av bor w0=>?_
 repeat' (first|refine ab (hc:=uR _) ?_|refine gs ?_|(refine Dr ?_)|(refine Dx ?_)|(refine gp ?_ ?_<;>intro hx_ this)|fail)
 (all_goals (apply ad;apply ag;rfl;rfl));all_goals first|rfl|(simp only [cmpB_g, *,Zt,Zr,Zf,Ze,Zh,Zg,Zk,Zj,Zn,Zl,Zs,Zm,Zq,Zi];done)|(simp_all [cmpB_g];done)
def cmpI (a b:Int):Int:=bif decide (a<b) then -1 else bif decide (b<a) then 1 else 0
theorem cmpI_self (a:Int):cmpI a a=0:=by simp [cmpI]
def cmp2 (a b:Int) (x y:ByteArray):Int:=bif decide (cmpI a b=0) then cmpB_g x y else cmpI a b
theorem yG (x:Int):Pu Tryz.prog 251 #[.int .i64 x] (fun _=>True) (.bool false):=by
 refine ak (args:=[_]) _ Tryz.func251 rfl Tryz.ntmps251 rfl fun av bor w0=>?_
 repeat' (first|refine ai (dp false rfl rfl (by simp)) rfl am rfl ?_|refine gs ?_|(refine gp ?_ ?_<;>intro hx_ this)|fail)
 exact ad (ag rfl rfl) rfl
theorem iG (x y:Int):Pu Tryz.prog 186 #[.int .i64 x,.int .i64 y] (fun _=>True) (.int .i64 (cmpI x y)):=by
 refine ak (args:=[_,_]) _ Tryz.func186 rfl Tryz.ntmps186 rfl fun av bor w0=>?_
 repeat' (first|refine ab (hc:=yG _) ?_|refine gs ?_|(refine gp ?_ ?_<;>intro hx_ this)|fail)
 (all_goals (apply ad;apply ag;rfl;rfl));all_goals first|rfl|(simp only [cmpI, *,Zt,Zr,Zf,Ze,Zh,Zg,Zk,Zj,Zn,Zl,Zs,Zm,Zq,Zi];done)|(simp_all [cmpI];done)
structure OrI (a b:Int) where
 k:Nat
 hk:k≤2
 ha:0<k→a=0
 hb:1<k→b=0
theorem uM (s:SlV) (a b:Int):Pu Tryz.prog 185 #[s.v] (fun w=>Ints w s [a,b]) (.int .i64 (bif decide (a=0) then b else a)):=by
 refine ak (args:=[_]) _ Tryz.func185 rfl Tryz.ntmps185 rfl fun av bor w0=>?_
 refine aM (p:=s.n=2∧s.p.isSome=true) (fun w h=>⟨h.len_,h.some_ (by simp)⟩) fun ⟨hsn,hsp⟩=>?_
 repeat' (first|refine gs ?_|fail)
 refine ar (ι:=OrI a b) (fun i=>⟨[(3,.int .i64 0),(6,s.v),(7,.int .i64 (s.n:Nat)),(8,.int .i64 (i.k:Nat))],[],fun w=>Ints w s [a,b]⟩) (fun i=>2-i.k) ⟨0,Z4 _,fun h=>absurd h (by decide),fun h=>absurd h (by decide)⟩ (aj ao (al _) fun _ h=>h) fun i=>?_
 obtain ⟨k,hk,ha,hb⟩:=i
 simp only
 by_cases hlt:k<2
 · have hget:∀ w,Ints w s [a,b]→CellAt w s.p k (.int .i64 ([a,b].getD k 0)):=fun w h=>Ints.get h hlt
   have hx:[a,b].getD k 0=a∧k=0∨[a,b].getD k 0=b∧k=1:=by
    rcases k with _|_|k
    · exact .inl ⟨rfl,rfl⟩
    · exact .inr ⟨rfl,rfl⟩
    · omega
   generalize [a,b].getD k 0=x at *
   by_cases h0:x=0
   · repeat' (first|refine ai (cf true rfl rfl (Zd aa)) rfl am rfl ?_|refine ai (dp false rfl rfl (by simp [h0])) rfl am rfl ?_|refine gs ?_|(refine aO (q:=k) ?_)|(refine cU (u:=.int .i64 x) (hF:=hget) ?_)|(refine gp ?_ ?_<;>intro hx_ this)|fail)
     exact ⟨(⟨k+1,hlt,fun _=>by rcases hx with h|h<;>first|omega|exact ha aa,fun _=>by rcases hx with h|h<;>omega⟩:OrI a b),(by show 2-(k+1)<2-k;omega),aj ao (al _) fun _ h=>h⟩
   · repeat' (first|refine ai (cf true rfl rfl (Zd aa)) rfl am rfl ?_|refine ai (dp true rfl rfl (by simp [h0])) rfl am rfl ?_|refine gs ?_|(refine aO (q:=k) ?_)|(refine cU (u:=.int .i64 x) (hF:=hget) ?_)|(refine gp ?_ ?_<;>intro hx_ this)|fail)
     refine ad (ag rfl rfl) ?_
     rcases hx with ⟨h1,h2⟩|⟨h1,h2⟩
     · rw [←h1,Zc h0];rfl
     · rw [ha aa,←h1];rfl
 · repeat' (first|refine ai (cf false rfl rfl (Zc aa)) rfl am rfl ?_|refine gs ?_|(refine gp ?_ ?_<;>intro hx_ this)|fail)
   refine ad (ag rfl rfl) ?_
   rw [ha aa,hb (by omega)]
   rfl
end SrG
end Go.Proofs.YtaolfiikahlmkaaGreatDoor
namespace Go.Proofs.YtaolfiikahlmkaaGreatDoor
open Go Go.Proofs Sy
structure KeyD where
 from_:Int
 public_:Int
 home:Int
def KeyD.cells (k:KeyD):List Value:=[.int .i64 k.from_,.int .i64 k.public_,.int .i64 k.home]
def KeyD.v (k:KeyD):Value:=.agg k.cells.toArray
def KeyD.zero:KeyD:=⟨0,0,0⟩
def Keyz (w:World) (s:SlV) (l:List KeyD):Prop:=RowsD w 3 s (l.map KeyD.cells)
namespace Sy
section
variable {P:Program} {N:Nat} {av bor:List Nat} {w0:World} {ops:Array Oper} {rest:List Oper} {E:Env} {loc:List Res} {X:World→Prop} {k:St→Prop} {ty:TypeId} {pos:String} {af:Array Edge} {g:Option (Nat×Bool)} {bb want:Bool}
end
end Sy
end Go.Proofs.YtaolfiikahlmkaaGreatDoor
namespace Go.Proofs.YtaolfiikahlmkaaGreatDoor
open Go Go.Proofs Sy
structure ChS where
 acts:List ActD
 keys:List KeyD
 prev:ByteArray
 gen:Nat
structure OfW where
 L:List ActD
 id:ByteArray
 won:Nat→Option ClaimD
 clm:Int→ClaimD→Bool
 dgC:ClaimD→ByteArray
 ver:Int→ActD→Bool
 B:Nat
def ChS.key (st:ChS):Int:=(st.keys.getD (st.keys.length-1) KeyD.zero).public_
def ChS.ch (st:ChS) (id:ByteArray):ChainD:=⟨id,⟨none,st.acts.length,0⟩,⟨none,0,0⟩,st.prev,(st.gen:Int),false,st.acts⟩
def posB (n:Nat) (p:ByteArray) (a:ActD):Bool:=decide (a.seq=(n:Int))&&seqB a.prev p
def addS (st:ChS) (a:ActD):ChS:=⟨st.acts++[a],bif decide (a.kind=18) then st.keys++[⟨((st.acts.length+1:Nat):Int),a.n,a.m⟩] else st.keys,digV a,st.gen⟩
def setI (l:List ActD):Nat→Option Nat
 | 0=>none
 | n+1=>bif decide ((l.getD n ActD.zero).kind=19) then some n else setI l n
def regS (W:OfW) (st:ChS):Option ChS:=match W.won st.gen with
 | none=>none
 | some c=>bif decide (c.base=(st.acts.length:Int))&&seqB c.prev st.prev then (match setI st.acts st.acts.length with
  | none=>none
  | some i=>bif W.clm (st.acts.getD i ActD.zero).m c then some ⟨st.acts,st.keys++[⟨(st.acts.length:Nat),c.pub,c.home⟩],W.dgC c,st.gen+1⟩ else none) else none
def candB (W:OfW) (st:ChS) (a:ActD):Bool:=fitsV (st.ch W.id) a (idxV st.acts a.object)&&W.ver st.key a
def candL (W:OfW) (st:ChS):List ActD:=(W.L.filter (posB st.acts.length st.prev)).filter (candB W st)
def oneA:List ActD→Option ActD
 | [a]=>some a
 | _=>none
def stepS (W:OfW) (st:ChS):Option ChS:=match regS W st with
 | some s=>some s
 | none=>(oneA (candL W st)).map (addS st)
def runS (W:OfW):Nat→ChS→ChS
 | 0,st=>st
 | n+1,st=>match stepS W st with
  | some s=>runS W n s
  | none=>st
def firstB (W:OfW) (a:ActD):Bool:=decide (a.kind=0)&&seqB (idV a.n) W.id&&W.ver a.n a
def firstL (W:OfW):List ActD:=(W.L.filter (posB 0 ⟨#[]⟩)).filter (firstB W)
def begS (a:ActD):ChS:=addS ⟨[],[⟨0,a.n,a.m⟩],⟨#[]⟩,0⟩ a
def finS (W:OfW) (a:ActD):ChS:=runS W (W.L.length+W.B) (begS a)
structure InvS (W:OfW) (st:ChS):Prop where
 seq:∀ i,i<st.acts.length→∃ a∈W.L,a.seq=(i:Int)
 mem:∀ a∈st.acts,a∈W.L
 one:0<st.acts.length
 key:0<st.keys.length
 keyn:st.keys.length≤st.acts.length+st.gen+1
 gen:st.gen≤W.B
theorem kK:∀ {n:Nat} {l:List Int},(∀ i,i<n→(i:Int)∈l)→n≤l.length
 | 0,l,_=>Z4 _
 | n+1,l,h=>by
  have ih:=kK (n:=n) (l:=l.erase (n:Int)) fun i hi=>(List.mem_erase_of_ne aa).2 (h i aa)
  have hm:=h n (Nat.lt_succ_self n)
  rw [List.length_erase_of_mem hm] at ih
  have:0<l.length:=List.length_pos_of_mem hm
  omega
theorem InvS.len {W:OfW} {st:ChS} (h:InvS W st):st.acts.length≤W.L.length:=by
 have:=kK (n:=st.acts.length) (l:=W.L.map ActD.seq) fun i hi=>by
  obtain ⟨a,ha,e⟩:=h.seq i hi
  exact QI.2 ⟨a,ha,e⟩
 simpa using this
def muS (W:OfW) (st:ChS):Nat:=(W.L.length-st.acts.length)+(W.B-st.gen)
theorem iV {l:List ActD} {a:ActD} (h:oneA l=some a):l=[a]:=by
 cases l with
 | nil=>cases h
 | cons x r =>
  cases r with
  | nil=>rw [oneA,ZM] at h;rw [h]
  | cons y r=>cases h
theorem pt {W:OfW} {st s:ChS} (h:regS W st=some s):∃ c,W.won st.gen=some c∧s.acts=st.acts∧s.gen=st.gen+1∧s.keys.length=st.keys.length+1:=by
 rw [regS] at h
 cases hw:W.won st.gen with
 | none=>rw [hw] at h;cases h
 | some c =>
  rw [hw] at h
  simp only at h
  cases hb:decide (c.base=(st.acts.length:Int))&&seqB c.prev st.prev with
  | false=>rw [hb] at h;cases h
  | true =>
   rw [hb] at h
   cases hs:setI st.acts st.acts.length with
   | none=>rw [hs] at h;cases h
   | some i =>
    rw [hs] at h
    simp only [Zf] at h
    cases hc:W.clm (st.acts.getD i ActD.zero).m c with
    | false=>rw [hc] at h;cases h
    | true =>
     rw [hc,Zf,ZM] at h
     subst h
     exact ⟨c,rfl,rfl,rfl,by simp⟩
theorem km {W:OfW} {st:ChS} {a:ActD} (h:a∈candL W st):a∈W.L∧a.seq=(st.acts.length:Int)∧candB W st a=true:=by
 rw [candL,QM,QM] at h
 have h2:=h.1.2
 simp only [posB,Zp,Zw] at h2
 exact ⟨h.1.1,h2.1,h.2⟩
theorem zi (st:ChS) (a:ActD):st.keys.length≤(addS st a).keys.length∧(addS st a).keys.length≤st.keys.length+1:=by
 simp only [addS]
 cases decide (a.kind=18) with
 | true=>simp
 | false=>simp
theorem jH {W:OfW} (hB:∀ g c,W.won g=some c→g<W.B) {st s:ChS} (h:InvS W st) (hs:stepS W st=some s):InvS W s∧muS W s+1≤muS W st:=by
 have hl:=h.len
 rw [stepS] at hs
 cases hr:regS W st with
 | some s' =>
  rw [hr,ZM] at hs
  subst hs
  obtain ⟨c,h1,h2,h3,h4⟩:=pt hr
  have:=hB _ _ h1
  refine ⟨⟨by rw [h2];exact h.seq,by rw [h2];exact h.mem,by rw [h2];exact h.one,by omega,by rw [h2,h3];have:=h.keyn;omega,by omega⟩,?_⟩
  simp only [muS,h2,h3]
  omega
 | none =>
  rw [hr] at hs
  cases ho:oneA (candL W st) with
  | none=>rw [ho] at hs;cases hs
  | some a =>
   rw [ho,Option.map_some,ZM] at hs
   subst hs
   have ha:a∈candL W st:=by rw [iV ho];exact Z5.2 rfl
   obtain ⟨m1,m2,m3⟩:=km ha
   have hk:=zi st a
   have hal:(addS st a).acts.length=st.acts.length+1:=by simp [addS]
   have hI:InvS W (addS st a):=⟨fun i hi=>by
     rw [hal] at hi
     by_cases e:i=st.acts.length
     · subst e;exact ⟨a,m1,m2⟩
     · exact h.seq i aa,fun x hx=>by
     rcases Qy.1 (show x∈st.acts++[a] from hx) with hx|hx
     · exact h.mem x hx
     · rw [Z5.1 hx];exact m1,by omega,by have:=h.key;omega,by rw [hal];have:=h.keyn;show _≤_+st.gen+1;omega,h.gen⟩
   refine ⟨hI,?_⟩
   have:=hI.len
   simp only [muS,hal] at *
   show _+(W.B-st.gen)+1≤_
   omega
theorem fK {W:OfW} {st:ChS} (h:stepS W st=none):∀ n,runS W n st=st
 | 0=>rfl
 | n+1=>by rw [runS,h]
theorem eK {W:OfW} {st s:ChS} (h:stepS W st=some s) {n:Nat}:runS W (n+1) st=runS W n s:=by rw [runS,h]
theorem ra {W:OfW} {a:ActD} (ha:a∈firstL W):InvS W (begS a)∧muS W (begS a)+1≤W.L.length+W.B:=by
 rw [firstL,QM,QM] at ha
 have h2:=ha.1.2
 simp only [posB,Zp,Zw] at h2
 have h3:=ha.2
 simp only [firstB,Zp,Zw] at h3
 have hk:begS a=⟨[a],[⟨0,a.n,a.m⟩],digV a,0⟩:=by
  rw [begS,addS,h3.1.1]
  rfl
 have hL:0<W.L.length:=List.length_pos_of_mem ha.1.1
 rw [hk]
 refine ⟨⟨fun i hi=>⟨a,ha.1.1,by rw [h2.1,show i=0 from by simpa using hi]⟩,fun x hx=>by rw [Z5.1 hx];exact ha.1.1,by simp,by simp,by simp,Z4 _⟩,?_⟩
 simp only [muS,List.length_singleton]
 omega
end Go.Proofs.YtaolfiikahlmkaaGreatDoor
namespace Go.Proofs.YtaolfiikahlmkaaGreatDoor.Sy
open Go Go.RowKit Go.MapKept
class KeyS (P:Program) (kt:TypeId) (κ:Type) [DecidableEq κ] where
 enc:κ→Value
 inj:∀ a b,enc a=enc b→a=b
 check:∀ (w:World) e a,(Instr.checkKey e 10000 kt (enc a)).run P w=.ok () w
 eq:∀ (w:World) a b,(Op.equal kt (enc a) (enc b)).run P w=.ok (decide (a=b)) w
 ask:∀ d a b,P.underlying kt=some d→Instr.sameNow d (enc a) (enc b)=none
 stay:∀ (w:World) a,(Instr.keyThatStays (enc a) (enc a)).run P w=.ok (enc a) w
section
variable {κ:Type} [DecidableEq κ] {β:Type}
def dget:List (κ×β)→κ→Option β
 | [],_=>none
 | (k',v')::r,k=>bif decide (k=k') then some v' else dget r k
def dput:List (κ×β)→κ→β→List (κ×β)
 | [],k,v=>[(k,v)]
 | (k',v')::r,k,v=>bif decide (k=k') then (k,v)::r else (k',v')::dput r k v
theorem kY:∀ (b:List (κ×β)) (k a:κ) (v:β),dget (dput b k v) a=bif decide (a=k) then some v else dget b a
 | [],k,a,v=>rfl
 | (k',v')::r,k,a,v=>by
  have ih:=kY r k a v
  simp only [dput]
  by_cases hk:k=k'
  · subst hk
    simp only [Zt,Zf,dget]
    cases decide (a=k)<;>rfl
  · simp only [hk,Zr,Ze,dget,ih]
    by_cases ha:a=k'
    · subst ha
      have:¬ a=k:=fun e=>hk e.symm
      simp [this]
    · simp [ha]
theorem tH:∀ {b:List (κ×β)} {k:κ} {v:β},dget b k=some v→(k,v)∈b
 | (k',v')::r,k,v,h=>by
  simp only [dget] at h
  by_cases hk:k=k'
  · simp only [hk,Zt,Zf,ZM] at h
    rw [hk,h]
    exact ax
  · simp only [hk,Zr,Ze] at h
    exact Zv _ (tH h)
end
section
variable {P:Program} {kt:TypeId} {κ:Type} [DecidableEq κ] [K:KeyS P kt κ]
def SMapAt (P:Program) (kt:TypeId) {κ:Type} [DecidableEq κ] [K:KeyS P kt κ] (w:World) (g:Nat) (l:List (κ×Value)):Prop :=
 ∃ es clock,w.heap[g]?=some (.map es clock)∧Stamped es clock∧es.toList.map (fun e=>(e.key,e.val))=l.map fun p=>(K.enc p.1,p.2)
def smapr (P:Program) (kt:TypeId) {κ:Type} [DecidableEq κ] [K:KeyS P kt κ] (g:Nat) (l:List (κ×Value)):Res:=⟨[g],fun w=>SMapAt P kt w g l⟩
theorem kU (w:World) (k:κ):∀ (es:List MapEntry) (l:List (κ×Value)) (i:Nat),es.map (fun e=>(e.key,e.val))=l.map (fun p=>(K.enc p.1,p.2)) →
  ((Instr.findAsking kt (K.enc k) es i).run P w=.ok none w∧dget l k=none∧(∀ v,dput l k v=l++[(k,v)])∧∀ x∈es,x.key≠K.enc k) ∨
  ∃ j e v0,(Instr.findAsking kt (K.enc k) es i).run P w=.ok (some (i+j,v0)) w∧es[j]?=some e∧e.key=K.enc k∧dget l k=some v0∧∀ v,dput l k v=l.set j (k,v)
 | [],l,i,h=>by
  have:l=[]:=by cases l<;>simp_all
  subst this
  exact .inl ⟨rfl,rfl,fun _=>rfl,by simp⟩
 | e::es,[],i,h=>by simp at h
 | e::es,(k',v')::l,i,h=>by
  simp only [Z1,List.cons.injEq,Prod.mk.injEq] at h
  obtain ⟨⟨h1,h2⟩,h3⟩:=h
  have hs:(Op.equal kt (K.enc k) e.key).run P w=.ok (decide (k=k')) w:=by rw [h1];exact K.eq w k k'
  by_cases hb:k=k'
  · subst hb
    exact .inr ⟨0,e,v',by simp [Instr.findAsking,hs,h2,Result.andThen],rfl,h1,by simp [dget],fun v=>by simp [dput]⟩
  · have hne:e.key≠K.enc k:=fun q=>hb (K.inj _ _ (q.symm.trans h1))
    rcases kU w k es l (i+1) h3 with ⟨g1,g2,g3,g4⟩|⟨j,e',v0,g1,g2,g3,g4,g5⟩
    · exact .inl ⟨by simp [Instr.findAsking,hs,hb,g1,Result.andThen],by simp [dget,hb,g2],fun v=>by simp [dput,hb,g3],fun x hx=>by
       cases hx with
       | head=>exact hne
       | tail _ hx=>exact g4 x hx⟩
    · exact .inr ⟨j+1,e',v0,by simp [Instr.findAsking,hs,hb,g1,Result.andThen];omega,by simpa using g2,g3,by simp [dget,hb,g4],fun v=>by simp [dput,hb,g5]⟩
theorem jK {w:World} {d:TypeDesc} (hd:P.underlying kt=some d) (k:κ) {es:List MapEntry} {l:List (κ×Value)} (h:es.map (fun e=>(e.key,e.val))=l.map (fun p=>(K.enc p.1,p.2))) :
  (Instr.findKey kt (K.enc k) es).run P w=(Instr.findAsking kt (K.enc k) es 0).run P w:=by
 cases es with
 | nil=>simp [Instr.findKey,run_underlying hd,Result.andThen,Instr.findNow,Instr.findAsking]
 | cons e es =>
  cases l with
  | nil=>simp at h
  | cons p l =>
   simp only [Z1,List.cons.injEq,Prod.mk.injEq] at h
   have hs:Instr.sameNow d (K.enc k) e.key=none:=by rw [h.1.1];exact K.ask d k p.1 hd
   simp [Instr.findKey,run_underlying hd,Result.andThen,Instr.findNow,hs]
def smapOf (P:Program) (t:TypeId):Option (TypeId×TypeId) :=
 match P.underlying t with
 | some (.map kt et)=>(P.underlying kt).map fun _=>(kt,et)
 | _=>none
class TySMap (P:Program) (t:TypeId) (kt et:outParam Nat):Prop where out:smapOf P t=some (kt,et)
theorem lk {t kt et:TypeId} (h:smapOf P t=some (kt,et)):P.underlying t=some (.map kt et)∧∃ d,P.underlying kt=some d:=by
 unfold smapOf at h
 split at h
 · rename_i kt et' he
   cases hk:P.underlying kt with
   | none=>simp [hk] at h
   | some d' =>
    simp [hk] at h
    obtain ⟨rfl,rfl⟩:=h
    exact ⟨he,_,hk⟩
 · cases h
theorem rR {w:World} {t et:TypeId} {z:Value} (ht:smapOf P t=some (kt,et)) (hz:zeroOf P et=some z) {g:Nat} {l:List (κ×Value)} (h:SMapAt P kt w g l) (k:κ) :
  (Instr.lookup t (.map (some g)) (K.enc k) false).run P w=.ok ((dget l k).getD z) w:=by
 obtain ⟨h1,d,h2⟩:=lk ht
 obtain ⟨es,clock,hb,hs,hl⟩:=h
 have hzr:(zeroValue et).run P w=.ok z w:=dT hz w
 have hf:=jK (w:=w) h2 k hl
 have hc:=K.check w es.isEmpty k
 rcases kU w k es.toList l 0 hl with ⟨g1,g2,g3,g4⟩|⟨j,e,v0,g1,g2,g3,g4,g5⟩
 · rw [g1] at hf
   simp [Instr.lookup,run_underlying h1,MapKept.run_getObj_map hb,hc,hf,hzr,g2,Result.andThen]
 · rw [g1] at hf
   simp [Instr.lookup,run_underlying h1,MapKept.run_getObj_map hb,hc,hf,g4,Result.andThen]
end
section
variable {P:Program} {N:Nat} {av bor:List Nat} {w0:World} {ops:Array Oper} {rest:List Oper} {k:St→Prop} {E:Env} {loc loc':List Res} {X:World→Prop}
variable {d:Option Tmp} {ty:TypeId} {pos:String} {af:Array Edge} {g:Option (Nat×Bool)} {bb want:Bool}
theorem rF (κ:Type) (kt:TypeId) [DecidableEq κ] [KS:KeyS P kt κ] {n:Nat} {t:TypeId} (hg:gdB ops E g=some (bb,want):=by rfl) (hb:bb=want:=by exact am) (hd:Nat.blt n N=true:=by rfl)
  (h:∀ q,Sw P N av bor w0 ops rest ⟨(n,.map (some q))::E,smapr P kt q ([]:List (κ×Value))::loc,X⟩ k):Sw P N av bor w0 ops (⟨some n,.makeMap t none,ty,pos,af,g⟩::rest) ⟨E,loc,X⟩ k:=Sw.mk fun a w ok=>by
 have hd':inB N (some n)=true:=by have h1:n<N:=Zx hd;simpa [inB] using h1
 simp only [wpList]
 rw [bO ok (o:=⟨some n,.makeMap t none,ty,pos,af,g⟩) hg]
 subst hb
 simp only [Zz,ZN]
 left
 unfold Oper.wp
 have hr:(execOp a.eval ⟨some n,.makeMap t none,ty,pos,af,g⟩).run P w=.ok (.value (.map (some w.heap.size))) (w.alloc (.map #[] 0)):=by
  have:(newObj (.map #[] 0)).run P w=.ok w.heap.size (w.alloc (.map #[] 0)):=rfl
  simp [execOp,Instr.makeMap,this]
 rw [hr]
 have ok':Ok N av bor w0 ⟨E,smapr P kt w.heap.size ([]:List (κ×Value))::loc,X⟩ a (w.alloc (.map #[] 0)):=(ok.via fun M G=>G.new (.map #[] 0) (fun w2=>SMapAt P kt w2 w.heap.size ([]:List (κ×Value))) fun w2 h=>⟨#[],0,h,stamped_empty 0,rfl⟩)
 exact (h _).run _ _ (cZ (some n) _▸ok'.put hd' _)
theorem oY {κ:Type} {kt:TypeId} [DecidableEq κ] [KS:KeyS P kt κ] {st:St} {t et:Nat} [ht:TySMap P t kt et] {z:Value} [hz:TyZero P et z] {m x:Operand} {q:Nat} {l:List (κ×Value)} {kk:κ} {o:Option Value} {v:Value} (hm:ev st.env m=some (.map (some q))) (hx:ev st.env x=some (KS.enc kk))
  (hl:∀ w,Gam av bor w0 st.loc st.ext w→SMapAt P kt w q l) (ho:dget l kk=o) (hv:o.getD z=v):Sy.Yields P N av bor w0 st (.lookup t m x false) ty v:=Sy.Yields.mk fun A w ok d pos af g=>by
 have:=rR (P:=P) (t:=t) ht.out hz.out (hl w ok.gam) kk
 subst ho
 subst hv
 simp [execOp,ok.eval hm,ok.eval hx,this]
theorem rM {κ:Type} {kt:TypeId} [DecidableEq κ] [KS:KeyS P kt κ] {q:Nat} {l:List (κ×Value)} (hm:∀ w,X w→SMapAt P kt w q l):∀ w,Gam av bor w0 loc X w→SMapAt P kt w q l:=fun w G=>hm w G.keep.now
end
section
variable {κ:Type} [DecidableEq κ] {β:Type}
theorem kW:∀ (l:List (κ×β)) (k:κ) (u v:β),dput (dput l k u) k v=dput l k v
 | [],k,u,v=>by simp [dput]
 | (k',v')::r,k,u,v=>by
  by_cases h:k=k'
  · subst h;simp [dput]
  · simp [dput,h,kW r k u v]
theorem kX:∀ (l:List (κ×β)) (k:κ) (v:β),dget l k=some v→dput l k v=l
 | [],k,v,h=>by cases h
 | (k',v')::r,k,v,h=>by
  by_cases e:k=k'
  · subst e
    simp only [dget,Zt,Zf,ZM] at h
    simp [dput,h]
  · simp only [dget,e,Zr,Ze] at h
    simp [dput,e,kX r k v h]
end
section
variable {P:Program} {kt:TypeId} {κ:Type} [DecidableEq κ] [K:KeyS P kt κ]
def SMapE (P:Program) (kt:TypeId) {κ:Type} [DecidableEq κ] [K:KeyS P kt κ] (w:World) (g:Nat) (l:List (κ×Value)) (k:κ) (b:Nat):Prop :=
 ∃ es clock j e,w.heap[g]?=some (.map es clock)∧Stamped es clock∧es.toList.map (fun e=>(e.key,e.val))=l.map (fun p=>(K.enc p.1,p.2))∧es[j]?=some e∧e.key=K.enc k∧e.born=b∧∀ v,dput l k v=l.set j (k,v)
def smape (P:Program) (kt:TypeId) {κ:Type} [DecidableEq κ] [K:KeyS P kt κ] (g:Nat) (l:List (κ×Value)) (k:κ) (b:Nat):Res:=⟨[g],fun w=>SMapE P kt w g l k b⟩
theorem oF {w:World} {t et:TypeId} {z:Value} (ht:smapOf P t=some (kt,et)) (hz:zeroOf P et=some z) {g:Nat} {l:List (κ×Value)} (h:SMapAt P kt w g l) (k:κ) :
  ∃ o b,(Instr.mapEntry t (.map (some g)) (K.enc k)).run P w=.ok (.tuple #[(dget l k).getD z,.int .i64 (b:Nat)]) { w with heap:=w.heap.setIfInBounds g o }∧∀ w':World,w'.heap[g]?=some o→SMapE P kt w' g (dput l k ((dget l k).getD z)) k b:=by
 obtain ⟨h1,d,h2⟩:=lk ht
 obtain ⟨es,clock,hb,hs,hl⟩:=h
 have hf:=jK (w:=w) h2 k hl
 have hc:=K.check w false k
 have hzr:(zeroValue et).run P w=.ok z w:=dT hz w
 have hlen:es.size=l.length:=by simpa using congrArg List.length hl
 rcases kU w k es.toList l 0 hl with ⟨g1,g2,g3,g4⟩|⟨j,e,v0,g1,g2,g3,g4,g5⟩
 · rw [g1] at hf
   refine ⟨.map (es.push { key:=K.enc k,val:=z,born:=clock }) (clock+1),clock,?_,fun w' hw=>⟨_,_,es.size,{ key:=K.enc k,val:=z,born:=clock },hw,stamped_push hs g4,?_,by simp,rfl,rfl,fun v=>?_⟩⟩
   · simp [Instr.mapEntry,run_underlying h1,MapKept.run_getObj_map hb,hc,hf,hzr,g2,MapKept.run_setObj_map _ hb,Result.andThen,goInt]
   · rw [g2,Option.getD_none,g3]
     simp [hl]
   · rw [g2,Option.getD_none,kW,g3,g3,hlen]
     simp
 · have hj:es[j]?=some e:=by simpa using g2
   have hst:=K.stay w k
   rw [g1] at hf
   refine ⟨.map (es.modify j fun e=>{ e with key:=K.enc k }) clock,e.born,?_,fun w' hw=>⟨_,_,j,{ e with key:=K.enc k },hw,stamped_modify hs _ _ (fun _ _=>rfl) (fun e' _ he'=>by rw [hj] at he';cases he';exact g3.symm),?_,by simp [QH,hj],rfl,rfl,fun v=>?_⟩⟩
   · simp [Instr.mapEntry,run_underlying h1,MapKept.run_getObj_map hb,hc,hf,hj,g3,g4,hst,MapKept.run_setObj_map _ hb,Result.andThen,goInt]
   · rw [g4,Qe,kX l k v0 g4,←hl]
     apply List.ext_getElem?
     intro q
     simp only [Z7,Qo,QH]
     by_cases e1:j=q
     · subst e1
       simp [hj,g3]
     · simp [e1]
   · rw [g4,Qe,kX l k v0 g4]
     exact g5 v
theorem lV {w:World} {t:TypeId} {g:Nat} {l:List (κ×Value)} {k:κ} {b:Nat} (h:SMapE P kt w g l k b) (v:Value) :
  ∃ o,(Instr.entryStore t (.map (some g)) (.int .i64 (b:Nat)) v).run P w=.ok () { w with heap:=w.heap.setIfInBounds g o }∧∀ w':World,w'.heap[g]?=some o→SMapAt P kt w' g (dput l k v):=by
 obtain ⟨es,clock,j,e,hb,hs,hl,hj,hk,hbn,hset⟩:=h
 have hjl:j<es.size:=(QL.1 hj).1
 have hje:es[j]=e:=(QL.1 hj).2
 have hlen:es.size=l.length:=by simpa using congrArg List.length hl
 have hfi:es.findIdx? (fun e=>(e.born:Int)==(b:Int))=some j:=by
  rw [Array.findIdx?_eq_some_iff_getElem]
  refine ⟨hjl,by rw [hje,hbn];simp,fun q hq hp=>?_⟩
  have hnd:=((stamped_iff es clock).1 hs).2.1
  have hq':es[q].born=e.born:=by rw [hbn];have:=beq_iff_eq.1 hp;omega
  have h1:(es.toList.map (·.born))[q]?=some e.born:=by simp [Z7,Qo,Array.getElem?_eq_getElem (show q<es.size by omega),hq']
  have h2:(es.toList.map (·.born))[j]?=some e.born:=by simp [Z7,Qo,hj]
  have:=(List.getElem?_inj (by simp;omega) hnd).1 (h1.trans h2.symm)
  omega
 refine ⟨.map (es.modify j fun e=>{ e with val:=v }) clock,?_,fun w' hw=>⟨_,_,hw,stamped_modify hs _ _ (fun _ _=>rfl) (fun e' _ he'=>rfl),?_⟩⟩
 · have ha:(asIntOf (Value.int IntKind.i64 (b:Nat))).run P w=.ok (.i64,((b:Nat):Int)) w:=rfl
   simp [Instr.entryStore,MapKept.run_getObj_map hb,asInt,ha,hfi,MapKept.run_setObj_map _ hb,Result.andThen]
 · rw [hset]
   apply List.ext_getElem?
   intro q
   have hq:=congrArg (fun l=>l[q]?) hl
   simp only [Z7,Qo] at hq
   simp only [Z7,Qo,QH,List.getElem?_set]
   by_cases e1:j=q
   · subst e1
     simp [hj,show j<l.length by omega,hk]
   · simp [e1,hq]
end
section
variable {P:Program} {N:Nat} {av bor:List Nat} {w0:World} {ops:Array Oper} {rest:List Oper} {k:St→Prop} {E:Env} {loc loc':List Res} {X:World→Prop}
variable {d:Option Tmp} {ty:TypeId} {pos:String} {af:Array Edge} {g:Option (Nat×Bool)} {bb want:Bool}
theorem jF {lo:Nat→List Res} {κ:Type} {kt:TypeId} [DecidableEq κ] [KS:KeyS P kt κ] {n:Nat} {t et:Nat} [ht:TySMap P t kt et] {z:Value} [hz:TyZero P et z] {m x:Operand} {q:Nat} {l:List (κ×Value)} {kk:κ} {o:Option Value} {u:Value} (hm:ev E m=some (.map (some q)):=by rfl) (hx:ev E x=some (KS.enc kk):=by rfl) (ho:dget l kk=o) (hu:o.getD z=u:=by rfl)
  (hA:∀ b,At (smapr P kt q l) (smape P kt q (dput l kk u) kk b) loc (lo b)) (hg:gdB ops E g=some (bb,want):=by rfl) (hb:bb=want:=by exact am) (hd:Nat.blt n N=true:=by rfl)
  (h:∀ b:Nat,Sw P N av bor w0 ops rest ⟨(n,.tuple #[u,.int .i64 (b:Nat)])::E,lo b,X⟩ k):Sw P N av bor w0 ops (⟨some n,.mapEntry t m x,ty,pos,af,g⟩::rest) ⟨E,loc,X⟩ k:=Sw.mk fun a w ok=>by
 have hd':inB N (some n)=true:=by have h1:n<N:=Zx hd;simpa [inB] using h1
 subst ho
 subst hu
 simp only [wpList]
 rw [bO ok (o:=⟨some n,.mapEntry t m x,ty,pos,af,g⟩) hg]
 subst hb
 simp only [Zz,ZN]
 left
 unfold Oper.wp
 have hmp:SMapAt P kt w q l:=(ok.gam.here _ (hA 0).mem).now
 obtain ⟨o,b,hr,ho⟩:=oF ht.out hz.out hmp kk
 obtain ⟨es,c,hbk,_⟩:=hmp
 have hs:=heap_set (o':=o) hbk
 have ok':Ok N av bor w0 ⟨E,lo b,X⟩ a { w with heap:=w.heap.setIfInBounds q o }:=ok.via fun M G=>G.turn ((hA b).app M) rfl rfl rfl (by simp) (fun i hi=>hs.2 i hi) fun w2 h2=>ho w2 (h2.trans hs.1)
 have hr':(execOp a.eval ⟨some n,.mapEntry t m x,ty,pos,af,g⟩).run P w=.ok (.value (.tuple #[(dget l kk).getD z,.int .i64 (b:Nat)])) { w with heap:=w.heap.setIfInBounds q o }:=by
  simp [execOp,ok.eval (st:=⟨E,loc,X⟩) hm,ok.eval (st:=⟨E,loc,X⟩) hx,hr]
 rw [hr']
 exact (h b).run _ _ (cZ (some n) _▸ok'.put hd' _)
theorem ni {κ:Type} {kt:TypeId} [DecidableEq κ] [KS:KeyS P kt κ] {t:Nat} {m x y:Operand} {q:Nat} {l:List (κ×Value)} {kk:κ} {b:Nat} {v:Value} (hm:ev E m=some (.map (some q)):=by rfl) (hx:ev E x=some (.int .i64 (b:Nat)):=by rfl) (hy:ev E y=some v:=by rfl)
  (hA:At (smape P kt q l kk b) (smapr P kt q (dput l kk v)) loc loc':=by (repeat (first|exact At.here _|apply At.there))) (hg:gdB ops E g=some (bb,want):=by rfl) (hb:bb=want:=by exact am) (hd:inB N d=true:=by rfl)
  (h:Sw P N av bor w0 ops rest ⟨putE E d undef,loc',X⟩ k):Sw P N av bor w0 ops (⟨d,.entryStore t m x y,ty,pos,af,g⟩::rest) ⟨E,loc,X⟩ k:=Sw.mk fun a w ok=>by
 simp only [wpList]
 rw [bO ok (o:=⟨d,.entryStore t m x y,ty,pos,af,g⟩) hg]
 subst hb
 simp only [Zz,ZN]
 left
 unfold Oper.wp
 have hmp:SMapE P kt w q l kk b:=(ok.gam.here _ hA.mem).now
 obtain ⟨o,hr,ho⟩:=lV (t:=t) hmp v
 obtain ⟨es,c,j,e,hbk,_⟩:=hmp
 have hs:=heap_set (o':=o) hbk
 have ok':Ok N av bor w0 ⟨E,loc',X⟩ a { w with heap:=w.heap.setIfInBounds q o }:=ok.via fun M G=>G.turn (hA.app M) rfl rfl rfl (by simp) (fun i hi=>hs.2 i hi) fun w2 h2=>ho w2 (h2.trans hs.1)
 have hr':(execOp a.eval ⟨d,.entryStore t m x y,ty,pos,af,g⟩).run P w=.ok .skip { w with heap:=w.heap.setIfInBounds q o }:=by
  simp [execOp,ok.eval (st:=⟨E,loc,X⟩) hm,ok.eval (st:=⟨E,loc,X⟩) hx,ok.eval (st:=⟨E,loc,X⟩) hy,hr]
 rw [hr']
 exact h.run _ _ (cZ d _▸ok'.put hd _)
end
end Go.Proofs.YtaolfiikahlmkaaGreatDoor.Sy
namespace Go.Proofs.YtaolfiikahlmkaaGreatDoor
open Go Go.Proofs Sy
abbrev PosK:=Int×ByteArray
def posV (k:PosK):Value:=.agg #[.int .i64 k.1,.string k.2]
theorem nv (w:World) {cs:Array Value} {off:Nat} {v:Value} (h:cs[off]?=some v):(part 9 cs off).run Tryz.prog w=.ok v w:=by
 simp [part,isAgg,run_underlying Tryz.underlying9,h]
theorem Cm (w:World) (d:Nat) (a b:ByteArray):(Op.equalIn (d+1) 9 (.string a) (.string b)).run Tryz.prog w=.ok (seqB a b) w:=by
 rw [run_equalIn_string w d _ a b Tryz.underlying9]
 rfl
theorem yb (w:World) (d:Nat) (a b:PosK):(Op.equalIn (d+2) 129 (posV a) (posV b)).run Tryz.prog w=.ok (decide (a=b)) w:=by
 have p0:∀ x:PosK,(part 3 #[.int .i64 x.1,.string x.2] 0).run Tryz.prog w=.ok (.int .i64 x.1) w:=fun x=>gN w rfl
 have p1:∀ x:PosK,(part 9 #[.int .i64 x.1,.string x.2] 1).run Tryz.prog w=.ok (.string x.2) w:=fun x=>nv w rfl
 unfold posV
 rw [run_equalIn_agg _ _ _ _ _ ae ae]
 simp only [Program.fieldsOf,Tryz.underlying129]
 simp [Op.eqFields,p0,p1,tE,Cm]
 obtain ⟨a1,a2⟩:=a
 obtain ⟨b1,b2⟩:=b
 by_cases h1:a1=b1<;>cases h2:seqB a2 b2<;>simp [h1,h2]
 · exact fun e=>by rw [e,cW] at h2;cases h2
 · exact seqB_iff.1 h2
instance posK:KeyS Tryz.prog 129 PosK where
 enc:=posV
 inj:=by
  rintro ⟨a,b⟩ ⟨c,d⟩ h
  simp [posV] at h
  simp [h]
 check:=by
  intro w e a
  have c0:(Instr.checkKey e 9999 3 (.int .i64 a.1)).run Tryz.prog w=.ok () w:=MapKept.run_checkKey (k:=.int .i64 a.1) Tryz.underlying3 (show IntKind.i64=IntKind.i64 from rfl) e 9998
  have c1:(Instr.checkKey e 9999 9 (.string a.2)).run Tryz.prog w=.ok () w:=MapKept.run_checkKey (k:=.string a.2) Tryz.underlying9 (show True from trivial) e 9998
  have p0:(part 3 #[.int .i64 a.1,.string a.2] 0).run Tryz.prog w=.ok (.int .i64 a.1) w:=gN w rfl
  have p1:(part 9 #[.int .i64 a.1,.string a.2] 1).run Tryz.prog w=.ok (.string a.2) w:=nv w rfl
  unfold posV Instr.checkKey
  simp [run_underlying Tryz.underlying129,Result.andThen,p0,p1,c0,c1]
 eq:=by
  intro w a b
  exact yb w 9998 a b
 ask:=by
  intro d a b h
  rw [Tryz.underlying129] at h
  cases h
  rfl
 stay:=by
  intro w a
  have hb:Instr.sameBits (9999+1) (posV a) (posV a)=true:=by simp [posV,Instr.sameBits,MapKept.bytes_beq]
  show (Instr.keyThatStays (posV a) (posV a)).run Tryz.prog w=.ok (posV a) w
  simp [Instr.keyThatStays,hb]
instance:TySMap Tryz.prog 123 129 32:=⟨ae⟩
structure PostD where
 id:ByteArray
 author:ByteArray
 pos:Nat
 kind:Int
 scope:Int
 group:ByteArray
 to:SlV
 object:ByteArray
 time:Int
 ed:SlV
 gone:Bool
 toL:List ByteArray
 edL:List Int
def PostD.cells (p:PostD):List Value:=[.string p.id,.string p.author,.int .i64 (p.pos:Nat),.int .i64 p.kind,.int .i64 p.scope,.string p.group,p.to.v,.string p.object,.int .i64 p.time,p.ed.v,.bool p.gone]
def PostD.v (p:PostD):Value:=.agg p.cells.toArray
def PostD.zero:PostD:=⟨⟨#[]⟩,⟨#[]⟩,0,0,0,⟨#[]⟩,⟨none,0,0⟩,⟨#[]⟩,0,⟨none,0,0⟩,false,[],[]⟩
def PostD.can (p:PostD):PostD:={ p with to:=⟨none,0,0⟩,ed:=⟨none,0,0⟩ }
def newP (id:ByteArray) (i:Nat) (a:ActD):PostD:=⟨digV a,id,i,a.kind,a.scope,a.group,⟨none,0,0⟩,a.object,a.time,⟨none,0,0⟩,false,a.toL,[]⟩
def openF (c:ChainD):Nat→List PostD
 | 0=>[]
 | i+1=>openF c i++(bif postK (c.actsL.getD i ActD.zero).kind then [newP c.id i (c.actsL.getD i ActD.zero)] else [])
def posP (P:List PostD) (j:Nat):Option Nat:=P.findIdx? fun p=>p.pos==j
def refV (l:List ActD) (P:List PostD) (i:Nat):Option Nat:=match idxV l (l.getD i ActD.zero).object with
 | some j=>bif decide (j<i) then posP P j else none
 | none=>none
def goneP (p:PostD):PostD:={ p with gone:=true }
def editB (a:ActD) (p:PostD):Bool:=!p.gone&&decide (a.scope=p.scope)&&seqB a.group p.group&&eqL a.toL p.toL
def editP (a:ActD) (i:Nat) (p:PostD):PostD:=bif editB a p then { p with edL:=p.edL++[(i:Int)] } else p
def modP (P:List PostD) (o:Option Nat) (f:PostD→PostD):List PostD:=match o with
 | some n=>P.set n (f (P.getD n PostD.zero))
 | none=>P
def stepP (l:List ActD) (i:Nat) (P:List PostD):List PostD :=
 bif decide ((l.getD i ActD.zero).kind=13) then modP P (refV l P i) goneP else bif decide ((l.getD i ActD.zero).kind=14) then modP P (refV l P i) (editP (l.getD i ActD.zero) i) else P
def ofP (c:ChainD):Nat→List PostD
 | 0=>openF c c.actsL.length
 | i+1=>stepP c.actsL i (ofP c i)
def postsV (c:ChainD):List PostD:=ofP c c.actsL.length
theorem nN {κ β:Type} [KeyT κ]:∀ (b:List (κ×β)) (k a:κ) (v:β),mget (mput b k v) a=bif KeyT.eqb a k then some v else mget b a
 | [],k,a,v=>rfl
 | (k',v')::r,k,a,v=>by
  have ih:=nN r k a v
  simp only [mput]
  cases hk:KeyT.eqb k k' with
  | true =>
   obtain rfl:=(KeyT.eqb_iff k k').1 hk
   simp only [Zf,mget]
   cases KeyT.eqb a k<;>rfl
  | false =>
   simp only [Ze,mget,ih]
   cases ha:KeyT.eqb a k' with
   | true =>
    obtain rfl:=(KeyT.eqb_iff a k').1 ha
    have hne:KeyT.eqb a k=false:=by
     rw [←ZE]
     intro e
     rw [(KeyT.eqb_iff a k).1 e,(KeyT.eqb_iff k k).2 rfl] at hk
     cases hk
    rw [hne]
    rfl
   | false=>rfl
end Go.Proofs.YtaolfiikahlmkaaGreatDoor
namespace Go.Proofs.YtaolfiikahlmkaaGreatDoor
open Go Go.Proofs Sy
abbrev postR (s:SlV) (P:List PostD):Res:=orow 68 11 (.slice s.p s.n s.c) s.n (P.map PostD.cells).flatten
namespace Sy
section
variable {N:Nat} {av bor:List Nat} {w0:World} {st:St} {ty:TypeId} {x y:Operand} {E:Env} {loc:List Res} {X:World→Prop} {ops:Array Oper} {kk:St→Prop} {pos:String} {af:Array Edge} {g:Option (Nat×Bool)} {rest:List Oper} {bb want:Bool}
variable {n:Nat} {t t2:TypeId}
end
end Sy
structure PermI (P:List PostD) (n:Nat) where
 k:Nat
 hk:k≤n
 Q:List PostD
 hQ:Q.Perm P
section
variable {N:Nat} {av bor:List Nat} {w0:World} {ops:Array Oper} {rest:List Oper} {k:St→Prop} {E:Env} {X:World→Prop} {d:Option Tmp} {ty:TypeId} {pos:String} {af:Array Edge} {g:Option (Nat×Bool)} {bb want:Bool}
end
structure RotI (P:List PostD) (p q:Nat) where
 i:Nat
 j:Nat
 h1:1≤i
 h2:i≤p
 h3:1≤j
 h4:j≤q
 Q:List PostD
 hQ:Q.Perm P
end Go.Proofs.YtaolfiikahlmkaaGreatDoor
namespace Go.Proofs.YtaolfiikahlmkaaGreatDoor
open Go Go.Proofs Sy
namespace Sy
section
variable {N:Nat} {av bor:List Nat} {w0:World} {st:St} {ty:TypeId} {x y:Operand} {E:Env} {loc:List Res} {X:World→Prop} {ops:Array Oper} {kk:St→Prop} {pos:String} {af:Array Edge} {g:Option (Nat×Bool)} {rest:List Oper} {bb want:Bool} {t:TypeId}
end
end Sy
instance:TyMap Tryz.prog 124 3 (keyD ByteArray):=⟨ae⟩
structure RegI (c:ChainD) where
 k:Nat
 hk:k≤c.actsL.length
 P:List PostD
 hP:P.map PostD.can=openF c k
 hz:∀ p∈P,p.ed=⟨none,0,0⟩∧p.edL=[]
 pl:List (ByteArray×Value)
 hpl:∀ d,mget pl d=(idxV (c.actsL.take k) d).map fun (j:Nat)=>Value.int .i64 (j:Int)
 num:List (Int×Value)
 hnum:∀ j:Nat,mget num (j:Int)=(posP P j).map fun (n:Nat)=>Value.int .i64 (n:Int)
 n:Nat
 hn:n=P.length
 xs:List Value
 hxs:xs=(P.map PostD.cells).flatten
 A:Option Addr
 cp:Nat
end Go.Proofs.YtaolfiikahlmkaaGreatDoor
