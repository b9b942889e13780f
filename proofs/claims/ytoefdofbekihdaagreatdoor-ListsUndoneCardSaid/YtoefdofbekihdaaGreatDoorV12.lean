/- Joined by program out of: Od Zo Zz Oe Of Og Yh Yi Yj Yo Yp S1 S2 Kq Ld Lk. -/
import Derived.Test.YtoefdofbekihdaaGreatDoorV11
import Derived.Laws.StructEq
set_option linter.unusedVariables false
set_option linter.unusedSimpArgs false
set_option maxHeartbeats 16000000
namespace Go.Proofs.YtoefdofbekihdaaGreatDoor
open Go Go.Proofs Sy Go.Shelf
namespace Rf4
theorem ti (s:ByteArray) (hs:s.size≤1099511627776):Pu Tryz.prog 150 #[.string s] (fun _=>True) (.int .i64 (numN (nl (shaV s)):Nat)):=by
 refine ak (args:=[_]) _ Tryz.func150 rfl Tryz.ntmps150 rfl fun av bor w0=>?_
 repeat' (first|refine ab (hc:=od _ hs) ?_|refine ab (hc:=rk _) ?_|refine gs ?_|(refine gp ?_ ?_<;>intro hx_ this)|fail)
 exact ad (ag rfl rfl) rfl
theorem tp (r p:Nat) (msg:ByteArray) (hr:r<9223372036854775808) (hp:p<9223372036854775808) (hm:msg.size≤1000000000000) :
  Pu Tryz.prog 83 #[.int .i64 (r:Int),.int .i64 (p:Int),.string msg] (fun _=>True) (.int .i64 (chalN r p msg:Nat)):=by
 refine ak (args:=[_,_,_]) _ Tryz.func83 rfl Tryz.ntmps83 rfl fun av bor w0=>?_
 have h1:=ay ⟨#[115,105,103,110]⟩
 have h2:=ao (r:Int)
 have h3:=ao (p:Int)
 have h4:=ay msg
 have h5:(⟨#[115,105,103,110]⟩:ByteArray).size=4:=rfl
 have ec:catB (chalP r p msg)=textV ⟨#[115,105,103,110]⟩++numV (r:Int)++numV (p:Int)++textV msg:=by
  show textV ⟨#[115,105,103,110]⟩++(numV (r:Int)++(numV (p:Int)++(textV msg++ByteArray.empty)))=_
  rw [ByteArray.append_empty,ZV,ZV]
 have hsz:(catB (chalP r p msg)).size≤1099511627776:=by
  rw [ec]
  simp only [Zl]
  omega
 have ch:=ti (catB (chalP r p msg)) hsz
 have c1:=cW ⟨#[115,105,103,110]⟩ (by decide)
 rw [ec] at ch
 have hrm:Eqq (((numN (nl (shaV (textV ⟨#[115,105,103,110]⟩++numV (r:Int)++numV (p:Int)++textV msg))):Nat):Int).tmod 2305843009213693950) ((chalN r p msg:Nat):Int):=by
  rw [chalN,hashN,ec]
  exact iX _ 2305843009213693950
 repeat' (first|refine mc (hb:=by ((try simp only [Zl]);omega)) ?_|refine eZ (hb:=by decide) (hc:=hrm) ?_|(refine ab (hc:=c1) (hX:=fun _ _=>trivial) ?_)|refine ab (hc:=cW _ aa) ?_|refine ab (hc:=cj _ aa) ?_|(refine ab (hc:=ch) (hX:=fun _ _=>trivial) ?_)|refine gs ?_|(refine gp ?_ ?_<;>intro hx_ this)|fail)
 all_goals first
  | exact ad (ag rfl rfl) rfl
section
variable {P:Program} {N:Nat} {av bor:List Nat} {w0:World} {st:St} {ty:TypeId} {x y:Operand} {t t2:TypeId}
theorem y_subM [hI:TyInt P t .i64] {p q:Nat} (hx:ev st.env x=some (.int .i64 (p:Nat))) (hy:ev st.env y=some (.int .i64 (q:Nat))) (hq:q≤p∧p<9223372036854775808):Sy.Yields P N av bor w0 st (.binOp .sub t x y t2) ty (.int .i64 ((p-q:Nat):Int)) :=
 nE hx hy (by rw [show (p:Int)-(q:Int)=((p-q:Nat):Int) by omega];exact IntWalk.i64_in _ aa)
end
theorem pt (p e s:Nat) (he:e≤2305843009213693950) (hs:s≤2305843009213693950) :
  Pu Tryz.prog 84 #[.int .i64 (p:Int),SgD.v ⟨(e:Int),(s:Int)⟩] (fun _=>True) (.int .i64 ((expV 37 s*expV p (2305843009213693950-e)%2305843009213693951:Nat):Int)):=by
 refine ak (args:=[_,_]) _ Tryz.func84 rfl Tryz.ntmps84 rfl fun av bor w0=>?_
 have c1:=mt 37 s aa
 have c2:=mt p (2305843009213693950-e) aa
 have c3:=jR (expV 37 s) (expV p (2305843009213693950-e))
 repeat' (first|refine gs ?_|refine gs1 fun _=>?_|(refine gp ?_ ?_<;>intro hx_ this)|fail)
 (refine aS ⟨[0,1,3,4,5,6],[(2,⟨[],[(7,⟨[],[(8,⟨[9],[]⟩)]⟩)]⟩)]⟩ (h:=?_))
 all_goals repeat' (first|refine ax (hy:=by first|(apply y_subM (p:=2305843009213693950);rfl;rfl;omega)) ?_|(refine ab (hc:=c1) (hX:=fun _ _=>trivial) ?_)|(refine ab (hc:=c2) (hX:=fun _ _=>trivial) ?_)|(refine ab (hc:=c3) (hX:=fun _ _=>trivial) ?_)|refine gd ?_|refine az ?_ (h':=?_)|exact aA|refine gs1 fun _=>?_|(refine gq ?_ ?_<;>intro hx_ this)|fail)
 all_goals
  repeat' (first|refine gs ?_|refine gs1 fun _=>?_|(refine gp ?_ ?_<;>intro hx_ this)|fail)
  exact ad (ag rfl rfl) rfl
def ranB (p e s:Int):Bool:=!(decide (p<1)||decide (2305843009213693951≤p)||!ordV e||!ordV s)
theorem tu {p e s:Int}:ranB p e s=(decide (1≤p)&&(decide (p<2305843009213693951)&&(decide (0≤e)&&(decide (e<2305843009213693950)&&(decide (0≤s)&&decide (s<2305843009213693950)))))):=by
 rw [ranB,ordV,ordV]
 have e1:decide (p<1)=!decide (1≤p):=by by_cases h:1≤p<;>simp [h]<;>omega
 have e2:decide (2305843009213693951≤p)=!decide (p<2305843009213693951):=by by_cases h:p<2305843009213693951<;>simp [h]<;>omega
 rw [e1,e2]
 cases decide (1≤p)<;>cases decide (p<2305843009213693951)<;>cases decide (0≤e)<;>cases decide (e<2305843009213693950)<;>cases decide (0≤s)<;>cases decide (s<2305843009213693950)<;>rfl
theorem po (p e s:Int):Pu Tryz.prog 82 #[.int .i64 p,SgD.v ⟨e,s⟩] (fun _=>True) (.bool (ranB p e s)):=by
 refine ak (args:=[_,_]) _ Tryz.func82 rfl Tryz.ntmps82 rfl fun av bor w0=>?_
 rw [tu]
 repeat' (first|refine gs ?_|refine gs1 fun _=>?_|(refine gp ?_ ?_<;>intro hx_ this)|fail)
 all_goals refine ad (ag rfl rfl) ?_
 all_goals simp_all
 all_goals (intros;omega)
theorem refVerify_pu (p:Int) (msg:ByteArray) (e s:Int) (hm:msg.size≤1000000000000):Pu Tryz.prog 45 #[.int .i64 p,.string msg,SgD.v ⟨e,s⟩] (fun _=>True) (.bool (verN p msg e s)):=by
 refine ak (args:=[_,_,_]) _ Tryz.func45 rfl Tryz.ntmps45 rfl fun av bor w0=>?_
 have hrg:=po p e s
 cases hbad:(decide (p<1)||decide (2305843009213693951≤p)||!ordV e||!ordV s) with
 | true =>
  rw [show ranB p e s=false from by rw [ranB,hbad];rfl] at hrg
  rw [show verN p msg e s=false from by rw [verN,hbad];rfl]
  repeat' (first|(refine ab (hc:=hrg) (hX:=fun _ _=>trivial) ?_)|refine gs ?_|refine gs1 fun _=>?_|(refine gp ?_ ?_<;>intro hx_ this)|fail)
  exact ad (ag rfl rfl) rfl
 | false =>
  have hb:=hbad
  simp only [Bool.or_eq_false_iff,decide_eq_false_iff_not,Bool.not_eq_false'] at hb
  obtain ⟨⟨⟨h1,h2⟩,h3⟩,h4⟩:=hb
  simp only [ordV,ZM,ZT] at h3 h4
  rw [show ranB p e s=true from by rw [ranB,hbad];rfl] at hrg
  obtain ⟨pn,rfl⟩:∃ n:Nat,p=(n:Int):=⟨p.toNat,by omega⟩
  obtain ⟨en,rfl⟩:∃ n:Nat,e=(n:Int):=⟨e.toNat,by omega⟩
  obtain ⟨sn,rfl⟩:∃ n:Nat,s=(n:Int):=⟨s.toNat,by omega⟩
  have c1:=pt pn en sn aa aa
  obtain ⟨r,hr⟩:∃ r,expV 37 sn*expV pn (2305843009213693950-en)%2305843009213693951=r:=⟨_,rfl⟩
  have hrl:r<2305843009213693951:=by rw [←hr];exact Nat.mod_lt _ (by decide)
  have hV:verN (pn:Int) msg (en:Int) (sn:Int)=decide (((en:Nat):Int)=(chalN r pn msg:Nat)):=by
   rw [verN,hbad,ZB,Qt,Qt,Qt,hr]
  rw [hr] at c1
  rw [hV,show decide (((en:Nat):Int)=(chalN r pn msg:Nat))=decide (((chalN r pn msg:Nat):Int)=(en:Nat)) from by by_cases h:((en:Nat):Int)=(chalN r pn msg:Nat)<;>simp [h,eq_comm]]
  have c2:=tp r pn msg aa aa hm
  clear hbad hV hr
  generalize chalN r pn msg=cn at *
  repeat' (first|(refine ab (hc:=hrg) (hX:=fun _ _=>trivial) ?_)|refine gs ?_|refine gs1 fun _=>?_|(refine gp ?_ ?_<;>intro hx_ this)|fail)
  (refine aS ⟨[0,1,3,4,6,7],[(2,⟨[],[(5,⟨[8,9],[]⟩)]⟩)]⟩ (h:=?_))
  all_goals repeat' (first|(refine ab (hc:=c1) (hX:=fun _ _=>trivial) ?_)|(refine ab (hc:=c2) (hX:=fun _ _=>trivial) ?_)|refine gd ?_|refine az ?_ (h':=?_)|exact aA|refine gs1 fun _=>?_|(refine gq ?_ ?_<;>intro hx_ this)|fail)
  all_goals
   repeat' (first|refine gs ?_|refine gs1 fun _=>?_|(refine gp ?_ ?_<;>intro hx_ this)|fail)
   exact ad (ag rfl rfl) rfl
end Rf4
end Go.Proofs.YtoefdofbekihdaaGreatDoor
set_option maxHeartbeats 16000000
namespace Go.Proofs.YtoefdofbekihdaaGreatDoor
open Go Go.Proofs Sy
theorem ta (a:ActD):sameZ a=actZ a:=by
 rw [sameZ,actZ]
 simp only [ActD.zero,ZE]
 cases decide ((a.to.n:Int)=0)<;>cases decide ((a.wraps.n:Int)=0)<;>(simp [Bool.and_comm,Bool.and_left_comm,Bool.and_assoc];try rfl)
set_option maxRecDepth 20000 in
set_option maxHeartbeats 8000000 in
theorem tk (d:DecD):Pu Tryz.prog 77 #[d.v,DecD.zero.v] (fun _=>True) (.bool (decZ d)):=by
 refine ak (args:=[_,_]) _ Tryz.func77 rfl Tryz.ntmps77 rfl fun av bor w0=>?_
 repeat' (first|refine gs ?_|refine gs1 fun _=>?_|(refine gp ?_ ?_<;>intro hx_ this)|fail)
 · refine ad (ag rfl rfl) ?_
   have h0:DecD.zero.to.n=0:=rfl
   rw [h0] at hx_
   simp_all [decZ]
 rename_i b1 b2
 have n1:d.to.n=0:=by
  have h0:DecD.zero.to.n=0:=rfl
  rw [h0] at hx_
  simpa using hx_
 refine ap (ι:=Unit) (fun _=>⟨[(2,.pointer (some ⟨b1,0,none⟩)),(3,.pointer (some ⟨b2,0,none⟩)),(5,.int .i64 0)],[cel b2 61 DecD.zero.cells,cel b1 61 d.cells],fun _=>True⟩) (fun _=>0) () (aj ⟨rfl,rfl,rfl,trivial⟩ (al _) fun _ h=>h) fun _=>?_
 repeat' (first|refine gs ?_|refine gs1 fun _=>?_|(refine jJ (a:=d.e) (b:=d.s) (c:=0) (e:=0) ?_)|(refine aw ?_)|(refine aw (vs:=[.int .i64 d.e,.int .i64 d.s]) (hv:=rfl) ?_)|(refine aw (vs:=[.int .i64 0,.int .i64 0]) (hv:=rfl) ?_)|(refine gp ?_ ?_<;>intro hx_ this)|fail)
 · exact absurd this (by rw [n1];decide)
 all_goals (
  refine ad (ag rfl rfl) ?_
  have q1:decide ((d.to.n:Int)=0)=true:=by rw [n1];rfl
  rw [decZ,q1]
  clear q1 n1
  first
   | rfl
   | (simp_all only [ZD,ZG,ZH,ZQ,ZO,ZE];done)
   | (simp_all;done)
   | skip)
 all_goals simp_all [DecD.zero]
theorem xY:actZ ActD.zero=true:=by decide +kernel
theorem pU:claimEq ClaimD.zero ClaimD.zero=true:=by decide +kernel
theorem nD:ballotEq BallotD.zero BallotD.zero=true:=by decide +kernel
theorem xK:decZ DecD.zero=true:=by decide +kernel
set_option maxRecDepth 20000 in
set_option maxHeartbeats 16000000 in
theorem iY (i:ItemD) (hs:i.Str):Pu Tryz.prog 44 #[i.v] (fun w=>i.at_ w) (.bool (rightIt i)):=by
 refine ak (args:=[_]) _ Tryz.func44 rfl Tryz.ntmps44 rfl fun av bor w0=>?_
 have c1:=te i.act
 rw [ta] at c1
 have c2:=kq i.act hs.act
 have c3:=tk i.dec
 have c4:=ny i.claim hs.claim
 have c5:=ri i.ballot hs.ballot
 have c6:=nw i.dec hs.dec
 by_cases h0:i.kind=0
 · have e:rightIt i=(rightB i.act&&(claimEq i.claim ClaimD.zero&&(ballotEq i.ballot BallotD.zero&&decZ i.dec))):=by simp [rightIt,rightK2,restI,sameIZ,h0,xY]
   rw [e]
   repeat' (first|refine aE (hab:=by omega) ?_|refine aD (hab:=by omega) ?_|(refine ab (hc:=c1) (hX:=fun _ _=>trivial) ?_)|(refine ab (hc:=c2) (hX:=fun w h=>h.1) ?_)|(refine ab (hc:=c3) (hX:=fun _ _=>trivial) ?_)|(refine ab (hc:=c4) (hX:=fun _ _=>trivial) ?_)|(refine ab (hc:=c5) (hX:=fun _ _=>trivial) ?_)|(refine ab (hc:=c6) (hX:=fun w h=>h.2) ?_)|refine gs ?_|refine gs1 fun _=>?_|(refine eK (a:=i.claim) (b:=ClaimD.zero) ?_)|(refine er (a:=i.ballot) (b:=BallotD.zero) ?_)|(refine aC (cs:=ActD.zero.cells) (hf:=by rfl) ?_)|(refine aC (cs:=ClaimD.zero.cells) (hf:=by rfl) ?_)|(refine aC (cs:=BallotD.zero.cells) (hf:=by rfl) ?_)|(refine aC (cs:=DecD.zero.cells) (hf:=by rfl) ?_)|(refine aw (vs:=i.act.cells) (hv:=rfl) ?_)|(refine aw (vs:=i.claim.cells) (hv:=rfl) ?_)|(refine aw (vs:=i.ballot.cells) (hv:=rfl) ?_)|(refine aw (vs:=i.dec.cells) (hv:=rfl) ?_)|(refine gp ?_ ?_<;>intro hx_ this)|fail)
   all_goals first
    | exact ad (ag rfl rfl) rfl
    | (refine ad (ag rfl rfl) ?_;simp_all;done)
 by_cases h1:i.kind=1
 · have e:rightIt i=(claimR i.claim&&(actZ i.act&&(ballotEq i.ballot BallotD.zero&&decZ i.dec))):=by simp [rightIt,rightK2,restI,sameIZ,h1,pU]
   rw [e]
   repeat' (first|refine aE (hab:=by omega) ?_|refine aD (hab:=by omega) ?_|(refine ab (hc:=c1) (hX:=fun _ _=>trivial) ?_)|(refine ab (hc:=c2) (hX:=fun w h=>h.1) ?_)|(refine ab (hc:=c3) (hX:=fun _ _=>trivial) ?_)|(refine ab (hc:=c4) (hX:=fun _ _=>trivial) ?_)|(refine ab (hc:=c5) (hX:=fun _ _=>trivial) ?_)|(refine ab (hc:=c6) (hX:=fun w h=>h.2) ?_)|refine gs ?_|refine gs1 fun _=>?_|(refine eK (a:=i.claim) (b:=ClaimD.zero) ?_)|(refine er (a:=i.ballot) (b:=BallotD.zero) ?_)|(refine aC (cs:=ActD.zero.cells) (hf:=by rfl) ?_)|(refine aC (cs:=ClaimD.zero.cells) (hf:=by rfl) ?_)|(refine aC (cs:=BallotD.zero.cells) (hf:=by rfl) ?_)|(refine aC (cs:=DecD.zero.cells) (hf:=by rfl) ?_)|(refine aw (vs:=i.act.cells) (hv:=rfl) ?_)|(refine aw (vs:=i.claim.cells) (hv:=rfl) ?_)|(refine aw (vs:=i.ballot.cells) (hv:=rfl) ?_)|(refine aw (vs:=i.dec.cells) (hv:=rfl) ?_)|(refine gp ?_ ?_<;>intro hx_ this)|fail)
   all_goals first
    | exact ad (ag rfl rfl) rfl
    | (refine ad (ag rfl rfl) ?_;simp_all;done)
 by_cases h2:i.kind=2
 · have e:rightIt i=(ballotR i.ballot&&(actZ i.act&&(claimEq i.claim ClaimD.zero&&decZ i.dec))):=by simp [rightIt,rightK2,restI,sameIZ,h2,nD]
   rw [e]
   repeat' (first|refine aE (hab:=by omega) ?_|refine aD (hab:=by omega) ?_|(refine ab (hc:=c1) (hX:=fun _ _=>trivial) ?_)|(refine ab (hc:=c2) (hX:=fun w h=>h.1) ?_)|(refine ab (hc:=c3) (hX:=fun _ _=>trivial) ?_)|(refine ab (hc:=c4) (hX:=fun _ _=>trivial) ?_)|(refine ab (hc:=c5) (hX:=fun _ _=>trivial) ?_)|(refine ab (hc:=c6) (hX:=fun w h=>h.2) ?_)|refine gs ?_|refine gs1 fun _=>?_|(refine eK (a:=i.claim) (b:=ClaimD.zero) ?_)|(refine er (a:=i.ballot) (b:=BallotD.zero) ?_)|(refine aC (cs:=ActD.zero.cells) (hf:=by rfl) ?_)|(refine aC (cs:=ClaimD.zero.cells) (hf:=by rfl) ?_)|(refine aC (cs:=BallotD.zero.cells) (hf:=by rfl) ?_)|(refine aC (cs:=DecD.zero.cells) (hf:=by rfl) ?_)|(refine aw (vs:=i.act.cells) (hv:=rfl) ?_)|(refine aw (vs:=i.claim.cells) (hv:=rfl) ?_)|(refine aw (vs:=i.ballot.cells) (hv:=rfl) ?_)|(refine aw (vs:=i.dec.cells) (hv:=rfl) ?_)|(refine gp ?_ ?_<;>intro hx_ this)|fail)
   all_goals first
    | exact ad (ag rfl rfl) rfl
    | (refine ad (ag rfl rfl) ?_;simp_all;done)
 by_cases h3:i.kind=3
 · have e:rightIt i=(decR i.dec&&(actZ i.act&&(claimEq i.claim ClaimD.zero&&ballotEq i.ballot BallotD.zero))):=by simp [rightIt,rightK2,restI,sameIZ,h3,xK]
   rw [e]
   repeat' (first|refine aE (hab:=by omega) ?_|refine aD (hab:=by omega) ?_|(refine ab (hc:=c1) (hX:=fun _ _=>trivial) ?_)|(refine ab (hc:=c2) (hX:=fun w h=>h.1) ?_)|(refine ab (hc:=c3) (hX:=fun _ _=>trivial) ?_)|(refine ab (hc:=c4) (hX:=fun _ _=>trivial) ?_)|(refine ab (hc:=c5) (hX:=fun _ _=>trivial) ?_)|(refine ab (hc:=c6) (hX:=fun w h=>h.2) ?_)|refine gs ?_|refine gs1 fun _=>?_|(refine eK (a:=i.claim) (b:=ClaimD.zero) ?_)|(refine er (a:=i.ballot) (b:=BallotD.zero) ?_)|(refine aC (cs:=ActD.zero.cells) (hf:=by rfl) ?_)|(refine aC (cs:=ClaimD.zero.cells) (hf:=by rfl) ?_)|(refine aC (cs:=BallotD.zero.cells) (hf:=by rfl) ?_)|(refine aC (cs:=DecD.zero.cells) (hf:=by rfl) ?_)|(refine aw (vs:=i.act.cells) (hv:=rfl) ?_)|(refine aw (vs:=i.claim.cells) (hv:=rfl) ?_)|(refine aw (vs:=i.ballot.cells) (hv:=rfl) ?_)|(refine aw (vs:=i.dec.cells) (hv:=rfl) ?_)|(refine gp ?_ ?_<;>intro hx_ this)|fail)
   all_goals first
    | exact ad (ag rfl rfl) rfl
    | (refine ad (ag rfl rfl) ?_;simp_all;done)
 have e:rightIt i=false:=by simp [rightIt,rightK2,h0,h1,h2,h3]
 rw [e]
 repeat' (first|refine aE (hab:=by omega) ?_|refine aD (hab:=by omega) ?_|(refine ab (hc:=c1) (hX:=fun _ _=>trivial) ?_)|(refine ab (hc:=c2) (hX:=fun w h=>h.1) ?_)|(refine ab (hc:=c3) (hX:=fun _ _=>trivial) ?_)|(refine ab (hc:=c4) (hX:=fun _ _=>trivial) ?_)|(refine ab (hc:=c5) (hX:=fun _ _=>trivial) ?_)|(refine ab (hc:=c6) (hX:=fun w h=>h.2) ?_)|refine gs ?_|refine gs1 fun _=>?_|(refine eK (a:=i.claim) (b:=ClaimD.zero) ?_)|(refine er (a:=i.ballot) (b:=BallotD.zero) ?_)|(refine aC (cs:=ActD.zero.cells) (hf:=by rfl) ?_)|(refine aC (cs:=ClaimD.zero.cells) (hf:=by rfl) ?_)|(refine aC (cs:=BallotD.zero.cells) (hf:=by rfl) ?_)|(refine aC (cs:=DecD.zero.cells) (hf:=by rfl) ?_)|(refine aw (vs:=i.act.cells) (hv:=rfl) ?_)|(refine aw (vs:=i.claim.cells) (hv:=rfl) ?_)|(refine aw (vs:=i.ballot.cells) (hv:=rfl) ?_)|(refine aw (vs:=i.dec.cells) (hv:=rfl) ?_)|(refine gp ?_ ?_<;>intro hx_ this)|fail)
 all_goals first
  | exact ad (ag rfl rfl) rfl
  | (refine ad (ag rfl rfl) ?_;simp_all;done)
set_option maxRecDepth 20000 in
set_option maxHeartbeats 16000000 in
theorem pu (i:ItemD) (hs:i.Str) (hdn:i.dec.to.n=i.dec.toL.length):Pu Tryz.prog 48 #[i.v] (fun w=>i.at_ w) (.string (bytesIt i)):=by
 have hr:=hs.rng
 have c1:=iY i hs
 have hsz:=@g7 i hr hdn
 have hnk:=ao i.kind
 cases hB:rightIt i with
 | false =>
  rw [hB] at c1
  rw [bytesIt,hB]
  refine ak (args:=[_]) _ Tryz.func48 rfl Tryz.ntmps48 rfl fun av bor w0=>?_
  repeat' (first|(refine ab (hc:=c1) (hX:=fun w h=>h) ?_)|refine gs ?_|refine gs1 fun _=>?_|(refine gp ?_ ?_<;>intro hx_ this)|fail)
  exact ad (ag rfl rfl) rfl
 | true =>
 rw [hB] at c1
 have hsz:=hsz hB
 rw [bytesIt,hB,ZC]
 refine ak (args:=[_]) _ Tryz.func48 rfl Tryz.ntmps48 rfl fun av bor w0=>?_
 rcases de hB with ⟨hk,hR⟩|⟨hk,hR⟩|⟨hk,hR⟩|⟨hk,hR⟩
 · have c2:=mv i.act hs.act (dk hr) ⟨hr.ints.2.2.2.2.2.2.2.1,hr.ints.2.2.2.2.2.2.2.2⟩
   have c3:=cj i.kind aa
   have hb:bodyIt i=actBytes i.act:=by rw [bodyIt,hk];rfl
   rw [hb] at hsz ⊢
   repeat' (first|refine aE (hab:=by omega) ?_|refine aD (hab:=by omega) ?_|(refine ab (hc:=c1) (hX:=fun w h=>h) ?_)|(refine ab (hc:=c3) (hX:=fun _ _=>trivial) ?_)|(refine ab (hc:=c2) (hX:=fun w h=>h.1) ?_)|refine gs ?_|refine gs1 fun _=>?_|(refine aw (vs:=i.act.cells) (hv:=rfl) ?_)|(refine gp ?_ ?_<;>intro hx_ this)|fail)
   refine ai (dq rfl rfl aa) rfl am rfl ?_
   repeat' (first|refine gs ?_|refine gs1 fun _=>?_|(refine gp ?_ ?_<;>intro hx_ this)|fail)
   all_goals exact ad (ag rfl rfl) rfl
 · obtain ⟨hl,hm⟩:=im hR
   have c3:=cj i.kind aa
   have e1:=fF hm
   have e2:=dA i.claim.e i.claim.s
   have hb:bodyIt i=coreCl i.claim++numsV [i.claim.e,i.claim.s]:=by rw [bodyIt,hk];rfl
   rw [hb]
   repeat' (first|refine aE (hab:=by omega) ?_|refine aD (hab:=by omega) ?_|(refine ab (hc:=c1) (hX:=fun w h=>h) ?_)|(refine ab (hc:=c3) (hX:=fun _ _=>trivial) ?_)|refine gs ?_|refine gs1 fun _=>?_|(refine gp ?_ ?_<;>intro hx_ this)|fail)
   (refine aS ⟨[0,1,2,5,6,7],[(3,⟨[4],[(8,⟨[9,10],[]⟩)]⟩)]⟩ (h:=?_))
   all_goals repeat' (first|refine ab (hc:=pr _ hl hm) ?_|refine ab (hc:=iv _ _ hl.e hl.s) ?_|refine gd ?_|refine ax (hy:=by first|(apply dq;rfl;rfl;(try simp only [Zl]);omega)|(apply cq (vs:=i.claim.cells);rfl;exact .head _;rfl;rfl)|(apply cq (vs:=[.int .i64 i.claim.e,.int .i64 i.claim.s]);rfl;exact .head _;rfl;rfl)) ?_|refine az ?_ (h':=?_)|exact aA|refine gs1 fun _=>?_|(refine gq ?_ ?_<;>intro hx_ this)|fail)
   all_goals
    repeat' (first|refine gs ?_|refine gs1 fun _=>?_|(refine gp ?_ ?_<;>intro hx_ this)|fail)
    refine ad (ag rfl rfl) ?_
    simp only [ZV]
 · obtain ⟨hl,hm⟩:=fA hR
   have c3:=cj i.kind aa
   have e1:=ez hm
   have e2:=dA i.ballot.e i.ballot.s
   have hb:bodyIt i=coreBa i.ballot++numsV [i.ballot.e,i.ballot.s]:=by rw [bodyIt,hk];rfl
   rw [hb]
   repeat' (first|refine aE (hab:=by omega) ?_|refine aD (hab:=by omega) ?_|(refine ab (hc:=c1) (hX:=fun w h=>h) ?_)|(refine ab (hc:=c3) (hX:=fun _ _=>trivial) ?_)|refine gs ?_|refine gs1 fun _=>?_|(refine gp ?_ ?_<;>intro hx_ this)|fail)
   (refine aS ⟨[0,1,2,5,6,7],[(3,⟨[4],[(8,⟨[9,10],[]⟩)]⟩)]⟩ (h:=?_))
   all_goals repeat' (first|refine ab (hc:=jd _ hl hm) ?_|refine ab (hc:=iv _ _ hl.e hl.s) ?_|refine gd ?_|refine ax (hy:=by first|(apply dq;rfl;rfl;(try simp only [Zl]);omega)|(apply cq (vs:=i.ballot.cells);rfl;exact .head _;rfl;rfl)|(apply cq (vs:=[.int .i64 i.ballot.e,.int .i64 i.ballot.s]);rfl;exact .head _;rfl;rfl)) ?_|refine az ?_ (h':=?_)|exact aA|refine gs1 fun _=>?_|(refine gq ?_ ?_<;>intro hx_ this)|fail)
   all_goals
    repeat' (first|refine gs ?_|refine gs1 fun _=>?_|(refine gp ?_ ?_<;>intro hx_ this)|fail)
    refine ad (ag rfl rfl) ?_
    simp only [ZV]
 · obtain ⟨hl,hm⟩:=jy hdn hR
   have c3:=cj i.kind aa
   have e1:=ex hm
   have e2:=dA i.dec.e i.dec.s
   have c4:=jc i.dec hl hm
   have hb:bodyIt i=coreDe i.dec++numsV [i.dec.e,i.dec.s]:=by rw [bodyIt,hk];rfl
   rw [hb]
   repeat' (first|refine aE (hab:=by omega) ?_|refine aD (hab:=by omega) ?_|(refine ab (hc:=c1) (hX:=fun w h=>h) ?_)|(refine ab (hc:=c3) (hX:=fun _ _=>trivial) ?_)|refine gs ?_|refine gs1 fun _=>?_|(refine gp ?_ ?_<;>intro hx_ this)|fail)
   (refine aS ⟨[0,1,2,5,6,7],[(3,⟨[4],[(8,⟨[9,10],[]⟩)]⟩)]⟩ (h:=?_))
   all_goals repeat' (first|(refine ab (hc:=c4) (hX:=fun w h=>h.2) ?_)|refine ab (hc:=iv _ _ hl.e hl.s) ?_|refine gd ?_|refine ax (hy:=by first|(apply dq;rfl;rfl;(try simp only [Zl]);omega)|(apply cq (vs:=i.dec.cells);rfl;exact .head _;rfl;rfl)|(apply cq (vs:=[.int .i64 i.dec.e,.int .i64 i.dec.s]);rfl;exact .head _;rfl;rfl)) ?_|refine az ?_ (h':=?_)|exact aA|refine gs1 fun _=>?_|(refine gq ?_ ?_<;>intro hx_ this)|fail)
   all_goals
    repeat' (first|refine gs ?_|refine gs1 fun _=>?_|(refine gp ?_ ?_<;>intro hx_ this)|fail)
    refine ad (ag rfl rfl) ?_
    simp only [ZV]
theorem iq (i:ItemD) (hs:i.Str) (hdn:i.dec.to.n=i.dec.toL.length):Pu Tryz.prog 25 #[i.v] (fun w=>i.at_ w) (.string (digIt i)):=by
 have c1:=pu i hs hdn
 have hsz:=@jB i hs.rng hdn
 have c2:=od (bytesIt i) aa
 rw [digIt]
 cases hB:seqB (bytesIt i) ⟨#[]⟩ with
 | true =>
  refine ak (args:=[_]) _ Tryz.func25 rfl Tryz.ntmps25 rfl fun av bor w0=>?_
  repeat' (first|(refine ab (hc:=c1) (hX:=fun w h=>h) ?_)|(refine ab (hc:=c2) (hX:=fun _ _=>trivial) ?_)|refine gs ?_|refine gs1 fun _=>?_|(refine gp ?_ ?_<;>intro hx_ this)|fail)
  all_goals first
   | (rw [hB] at hx_;exact absurd hx_ (by decide))
   | (refine ad (ag rfl rfl) ?_;simp only [ZC,ZB];done)
 | false =>
  refine ak (args:=[_]) _ Tryz.func25 rfl Tryz.ntmps25 rfl fun av bor w0=>?_
  repeat' (first|(refine ab (hc:=c1) (hX:=fun w h=>h) ?_)|(refine ab (hc:=c2) (hX:=fun _ _=>trivial) ?_)|refine gs ?_|refine gs1 fun _=>?_|(refine gp ?_ ?_<;>intro hx_ this)|fail)
  all_goals first
   | (rw [hB] at hx_;exact absurd hx_ (by decide))
   | (refine ad (ag rfl rfl) ?_;simp only [ZC,ZB];done)
theorem kP (x:BallotD) (hl:x.Lt) (hs:x.Sm):Pu Tryz.prog 46 #[x.v] (fun _=>True) (.string (msgB x)):=by
 refine ak (args:=[_]) _ Tryz.func46 rfl Tryz.ntmps46 rfl fun av bor w0=>?_
 have c1:=cW nameB (by decide)
 have c2:=jd x hl hs
 have h1:=ez hs
 have h2:=ay nameB
 have h3:nameB.size≤20:=by decide
 have e:msgB x=textV nameB++coreBa x:=by rw [msgB,dc,dw,ByteArray.append_empty]
 rw [e]
 repeat' (first|refine gs ?_|refine gs1 fun _=>?_|(refine gp ?_ ?_<;>intro hx_ this)|fail)
 (refine aS ⟨[1],[(0,⟨[],[(2,⟨[3,4],[]⟩)]⟩)]⟩ (h:=?_))
 all_goals repeat' (first|(refine ab (hc:=c1) (hX:=fun _ _=>trivial) ?_)|(refine ab (hc:=c2) (hX:=fun _ _=>trivial) ?_)|refine gd ?_|refine ax (hy:=by first|(apply dq;rfl;rfl;(try simp only [Zl]);omega)) ?_|refine az ?_ (h':=?_)|exact aA|refine gs1 fun _=>?_|(refine gq ?_ ?_<;>intro hx_ this)|fail)
 all_goals
  repeat' (first|refine gs ?_|refine gs1 fun _=>?_|(refine gp ?_ ?_<;>intro hx_ this)|fail)
  exact ad (ag rfl rfl) rfl
theorem iZ (x:DecD) (hl:x.Lt) (hs:x.Sm):Pu Tryz.prog 47 #[x.v] (fun w=>x.at_ w) (.string (msgD x)):=by
 refine ak (args:=[_]) _ Tryz.func47 rfl Tryz.ntmps47 rfl fun av bor w0=>?_
 have c1:=cW nameD (by decide)
 have c2:=jc x hl hs
 have h1:=ex hs
 have h2:=ay nameD
 have h3:nameD.size≤20:=by decide
 have e:msgD x=textV nameD++coreDe x:=by rw [msgD,dc,dw,ByteArray.append_empty]
 rw [e]
 repeat' (first|refine gs ?_|refine gs1 fun _=>?_|(refine gp ?_ ?_<;>intro hx_ this)|fail)
 (refine aS ⟨[1],[(0,⟨[],[(2,⟨[3,4],[]⟩)]⟩)]⟩ (h:=?_))
 all_goals repeat' (first|(refine ab (hc:=c1) (hX:=fun _ _=>trivial) ?_)|(refine ab (hc:=c2) (hX:=fun w h=>h) ?_)|refine gd ?_|refine ax (hy:=by first|(apply dq;rfl;rfl;(try simp only [Zl]);omega)) ?_|refine az ?_ (h':=?_)|exact aA|refine gs1 fun _=>?_|(refine gq ?_ ?_<;>intro hx_ this)|fail)
 all_goals
  repeat' (first|refine gs ?_|refine gs1 fun _=>?_|(refine gp ?_ ?_<;>intro hx_ this)|fail)
  exact ad (ag rfl rfl) rfl
set_option maxRecDepth 20000 in
set_option maxHeartbeats 16000000 in
theorem pm (s:SlV) (L:List Int) (i:ItemD) (hs:i.Str) (hdn:i.dec.to.n=i.dec.toL.length):Pu Tryz.prog 24 #[s.v,i.v] (fun w=>Ints w s L∧i.at_ w) (.bool (signedIt L i)):=by
 refine ak (args:=[_,_]) _ Tryz.func24 rfl Tryz.ntmps24 rfl fun av bor w0=>?_
 refine aJ (p:=s.n=L.length∧s.n≤maxLen∧(0<L.length→s.p.isSome=true)) (fun w h=>⟨h.1.len_,Qr (RowsD.cap h.1) (RowsD.max h.1),h.1.some_⟩) fun ⟨hsn,hsm,hsp⟩=>?_
 simp only [maxLen] at hsm
 have hri:=iY i hs
 cases hrB:rightIt i with
 | false =>
  rw [hrB] at hri
  rw [show signedIt L i=false from by rw [signedIt,hrB];rfl]
  repeat' (first|(refine ab (hc:=hri) (hX:=fun w h=>h.2) ?_)|refine gs ?_|refine gs1 fun _=>?_|(refine gp ?_ ?_<;>intro hx_ this)|fail)
  exact ad (ag rfl rfl) rfl
 | true =>
 rw [hrB] at hri
 have hk:=de hrB
 by_cases h2:i.kind=2
 · rcases hk with h|h|h|h
   all_goals first|(exfalso;omega)|skip
   have h1:=h.2
   clear h
   obtain ⟨hl,hz⟩:=fA h1
   have hlo:0≤i.ballot.server:=(bX (by have:=h1;simp only [ballotR,ZM] at this;exact this.1)).1
   have hms:=gS (nm:=nameB) (by decide) (Qr (ez hz) (by decide))
   have hsg:=fun p:Int=>Rf4.refVerify_pu p (msgB i.ballot) i.ballot.e i.ballot.s (Qr hms (by decide))
   have hcm:=kP i.ballot hl hz
   by_cases hlt:i.ballot.server<(L.length:Nat)
   · have hsp':=hsp aa
     have e:signedIt L i=sgnB (L.getD i.ballot.server.toNat 0) i.ballot:=by rw [signedIt,hrB,ZA h2,ZC,ZA hlt,ZD,ZD]
     rw [e]
     have hget:∀ w,Ints w s L∧i.at_ w→CellAt w s.p i.ballot.server.toNat (.int .i64 (L.getD i.ballot.server.toNat 0)):=fun w h=>Ints.get h.1 aa
     have hsg1:Pu Tryz.prog 45 _ _ (.bool (sgnB (L.getD i.ballot.server.toNat 0) i.ballot)):=hsg (L.getD i.ballot.server.toNat 0)
     generalize L.getD i.ballot.server.toNat 0=pk at *
     repeat' (first|refine aE (hab:=by omega) ?_|refine aD (hab:=by omega) ?_|(refine ab (hc:=hri) (hX:=fun w h=>h.2) ?_)|refine gs ?_|refine gs1 fun _=>?_|(refine gp ?_ ?_<;>intro hx_ this)|fail)
     rename_i b3
     (refine aq ⟨[0,1,2,3,4,5,6,7,8,9,10,11,12,13,14,16,17,18],[(15,⟨[],[(19,⟨[20,21],[]⟩)]⟩)]⟩ [cel b3 63 i.cells] (fun w=>Ints w s L∧i.at_ w) (h:=?_))
     all_goals repeat' (first|refine ax (hy:=by first|(apply cf true;rfl;rfl;exact ZA aa)) ?_|(refine ab (hc:=hcm) (hX:=fun _ _=>trivial) ?_)|(refine ab (hc:=hsg1) (hX:=fun _ _=>trivial) ?_)|refine gdz ?_|refine ax (hy:=by first|(apply aB (q:=i.ballot.server.toNat);rfl;rfl;omega;omega;assumption;omega)|(apply eI (q:=i.ballot.server.toNat) (u:=.int .i64 pk);rfl;exact hget)|(apply cq (vs:=i.ballot.cells);rfl;exact .head _;rfl;rfl)|(apply cq (vs:=SgD.cells ⟨i.ballot.e,i.ballot.s⟩);rfl;exact .head _;rfl;rfl)) ?_|refine az ?_ (h':=?_)|exact aA|refine gs1 fun _=>?_|(refine gq ?_ ?_<;>intro hx_ this)|fail)
     all_goals
      repeat' (first|refine gs ?_|refine gs1 fun _=>?_|(refine gp ?_ ?_<;>intro hx_ this)|fail)
      exact ad (ag rfl rfl) rfl
   · have e:signedIt L i=false:=by rw [signedIt,hrB,ZA h2,ZC,Zn hlt];rfl
     rw [e]
     repeat' (first|refine aE (hab:=by omega) ?_|refine aD (hab:=by omega) ?_|(refine ab (hc:=hri) (hX:=fun w h=>h.2) ?_)|refine gs ?_|refine gs1 fun _=>?_|(refine gp ?_ ?_<;>intro hx_ this)|fail)
     rename_i b3
     (refine aq ⟨[0,1,2,3,4,5,6,7,8,9,10,11,12,13,14,16,17,18],[(15,⟨[],[(19,⟨[20,21],[]⟩)]⟩)]⟩ [cel b3 63 i.cells] (fun w=>Ints w s L∧i.at_ w) (h:=?_))
     all_goals repeat' (first|refine ax (hy:=by first|(apply cf false;rfl;rfl;exact Zn aa)) ?_|refine gdz ?_|refine az ?_ (h':=?_)|exact aA|refine gs1 fun _=>?_|(refine gq ?_ ?_<;>intro hx_ this)|fail)
     all_goals
      repeat' (first|refine gs ?_|refine gs1 fun _=>?_|(refine gp ?_ ?_<;>intro hx_ this)|fail)
      exact ad (ag rfl rfl) rfl
 by_cases h3:i.kind=3
 · rcases hk with h|h|h|h
   all_goals first|(exfalso;omega)|skip
   have h1:=h.2
   clear h
   obtain ⟨hl,hz⟩:=jy hdn h1
   have hlo:0≤i.dec.server:=(bX (by have:=h1;simp only [decR,ZM] at this;exact this.1)).1
   have hms:=gS (nm:=nameD) (by decide) (Qr (ex hz) (by decide))
   have hsg:=fun p:Int=>Rf4.refVerify_pu p (msgD i.dec) i.dec.e i.dec.s (Qr hms (by decide))
   have hcm:=iZ i.dec hl hz
   by_cases hlt:i.dec.server<(L.length:Nat)
   · have hsp':=hsp aa
     have e:signedIt L i=sgnD (L.getD i.dec.server.toNat 0) i.dec:=by rw [signedIt,hrB,Zn h2,ZB,ZA h3,ZC,ZA hlt,ZD,ZD]
     rw [e]
     have hget:∀ w,Ints w s L∧i.at_ w→CellAt w s.p i.dec.server.toNat (.int .i64 (L.getD i.dec.server.toNat 0)):=fun w h=>Ints.get h.1 aa
     have hsg1:Pu Tryz.prog 45 _ _ (.bool (sgnD (L.getD i.dec.server.toNat 0) i.dec)):=hsg (L.getD i.dec.server.toNat 0)
     generalize L.getD i.dec.server.toNat 0=pk at *
     repeat' (first|refine aE (hab:=by omega) ?_|refine aD (hab:=by omega) ?_|(refine ab (hc:=hri) (hX:=fun w h=>h.2) ?_)|refine gs ?_|refine gs1 fun _=>?_|(refine gp ?_ ?_<;>intro hx_ this)|fail)
     rename_i b3
     (refine aq ⟨[0,1,2,3,4,5,6,7,8,9,10,11,12,13,14,16,17,18],[(15,⟨[],[(19,⟨[20,21],[]⟩)]⟩)]⟩ [cel b3 63 i.cells] (fun w=>Ints w s L∧i.at_ w) (h:=?_))
     all_goals repeat' (first|refine ax (hy:=by first|(apply cf true;rfl;rfl;exact ZA aa)) ?_|(refine ab (hc:=hcm) (hX:=fun w h=>h.2.2) ?_)|(refine ab (hc:=hsg1) (hX:=fun _ _=>trivial) ?_)|refine gdz ?_|refine ax (hy:=by first|(apply aB (q:=i.dec.server.toNat);rfl;rfl;omega;omega;assumption;omega)|(apply eI (q:=i.dec.server.toNat) (u:=.int .i64 pk);rfl;exact hget)|(apply cq (vs:=i.dec.cells);rfl;exact .head _;rfl;rfl)|(apply cq (vs:=SgD.cells ⟨i.dec.e,i.dec.s⟩);rfl;exact .head _;rfl;rfl)) ?_|refine az ?_ (h':=?_)|exact aA|refine gs1 fun _=>?_|(refine gq ?_ ?_<;>intro hx_ this)|fail)
     all_goals
      repeat' (first|refine gs ?_|refine gs1 fun _=>?_|(refine gp ?_ ?_<;>intro hx_ this)|fail)
      exact ad (ag rfl rfl) rfl
   · have e:signedIt L i=false:=by rw [signedIt,hrB,Zn h2,ZB,ZA h3,ZC,Zn hlt];rfl
     rw [e]
     repeat' (first|refine aE (hab:=by omega) ?_|refine aD (hab:=by omega) ?_|(refine ab (hc:=hri) (hX:=fun w h=>h.2) ?_)|refine gs ?_|refine gs1 fun _=>?_|(refine gp ?_ ?_<;>intro hx_ this)|fail)
     rename_i b3
     (refine aq ⟨[0,1,2,3,4,5,6,7,8,9,10,11,12,13,14,16,17,18],[(15,⟨[],[(19,⟨[20,21],[]⟩)]⟩)]⟩ [cel b3 63 i.cells] (fun w=>Ints w s L∧i.at_ w) (h:=?_))
     all_goals repeat' (first|refine ax (hy:=by first|(apply cf false;rfl;rfl;exact Zn aa)) ?_|refine gdz ?_|refine az ?_ (h':=?_)|exact aA|refine gs1 fun _=>?_|(refine gq ?_ ?_<;>intro hx_ this)|fail)
     all_goals
      repeat' (first|refine gs ?_|refine gs1 fun _=>?_|(refine gp ?_ ?_<;>intro hx_ this)|fail)
      exact ad (ag rfl rfl) rfl
 have e:signedIt L i=true:=by rw [signedIt,hrB,Zn h2,Zn h3];rfl
 rw [e]
 repeat' (first|refine aD (hab:=by omega) ?_|(refine ab (hc:=hri) (hX:=fun w h=>h.2) ?_)|refine gs ?_|refine gs1 fun _=>?_|(refine gp ?_ ?_<;>intro hx_ this)|fail)
 exact ad (ag rfl rfl) rfl
def badSv (L:List Int) (k:Nat):Bool:=decide (L.getD k 0<1)||decide (2305843009213693950<L.getD k 0)
def badKn (L:List Int) (I:List ItemD) (k:Nat):Bool:=!signedIt L (I.getD k ItemD.zero)||(decide (0<k)&&!ltB (digIt (I.getD (k-1) ItemD.zero)) (digIt (I.getD k ItemD.zero)))
def rightKn (L:List Int) (I:List ItemD):Bool:=decide (L.length≤20)&&(allB L.length (badSv L)&&allB I.length (badKn L I))
section
variable {P:Program} {N:Nat} {av bor:List Nat} {w0:World} {st:St} {ty:TypeId} {x y:Operand} {t t2:TypeId}
theorem BV {a b:ByteArray} (hx:ev st.env x=some (.string a)) (hy:ev st.env y=some (.string b)) (hab:ltB a b=false):Sy.Yields P N av bor w0 st (.binOp .geq t x y t2) ty (.bool true):=by
 have h:=sD (P:=P) (N:=N) (av:=av) (bor:=bor) (w0:=w0) (t:=t) (t2:=t2) (ty:=ty) hx hy
 rw [show Op.bytesLess a.toList b.toList=false from hab] at h
 exact h
end
set_option maxRecDepth 20000 in
set_option maxHeartbeats 16000000 in
theorem pp (ks ki:SlV) (L:List Int) (I:List ItemD) (hs:∀ i∈I,i.Str) (hdn:∀ i∈I,i.dec.to.n=i.dec.toL.length) :
  Pu Tryz.prog 7 #[.agg #[ks.v,ki.v]] (fun w=>Ints w ks L∧Items w ki I) (.bool (rightKn L I)):=by
 refine ak (args:=[_]) _ Tryz.func7 rfl Tryz.ntmps7 rfl fun av bor w0=>?_
 refine aJ (p:=(ks.n=L.length∧ks.n≤maxLen∧(0<L.length→ks.p.isSome=true))∧(ki.n=I.length∧ki.n≤maxLen∧(0<I.length→ki.p.isSome=true))) (fun w h=>⟨⟨h.1.len_,Qr (RowsD.cap h.1) (RowsD.max h.1),h.1.some_⟩,h.2.len_,h.2.max_,h.2.some_⟩) fun ⟨⟨hn,hm,hp⟩,hin,him,hip⟩=>?_
 simp only [maxLen] at hm him
 repeat' (first|refine gs ?_|refine gs1 fun _=>?_|(refine gp ?_ ?_<;>intro hx_ this)|fail)
 · refine ad (ag rfl rfl) ?_
   rw [rightKn,Zn (by omega)]
   rfl
 rename_i b
 have h20:L.length≤20:=by omega
 rw [rightKn,ZA h20,ZD]
 refine ap (ι:=Upto L.length (badSv L)) (fun i=>⟨[(1,.pointer (some ⟨b,0,none⟩)),(3,.int .i64 (i.k:Nat))],[cel b 25 [ks.v,ki.v]],fun w=>Ints w ks L∧Items w ki I⟩) (fun i=>L.length-i.k) (Upto.zero _ _) (aj ⟨rfl,rfl,trivial⟩ (al _) fun _ h=>h) fun i=>?_
 have hik:=i.hk
 by_cases hlt:i.k<L.length
 · have hks:=hp aa
   repeat' (first|refine gs ?_|refine gs1 fun _=>?_|(refine aH (q:=i.k) ?_)|(refine dr (q:=i.k) (u:=.int .i64 (L.getD i.k 0)) (hF:=fun w h=>Ints.get h.1 hlt) ?_)|(refine gp ?_ ?_<;>intro hx_ this)|fail)
   all_goals first
    | (exfalso;omega)
    | (refine ad (ag rfl rfl) ?_;rw [cM (k:=i.k) hlt (by simp only [badSv, *,ZQ,ZO,ZC,ZB,ZE,ZD,ZH,ZG,ZK,ZI,ZP,ZJ,ZN,ZF]),ZG];done)
    | exact ⟨i.next hlt (by simp only [badSv, *,ZQ,ZO,ZC,ZB,ZE,ZD,ZH,ZG,ZK,ZI,ZP,ZJ,ZN,ZF]),(by show L.length-(i.k+1)<L.length-i.k;omega),aj ⟨rfl,rfl,trivial⟩ (al _) fun _ h=>h⟩
 · rw [i.all hlt,ZD]
   repeat' (first|refine SrG.sy_lssF_g (hab:=by omega) (h:=?_)|refine gs ?_|refine gs1 fun _=>?_|(refine gp ?_ ?_<;>intro hx_ this)|fail)
   refine ap (ι:=Upto I.length (badKn L I)) (fun j=>⟨[(1,.pointer (some ⟨b,0,none⟩)),(4,.int .i64 (j.k:Nat))],[cel b 25 [ks.v,ki.v]],fun w=>Ints w ks L∧Items w ki I⟩) (fun j=>I.length-j.k) (Upto.zero _ _) (aj ⟨rfl,rfl,trivial⟩ (al _) fun _ h=>h) fun j=>?_
   have hjk:=j.hk
   by_cases hlj:j.k<I.length
   · have hki:=hip aa
     obtain ⟨x,hx⟩:∃ x,I[j.k]?=some x:=⟨_,Zm hlj⟩
     have hxm:=List.mem_of_getElem? hx
     have hxD:I.getD j.k ItemD.zero=x:=by rw [ZL,hx];rfl
     have hsg:=pm ks L x (hs x hxm) (hdn x hxm)
     have hdx:=iq x (hs x hxm) (hdn x hxm)
     cases hsB:signedIt L x with
     | false =>
      rw [hsB] at hsg
      have hbad:badKn L I j.k=true:=by rw [badKn,hxD,hsB];rfl
      repeat' (first|refine SrG.sy_lssT_g (hab:=by omega) (h:=?_)|refine gs ?_|refine gs1 fun _=>?_|(refine gp ?_ ?_<;>intro hx_ this)|fail)
      (refine aq ⟨[0,1,2,3,4,5,6],[(7,⟨[8],[]⟩)]⟩ [cel b 25 [ks.v,ki.v]] (fun w=>Ints w ks L∧Items w ki I) (h:=?_))
      all_goals repeat' (first|(refine ab (hc:=hsg) (hX:=fun w h=>⟨h.1,h.2.2 x hxm⟩) ?_)|refine gdz ?_|refine ax (hy:=by first|(apply aB (q:=j.k*49);rfl;rfl;omega;omega;assumption;omega)|(apply d9 (cs:=x.cells);rfl;exact (fun w h=>Items.get h.2 hx))) ?_|refine az ?_ (h':=?_)|exact aA|refine gs1 fun _=>?_|(refine gq ?_ ?_<;>intro hx_ this)|fail)
      all_goals
       repeat' (first|refine gs ?_|refine gs1 fun _=>?_|(refine gp ?_ ?_<;>intro hx_ this)|fail)
       all_goals (refine ad (ag rfl rfl) ?_;rw [cM hlj hbad])
     | true =>
      rw [hsB] at hsg
      by_cases h0:0<j.k
      · obtain ⟨y,hy⟩:∃ y,I[j.k-1]?=some y:=⟨_,Zm aa⟩
        have hym:=List.mem_of_getElem? hy
        have hyD:I.getD (j.k-1) ItemD.zero=y:=by rw [ZL,hy];rfl
        have hdy:=iq y (hs y hym) (hdn y hym)
        have hbq:badKn L I j.k=!ltB (digIt y) (digIt x):=by rw [badKn,hxD,hyD,hsB,ZA h0];rfl
        generalize digIt x=dx at *
        generalize digIt y=dy at *
        cases hlB:ltB dy dx with
        | true =>
         have hok:badKn L I j.k=false:=by rw [hbq,hlB];rfl
         repeat' (first|refine SrG.sy_lssT_g (hab:=by omega) (h:=?_)|refine gs ?_|refine gs1 fun _=>?_|(refine gp ?_ ?_<;>intro hx_ this)|fail)
         (refine aq ⟨[0,1,2,3,4,5,6],[(7,⟨[8],[]⟩)]⟩ [cel b 25 [ks.v,ki.v]] (fun w=>Ints w ks L∧Items w ki I) (h:=?_))
         all_goals repeat' (first|(refine ab (hc:=hsg) (hX:=fun w h=>⟨h.1,h.2.2 x hxm⟩) ?_)|refine gdz ?_|refine ax (hy:=by first|(apply aB (q:=j.k*49);rfl;rfl;omega;omega;assumption;omega)|(apply d9 (cs:=x.cells);rfl;exact (fun w h=>Items.get h.2 hx))) ?_|refine az ?_ (h':=?_)|exact aA|refine gs1 fun _=>?_|(refine gq ?_ ?_<;>intro hx_ this)|fail)
         all_goals
          repeat' (first|refine gs ?_|refine gs1 fun _=>?_|(refine gp ?_ ?_<;>intro hx_ this)|fail)
          (refine aq ⟨[0,1,2,3,4,5,6,7,8,10,11,12,13,14],[(9,⟨[],[(15,⟨[16,17],[]⟩)]⟩)]⟩ [cel b 25 [ks.v,ki.v]] (fun w=>Ints w ks L∧Items w ki I) (h:=?_))
          all_goals repeat' (first|refine ax (hy:=by first|(apply SrG.y_gtrT_g;rfl;rfl;omega)|(apply Rf4.y_subM (q:=1);rfl;rfl;omega)|(apply BW;rfl;rfl;exact hlB)) ?_|(refine ab (hc:=hdy) (hX:=fun w h=>h.2.2 y hym) ?_)|(refine ab (hc:=hdx) (hX:=fun w h=>h.2.2 x hxm) ?_)|refine gdz ?_|refine ax (hy:=by first|(apply aB (q:=(j.k-1)*49);rfl;rfl;omega;omega;assumption;omega)|(apply aB (q:=j.k*49);rfl;rfl;omega;omega;assumption;omega)|(apply d9 (cs:=y.cells);rfl;exact (fun w h=>Items.get h.2 hy))|(apply d9 (cs:=x.cells);rfl;exact (fun w h=>Items.get h.2 hx))) ?_|refine az ?_ (h':=?_)|exact aA|refine gs1 fun _=>?_|(refine gq ?_ ?_<;>intro hx_ this)|fail)
          all_goals
           repeat' (first|refine gs ?_|refine gs1 fun _=>?_|(refine gp ?_ ?_<;>intro hx_ this)|fail)
           all_goals exact ⟨j.next hlj hok,(by show I.length-(j.k+1)<I.length-j.k;omega),aj ⟨rfl,rfl,trivial⟩ (al _) fun _ h=>h⟩
        | false =>
         have hbad:badKn L I j.k=true:=by rw [hbq,hlB];rfl
         repeat' (first|refine SrG.sy_lssT_g (hab:=by omega) (h:=?_)|refine gs ?_|refine gs1 fun _=>?_|(refine gp ?_ ?_<;>intro hx_ this)|fail)
         (refine aq ⟨[0,1,2,3,4,5,6],[(7,⟨[8],[]⟩)]⟩ [cel b 25 [ks.v,ki.v]] (fun w=>Ints w ks L∧Items w ki I) (h:=?_))
         all_goals repeat' (first|(refine ab (hc:=hsg) (hX:=fun w h=>⟨h.1,h.2.2 x hxm⟩) ?_)|refine gdz ?_|refine ax (hy:=by first|(apply aB (q:=j.k*49);rfl;rfl;omega;omega;assumption;omega)|(apply d9 (cs:=x.cells);rfl;exact (fun w h=>Items.get h.2 hx))) ?_|refine az ?_ (h':=?_)|exact aA|refine gs1 fun _=>?_|(refine gq ?_ ?_<;>intro hx_ this)|fail)
         all_goals
          repeat' (first|refine gs ?_|refine gs1 fun _=>?_|(refine gp ?_ ?_<;>intro hx_ this)|fail)
          (refine aq ⟨[0,1,2,3,4,5,6,7,8,10,11,12,13,14],[(9,⟨[],[(15,⟨[16,17],[]⟩)]⟩)]⟩ [cel b 25 [ks.v,ki.v]] (fun w=>Ints w ks L∧Items w ki I) (h:=?_))
          all_goals repeat' (first|refine ax (hy:=by first|(apply SrG.y_gtrT_g;rfl;rfl;omega)|(apply Rf4.y_subM (q:=1);rfl;rfl;omega)|(apply BV;rfl;rfl;exact hlB)) ?_|(refine ab (hc:=hdy) (hX:=fun w h=>h.2.2 y hym) ?_)|(refine ab (hc:=hdx) (hX:=fun w h=>h.2.2 x hxm) ?_)|refine gdz ?_|refine ax (hy:=by first|(apply aB (q:=(j.k-1)*49);rfl;rfl;omega;omega;assumption;omega)|(apply aB (q:=j.k*49);rfl;rfl;omega;omega;assumption;omega)|(apply d9 (cs:=y.cells);rfl;exact (fun w h=>Items.get h.2 hy))|(apply d9 (cs:=x.cells);rfl;exact (fun w h=>Items.get h.2 hx))) ?_|refine az ?_ (h':=?_)|exact aA|refine gs1 fun _=>?_|(refine gq ?_ ?_<;>intro hx_ this)|fail)
          all_goals
           repeat' (first|refine gs ?_|refine gs1 fun _=>?_|(refine gp ?_ ?_<;>intro hx_ this)|fail)
           all_goals (refine ad (ag rfl rfl) ?_;rw [cM hlj hbad])
      · have hok:badKn L I j.k=false:=by rw [badKn,hxD,hsB,Zn h0];rfl
        repeat' (first|refine SrG.sy_lssT_g (hab:=by omega) (h:=?_)|refine gs ?_|refine gs1 fun _=>?_|(refine gp ?_ ?_<;>intro hx_ this)|fail)
        (refine aq ⟨[0,1,2,3,4,5,6],[(7,⟨[8],[]⟩)]⟩ [cel b 25 [ks.v,ki.v]] (fun w=>Ints w ks L∧Items w ki I) (h:=?_))
        all_goals repeat' (first|(refine ab (hc:=hsg) (hX:=fun w h=>⟨h.1,h.2.2 x hxm⟩) ?_)|refine gdz ?_|refine ax (hy:=by first|(apply aB (q:=j.k*49);rfl;rfl;omega;omega;assumption;omega)|(apply d9 (cs:=x.cells);rfl;exact (fun w h=>Items.get h.2 hx))) ?_|refine az ?_ (h':=?_)|exact aA|refine gs1 fun _=>?_|(refine gq ?_ ?_<;>intro hx_ this)|fail)
        all_goals
         repeat' (first|refine gs ?_|refine gs1 fun _=>?_|(refine gp ?_ ?_<;>intro hx_ this)|fail)
         (refine aq ⟨[0,1,2,3,4,5,6,7,8,10,11,12,13,14],[(9,⟨[],[(15,⟨[16,17],[]⟩)]⟩)]⟩ [cel b 25 [ks.v,ki.v]] (fun w=>Ints w ks L∧Items w ki I) (h:=?_))
         all_goals repeat' (first|refine ax (hy:=by first|(apply SrG.y_gtrF_g;rfl;rfl;omega)) ?_|refine gdz ?_|refine az ?_ (h':=?_)|exact aA|refine gs1 fun _=>?_|(refine gq ?_ ?_<;>intro hx_ this)|fail)
         all_goals
          repeat' (first|refine gs ?_|refine gs1 fun _=>?_|(refine gp ?_ ?_<;>intro hx_ this)|fail)
          all_goals exact ⟨j.next hlj hok,(by show I.length-(j.k+1)<I.length-j.k;omega),aj ⟨rfl,rfl,trivial⟩ (al _) fun _ h=>h⟩
   · rw [j.all hlj]
     repeat' (first|refine SrG.sy_lssF_g (hab:=by omega) (h:=?_)|refine gs ?_|refine gs1 fun _=>?_|(refine gp ?_ ?_<;>intro hx_ this)|fail)
     all_goals first
      | exact ad (ag rfl rfl) rfl
theorem uj {l:List ByteArray} (h:∀ k (hk:k+1<l.length),ltB (l[k]'(by omega)) l[k+1]=true):Asc l:=by
 have key:∀ d i (hj:i+d+1<l.length),ltB (l[i]'(by omega)) l[i+d+1]=true:=by
  intro d
  induction d with
  | zero=>exact fun i hj=>h i hj
  | succ d ih =>
   intro i hj
   exact fq (ih i aa) (h (i+d+1) hj)
 refine List.pairwise_iff_getElem.2 fun i j hi hj hij=>?_
 obtain ⟨d,rfl⟩:∃ d,j=i+d+1:=⟨j-i-1,by omega⟩
 exact key d i hj
theorem gN {L:List Int} {I:List ItemD} (h:rightKn L I=true):∀ i∈I,signedIt L i=true:=fun i hi=>by
 rw [rightKn,ZM,ZM] at h
 obtain ⟨k,hk⟩:=List.mem_iff_getElem?.1 hi
 obtain ⟨hlt,e⟩:=List.getElem?_eq_some_iff.1 hk
 have h1:=lg h.2.2 hlt
 have e2:I.getD k ItemD.zero=i:=by rw [ZL,hk];rfl
 rw [badKn,e2,Bool.or_eq_false_iff,Bool.not_eq_false'] at h1
 exact h1.1
theorem qN {L:List Int} {I:List ItemD} (h:rightKn L I=true):Asc (I.map digIt):=by
 rw [rightKn,ZM,ZM] at h
 refine uj fun k hk=>?_
 rw [Z3] at hk
 have h1:=lg h.2.2 hk
 rw [badKn,Bool.or_eq_false_iff] at h1
 have h2:=h1.2
 rw [ZA aa,ZD,Bool.not_eq_false',ZL,ZL,Nat.add_sub_cancel,Zm hk,Zm (show k<I.length by omega)] at h2
 rw [List.getElem_map,List.getElem_map]
 exact h2
theorem E8 {L:List Int} {I:List ItemD} (h:rightKn L I=true) (hl:I.length≤100) (hr:∀ i∈I,i.act.Rng) (hs:∀ i∈I,i.act.Sm) (hd:∀ i∈I,i.dec.to.n=i.dec.toL.length):KnR L I where
 sv:=by
  rw [rightKn,ZM] at h
  exact aM h.1
 len:=hl
 rng:=hr
 sm:=hs
 dn:=hd
 right:=fun i hi=>by
  have h1:=gN h i hi
  rw [signedIt,ZM] at h1
  exact h1.1
 asc:=qN h
theorem BN (ks ki:SlV) (L:List Int) (I:List ItemD) (it:ItemD) (hdn:it.dec.to.n=it.dec.toL.length) (hs:signedIt L it=false) :
  Pu Tryz.prog 34 #[.agg #[ks.v,ki.v],it.v] (fun w=>((Ints w ks L∧Items w ki I)∧it.at_ w)∧Glob w) (.tuple #[.agg #[ks.v,ki.v],.bool false]):=by
 refine ak (args:=[_,_]) _ Tryz.func34 rfl Tryz.ntmps34 rfl fun av bor w0=>?_
 have hR:=dF it
 have hS:=gK ks L it hdn
 rw [hs] at hS
 repeat' (first|(refine ab (hc:=hR) (hX:=fun w h=>h.1.2) ?_)|(refine ab (hc:=hS) (hX:=fun w h=>⟨⟨h.1.1.1,h.1.2⟩,h.2⟩) ?_)|refine gs ?_|refine gs1 fun _=>?_|(refine gp ?_ ?_<;>intro hx_ this)|fail)
 all_goals first
  | exact ad (di rfl rfl rfl aP (by rfl)) rfl
structure DupI (p:Nat) where
 k:Nat
 hk:k≤p
 at0:Int
set_option maxHeartbeats 16000000 in
theorem xX (ks ki:SlV) (L:List Int) (I:List ItemD) (it:ItemD) (hr:∀ i∈I,i.act.Rng) (hd:∀ i∈I,i.dec.to.n=i.dec.toL.length) (hit:it.act.Rng) (hdn:it.dec.to.n=it.dec.toL.length) (hI:I.length≤1000) (hs:signedIt L it=true)
  (p:Nat) (x0:ItemD) (hp:I[p]?=some x0) (he:digIt x0=digIt it) (hno:∀ (j:Nat) (y:ItemD),j<p→I[j]?=some y→seqB (digIt y) (digIt it)=false) :
  Pu Tryz.prog 34 #[.agg #[ks.v,ki.v],it.v] (fun w=>((Ints w ks L∧Items w ki I)∧it.at_ w)∧Glob w) (.tuple #[.agg #[ks.v,ki.v],.bool false]):=by
 refine ak (args:=[_,_]) _ Tryz.func34 rfl Tryz.ntmps34 rfl fun av bor w0=>?_
 have hR:=dF it
 have hS:=gK ks L it hdn
 rw [hs] at hS
 have hri:rightIt it=true:=by
  rw [signedIt,ZM] at hs
  exact hs.1
 rw [hri] at hR
 have hD0:=du it hit hdn
 have hD:=fun x (hx:x∈I)=>du x (hr x hx) (hd x hx)
 have hplt:=(List.getElem?_eq_some_iff.1 hp).1
 refine aJ (p:=ki.n=I.length∧ki.n≤maxLen∧(0<I.length→ki.p.isSome=true)) (fun w h=>⟨h.1.1.2.len_,h.1.1.2.max_,h.1.1.2.some_⟩) fun ⟨hkn,hkm,hkp⟩=>?_
 simp only [maxLen] at hkm
 have hkp':=hkp aa
 generalize digIt it=d at *
 clear hs hri hr hd hit hdn
 repeat' (first|(refine ab (hc:=hR) (hX:=fun w h=>h.1.2) ?_)|(refine ab (hc:=hS) (hX:=fun w h=>⟨⟨h.1.1.1,h.1.2⟩,h.2⟩) ?_)|(refine ab (hc:=hD0) (hX:=fun w h=>⟨h.1.2,h.2⟩) ?_)|refine gs ?_|refine gs1 fun _=>?_|(refine gp ?_ ?_<;>intro hx_ this)|fail)
 rename_i b2 b3 b4
 refine ap (ι:=DupI p) (fun i=>⟨[(2,.pointer (some ⟨b2,0,none⟩)),(3,.pointer (some ⟨b3,0,none⟩)),(4,.pointer (some ⟨b4,0,none⟩)),(6,.string d),(7,.int .i64 i.at0),(29,ki.v),(30,.int .i64 (ki.n:Nat)),(31,.int .i64 (i.k:Nat))],[cel b4 25 [.slice none 0 0,.slice none 0 0],cel b3 63 it.cells,cel b2 25 [ks.v,ki.v]],fun w=>((Ints w ks L∧Items w ki I)∧it.at_ w)∧Glob w⟩) (fun i=>p-i.k) ⟨0,Nat.zero_le _,(ki.n:Nat)⟩ (aj ⟨rfl,rfl,rfl,rfl,rfl,rfl,rfl,rfl,trivial⟩ (al _) fun _ h=>h) fun i=>?_
 obtain ⟨k,hk,at0⟩:=i
 simp only
 obtain ⟨x,hx⟩:∃ x,I[k]?=some x:=⟨_,Zm aa⟩
 have hxm:=List.mem_of_getElem? hx
 have hDx:=hD x hxm
 by_cases hkp2:k=p
 · obtain rfl:x=x0:=by rw [hkp2,hp] at hx;exact (Option.some.inj hx).symm
   rw [he] at hDx
   have hdd:seqB d d=true:=cV _
   repeat' (first|refine ai (cf true rfl rfl (ZA aa)) rfl am rfl ?_|refine ai (dR true rfl rfl hdd) rfl am rfl ?_|(refine ab (hc:=hDx) (hX:=fun w h=>⟨h.1.1.2.2 x hxm,h.2⟩) ?_)|refine gs ?_|refine gs1 fun _=>?_|(refine aH (q:=k*49) ?_)|(refine bP (cs:=x.cells) (hF:=fun w h=>h.1.1.2.get hx) ?_)|(refine gp ?_ ?_<;>intro hx_ this)|fail)
   all_goals first
    | exact ad (di rfl rfl rfl aP (by rfl)) rfl
 · have hne:=hno k x aa hx
   cases hg:gtB (digIt x) d
   all_goals
    repeat' (first|refine ai (cf true rfl rfl (ZA aa)) rfl am rfl ?_|refine ai (dR false rfl rfl hne) rfl am rfl ?_|refine ai (kW _ rfl rfl hg) rfl am rfl ?_|(refine ab (hc:=hDx) (hX:=fun w h=>⟨h.1.1.2.2 x hxm,h.2⟩) ?_)|refine gs ?_|refine gs1 fun _=>?_|(refine aH (q:=k*49) ?_)|(refine bP (cs:=x.cells) (hF:=fun w h=>h.1.1.2.get hx) ?_)|(refine gp ?_ ?_<;>intro hx_ this)|fail)
   all_goals first
    | exact ⟨(⟨k+1,by omega,at0⟩:DupI p),(by show p-(k+1)<p-k;omega),aj ⟨rfl,rfl,rfl,rfl,rfl,rfl,rfl,rfl,trivial⟩ (.cons _ (al _)) fun _ h=>h⟩
    | exact ⟨(⟨k+1,by omega,(k:Nat)⟩:DupI p),(by show p-(k+1)<p-k;omega),aj ⟨rfl,rfl,rfl,rfl,rfl,rfl,rfl,rfl,trivial⟩ (.cons _ (al _)) fun _ h=>h⟩
def canAdd (L:List Int) (I:List ItemD) (it:ItemD):Bool:=signedIt L it&&!(I.any fun x=>seqB (digIt x) (digIt it))
def addK (L:List Int) (I:List ItemD) (it:ItemD):List ItemD:=bif canAdd L I it then addV digIt it I else I
theorem rz {P:Program} {f:FuncId} {args:Array Value} {X:World→Prop} {v:Value} {Φ:Value→(World→Prop)→Prop} (h:Pu P f args X v) (hi:∀ X',Φ v X'):Mk P f args X Φ:=by
 unfold Pu at h
 unfold Mk
 exact h.mono fun u R X' ⟨h1,h2⟩=>⟨h1▸hi X',h2⟩
theorem xH {I:List ItemD} {d:ByteArray}:(∃ x∈I,digIt x=d)→∃ (p:Nat) (x0:ItemD),I[p]?=some x0∧digIt x0=d∧∀ (j:Nat) (y:ItemD),j<p→I[j]?=some y→seqB (digIt y) d=false:=by
 induction I with
 | nil=>rintro ⟨x,hx,_⟩;cases hx
 | cons a I ih =>
  rintro ⟨x,hx,e⟩
  by_cases ha:digIt a=d
  · exact ⟨0,a,rfl,ha,fun j y hj=>absurd hj (Nat.not_lt_zero _)⟩
  · rcases List.mem_cons.1 hx with rfl|hx
    · exact absurd e ha
    · obtain ⟨p,x0,h1,h2,h3⟩:=ih ⟨x,hx,e⟩
      refine ⟨p+1,x0,h1,h2,fun j y hj hy=>?_⟩
      cases j with
      | zero =>
       obtain rfl:a=y:=by simpa using hy
       cases hs:seqB (digIt a) d with
       | false=>rfl
       | true=>exact absurd (seqB_iff.1 hs) ha
      | succ j=>exact h3 j y aa hy
theorem DZ (ks ki:SlV) {L:List Int} {I:List ItemD} (h:KnR L I) (it:ItemD) (hit:it.act.Rng) (hdn:it.dec.to.n=it.dec.toL.length) :
  Mk Tryz.prog 34 #[.agg #[ks.v,ki.v],it.v] (fun w=>((Ints w ks L∧Items w ki I)∧it.at_ w)∧Glob w)
   (fun u X'=>∃ s:SlV,u=.tuple #[.agg #[ks.v,s.v],.bool (canAdd L I it)]∧∀ w,(Items w ki I∧X' w)→Items w s (addK L I it)):=by
 have hlen:=h.len
 cases hs:signedIt L it with
 | false =>
  have e:canAdd L I it=false:=by rw [canAdd,hs];rfl
  rw [addK,e]
  exact rz (BN ks ki L I it hdn hs) fun X'=>⟨ki,rfl,fun w h=>h.1⟩
 | true =>
  cases hn:I.any fun x=>seqB (digIt x) (digIt it) with
  | true =>
   have e:canAdd L I it=false:=by rw [canAdd,hs,hn];rfl
   rw [addK,e]
   obtain ⟨x,hx,hx2⟩:=List.any_eq_true.1 hn
   obtain ⟨p,x0,h1,h2,h3⟩:=xH ⟨x,hx,seqB_iff.1 hx2⟩
   exact rz (xX ks ki L I it h.rng h.dn hit hdn aa hs p x0 h1 h2 h3) fun X'=>⟨ki,rfl,fun w h=>h.1⟩
  | false =>
   have e:canAdd L I it=true:=by rw [canAdd,hs,hn];rfl
   rw [addK,e]
   have hri:rightIt it=true:=by
    rw [signedIt,ZM] at hs
    exact hs.1
   have hR:=dF it
   have hS:=gK ks L it hdn
   rw [hri] at hR
   rw [hs] at hS
   exact pD (DX (fun w=>Ints w ks L) ks ki I it rightIt digIt hR hS (du it hit hdn) (fun x hx=>du x (h.rng x hx) (h.dn x hx)) aa fun x hx=>by
    cases hb:seqB (digIt x) (digIt it) with
    | false=>rfl
    | true=>exact absurd (List.any_eq_true.2 ⟨x,hx,hb⟩) (by rw [hn];decide)) fun u X' ⟨s,h1,h2⟩=>⟨s,h1,fun w h=>h2 w h.2⟩
theorem AY {a b:ByteArray} (h:gtB a b=true):ltB b a=true:=by
 rw [gtB,Bool.not_eq_true',Bool.or_eq_false_iff] at h
 cases hh:ltB b a with
 | true=>rfl
 | false =>
  have:=jY (a:=a) (b:=b) h.1 hh
  rw [this,cV] at h
  exact absurd h.2 (by decide)
theorem xy {a b:ByteArray} (h:gtB a b=false) (hn:a≠b):ltB a b=true:=by
 rw [gtB,Bool.not_eq_false',Bool.or_eq_true] at h
 rcases h with h|h
 · exact h
 · exact absurd (seqB_iff.1 h) hn
theorem io (dI:ItemD→ByteArray) (it:ItemD) (I:List ItemD):(addV dI it I).Perm (it::I):=by
 rw [addV]
 refine List.perm_middle.trans ?_
 rw [List.take_append_drop]
theorem kG (dI:ItemD→ByteArray) {it:ItemD} (I:List ItemD) {q:ItemD→Bool} (h:q it=false):(addV dI it I).filter q=I.filter q:=by
 rw [addV,List.filter_append,List.filter_cons_of_neg (by rw [h];decide),←List.filter_append,List.take_append_drop]
theorem BM (dI:ItemD→ByteArray) (it:ItemD) (I:List ItemD) (h:Asc (I.map dI)) (hn:∀ x∈I,dI x≠dI it):Asc ((addV dI it I).map dI):=by
 obtain ⟨p,hp⟩:∃ p,addAt dI (dI it) I I.length=p:=⟨_,rfl⟩
 have hlow:∀ (j:Nat) (x:ItemD),j<p→I[j]?=some x→ltB (dI x) (dI it)=true:=fun j x hj hx=>by
  refine xy ?_ (hn x (List.mem_of_getElem? hx))
  rw [addAt,List.take_length] at hp
  obtain ⟨hlt,e⟩:=List.getElem?_eq_some_iff.1 hx
  cases hf:I.findIdx? fun x=>gtB (dI x) (dI it) with
  | none =>
   have:=List.findIdx?_eq_none_iff.1 hf x (List.mem_of_getElem? hx)
   exact this
  | some q =>
   rw [hf] at hp
   obtain ⟨h1,h2,h3⟩:=List.findIdx?_eq_some_iff_getElem.1 hf
   have:=h3 j (by rw [Option.getD_some] at hp;omega)
   rw [e] at this
   simpa using this
 have hhigh:∀ (j:Nat) (x:ItemD),p≤j→I[j]?=some x→ltB (dI it) (dI x)=true:=fun j x hj hx=>by
  rw [addAt,List.take_length] at hp
  obtain ⟨hlt,e⟩:=List.getElem?_eq_some_iff.1 hx
  cases hf:I.findIdx? fun x=>gtB (dI x) (dI it) with
  | none =>
   rw [hf,Option.getD_none] at hp
   omega
  | some q =>
   rw [hf,Option.getD_some] at hp
   subst hp
   obtain ⟨h1,h2,h3⟩:=List.findIdx?_eq_some_iff_getElem.1 hf
   have h4:=AY h2
   rcases Nat.lt_or_eq_of_le hj with h5|h5
   · exact fq h4 (lc h h5 (by rw [List.getElem?_map,Zm h1];rfl) (by rw [List.getElem?_map,hx];rfl))
   · subst h5
     rw [e] at h4
     exact h4
 rw [addV,hp,Qn,Qv]
 refine List.pairwise_append.2 ⟨la h ((List.take_sublist _ _).map dI),List.pairwise_cons.2 ⟨fun y hy=>?_,la h ((List.drop_sublist _ _).map dI)⟩,fun x hx y hy=>?_⟩
 · obtain ⟨z,hz,rfl⟩:=List.mem_map.1 hy
   obtain ⟨j,hj⟩:=List.mem_iff_getElem?.1 hz
   rw [List.getElem?_drop] at hj
   exact hhigh _ z aa hj
 · obtain ⟨z,hz,rfl⟩:=List.mem_map.1 hx
   obtain ⟨j,hj⟩:=List.mem_iff_getElem?.1 hz
   rw [List.getElem?_take] at hj
   split at hj
   · rename_i hjp
     have h1:=hlow j z hjp hj
     rcases List.mem_cons.1 hy with rfl|hy
     · exact h1
     · obtain ⟨u,hu,rfl⟩:=List.mem_map.1 hy
       obtain ⟨k,hk⟩:=List.mem_iff_getElem?.1 hu
       rw [List.getElem?_drop] at hk
       exact fq h1 (hhigh _ u aa hk)
   · cases hj
theorem nb {L:List Int} {I:List ItemD} {it:ItemD} (h:canAdd L I it=true):signedIt L it=true∧rightIt it=true∧∀ x∈I,digIt x≠digIt it:=by
 rw [canAdd,ZM,Bool.not_eq_true'] at h
 refine ⟨h.1,?_,fun x hx e=>?_⟩
 · have h1:=h.1
   rw [signedIt,ZM] at h1
   exact h1.1
 · rw [List.any_eq_true.2 ⟨x,hx,seqB_iff.2 e⟩] at h
   exact absurd h.2 (by decide)
theorem mJ {L:List Int} {I:List ItemD} (h:KnR L I) {it:ItemD} (hit:it.act.Rng) (hsm:it.act.Sm) (hdn:it.dec.to.n=it.dec.toL.length) (hl:I.length<100):KnR L (addK L I it):=by
 rw [addK]
 cases hc:canAdd L I it with
 | false=>exact h
 | true =>
  obtain ⟨h1,h2,h3⟩:=nb hc
  have hp:=io digIt it I
  have hm:∀ i∈addV digIt it I,i=it∨i∈I:=fun i hi=>List.mem_cons.1 (hp.subset hi)
  show KnR L (addV digIt it I)
  refine ⟨h.sv,by rw [hp.length_eq,ZY];omega,fun i hi=>?_,fun i hi=>?_,fun i hi=>?_,fun i hi=>?_,BM digIt it I h.asc h3⟩
  · rcases hm i hi with rfl|hi
    · exact hit
    · exact h.rng i hi
  · rcases hm i hi with rfl|hi
    · exact hsm
    · exact h.sm i hi
  · rcases hm i hi with rfl|hi
    · exact hdn
    · exact h.dn i hi
  · rcases hm i hi with rfl|hi
    · exact h2
    · exact h.right i hi
theorem rr (n:Nat) (I:List ItemD) (au:ByteArray) {it:ItemD} (hk:it.kind=0):OfWK n (addV digIt it I) au=OfWK n I au:=by
 have h1:claimsV (addV digIt it I) au=claimsV I au:=by
  rw [claimsV,claimsV,selC,selC,kG]
  rw [selBC,wantC,hk]
  rfl
 have h2:∀ g,selB2 au g rightIt (addV digIt it I)=selB2 au g rightIt I:=fun g=>by
  rw [selB2,selB2,kG]
  rw [selBB,wantB,hk]
  rfl
 have h3:∀ g,wonK n (addV digIt it I) au g=wonK n I au g:=fun g=>by rw [wonK,wonK,h1,h2]
 have h4:genB n (addV digIt it I) au=genB n I au:=by
  rw [genB,genB,h1]
  congr 1
  funext g
  exact h3 g
 rw [OfWK,OfWK,h4]
 congr 1
 funext g
 rw [h3]
theorem qD {I:List ItemD} {au:ByteArray} {it:ItemD}:(selA au rightIt (addV digIt it I)).Perm (bif selB au rightIt it then it.act::selA au rightIt I else selA au rightIt I):=by
 have h:=((io digIt it I).filter (selB au rightIt)).map ItemD.act
 cases hs:selB au rightIt it with
 | true =>
  rw [List.filter_cons_of_pos hs,Qv] at h
  exact h
 | false =>
  rw [List.filter_cons_of_neg (by rw [hs];decide)] at h
  exact h
def lastK (kl:List KeyD):Int:=(kl.getD (kl.length-1) KeyD.zero).public_
theorem tv {L:List Int} {I I':List ItemD} {au:ByteArray} {c n:ChainD} {kl kl':List KeyD} (hW:OfWK L.length I' au=OfWK L.length I au) (hA:(selA au rightIt I').Perm (selA au rightIt I)) (q:QK L I au c kl) (q':QK L I' au n kl'):SameC n c∧kl'=kl:=by
 obtain ⟨A,sa,sk,st,f,p,r,rfl,rfl⟩:=q
 obtain ⟨A',sa',sk',st',f',p',r',rfl,rfl⟩:=q'
 rw [hW] at r'
 have r2:=my (OfWK L.length I au) ((p'.trans hA).trans p.symm) r'
 obtain ⟨rfl,rfl⟩:=xi r2 r
 exact ⟨⟨rfl,rfl,rfl,rfl,rfl⟩,rfl⟩
theorem Ab {L:List Int} {I:List ItemD} {it:ItemD} {au:ByteArray} {c n:ChainD} {kl kl':List KeyD} (hk:it.kind=0) (hs:selB au rightIt it=false) (q:QK L I au c kl) (q':QK L (addV digIt it I) au n kl'):SameC n c∧kl'=kl :=
 tv (rr _ I au hk) (by have:=qD (I:=I) (au:=au) (it:=it);rw [hs] at this;exact this) q q'
theorem FC {n:Nat} {I:List ItemD} {au:ByteArray}:∀ g c,(OfWK n I au).won g=some c→g<(OfWK n I au).B:=fun g c hw=>(eR hw).1
theorem AB {W:OfW} {st:ChS} {f:Bool} (r:OfRes W st f) (h:0<st.acts.length):∃ b,oneA (firstL W)=some b∧st=finS W b:=by
 rw [OfRes] at r
 cases ho:oneA (firstL W) with
 | none =>
  rw [ho] at r
  rw [r.1] at h
  exact absurd h (by decide)
 | some b =>
  rw [ho] at r
  exact ⟨b,rfl,r.1⟩
theorem CZ {L:List Int} {I:List ItemD} (h:KnR L I) {it:ItemD} {au:ByteArray} {c n:ChainD} {kl kl':List KeyD} (hk:it.kind=0) (hs:selB au rightIt it=true) (q:QK L I au c kl) (q':QK L (addV digIt it I) au n kl')
  (h0:0<c.actsL.length) (h1:it.act.seq=(c.actsL.length:Int)) (h2:it.act.prev=c.prev) (hcn:c.acts.n=c.actsL.length) :
  bif !c.fork&&(fitsV c it.act (idxV c.actsL it.act.object)&&verV (lastK kl) it.act) then
   c.fork=false∧n.id=c.id∧∃ M K,n.actsL=c.actsL++it.act::M∧kl'=(kl++bif decide (it.act.kind=18) then [⟨((c.actsL.length+1:Nat):Int),it.act.n,it.act.m⟩] else [])++K∧(∀ k∈K,(c.actsL.length:Int)+1≤k.from_) ∧
    (M=[]→n.gen=c.gen→K=[]∧n.prev=digV it.act)
  else SameC n c∧kl'=kl:=by
 obtain ⟨A,sa,sk,st,f,p,r,rfl,rfl⟩:=q
 obtain ⟨A',sa',sk',st',f',p',r',rfl,rfl⟩:=q'
 rw [rr _ I au hk] at r'
 have hsel:=qD (I:=I) (au:=au) (it:=it)
 rw [hs,ZC] at hsel
 have r2:=my (OfWK L.length I au) ((p'.trans hsel).trans (p.symm.cons it.act)) r'
 obtain ⟨b,hb,hst⟩:=AB r h0
 have hx:=DI (DN h p) FC hb r r2 h1 h2
 have hc:candB ((OfWK L.length I au).at A) st it.act=(fitsV (⟨au,sa,sk,st.prev,(st.gen:Nat),f,st.acts⟩:ChainD) it.act (idxV st.acts it.act.object)&&verV (lastK st.keys) it.act):=by
  have e:fitsV (st.ch au) it.act (idxV st.acts it.act.object)=fitsV (⟨au,sa,sk,st.prev,(st.gen:Nat),f,st.acts⟩:ChainD) it.act (idxV st.acts it.act.object):=j2 rfl hcn.symm rfl rfl
  rw [←e]
  rfl
 rw [hc] at hx
 show bif !f&&(fitsV (⟨au,sa,sk,st.prev,(st.gen:Nat),f,st.acts⟩:ChainD) it.act (idxV st.acts it.act.object)&&verV (lastK st.keys) it.act) then _ else _
 cases hb2:!f&&(fitsV (⟨au,sa,sk,st.prev,(st.gen:Nat),f,st.acts⟩:ChainD) it.act (idxV st.acts it.act.object)&&verV (lastK st.keys) it.act) with
 | false =>
  rw [hb2,ZB] at hx
  obtain ⟨rfl,rfl⟩:=hx
  exact ⟨⟨rfl,rfl,rfl,rfl,rfl⟩,rfl⟩
 | true =>
  rw [hb2,ZC] at hx
  obtain ⟨hf,m,hm⟩:=hx
  obtain ⟨M,K,e1,e2,e3⟩:=uU (W:=(OfWK L.length I au).at (it.act::A)) m (addS st it.act)
  have el:((addS st it.act).acts.length:Int)=(st.acts.length:Int)+1:=by simp [addS]
  refine ⟨hf,rfl,M,K,?_,?_,fun k hk2=>?_,fun hM hg=>?_⟩
  · show st'.acts=_
    rw [hm,e1]
    simp [addS]
  · rw [hm,e2]
    congr 1
    show (bif decide (it.act.kind=18) then st.keys++[_] else st.keys)=_
    cases decide (it.act.kind=18)<;>simp
  · have:=e3 k hk2
    show (st.acts.length:Int)+1≤k.from_
    omega
  · have hgr:=iS (W:=(OfWK L.length I au).at (it.act::A)) m (addS st it.act)
    have hg2:st'.gen=st.gen:=by have:((st'.gen:Nat):Int)=(st.gen:Nat):=hg;omega
    have hg3:(addS st it.act).gen=st.gen:=rfl
    rw [hm] at hg2
    rw [hM,Z9] at e1
    have hfix:runS ((OfWK L.length I au).at (it.act::A)) m (addS st it.act)=addS st it.act:=by
     rcases hgr with hgr|hgr|⟨_,g,cc,g1,g2,_⟩
     · exact hgr
     · rw [e1] at hgr;omega
     · omega
    rw [hfix] at e2 hm
    refine ⟨?_,by rw [hm];rfl⟩
    have:=congrArg List.length e2
    rw [ZX] at this
    exact List.eq_nil_of_length_eq_zero aa
def ItemTo (b:ActD) (u:Value) (X:World→Prop):Prop:=∃ s1 s2:SlV,u=(ofActI (b.re s1 s2)).v∧s1.n=b.to.n∧s2.n=b.wraps.n∧∀ w,X w→(b.re s1 s2).at_ w
set_option maxRecDepth 20000 in
theorem xj (a:ActD) (hr:a.Rng) (hs:a.Sm):Mk Tryz.prog 15 #[a.v] (ActD.at_ · a) (ItemTo a):=by
 refine bE (args:=[_]) _ Tryz.func15 rfl Tryz.ntmps15 rfl fun av bor w0=>?_
 repeat' (first|refine gs ?_|refine gs1 fun _=>?_|fail)
 refine cA (hc:=ka a.to (strs a.toL) hs.to (fun cs hcs=>by simp only [strs,List.mem_map] at hcs;obtain ⟨x,_,rfl⟩:=hcs;rfl)) (hX:=fun w h=>h.1) fun v1 X1 h1=>?_
 obtain ⟨s1,rfl,hn1,hw1⟩:=h1
 repeat' (first|refine gs ?_|refine gs1 fun _=>?_|fail)
 refine cA (hc:=j9 a.wraps (a.wrapsL.map WrapD.cells) hs.wraps (fun cs hcs=>by simp only [List.mem_map] at hcs;obtain ⟨x,_,rfl⟩:=hcs;rfl)) (hX:=fun w h=>h.1.2) fun v2 X2 h2=>?_
 obtain ⟨s2,rfl,hn2,hw2⟩:=h2
 repeat' (first|refine gs ?_|refine gs1 fun _=>?_|(refine aC ?_)|fail)
 have e1:s1.n=a.to.n:=by rw [hn1,hr.to_len];simp [strs]
 have e2:s2.n=a.wraps.n:=by rw [hn2,hr.wraps_len];simp
 apply ad;refine cG rfl rfl aP ?_
 · rfl
 refine ⟨s1,s2,rfl,e1,e2,fun w h=>⟨?_,?_⟩⟩
 · exact hw1 w h.1.1.2
 · exact hw2 w h.1.2
theorem iW {a:ActD} (h:a.Rng) {s1 s2:SlV} (h1:s1.n=a.to.n) (h2:s2.n=a.wraps.n):(a.re s1 s2).Rng:=⟨h.ints,h.wints,h1.trans h.to_len,h2.trans h.wraps_len⟩
theorem o9 {a:ActD} (h:a.Sm) {s1 s2:SlV} (h1:s1.n=a.to.n) (h2:s2.n=a.wraps.n):(a.re s1 s2).Sm:=⟨by show s1.n*16≤_;rw [h1];exact h.to,by show s2.n*64≤_;rw [h2];exact h.wraps,h.target⟩
theorem xB (c:ChainD) (a:ActD) (o:Option Nat) {s1 s2:SlV} (h1:s1.n=a.to.n) (h2:s2.n=a.wraps.n):fitsV c (a.re s1 s2) o=fitsV c a o:=by
 rw [fitsV,fitsV,mq h1 h2]
 rfl
def draftX (c:ChainD) (x:ActD):ActD:={ x with author:=c.id,seq:=(c.acts.n:Int),prev:=c.prev }
theorem zM {k:KyD} {a:ActD} (h:rightB (actSignV k a)=true):rightK k=true∧actSignV k a=a.sig (signV k (coreV (a.sig SgD.zero))):=by
 rw [actSignV] at h ⊢
 cases hb:rightB (a.sig SgD.zero)&&rightK k with
 | false =>
  rw [hb,ZB] at h
  exact absurd h (by decide +kernel)
 | true =>
  rw [ZM] at hb
  exact ⟨hb.2,rfl⟩
theorem mw {L:List Int} {I:List ItemD} {au:ByteArray} {c:ChainD} {kl:List KeyD} (q:QK L I au c kl):c.id=au:=by
 obtain ⟨A,sa,sk,st,f,p,r,rfl,rfl⟩:=q
 rfl
theorem xV {L:List Int} {I:List ItemD} {au:ByteArray} {c:ChainD} {kl:List KeyD} (q:QK L I au c kl) {k:KyD} {x:ActD} {s3 s4:SlV} (e3:s3.n=(actSignV k (draftX c x)).to.n) (e4:s4.n=(actSignV k (draftX c x)).wraps.n)
  (ha:canAdd L I (ofActI ((actSignV k (draftX c x)).re s3 s4))=true):rightK k=true∧rightB (actSignV k (draftX c x))=true∧actSignV k (draftX c x)=(draftX c x).sig (signV k (coreV ((draftX c x).sig SgD.zero)))∧selB au rightIt (ofActI ((actSignV k (draftX c x)).re s3 s4))=true:=by
 obtain ⟨h1,h2,h3⟩:=nb ha
 have hr:rightB (actSignV k (draftX c x))=true:=by
  have:=gO (i:=ofActI ((actSignV k (draftX c x)).re s3 s4)) rfl h2
  rw [←mq e3 e4]
  exact this
 obtain ⟨h4,h5⟩:=zM hr
 refine ⟨h4,hr,h5,?_⟩
 rw [selB,h2,ZE,wantA]
 show (true&&seqB (actSignV k (draftX c x)).author au)=true
 rw [ZD,h5]
 show seqB c.id au=true
 rw [mw q]
 exact cV _
def viewC (l:List ChainD) (id:ByteArray):Option (List ActD):=(findC l id).map fun c=>c.actsL.map ActD.can
def viewK (c:ChainD):Option (List ActD):=bif decide (0<c.actsL.length) then some (c.actsL.map ActD.can) else none
theorem Fv (a:ActD):digV a.can=digV a:=Bn rfl rfl
theorem pS (l:List ActD) (i:Nat):(l.map ActD.can).getD i ActD.zero=(l.getD i ActD.zero).can:=by
 rw [ZL,ZL,List.getElem?_map]
 cases l[i]?<;>rfl
theorem tX (l:List ActD) (d:ByteArray):idxV (l.map ActD.can) d=idxV l d:=by
 rw [idxV,idxV,List.findIdx?_map]
 exact congrArg (fun p=>l.findIdx? p) (funext fun a=>by
  show seqB (digV a.can) d=_
  rw [Fv])
theorem lv {c n:ChainD} (h:SameC n c):viewK n=viewK c:=by
 have e:n.actsL.length=c.actsL.length:=by simpa using congrArg List.length h.acts.symm
 rw [viewK,viewK,e,h.acts]
theorem jH {c:ChainD} (h:0<c.actsL.length):viewK c=some (c.actsL.map ActD.can):=by rw [viewK,ZA h];rfl
def AllK (L:List Int) (I:List ItemD) (l:List ChainD):Prop:=∃ M:List ChK,All2 (fun id p=>QK L I id p.1 p.2) (compB (sortB (authI I))) M∧l=(M.filter neK).map Prod.fst
theorem sH (c:ChainD) (l:List ChainD) (id:ByteArray):viewC (c::l) id=bif seqB c.id id then some (c.actsL.map ActD.can) else viewC l id:=by
 rw [viewC,findC,List.find?_cons]
 cases seqB c.id id<;>rfl
theorem qm {L:List Int} {I:List ItemD}:∀ {ids:List ByteArray} {M:List ChK},All2 (fun id p=>QK L I id p.1 p.2) ids M→ids.Nodup →
  (∀ id c kl,id∈ids→QK L I id c kl→viewC ((M.filter neK).map Prod.fst) id=viewK c)∧∀ id,id∉ids→viewC ((M.filter neK).map Prod.fst) id=none:=by
 intro ids M h
 induction h with
 | nil=>exact fun _=>⟨fun id c kl hi=>absurd hi (by simp),fun id _=>rfl⟩
 | @cons a p ids M hp _ ih =>
  intro hn
  obtain ⟨hn1,hn2⟩:=List.nodup_cons.1 hn
  obtain ⟨ih1,ih2⟩:=ih hn2
  have hpa:p.1.id=a:=mw hp
  have hstep:∀ id,viewC (((p::M).filter neK).map Prod.fst) id=bif neK p&&seqB a id then some (p.1.actsL.map ActD.can) else viewC ((M.filter neK).map Prod.fst) id:=fun id=>by
   rw [List.filter_cons]
   cases neK p with
   | true =>
    show viewC (p.1::(M.filter neK).map Prod.fst) id=_
    rw [sH,hpa,ZD]
   | false=>rfl
  refine ⟨fun id c kl hi q=>?_,fun id hi=>?_⟩
  · rw [hstep]
    by_cases e:a=id
    · subst e
      have hs:=lv (tv rfl (List.Perm.refl _) q hp).1
      rw [cV,ZE,←hs,viewK]
      show (bif decide (0<p.1.actsL.length) then _ else _)=_
      cases decide (0<p.1.actsL.length) with
      | true=>rfl
      | false=>exact ih2 a hn1
    · have hne:seqB a id=false:=by
       cases hb:seqB a id with
       | false=>rfl
       | true=>exact absurd (seqB_iff.1 hb) e
      rw [hne,ZH]
      rcases List.mem_cons.1 hi with rfl|hi
      · exact absurd rfl e
      · exact ih1 id c kl hi q
  · rw [hstep]
    have hne:seqB a id=false:=by
     cases hb:seqB a id with
     | false=>rfl
     | true=>exact absurd (by rw [seqB_iff.1 hb];exact ar) hi
    rw [hne,ZH]
    exact ih2 id fun h=>hi (ZS _ h)
theorem ox (I:List ItemD):(compB (sortB (authI I))).Nodup:=(kT _).imp fun h e=>by subst e;rw [cX] at h;cases h
theorem mem_ids {I:List ItemD} {id:ByteArray}:id∈compB (sortB (authI I))↔id∈authI I:=kQ
theorem xU {L:List Int} {I:List ItemD} {l:List ChainD} (h:AllK L I l) {id:ByteArray} {c:ChainD} (hf:findC l id=some c):∃ kl,QK L I id c kl∧0<c.actsL.length∧id∈authI I:=by
 obtain ⟨M,hM,rfl⟩:=h
 have h1:seqB c.id id=true:=List.find?_some (p:=fun c:ChainD=>seqB c.id id) hf
 replace h1:=seqB_iff.1 h1
 obtain ⟨p,hp,rfl⟩:=List.mem_map.1 (List.mem_of_find?_eq_some hf)
 obtain ⟨hp1,hp2⟩:=List.mem_filter.1 hp
 obtain ⟨a,ha,q⟩:=hM.right p hp1
 have e:a=id:=(mw q).symm.trans h1
 subst e
 exact ⟨p.2,q,aM hp2,mem_ids.1 ha⟩
theorem fB {L:List Int} {I:List ItemD} {l:List ChainD} (h:AllK L I l) {id:ByteArray} (hi:id∈authI I) {c:ChainD} {kl:List KeyD} (q:QK L I id c kl):viewC l id=viewK c:=by
 obtain ⟨M,hM,rfl⟩:=h
 exact (qm hM (ox I)).1 id c kl (mem_ids.2 hi) q
theorem lf {L:List Int} {I:List ItemD} {l:List ChainD} (h:AllK L I l) {id:ByteArray} (hi:id∉authI I):viewC l id=none:=by
 obtain ⟨M,hM,rfl⟩:=h
 exact (qm hM (ox I)).2 id fun h=>hi (mem_ids.1 h)
theorem All2.leftQ {α β:Type} {R:α→β→Prop} {l:List α} {m:List β} (h:All2 R l m):∀ a∈l,∃ b∈m,R a b:=by
 induction h with
 | nil=>exact fun a ha=>absurd ha (by simp)
 | cons h1 _ ih =>
  intro a ha
  rcases List.mem_cons.1 ha with rfl|ha
  · exact ⟨_,ar,h1⟩
  · obtain ⟨b,hb,r⟩:=ih a ha
    exact ⟨b,ZS _ hb,r⟩
theorem qe {L:List Int} {I:List ItemD} {l:List ChainD} (h:AllK L I l) {id:ByteArray} (hi:id∈authI I):∃ c kl,QK L I id c kl:=by
 obtain ⟨M,hM,rfl⟩:=h
 obtain ⟨p,_,q⟩:=All2.leftQ hM id (mem_ids.2 hi)
 exact ⟨_,_,q⟩
theorem sr {I:List ItemD} {it:ItemD} (hk:it.kind=0) {id:ByteArray}:id∈authI (addV digIt it I)↔id=it.act.author∨id∈authI I:=by
 have h:=((io digIt it I).filter fun i=>decide (i.kind=0)).map fun i=>i.act.author
 rw [List.filter_cons_of_pos (p:=fun i:ItemD=>decide (i.kind=0)) (ZA hk),Qv] at h
 exact h.mem_iff.trans Z8
theorem BJ {L:List Int} {I:List ItemD} {it:ItemD} (hk:it.kind=0) {l l':List ChainD} (h:AllK L I l) (h':AllK L (addK L I it) l') {id:ByteArray} (hi:id≠it.act.author):viewC l' id=viewC l id:=by
 rw [addK] at h'
 cases hc:canAdd L I it with
 | false =>
  rw [hc,ZB] at h'
  by_cases hm:id∈authI I
  · obtain ⟨c,kl,q⟩:=qe h hm
    rw [fB h hm q,fB h' hm q]
  · rw [lf h hm,lf h' hm]
 | true =>
  rw [hc,ZC] at h'
  have hm':id∈authI (addV digIt it I)↔id∈authI I:=by rw [sr hk];exact ⟨fun h=>h.resolve_left hi,.inr⟩
  by_cases hm:id∈authI I
  · obtain ⟨c,kl,q⟩:=qe h hm
    obtain ⟨c',kl',q'⟩:=qe h' (hm'.2 hm)
    have hs:selB id rightIt it=false:=by
     have hne:seqB it.act.author id=false:=by
      cases hb:seqB it.act.author id with
      | false=>rfl
      | true=>exact absurd (seqB_iff.1 hb).symm hi
     rw [selB,wantA,hne,ZH,ZG]
    rw [fB h hm q,fB h' (hm'.2 hm) q',lv (Ab hk hs q q').1]
  · rw [lf h hm,lf h' fun h=>hm (hm'.1 h)]
theorem oK {L:List Int} {I:List ItemD} {it:ItemD} (hk:it.kind=0) {id:ByteArray} (h:id∈authI I):id∈authI (addK L I it):=by
 rw [addK]
 cases canAdd L I it with
 | false=>exact h
 | true=>exact (sr hk).2 (.inr h)
structure SignD (L:List Int) (I:List ItemD) (c n:ChainD) (k:KyD) (x b:ActD):Prop where
 right:rightB b=true
 sig:b=(draftX c x).sig (signV k (coreV ((draftX c x).sig SgD.zero)))
 fits:fitsV c b (idxV c.actsL b.object)=true
 acts:n.actsL.map ActD.can=c.actsL.map ActD.can++[b.can]
 len:n.actsL.length=c.actsL.length+1
theorem sX {L:List Int} {I:List ItemD} (h:KnR L I) {au:ByteArray} {c n:ChainD} {kl kl':List KeyD} (q:QK L I au c kl) (h0:0<c.actsL.length) (hcn:c.acts.n=c.actsL.length) {k:KyD} {x:ActD} {s3 s4:SlV}
  (e3:s3.n=(actSignV k (draftX c x)).to.n) (e4:s4.n=(actSignV k (draftX c x)).wraps.n) (q':QK L (addK L I (ofActI ((actSignV k (draftX c x)).re s3 s4))) au n kl') (hl:n.actsL.length=c.actsL.length+1) :
  SignD L I c n k x (actSignV k (draftX c x))∧canAdd L I (ofActI ((actSignV k (draftX c x)).re s3 s4))=true:=by
 cases ha:canAdd L I (ofActI ((actSignV k (draftX c x)).re s3 s4)) with
 | false =>
  rw [addK,ha] at q'
  have:=congrArg List.length (tv rfl (List.Perm.refl _) q q').1.acts
  simp at this
  omega
 | true =>
  obtain ⟨g1,g2,g3,g4⟩:=xV q e3 e4 ha
  rw [addK,ha] at q'
  have h1:(actSignV k (draftX c x)).seq=(c.actsL.length:Int):=by rw [g3,←hcn];rfl
  have h2:(actSignV k (draftX c x)).prev=c.prev:=by rw [g3];rfl
  have hx:=CZ h (it:=ofActI ((actSignV k (draftX c x)).re s3 s4)) rfl g4 q q' h0 h1 h2 hcn
  have hf2:fitsV c (ofActI ((actSignV k (draftX c x)).re s3 s4)).act (idxV c.actsL (ofActI ((actSignV k (draftX c x)).re s3 s4)).act.object)=fitsV c (actSignV k (draftX c x)) (idxV c.actsL (actSignV k (draftX c x)).object):=by
   rw [show (ofActI ((actSignV k (draftX c x)).re s3 s4)).act=(actSignV k (draftX c x)).re s3 s4 from rfl,xB c _ _ e3 e4]
   rfl
  cases hb:!c.fork&&(fitsV c (ofActI ((actSignV k (draftX c x)).re s3 s4)).act (idxV c.actsL (ofActI ((actSignV k (draftX c x)).re s3 s4)).act.object)&&verV (lastK kl) (ofActI ((actSignV k (draftX c x)).re s3 s4)).act) with
  | false =>
   rw [hb,ZB] at hx
   have:=congrArg List.length hx.1.acts
   simp at this
   omega
  | true =>
   rw [hb,ZC] at hx
   obtain ⟨_,x2,M,K,x3,x4,x5,x6⟩:=hx
   have hM:M=[]:=by
    refine List.eq_nil_of_length_eq_zero ?_
    have:=congrArg List.length x3
    simp at this
    omega
   subst hM
   rw [ZM,ZM,hf2] at hb
   refine ⟨⟨g2,g3,hb.2.1,?_,hl⟩,rfl⟩
   rw [x3,Qn]
   show _++[((actSignV k (draftX c x)).re s3 s4).can]=_
   rw [Fw _ e3 e4]
theorem ld {L:List Int} {I:List ItemD} (h:KnR L I) {l:List ChainD} (hl:AllK L I l):∀ c∈l,ActsOk c.actsL∧c.actsL.length≤100:=by
 obtain ⟨M,hM,rfl⟩:=hl
 intro c hc
 obtain ⟨p,hp,rfl⟩:=List.mem_map.1 hc
 obtain ⟨a,_,q⟩:=hM.right p (List.mem_filter.1 hp).1
 exact ⟨(gC h q).ok,(gC h q).len⟩
theorem oL {L:List Int} {I:List ItemD} {it:ItemD} (hk:it.kind=0) {l':List ChainD} (h':AllK L (addK L I it) l') {id:ByteArray} (hi:id∈authI I) {n:ChainD} {kl':List KeyD} (q':QK L (addK L I it) id n kl') (h0:0<n.actsL.length) :
  viewC l' id=some (n.actsL.map ActD.can):=by
 rw [fB h' (oK hk hi) q',jH h0]
theorem ra {P:Program} {fn:Func} {N t u r ty ty2 n n2:Nat} {s:St} {b b2 T T2:Nat} {cs cs2:List Value} {x:Value} [hI:TyAgg P ty n] [hI2:TyAgg P ty2 n2] (hr:fn.results=#[.cell t ty,.cell u ty2,.tmp r]) (h:Sy.look s.env t=some (.pointer (some ⟨b,0,none⟩))) (h':Sy.look s.env u=some (.pointer (some ⟨b2,0,none⟩))) (h'':Sy.look s.env r=some x) (hm:cel b T cs∈s.loc) (hn:cs.length=n) (hm2:cel b2 T2 cs2∈s.loc) (hn2:cs2.length=n2) :
  Res1 P fn N s (.tuple #[.agg cs.toArray,.agg cs2.toArray,x]):=fun av bor w0 a w ok=>by
 obtain ⟨D,h1,h2,h3⟩:=cU hI.out
 obtain ⟨D2,g1,g2,g3⟩:=cU hI2.out
 have ht:=ok.env t _ h
 have hu:=ok.env u _ h'
 have hx:=ok.env r _ h''
 have l1:(loadVar ty ⟨b,0,none⟩).run P w=.ok (.agg cs.toArray) w:=by
  cases D<;>simp at h2
  · exact run_loadVar_row w b T ty cs.toArray (0,0) _ (eH ok hm) h1 rfl (by rw [h3];simp [hn])
  · exact run_loadVar_row w b T ty cs.toArray (0,0) _ (eH ok hm) h1 rfl (by rw [h3];simp [hn])
 have l2:(loadVar ty2 ⟨b2,0,none⟩).run P w=.ok (.agg cs2.toArray) w:=by
  cases D2<;>simp at g2
  · exact run_loadVar_row w b2 T2 ty2 cs2.toArray (0,0) _ (eH ok hm2) g1 rfl (by rw [g3];simp [hn2])
  · exact run_loadVar_row w b2 T2 ty2 cs2.toArray (0,0) _ (eH ok hm2) g1 rfl (by rw [g3];simp [hn2])
 simp [results,hr,ht,hu,hx,asAddr,l1,l2]
theorem qd (ks ki:SlV) {L:List Int} {I:List ItemD} (h:KnR L I) :
  Mk Tryz.prog 8 #[.agg #[ks.v,ki.v]] (fun w=>(Ints w ks L∧Items w ki I)∧Glob w) (fun u X=>∃ (s:SlV) (l:List ChainD),AllK L I l∧u=s.v∧∀ w,X w→Chains w s l) :=
 pD (BK (QK L I) ks ki L I (by have:=h.len;omega) fun au=>vg ks ki h au) fun u X ⟨s,M,hM,e,hw⟩=>⟨s,_,⟨M,hM,rfl⟩,e,fun w h=>(hw w h).1⟩
def sgA (k:KyD) (c:ChainD) (x:ActD):ActD:=actSignV k (draftX c { x with time:=1 })
def SignR (L:List Int) (I:List ItemD) (ks ki:SlV) (c:ChainD) (k:KyD) (x:ActD) (u:Value) (X:World→Prop):Prop :=
 ∃ (s3 s4 s:SlV) (n:ChainD) (kl':List KeyD),s3.n=(sgA k c x).to.n∧s4.n=(sgA k c x).wraps.n∧QK L (addK L I (ofActI ((sgA k c x).re s3 s4))) c.id n kl' ∧
  u=.tuple #[.agg #[ks.v,s.v],n.v,.bool (decide ((n.acts.n:Int)=(c.acts.n:Int)+1))]∧∀ w,(Items w ki I∧X w)→Items w s (addK L I (ofActI ((sgA k c x).re s3 s4)))∧n.at_ w
structure AddW (L:List Int) (I:List ItemD) (ki:SlV) (b:ActD) where
 s3:SlV
 s4:SlV
 s:SlV
 bk:Nat
 Y:World→Prop
 e3:s3.n=b.to.n
 e4:s4.n=b.wraps.n
 hw:∀ w,(Items w ki I∧Y w)→Items w s (addK L I (ofActI (b.re s3 s4)))
set_option maxRecDepth 20000 in
set_option maxHeartbeats 16000000 in
theorem km (ks ki:SlV) {L:List Int} {I:List ItemD} (hK:KnR L I) (hI:I.length<100) (c:ChainD) (hc:c.actsL.length≤1000) (k:KyD) (x:ActD) (hx:x.Rng) (hs:x.Sm) :
  Mk Tryz.prog 12 #[.agg #[ks.v,ki.v],c.v,k.v,x.v] (fun w=>(((Ints w ks L∧Items w ki I)∧c.at_ w)∧x.at_ w)∧Glob w) (SignR L I ks ki c k x):=by
 refine bE (args:=[_,_,_,_]) _ Tryz.func12 rfl Tryz.ntmps12 rfl fun av bor w0=>?_
 refine aJ (p:=c.acts.n=c.actsL.length) (fun w h=>h.1.1.2.len_) fun hcn=>?_
 have hxR:(draftX c { x with time:=1 }).Rng:=⟨⟨by show (c.acts.n:Int)<_;omega,hx.ints.2.1,by show (1:Int)<_;decide,hx.ints.2.2.2⟩,hx.wints,hx.to_len,hx.wraps_len⟩
 have hxS:(draftX c { x with time:=1 }).Sm:=⟨hs.to,hs.wraps,hs.target⟩
 have hbR:(sgA k c x).Rng:=qL hxR
 have hbS:(sgA k c x).Sm:=uR hxS
 have hdr:=Bl c x.kind 1
 have hsg:Mk Tryz.prog 35 #[k.v,(draftX c { x with time:=1 }).v] (fun w=>(draftX c { x with time:=1 }).at_ w∧Glob w) (ActTo (sgA k c x)):=um k (draftX c { x with time:=1 }) hxR hxS
 unfold SignR
 obtain ⟨b,hb⟩:∃ b,sgA k c x=b:=⟨_,rfl⟩
 rw [hb] at hbR hbS hsg ⊢
 repeat' (first|(refine ab (hc:=hdr) (hX:=fun _ _=>trivial) ?_)|refine gs ?_|refine gs1 fun _=>?_|(refine gp ?_ ?_<;>intro hx_ this)|fail)
 rename_i b4 b5 b6 b7 b8 b9 b11
 refine sd (aj (E':=[(4,.pointer (some ⟨b4,0,none⟩)),(5,.pointer (some ⟨b5,0,none⟩)),(6,.pointer (some ⟨b6,0,none⟩)),(7,.pointer (some ⟨b7,0,none⟩)),(8,.pointer (some ⟨b8,0,none⟩)),(9,.pointer (some ⟨b9,0,none⟩))]) (l':=[cel b9 36 ChainD.zero.cells,cel b8 25 [.slice none 0 0,.slice none 0 0],cel b7 50 (draftX c { x with time:=1 }).cells,cel b6 27 k.v.cells.toList,cel b5 36 c.cells,cel b4 25 [ks.v,ki.v]]) (X':=fun w=>(((Ints w ks L∧Items w ki I)∧c.at_ w)∧x.at_ w)∧Glob w) ⟨rfl,rfl,rfl,rfl,rfl,rfl,trivial⟩ (.cons _ (al _)) fun _ h=>h) ?_
 refine il (ι:=AddW L I ki b) (fun m=>⟨[(5,.pointer (some ⟨b5,0,none⟩)),(8,.pointer (some ⟨b8,0,none⟩)),(9,.pointer (some ⟨b9,0,none⟩)),(12,.pointer (some ⟨m.bk,0,none⟩))],[cel m.bk 25 [ks.v,m.s.v],cel b9 36 ChainD.zero.cells,cel b8 25 [.slice none 0 0,.slice none 0 0],cel b5 36 c.cells],fun w=>((((Ints w ks L∧Items w ki I)∧c.at_ w)∧x.at_ w)∧Glob w)∧m.Y w⟩) ?_ fun m=>?_
 · (refine aq ⟨[0,1,2],[(3,⟨[],[(4,⟨[],[(5,⟨[6,7,8],[(9,⟨[],[(10,⟨[11],[]⟩)]⟩)]⟩),(9,⟨[],[(5,⟨[6,7,8],[(10,⟨[11],[]⟩)]⟩)]⟩)]⟩),(9,⟨[],[(4,⟨[],[(5,⟨[6,7,8],[(10,⟨[11],[]⟩)]⟩)]⟩)]⟩)]⟩),(9,⟨[],[(3,⟨[],[(4,⟨[],[(5,⟨[6,7,8],[(10,⟨[11],[]⟩)]⟩)]⟩)]⟩)]⟩)]⟩ [cel b7 50 (draftX c { x with time:=1 }).cells,cel b6 27 k.v.cells.toList,cel b4 25 [ks.v,ki.v]] (fun w=>(((Ints w ks L∧Items w ki I)∧c.at_ w)∧x.at_ w)∧Glob w) (h:=?_))
   all_goals repeat' (first|((refine cA (hc:=hsg) (hX:=fun w h=>⟨h.1.2,h.2⟩) fun v X2 h2=>?_;obtain ⟨s1,s2,rfl,e1,e2,hw2⟩:=h2))|((refine cA (hc:=xj (b.re s1 s2) (iW hbR e1 e2) (o9 hbS e1 e2)) (hX:=fun w h=>hw2 w h.2) fun v X3 h3=>?_;obtain ⟨s3,s4,rfl,e3,e4,hw3⟩:=h3;refine cu (X':=fun w=>((((Ints w ks L∧Items w ki I)∧c.at_ w)∧x.at_ w)∧Glob w)∧X3 w) (fun w h=>⟨h.1.1,h.2⟩) ?_))|((refine cA (hc:=DZ ks ki hK (ofActI (b.re s3 s4)) (iW hbR (e3.trans e1) (e4.trans e2)) rfl) (hX:=fun w h=>⟨⟨h.1.1.1.1,hw3 w h.2,aV w 1⟩,h.1.2⟩) fun v X4 h4=>?_;obtain ⟨s,rfl,hw4⟩:=h4))|refine gdz ?_|refine az ?_ (h':=?_)|exact aA|refine gs1 fun _=>?_|(refine gq ?_ ?_<;>intro hx_ this)|fail)
   all_goals first
    | exact ⟨(⟨s3,s4,s,_,fun w=>X3 w∧X4 w,e3.trans e1,e4.trans e2,fun w h=>hw4 w ⟨h.1,h.2.2⟩⟩:AddW L I ki b),aj ⟨rfl,rfl,rfl,rfl,trivial⟩ (.cons_cons _ (.cons_cons _ (.cons_cons _ (.cons _ (.cons _ (.cons_cons _ (ZR _))))))) fun w h=>⟨h.1.1,h.1.2,h.2⟩⟩
 obtain ⟨s3,s4,s,bk,Y,e3,e4,hwI⟩:=m
 simp only
 have hK':KnR L (addK L I (ofActI (b.re s3 s4))):=mJ hK (iW hbR e3 e4) (o9 hbS e3 e4) rfl hI
 repeat' (first|(refine cA (hc:=vg ks s hK' c.id) (hX:=fun w h=>⟨⟨h.1.1.1.1.1,hwI w ⟨h.1.1.1.1.2,h.2⟩⟩,h.1.2⟩) fun v X5 h5=>?_;obtain ⟨n,kl',hQ',rfl,hw5⟩:=h5)|refine gs ?_|refine gs1 fun _=>?_|(refine gp ?_ ?_<;>intro hx_ this)|fail)
 rename_i b14
 refine aJ (p:=n.acts.n=n.actsL.length) (fun w h=>(hw5 w h.2).1.len_) fun hnn=>?_
 have hnl:=(gC hK' hQ').len
 (refine aq ⟨[0,1,2,3,4,5,6,7,8,9],[(10,⟨[],[(11,⟨[12],[]⟩)]⟩)]⟩ [cel b14 36 n.cells,cel bk 25 [ks.v,s.v],cel b5 36 c.cells] (fun w=>(((((Ints w ks L∧Items w ki I)∧c.at_ w)∧x.at_ w)∧Glob w)∧Y w)∧X5 w) (h:=?_))
 all_goals repeat' (first|refine gdz ?_|refine az ?_ (h':=?_)|exact aA|refine gs1 fun _=>?_|(refine gq ?_ ?_<;>intro hx_ this)|fail)
 all_goals
  repeat' (first|refine gs ?_|refine gs1 fun _=>?_|(refine gp ?_ ?_<;>intro hx_ this)|fail)
  all_goals refine ad (ra (n:=2) (n2:=6) rfl rfl rfl rfl aP rfl aP rfl) ?_
  all_goals exact ⟨s3,s4,s,n,kl',e3,e4,hQ',rfl,fun w h=>⟨hwI w ⟨h.1,h.2.1.1.2⟩,(hw5 w h.2.1.2).1⟩⟩
end Go.Proofs.YtoefdofbekihdaaGreatDoor
set_option maxHeartbeats 16000000
namespace Go.Proofs.YtoefdofbekihdaaGreatDoor
open Go Go.Proofs Sy Go.Shelf Go.Maps Go.Sort
theorem sortsI (m:Nat):AnyZI.SortsIn Tryz.prog Tryz.sortedI_ren Fence.wide m :=
  ⟨fun blk off cap ss W hH hblk hsz=>callsIn_wide.2 (AnyM.slices_Sort_int Tryz.sortI blk off cap ss W hH hblk hsz),
   fun p cap W=>callsIn_wide.2 (AnyM.slices_Sort_int_none Tryz.sortI p cap W)⟩
end Go.Proofs.YtoefdofbekihdaaGreatDoor
set_option maxHeartbeats 16000000
namespace Go.Proofs.YtoefdofbekihdaaGreatDoor
open Go Go.Proofs Sy
structure ListD where
 actor:ByteArray
 reason:ByteArray
 by_:ByteArray
 until_:Int
def ListD.cells (a:ListD):List Value:=[.string a.actor,.string a.reason,.string a.by_,.int .i64 a.until_]
def ListD.v (a:ListD):Value:=.agg a.cells.toArray
structure EntD where
 l:ListD
 at_:Int
def EntD.cells (a:EntD):List Value:=[.string a.l.actor,.string a.l.reason,.string a.l.by_,.int .i64 a.l.until_,.int .i64 a.at_]
def EntD.v (a:EntD):Value:=.agg a.cells.toArray
def eqLD (a b:ListD):Bool:=seqB a.actor b.actor&&(seqB a.reason b.reason&&(seqB a.by_ b.by_&&decide (a.until_=b.until_)))
def eqED (a b:EntD):Bool:=eqLD a.l b.l&&decide (a.at_=b.at_)
theorem eqLD_iff {a b:ListD}:eqLD a b=true↔a=b:=by
 cases a;cases b
 simp only [eqLD,ZM,seqB_iff,ZT,ListD.mk.injEq]
theorem eqED_iff {a b:EntD}:eqED a b=true↔a=b:=by
 cases a;cases b
 simp only [eqED,ZM,eqLD_iff,ZT,EntD.mk.injEq]
theorem jM (w:World) {cs:Array Value} {off:Nat} {v:Value} (h:cs[off]?=some v):(part 9 cs off).run Tryz.prog w=.ok v w:=by
 simp [part,isAgg,run_underlying Tryz.underlying9,h]
theorem nZ (w:World) {cs:Array Value} {off:Nat} {v:Value} (h:cs[off]?=some v):(part 3 cs off).run Tryz.prog w=.ok v w:=by
 simp [part,isAgg,run_underlying Tryz.underlying3,h]
theorem DL (w:World) (d:Nat) (a b:ByteArray):(Op.equalIn (d+1) 9 (.string a) (.string b)).run Tryz.prog w=.ok (seqB a b) w:=run_equalIn_string w d _ a b Tryz.underlying9
theorem vB (w:World) (d:Nat) (a b:Int):(Op.equalIn (d+1) 3 (.int .i64 a) (.int .i64 b)).run Tryz.prog w=.ok (decide (a=b)) w:=by
 rw [run_equalIn_int w d _ .i64 .i64 a b Tryz.underlying3]
 rfl
theorem mn (w:World) (d:Nat) (a b:ListD):(Op.equalIn (d+2) 52 a.v b.v).run Tryz.prog w=.ok (eqLD a b) w:=by
 have p0:∀ x:ListD,(part 9 x.cells.toArray 0).run Tryz.prog w=.ok (.string x.actor) w:=fun x=>jM w rfl
 have p1:∀ x:ListD,(part 9 x.cells.toArray 1).run Tryz.prog w=.ok (.string x.reason) w:=fun x=>jM w rfl
 have p2:∀ x:ListD,(part 9 x.cells.toArray 2).run Tryz.prog w=.ok (.string x.by_) w:=fun x=>jM w rfl
 have p3:∀ x:ListD,(part 3 x.cells.toArray 3).run Tryz.prog w=.ok (.int .i64 x.until_) w:=fun x=>nZ w rfl
 unfold ListD.v
 rw [run_equalIn_agg _ _ _ _ _ ae ae]
 simp only [Program.fieldsOf,Tryz.underlying52]
 simp [Op.eqFields,p0,p1,p2,p3,DL,vB]
 unfold eqLD
 cases seqB a.actor b.actor<;>cases seqB a.reason b.reason<;>cases seqB a.by_ b.by_<;>by_cases h:a.until_=b.until_<;>simp [h]
theorem zR (w:World) (d:Nat) (a b:EntD):(Op.equalIn (d+3) 82 a.v b.v).run Tryz.prog w=.ok (eqED a b) w:=by
 have p0:∀ x:EntD,(part 52 x.cells.toArray 0).run Tryz.prog w=.ok x.l.v w:=fun x=>by
  have hs:(sizeOf 52).run Tryz.prog w=.ok 4 w:=Sy.run_sizeOf (P:=Tryz.prog) (t:=52) (n:=4) ae w
  simp [part,isAgg,run_underlying Tryz.underlying52,hs]
  rfl
 have p4:∀ x:EntD,(part 3 x.cells.toArray 4).run Tryz.prog w=.ok (.int .i64 x.at_) w:=fun x=>nZ w rfl
 unfold EntD.v
 rw [run_equalIn_agg _ _ _ _ _ ae ae]
 simp only [Program.fieldsOf,Tryz.underlying82]
 have hl:=fun w=>mn w d a.l b.l
 simp [Op.eqFields,p0,p4,vB,hl]
 unfold eqED
 cases eqLD a.l b.l<;>by_cases h:a.at_=b.at_<;>simp [h]
section
variable {N:Nat} {av bor:List Nat} {w0:World} {ops:Array Oper} {rest:List Oper} {k:St→Prop} {E:Env} {loc:List Res} {X:World→Prop} {x y:Operand} {t2:TypeId}
variable {n:Nat} {ty:TypeId} {pos:String} {af:Array Edge} {g:Option (Nat×Bool)} {bb want:Bool} {st:St}
theorem Ew (a b:ListD) (hx:ev st.env x=some a.v) (hy:ev st.env y=some b.v):Sy.Yields Tryz.prog N av bor w0 st (.binOp .eql 52 x y t2) ty (.bool (eqLD a b)):=Sy.Yields.mk fun A w ok d pos af g=>by
 have h1:=run_eqGuard_agg (P:=Tryz.prog) w .eql 52 x y a.cells.toArray b.cells.toArray ae
 have h2:=run_eql_struct (P:=Tryz.prog) w 52 a.cells.toArray b.cells.toArray
 have h3:=mn w 9998 a b
 simp only [ListD.v] at hx hy h3
 simp [execOp,ok.eval hx,ok.eval hy,h1,h2,h3]
theorem ur (a b:ListD) (hx:ev st.env x=some a.v) (hy:ev st.env y=some b.v):Sy.Yields Tryz.prog N av bor w0 st (.binOp .neq 52 x y t2) ty (.bool (!eqLD a b)):=Sy.Yields.mk fun A w ok d pos af g=>by
 have h1:=run_eqGuard_agg (P:=Tryz.prog) w .neq 52 x y a.cells.toArray b.cells.toArray ae
 have h2:=run_neq_struct (P:=Tryz.prog) w 52 a.cells.toArray b.cells.toArray
 have h3:=mn w 9998 a b
 simp only [ListD.v] at hx hy h3
 simp [execOp,ok.eval hx,ok.eval hy,h1,h2,h3]
theorem BX (a b:EntD) (hx:ev st.env x=some a.v) (hy:ev st.env y=some b.v):Sy.Yields Tryz.prog N av bor w0 st (.binOp .neq 82 x y t2) ty (.bool (!eqED a b)):=Sy.Yields.mk fun A w ok d pos af g=>by
 have h1:=run_eqGuard_agg (P:=Tryz.prog) w .neq 82 x y a.cells.toArray b.cells.toArray ae
 have h2:=run_neq_struct (P:=Tryz.prog) w 82 a.cells.toArray b.cells.toArray
 have h3:=zR w 9997 a b
 simp only [EntD.v] at hx hy h3
 simp [execOp,ok.eval hx,ok.eval hy,h1,h2,h3]
theorem zz (a b:EntD) (hx:ev E x=some a.v:=by rfl) (hy:ev E y=some b.v:=by rfl) (hg:gdB ops E g=some (bb,want):=by rfl) (hbb:bb=want:=by exact am) (hd:Nat.blt n N=true:=by rfl) (h:Sw Tryz.prog N av bor w0 ops rest ⟨(n,.bool (!eqED a b))::E,loc,X⟩ k) :
  Sw Tryz.prog N av bor w0 ops (⟨some n,.binOp .neq 82 x y t2,ty,pos,af,g⟩::rest) ⟨E,loc,X⟩ k:=ai (BX a b hx hy) hg hbb hd h
end
def betV (a b:EntD):Bool:=bif !decide (a.l.until_=b.l.until_) then decide (b.l.until_<a.l.until_) else bif !seqB a.l.by_ b.l.by_ then ltB a.l.by_ b.l.by_ else decide (b.at_<a.at_)
theorem xR (a b:EntD):Pu Tryz.prog 30 #[a.v,b.v] (fun _=>True) (.bool (betV a b)):=by
 refine ak (args:=[_,_]) _ Tryz.func30 rfl Tryz.ntmps30 rfl fun av bor w0=>?_
 repeat' (first|refine gs ?_|refine gs1 fun _=>?_|(refine uJ ?_)|(refine gp ?_ ?_<;>intro hx_ this)|fail)
 all_goals
  apply ad;apply ag;rfl;rfl
  first|(simp only [betV, *,ZQ,ZO,ZC,ZB,ZE,ZD,ZH,ZG,ZK,ZI,ZP,ZJ,ZN,ZF];done)|(simp only [betV, *,ZQ,ZO,ZC,ZB,ZE,ZD,ZH,ZG,ZK,ZI,ZP,ZJ,ZN,ZF];rfl)
end Go.Proofs.YtoefdofbekihdaaGreatDoor
set_option maxHeartbeats 16000000
namespace Go.Proofs.YtoefdofbekihdaaGreatDoor
open Go Go.Proofs Sy Go.Shelf Go.Maps Go.Sort
instance tymL0:TyMap Tryz.prog 126 82 (keyD Int):=⟨ae⟩
instance tymL1:TyMap Tryz.prog 77 82 (keyD ByteArray):=⟨ae⟩
instance tymL11:TyMap Tryz.prog 78 4 (keyD ByteArray):=⟨ae⟩
theorem keysEI_c:KeysC Tryz.prog 60 118 126 where
 keys:=fun mb W=>(callsIn_wide (n:=5)).1 (AnyZI.keys_in Tryz.keys_map_int_agora_lists_entry_int_agora_lists_entry Fence.wide 5 trivial rfl mb W)
theorem sortedEI_c:SortedIC Tryz.prog 59 118 3 where
 key:=Tryz.underlying3
 sorted:=fun w Bm q nn D0 hB hc hown h1 h2=>(callsIn_wide (n:=5)).1 (AnyZI.sorted_in Tryz.sortedI Fence.wide 5 trivial trivial trivial trivial rfl aa (sortsI _) (enters_of Tryz.func117 ae rfl) _ _ trivial (enters_of Tryz.func118 ae rfl) _ _ h1 h2 _
  (AnyZI.keys_gives (ρ:=Tryz.keys_map_int_agora_lists_entry_int_agora_lists_entry_ren) { Tryz.keys_map_int_agora_lists_entry_int_agora_lists_entry with } Fence.wide _ trivial rfl aa Bm q nn D0 w hB hc hown))
theorem keysES_c:KeysC Tryz.prog 32 62 77 where
 keys:=fun mb W=>(callsIn_wide (n:=5)).1 (AnyZ.keys_in Tryz.keys_map_string_agora_lists_entry_string_agora_lists_entry Fence.wide 5 trivial rfl mb W)
theorem sortedES_c:SortedSC Tryz.prog 31 62 9 where
 key:=Tryz.underlying9
 sorted:=fun w Bm q nn D0 hB hc hown h1 h2=>(callsIn_wide (n:=5)).1 (AnyZ.sorted_in Tryz.sortedS Fence.wide 5 trivial trivial trivial trivial rfl aa (sortsS _) (enters_of Tryz.func26 ae rfl) _ _ trivial (enters_of Tryz.func62 ae rfl) _ _ h1 h2 _
  (AnyZ.keys_gives (ρ:=Tryz.keys_map_string_agora_lists_entry_string_agora_lists_entry_ren) { Tryz.keys_map_string_agora_lists_entry_string_agora_lists_entry with } Fence.wide _ trivial rfl aa Bm q nn D0 w hB hc hown))
def ListD.zero:ListD:=⟨⟨#[]⟩,⟨#[]⟩,⟨#[]⟩,0⟩
def Lists (w:World) (s:SlV) (l:List ListD):Prop:=RowsD w 4 s (l.map ListD.cells)
def Ents (w:World) (s:SlV) (l:List EntD):Prop:=RowsD w 5 s (l.map EntD.cells)
theorem Lists.len_ {w:World} {s:SlV} {l:List ListD} (h:Lists w s l):s.n=l.length:=by have:=RowsD.len h;simpa using this
theorem Lists.know {s:SlV} {l:List ListD}:∀ w,Lists w s l→s.n=l.length∧s.n≤maxLen∧(0<l.length→s.p.isSome=true):=fun w h =>
 ⟨h.len_,Qr (RowsD.cap h) (RowsD.max h),fun hl=>(RowsD.row h 0 l[0].cells (by simp [Zm hl])).2.1⟩
theorem Lists.get {w:World} {s:SlV} {l:List ListD} (h:Lists w s l) {i:Nat} {x:ListD} (hx:l[i]?=some x):x.cells.length=4∧s.p.isSome=true∧∀ j u,x.cells[j]?=some u→CellAt w s.p (i*4+j) u :=
 RowsD.row h i x.cells (by simp [hx])
theorem Ents.know {s:SlV} {l:List EntD}:∀ w,Ents w s l→s.n=l.length∧s.n≤maxLen∧(0<l.length→s.p.isSome=true):=fun w h =>
 ⟨by have:=RowsD.len h;simpa using this,Qr (RowsD.cap h) (RowsD.max h),fun hl=>(RowsD.row h 0 l[0].cells (by simp [Zm hl])).2.1⟩
theorem Ents.get {w:World} {s:SlV} {l:List EntD} (h:Ents w s l) {i:Nat} {x:EntD} (hx:l[i]?=some x):x.cells.length=5∧s.p.isSome=true∧∀ j u,x.cells[j]?=some u→CellAt w s.p (i*5+j) u :=
 RowsD.row h i x.cells (by simp [hx])
def hasL (l:List ListD) (a:ByteArray):Option ListD:=l.find? fun e=>seqB e.actor a
def hasP (o:Option ListD):Value:=.tuple #[(o.getD ListD.zero).v,.bool o.isSome]
def badL (l:List ListD) (d:ByteArray) (k:Nat):Bool :=
 match l[k]? with
 | some x=>seqB x.actor d
 | none=>false
theorem p9 {l:List ListD} {d:ByteArray} {k:Nat} {x:ListD} (h:l[k]?=some x):badL l d k=seqB x.actor d:=by simp only [badL,h]
theorem tN {l:List ListD} {d:ByteArray} (i:Upto l.length (badL l d)) {x:ListD} (hx:l[i.k]?=some x) (hb:seqB x.actor d=true):hasL l d=some x :=
 pN l i.k x hx hb fun j y hj hy=>by have:=i.ok j hj;rwa [p9 hy] at this
theorem xx {l:List ListD} {d:ByteArray} (i:Upto l.length (badL l d)) (h:¬ i.k<l.length):hasL l d=none:=by
 rw [hasL,List.find?_eq_none]
 intro x hx
 obtain ⟨k,hk,rfl⟩:=List.getElem_of_mem hx
 have:=i.ok k aa
 rw [p9 (Zm hk)] at this
 simp [this]
theorem j1 (s:SlV) (l:List ListD) (a:ByteArray):Pu Tryz.prog 13 #[s.v,.string a] (fun w=>Lists w s l) (hasP (hasL l a)):=by
 refine ak (args:=[_,_]) _ Tryz.func13 rfl Tryz.ntmps13 rfl fun av bor w0=>?_
 refine aJ Lists.know fun ⟨hl,hm,hp⟩=>?_
 simp only [maxLen] at hm
 repeat' (first|refine gs ?_|refine gs1 fun _=>?_|fail)
 rename_i b
 refine ap (ι:=Upto l.length (badL l a)) (fun i=>⟨[(1,.string a),(4,.pointer (some ⟨b,0,none⟩)),(8,s.v),(9,.int .i64 s.n),(10,.int .i64 i.k)],[cel b 52 ListD.zero.cells],fun w=>Lists w s l⟩) (fun i=>l.length-i.k) (Upto.zero _ _) (aj ⟨rfl,rfl,rfl,rfl,rfl,trivial⟩ (al _) fun _ h=>h) fun i=>?_
 have hik:=i.hk
 repeat' (first|refine gs ?_|refine gs1 fun _=>?_|(refine gp ?_ ?_<;>intro hx_ this)|fail)
 · have hlt:i.k<l.length:=by omega
   have hp':=hp aa
   obtain ⟨x,hx⟩:∃ x,l[i.k]?=some x:=⟨_,Zm hlt⟩
   repeat' (first|refine gs ?_|refine gs1 fun _=>?_|(refine aH (q:=i.k*4) ?_)|(refine bP (cs:=x.cells) (hF:=fun w h=>Lists.get h hx) ?_)|(refine gp ?_ ?_<;>intro hx_ this)|fail)
   · apply ad;refine di rfl rfl rfl aP ?_
     · rfl
     rw [tN i hx (by assumption)]
     rfl
   · exact ⟨i.next hlt (by rw [p9 hx];assumption),(by show l.length-(i.k+1)<l.length-i.k;omega),aj ⟨rfl,rfl,rfl,rfl,rfl,trivial⟩ (List.Sublist.cons _ (al _)) fun _ h=>h⟩
 · repeat' (first|refine gs ?_|refine gs1 fun _=>?_|(refine aC ?_)|fail)
   apply ad;refine di rfl rfl rfl aP ?_
   · rfl
   rw [xx i (by omega)]
   rfl
def eqBadL (l m:List ListD) (k:Nat):Bool:=!eqLD (l.getD k ListD.zero) (m.getD k ListD.zero)
def eqLL (l m:List ListD):Bool:=decide (l.length=m.length)&&allB l.length (eqBadL l m)
theorem oC (l:List ListD):eqLL l l=true:=by
 rw [eqLL,ZA rfl,ZD]
 refine oM fun j hj=>?_
 simp only [eqBadL,eqLD_iff.2 rfl,ZK]
theorem nV (s r:SlV) (l m:List ListD):Pu Tryz.prog 16 #[s.v,r.v] (fun w=>Lists w s l∧Lists w r m) (.bool (eqLL l m)):=by
 refine ak (args:=[_,_]) _ Tryz.func16 rfl Tryz.ntmps16 rfl fun av bor w0=>?_
 refine aJ (fun w h=>And.intro (Lists.know w h.1) (Lists.know w h.2)) fun ⟨⟨hl,hm,hp⟩,⟨hl',hm',hp'⟩⟩=>?_
 simp only [maxLen] at hm hm'
 repeat' (first|refine gs ?_|(refine gp ?_ ?_<;>intro hx_ this)|fail)
 · apply ad;apply ag;rfl;rfl
   have:¬ l.length=m.length:=by
    have h1:¬ (s.n:Int)=(r.n:Int):=by simpa using hx_
    omega
   simp only [eqLL,Zn this,ZG]
 have hlm:l.length=m.length:=by
  have h1:(s.n:Int)=(r.n:Int):=by simpa using hx_
  omega
 refine ap (ι:=Upto l.length (eqBadL l m)) (fun i=>⟨[(0,s.v),(1,r.v),(5,.int .i64 i.k)],[],fun w=>Lists w s l∧Lists w r m⟩) (fun i=>l.length-i.k) (Upto.zero _ _) (aj (by repeat (first|exact trivial|refine ⟨rfl,?_⟩)) (al _) fun _ h=>h) fun i=>?_
 have hik:=i.hk
 repeat' (first|refine gs ?_|(refine gp ?_ ?_<;>intro hx_ this)|fail)
 · have hlt:i.k<l.length:=by omega
   have hlt':i.k<m.length:=by omega
   have hp1:=hp aa
   have hp2:=hp' aa
   have hx:l[i.k]?=some (l.getD i.k ListD.zero):=by rw [ZL,Zm hlt];rfl
   have hx':m[i.k]?=some (m.getD i.k ListD.zero):=by rw [ZL,Zm hlt'];rfl
   have hB:eqBadL l m i.k=!eqLD (l.getD i.k ListD.zero) (m.getD i.k ListD.zero):=rfl
   generalize l.getD i.k ListD.zero=x at *
   generalize m.getD i.k ListD.zero=x' at *
   (refine aq ⟨[0,1,2,3,4,5,6,7,8],[]⟩ [] (fun w=>Lists w s l∧Lists w r m) (h:=?_))
   all_goals repeat' (first|refine gd ?_|refine ax (hy:=by first|(apply aB (q:=i.k*4);rfl;rfl;omega;omega;assumption;omega)|(apply d9 (cs:=x.cells);rfl;exact fun w h=>Lists.get h.1 hx)|(apply d9 (cs:=x'.cells);rfl;exact fun w h=>Lists.get h.2 hx')|(apply ur x x';rfl;rfl)) ?_|refine az ?_ (h':=?_)|exact aA|(refine gq ?_ ?_<;>intro hx_ this)|fail)
   repeat' (first|refine gs ?_|(refine gp ?_ ?_<;>intro hx_ this)|fail)
   · apply ad;apply ag;rfl;rfl
     rw [eqLL,cM hlt (by rw [hB];assumption),ZH]
   · exact ⟨i.next hlt (by rw [hB];assumption),(by show l.length-(i.k+1)<l.length-i.k;omega),aj (by repeat (first|exact trivial|refine ⟨rfl,?_⟩)) (al _) fun _ h=>h⟩
 · apply ad;apply ag;rfl;rfl
   rw [eqLL,i.all aa,ZA hlm]
   rfl
end Go.Proofs.YtoefdofbekihdaaGreatDoor
