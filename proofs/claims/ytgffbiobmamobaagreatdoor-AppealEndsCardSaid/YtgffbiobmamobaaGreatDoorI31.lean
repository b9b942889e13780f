/- Joined. -/
import Derived.Test.YtgffbiobmamobaaGreatDoorI0
import Derived.Test.YtgffbiobmamobaaGreatDoorI1
import Derived.Test.YtgffbiobmamobaaGreatDoorI30
import Derived.Test.YtgffbiobmamobaaGreatDoorI20
set_option linter.unusedVariables false
set_option linter.unusedSimpArgs false
set_option maxHeartbeats 16000000
namespace Go.Proofs.YtgffbiobmamobaaGreatDoor
open Go Go.Proofs Sy
structure Xk where
 server:Int
 do_:Int
 who:Int
 what:Int
 mask:Int
 n:Int
 from_:Int
 until_:Int
def Xk.cells (o:Xk):List Value:=[.int .i64 o.server,.int .i64 o.do_,.int .i64 o.who,.int .i64 o.what,.int .i64 o.mask,.int .i64 o.n,.int .i64 o.from_,.int .i64 o.until_]
def Xk.v (o:Xk):Value:=.agg o.cells.toArray
def decB (o:Xk) (n:Nat):Xf:=⟨pickV o.server (2:Nat),(n:Int),o.do_,⟨#[]⟩,⟨#[]⟩,⟨#[]⟩,⟨none,0,0⟩,0,pickV o.from_ (20:Nat),pickV o.from_ (20:Nat)+1+pickV o.until_ (20:Nat),0,0,[]⟩
def decA (p1 n p2 p3:Nat) (k:Int) (id:ByteArray):Xf:=⟨(p1:Int),(n:Int),k,id,⟨#[]⟩,⟨#[]⟩,⟨none,0,0⟩,0,(p2:Int),(p2:Int)+1+(p3:Int),0,0,[]⟩
set_option maxRecDepth 20000 in
theorem pq (o:Xk) (n:Nat) (hn:n≤1000) (sp sd:Xi) (hk:¬ (o.do_=8∨o.do_=2∨o.do_=3∨o.do_=5)) (hkd:o.do_<9223372036854775808) :
    Mk Tryz.prog 20 #[o.v,.int .i64 (n:Nat),sp.v,sd.v] Xg
    (fun u X=>∃ s:Xi,s.n=0∧u=((signDV (keyS (pickV o.server (2:Nat)).toNat) { decB o n with actor:=idA21 (pickV o.who (4:Nat)).toNat }).re s).v∧∀ w,X w→((signDV (keyS (pickV o.server (2:Nat)).toNat) { decB o n with actor:=idA21 (pickV o.who (4:Nat)).toNat }).re s).at_ w):=by
  refine bS Tryz.func20 Tryz.ntmps20 fun av bor w0=>?_
  obtain ⟨p1,h1,e1⟩:=aK o.server 2 (by decide)
  obtain ⟨p2,h2,e2⟩:=aK o.from_ 20 (by decide)
  obtain ⟨p3,h3,e3⟩:=aK o.until_ 20 (by decide)
  obtain ⟨p4,h4,e4⟩:=aK o.who 4 (by decide)
  have hp1:=aV o.server 2 (by decide) (by decide)
  have hp2:=aV o.from_ 20 (by decide) (by decide)
  have hp3:=aV o.until_ 20 (by decide) (by decide)
  have hp4:=aV o.who 4 (by decide) (by decide)
  have hid:=rW p4 ac
  have hsk:=cj p1 ac
  rw [e1] at hp1
  rw [e2] at hp2
  rw [e3] at hp3
  rw [e4] at hp4
  have hw1:IntKind.i64.wrap ((p2:Int)+1)=(p2:Int)+1:=IntWalk.i64_in _ ac
  have hw2:IntKind.i64.wrap ((p2:Int)+1+(p3:Int))=(p2:Int)+1+(p3:Int):=IntWalk.i64_in _ ac
  have hde:{ decB o n with actor:=idA21 (pickV o.who (4:Nat)).toNat }=decA p1 n p2 p3 o.do_ (idA21 p4):=by
    rw [decB,e1,e2,e3,e4]
    rfl
  have hsz:(idA21 p4).size=16:=by rw [idA21,kS]
  have hlt:(decA p1 n p2 p3 o.do_ (idA21 p4)).Lt :=
     ⟨by show (p1:Int)<_;omega,by show (n:Int)<_;omega,hkd,(show (0:Int)<9223372036854775808 by decide),by show (p2:Int)<_;omega,by show (p2:Int)+1+(p3:Int)<_;omega,(show (0:Int)<9223372036854775808 by decide),(show (0:Int)<9223372036854775808 by decide)⟩
  have hms:(msgD (decA p1 n p2 p3 o.do_ (idA21 p4))).size≤1000000000000:=by
    have hSm:(decA p1 n p2 p3 o.do_ (idA21 p4)).Sm :=
       ⟨by show (idA21 p4).size≤_;omega,(show 0≤1000000 by omega),(show 0≤1000000 by omega),(show (listV []).size≤1000000 by decide +kernel)⟩
    have:=dC (nm:=nameD) (by decide) (co hSm)
    rw [msgD]
    omega
  have hsg:=dj (keyS p1) (decA p1 n p2 p3 o.do_ (idA21 p4)) rfl (by show 0*16≤_;omega) hlt hms
  rw [hde,e1,Int.toNat_natCast]
  repeat' (first|refine gs ?_|refine gs1 fun _=>?_|(refine gp ?_ ?_<;>intro hx_ this)|fail)
  rename_i b4 b8
  (refine ao ⟨[0,1,3,4,5,6,7],[(2,⟨[],[(8,⟨[9],[(10,⟨[],[(11,⟨[],[]⟩)]⟩)]⟩),(10,⟨[],[(8,⟨[9],[(11,⟨[],[]⟩)]⟩)]⟩)]⟩),(10,⟨[],[(2,⟨[],[(8,⟨[9],[(11,⟨[],[]⟩)]⟩)]⟩)]⟩)]⟩ [cel b8 42 Xf.zero.cells,cel b4 50 o.cells] Xg (h:=?_))
  all_goals repeat' (first|(refine ag (hc:=hp1) ?_)|(refine ag (hc:=hp2) ?_)|refine gdz ?_|refine aJ (hsub:=by exact aP) (hy:=by first|(apply cT (cs:=(⟨(p1:Int),(n:Int),o.do_,⟨#[]⟩,⟨#[]⟩,⟨#[]⟩,⟨none,0,0⟩,0,(p2:Int),0,0,0,[]⟩:Xf).cells);rfl;rfl)) ?_|refine aF ?_ (h':=?_)|exact aG|refine gs1 fun _=>?_|(refine gq ?_ ?_<;>intro hx_ this)|fail)
  all_goals
    rename_i b9
    repeat' (first|refine gs ?_|refine gs1 fun _=>?_|(refine gp ?_ ?_<;>intro hx_ this)|fail)
    (refine ao ⟨[0,3,4],[(1,⟨[2],[(5,⟨[6,7],[(8,⟨[],[]⟩)]⟩)]⟩),(5,⟨[],[(1,⟨[2,6,7],[(8,⟨[],[]⟩)]⟩)]⟩)]⟩ [cel b4 50 o.cells] Xg (h:=?_))
    all_goals repeat' (first|refine aJ (hsub:=by exact aP) (hy:=by first|(apply dO (c:=(p2:Int)+1);rfl;rfl;exact IntWalk.i64_in _ ac)|(apply dO (c:=(p2:Int)+1+(p3:Int));rfl;rfl;exact IntWalk.i64_in _ ac)) ?_|(refine ag (hc:=hp3) ?_)|refine gdz ?_|refine aF ?_ (h':=?_)|exact aG|refine gs1 fun _=>?_|(refine gq ?_ ?_<;>intro hx_ this)|fail)
    all_goals
      repeat' (first|refine aw ?_ (bg false rfl rfl (decide_eq_false ac))|(refine ag (hc:=hp4) ?_)|(refine ag (hc:=hid) ?_)|refine gs ?_|refine gs1 fun _=>?_|(refine gp ?_ ?_<;>intro hx_ this)|fail)
      rw [hw1,hw2]
      (refine ao ⟨[0,1,3],[(2,⟨[],[(4,⟨[],[(5,⟨[],[]⟩)]⟩)]⟩)]⟩ [cel b9 42 (decA p1 n p2 p3 o.do_ (idA21 p4)).cells,cel b4 50 o.cells] Xg (h:=?_))
      all_goals repeat' (first|(refine ag (hc:=hsk) ?_)|((refine aT (hc:=hsg) (hX:=fun w h=>⟨aN w 1,h⟩) fun v1 X1 h1=>?_;obtain ⟨s1,hs1,rfl,hat1⟩:=h1))|refine gdz ?_|refine aF ?_ (h':=?_)|exact aG|refine gs1 fun _=>?_|(refine gq ?_ ?_<;>intro hx_ this)|fail)
      all_goals
        repeat' (first|refine gs ?_|refine gs1 fun _=>?_|(refine gp ?_ ?_<;>intro hx_ this)|fail)
        exact ae (aI rfl rfl aC (by rfl)) ⟨s1,hs1,rfl,fun w h=>hat1 w h.1.2⟩
end Go.Proofs.YtgffbiobmamobaaGreatDoor
