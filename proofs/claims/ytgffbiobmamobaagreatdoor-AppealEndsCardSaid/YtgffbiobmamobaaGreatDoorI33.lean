/- Joined. -/
import Derived.Test.YtgffbiobmamobaaGreatDoorI0
import Derived.Test.YtgffbiobmamobaaGreatDoorI1
import Derived.Test.YtgffbiobmamobaaGreatDoorI2
import Derived.Test.YtgffbiobmamobaaGreatDoorI32
import Derived.Test.YtgffbiobmamobaaGreatDoorI21
import Derived.Test.YtgffbiobmamobaaGreatDoorI28
set_option linter.unusedVariables false
set_option linter.unusedSimpArgs false
set_option maxHeartbeats 16000000
namespace Go.Proofs.YtgffbiobmamobaaGreatDoor
open Go Go.Proofs Sy
structure Xp where
 by_:Int
 judge:Bool
 what:Int
 n:Int
def Xp.cells (p:Xp):List Value:=[.int .i64 p.by_,.bool p.judge,.int .i64 p.what,.int .i64 p.n]
def Xp.v (p:Xp):Value:=.agg p.cells.toArray
structure CrtH where
 ks:Xi
 ki:Xi
 cs:Xi
 sd:Xi
 sg:Xi
 sa:Xi
def CrtH.cells (h:CrtH):List Value:=[h.ks.v,h.ki.v,h.cs.v,h.sd.v,h.sg.v,h.sa.v]
def CrtH.v (h:CrtH):Value:=.agg h.cells.toArray
structure Xz where
 I:List Xb
 C:List Xa
 D:List Xf
 G:List ByteArray
 P:List ByteArray
def Xz.can (d:Xz):Xz:=⟨d.I.map Xb.can,d.C.map Xa.can,d.D.map Xf.can,d.G,d.P⟩
structure X7 (L:List Int) (h:CrtH) (d:Xz) (w:World):Prop where
 srv:Ints w h.ks L
 its:Items w h.ki d.I
 chn:Chains w h.cs d.C
 dec:Decs w h.sd d.D
 dig:Strs w h.sg d.G
 app:Strs w h.sa d.P
 glob:Xg w
structure CrtOk (L:List Int) (d:Xz) (m n e:Nat):Prop where
 inv:Xy L d.I m n
 four:d.C.length=4
 acts:∀ c∈d.C,Xx c.actsL∧c.actsL.length≤e
 app:d.P.length≤e
 dig:d.G.length=d.D.length
 cnt:d.D.length≤1000
theorem CrtOk.more {L:List Int} {d:Xz} {m n e m' n' e':Nat} (h:CrtOk L d m n e) (hm:m≤m') (hn:n≤n') (he:e≤e'):CrtOk L d m' n' e' :=
 ⟨h.inv.more hm hn,h.four,fun c hc=>⟨(h.acts c hc).1,Nat.le_trans (h.acts c hc).2 he⟩,Nat.le_trans h.app he,h.dig,h.cnt⟩
def plK (p:Xp):Int:=bif p.judge then 22 else 21
def plN (p:Xp):Int:=bif p.judge then pickV p.n (2:Nat) else 0
def plO (p:Xp) (G P:List ByteArray):List ByteArray:=bif p.judge then P else G
def drK (c:Xa) (k n:Int) (ob:ByteArray):Xc:={ draftV c k 0 with n:=n,object:=ob }
def plBy (p:Xp):Nat:=(pickV p.by_ (4:Nat)).toNat
def plC (C:List Xa) (p:Xp):Xa:=C.getD (plBy p) Xa.zero
def plA (C:List Xa) (p:Xp) (O:List ByteArray):Xc:=actSignV (keyA (plBy p)) (drK (plC C p) (plK p) (plN p) (O.getD (pickV p.what (O.length:Nat)).toNat ⟨#[]⟩))
def plB (C:List Xa) (p:Xp) (O:List ByteArray):Bool:=!decide (O.length=0)&&fitsV (plC C p) (plA C p O) (idxV (plC C p).actsL (plA C p O).object)
def pleadV (L:List Int) (d:Xz) (p:Xp):Xz :=
 bif plB d.C p (plO p d.G d.P) then ⟨addK L d.I (ofActI (plA d.C p (plO p d.G d.P)).can),d.C.set (plBy p) (moreV (plC d.C p) (plA d.C p (plO p d.G d.P))),d.D,d.G,bif p.judge then d.P else d.P++[digV (plA d.C p (plO p d.G d.P))]⟩ else d
theorem zb (c:Xa) (k n:Int) (ob:ByteArray):drK c.can k n ob=drK c k n ob:=rfl
theorem si (c:Xa) (k n:Int) (ob:ByteArray) (hn:c.acts.n≤9223372036854775807) (hk:k<9223372036854775808) (h2:n<9223372036854775808):(drK c k n ob).Rng:=by
 have z:(0:Int)<9223372036854775808:=by decide
 have hn':((c.acts.n:Nat):Int)<9223372036854775808:=by omega
 exact ⟨⟨hn',hk,z,z,z,h2,z,z,z⟩,fun w hw=>(List.not_mem_nil hw).elim,rfl,rfl⟩
theorem xz (c:Xa) (k n:Int) (ob:ByteArray):(drK c k n ob).Sm:=⟨by show 0*16≤_;omega,by show 0*64≤_;omega,(show 0≤maxLen by decide)⟩
theorem Bu (c:Xa) (k n:Int) (ob:ByteArray) (v:World):(drK c k n ob).at_ v:=⟨aN v 1,aN v 5⟩
theorem AE (p:Xp):plN p<9223372036854775808:=by
 obtain ⟨q,h,e⟩:=aK p.n 2 (by decide)
 rw [plN]
 cases p.judge with
 | true=>rw [cond_true,e];omega
 | false=>exact (by decide:(0:Int)<9223372036854775808)
theorem AF (p:Xp):plK p<9223372036854775808:=by
 rw [plK]
 cases p.judge<;>exact (by decide)
theorem kJ (a:Xc):(ofActI a).can=ofActI a.can:=rfl
def PleadAt (L:List Int) (d:Xz) (p:Xp) (m n e:Nat) (u:Value) (X:World→Prop):Prop:=∃ (h':CrtH) (d':Xz),u=h'.v∧(d'.can=pleadV L d.can p∧CrtOk L d' m n e)∧∀ w,X w→X7 L h' d' w
set_option maxRecDepth 20000 in
theorem qe (L:List Int) (h:CrtH) (d:Xz) (p:Xp) (m n e:Nat) (hok:CrtOk L d m n e) (hm:m<100) (he:e≤1000) :
  Mk Tryz.prog 23 #[h.v,p.v] (X7 L h d) (PleadAt L d p (m+1) n (e+1)):=by
 refine bS Tryz.func23 Tryz.ntmps23 fun av bor w0=>?_
 have hC4:d.C.length=4:=hok.four
 have hinv:Xy L d.I m n:=hok.inv
 have hacts:∀ c∈d.C,Xx c.actsL∧c.actsL.length≤e:=hok.acts
 have hPl:d.P.length≤e:=hok.app
 have hGD:d.G.length=d.D.length:=hok.dig
 have hDl:d.D.length≤1000:=hok.cnt
 obtain ⟨q,hq4,hqv⟩:=aK p.by_ 4 (by decide)
 have hpk:=aV p.by_ 4 (by decide) (by decide)
 rw [hqv] at hpk
 have hpn:=aV p.n 2 (by decide) (by decide)
 have hby:plBy p=q:=by rw [plBy,hqv,Int.toNat_natCast]
 obtain ⟨cd,hcd⟩:∃ cd,d.C[q]?=some cd:=⟨_,List.getElem?_eq_getElem ac⟩
 have hcm:=List.mem_of_getElem? hcd
 have hpc:plC (d.C.map Xa.can) p=cd.can:=by
  rw [plC,hby,List.getD_eq_getElem?_getD,List.getElem?_map,hcd]
  rfl
 refine aD (p:=cd.acts.n≤maxLen∧h.cs.p.isSome=true∧h.cs.n=4) (fun w x=>⟨Acts.max_ (x.chn.2 cd hcm),x.chn.some_ ac,x.chn.len_.trans hC4⟩) fun ⟨hcn,hcp,hcs4⟩=>?_
 simp only [maxLen] at hcn
 have hdr:=bF cd 21 0
 apply cw_seq
 apply cw_reg
 repeat' (first|apply ba|apply cw_seq|refine bA ?_|refine aW ?_|refine bM ?_|refine cg ?_|refine aQ ?_|refine bR ?_|refine cV ?_|refine cA ?_|refine bz ?_|refine bL ?_|refine aO ?_|refine bc fun _=>?_|refine bX fun _=>?_|refine bG fun _=>?_|refine bD ?_|refine aR ?_|refine cw_cond_t ?_|refine cw_cond_f ?_|apply cw_skip|apply cw_block|apply cw_ret|apply cw_exit|refine sy_beql (h:=?_)|refine bC ?_|refine bx ?_|(refine cw_cond (ht:=?_) (hf:=?_);all_goals (intro hx_;first|have:=bm hx_|have:=bT hx_|skip)))
 rename_i b2 b3 b4
 try refine cw_reg (h:=?_)
 repeat' (first|apply ba|apply cw_seq|refine bA ?_|refine aW ?_|refine bM ?_|refine cg ?_|refine aQ ?_|refine bR ?_|refine cV ?_|refine cA ?_|refine bz ?_|refine bL ?_|refine aO ?_|refine bc fun _=>?_|refine bX fun _=>?_|refine bG fun _=>?_|refine bD ?_|refine aR ?_|refine cw_cond_t ?_|refine cw_cond_f ?_|apply cw_skip|apply cw_block|apply cw_ret|apply cw_exit|refine sy_beql (h:=?_)|refine bC ?_|refine bx ?_|(refine ag (hc:=hpk) ?_)|(refine cw_cond (ht:=?_) (hf:=?_);all_goals (intro hx_;first|have:=bm hx_|have:=bT hx_|skip)))
 try refine cw_reg (h:=?_)
 repeat' (first|apply ba|apply cw_seq|refine bA ?_|refine aW ?_|refine bM ?_|refine cg ?_|refine aQ ?_|refine bR ?_|refine cV ?_|refine cA ?_|refine bz ?_|refine bL ?_|refine aO ?_|refine bc fun _=>?_|refine bX fun _=>?_|refine bG fun _=>?_|refine bD ?_|refine aR ?_|refine cw_cond_t ?_|refine cw_cond_f ?_|apply cw_skip|apply cw_block|apply cw_ret|apply cw_exit|refine sy_beql (h:=?_)|refine bC ?_|refine bx ?_|(refine aA (q:=q*6) ?_)|(refine aY (cs:=cd.cells) (hF:=fun w x=>x.chn.get hcd) ?_)|(refine cw_cond (ht:=?_) (hf:=?_);all_goals (intro hx_;first|have:=bm hx_|have:=bT hx_|skip)))
 rename_i b6
 try refine cw_reg (h:=?_)
 repeat' (first|apply ba|apply cw_seq|refine bA ?_|refine aW ?_|refine bM ?_|refine cg ?_|refine aQ ?_|refine bR ?_|refine cV ?_|refine cA ?_|refine bz ?_|refine bL ?_|refine aO ?_|refine bc fun _=>?_|refine bX fun _=>?_|refine bG fun _=>?_|refine bD ?_|refine aR ?_|refine cw_cond_t ?_|refine cw_cond_f ?_|apply cw_skip|apply cw_block|apply cw_ret|apply cw_exit|refine sy_beql (h:=?_)|refine bC ?_|refine bx ?_|(refine ag (hc:=hdr) ?_)|(refine cw_cond (ht:=?_) (hf:=?_);all_goals (intro hx_;first|have:=bm hx_|have:=bT hx_|skip)))
 rename_i b7
 try refine cw_reg (h:=?_)
 repeat' (first|apply ba|apply cw_seq|refine bA ?_|refine aW ?_|refine bM ?_|refine cg ?_|refine aQ ?_|refine bR ?_|refine cV ?_|refine cA ?_|refine bz ?_|refine bL ?_|refine aO ?_|refine bc fun _=>?_|refine bX fun _=>?_|refine bG fun _=>?_|refine bD ?_|refine aR ?_|refine cw_cond_t ?_|refine cw_cond_f ?_|apply cw_skip|apply cw_block|apply cw_ret|apply cw_exit|refine sy_beql (h:=?_)|refine bC ?_|refine bx ?_|(refine cw_cond (ht:=?_) (hf:=?_);all_goals (intro hx_;first|have:=bm hx_|have:=bT hx_|skip)))
 obtain ⟨so,hso⟩:∃ so:Xi,(bif p.judge then h.sa else h.sg)=so:=⟨_,rfl⟩
 obtain ⟨O,hO⟩:∃ O,plO p d.G d.P=O:=⟨_,rfl⟩
 obtain ⟨kd,hkd⟩:∃ kd,plK p=kd:=⟨_,rfl⟩
 obtain ⟨nn,hnn⟩:∃ nn,plN p=nn:=⟨_,rfl⟩
 have hkl:=AF p
 have hnl:=AE p
 refine pt (ι:=Unit) (fun _=>⟨[(2,.pointer (some ⟨b2,0,none⟩)),(3,.pointer (some ⟨b3,0,none⟩)),(4,.pointer (some ⟨b4,0,none⟩)),(5,.int .i64 (q:Int)),(6,.pointer (some ⟨b6,0,none⟩)),(7,.pointer (some ⟨b7,0,none⟩)),(8,so.v)],[cel b7 72 (drK cd kd nn ⟨#[]⟩).cells,cel b6 65 cd.cells,cel b4 37 [.slice none 0 0,.slice none 0 0,.slice none 0 0,.slice none 0 0,.slice none 0 0,.slice none 0 0],cel b3 52 p.cells,cel b2 37 [h.ks.v,h.ki.v,h.cs.v,h.sd.v,h.sg.v,h.sa.v]],X7 L h d⟩) ?_ fun _=>?_
 · cases hj:p.judge
   all_goals
    rw [hj] at hso
    rw [plO,hj] at hO
    rw [plK,hj] at hkd
    rw [plN,hj] at hnn
    simp only [cond_true,cond_false] at hso hO hkd hnn
    subst hso hkd
    try refine cw_reg (h:=?_)
    repeat' (first|(refine ag (hc:=hpn) ?_)|refine gs ?_|refine gs1 fun _=>?_|(refine gp ?_ ?_<;>intro hx_ this)|fail)
    subst hnn
    exact ⟨(),ak an (al _) fun _ x=>x⟩
 have hStr:∀ w,X7 L h d w→Strs w so O:=fun w x=>by
  rw [←hso,←hO,plO]
  cases p.judge with
  | true=>exact x.app
  | false=>exact x.dig
 have hOl:O.length≤1000:=by
  rw [←hO,plO]
  cases p.judge with
  | true=>exact Nat.le_trans hPl he
  | false=>show d.G.length≤1000;omega
 refine aD (p:=so.n=O.length∧(0<O.length→so.p.isSome=true)) (fun w x=>⟨(hStr w x).len_,(hStr w x).some_⟩) fun ⟨hsn,hsp⟩=>?_
 have hcl:CrtOk L d (m+1) n (e+1):=hok.more ac (Nat.le_refl _) ac
 by_cases h0:O.length=0
 · have hno:pleadV L d.can p=Xz.can d:=by
    rw [pleadV,plB,show plO p d.can.G d.can.P=O from hO,decide_eq_true h0]
    rfl
   apply cw_seq
   repeat' (first|refine aw ?_ (bg true rfl rfl (decide_eq_true ac))|refine gs ?_|refine gs1 fun _=>?_|(refine gp ?_ ?_<;>intro hx_ this)|fail)
   all_goals first
    | exact ae (aI rfl rfl aC (by rfl)) ⟨h,d,rfl,⟨hno.symm,hcl⟩,fun w x=>x.1⟩
 obtain ⟨u,hu,hue⟩:=aK p.what O.length ac
 obtain ⟨ob,hob⟩:∃ ob,O[u]?=some ob:=⟨_,List.getElem?_eq_getElem hu⟩
 have hpo:Pu Tryz.prog 36 #[.int .i64 p.what,.int .i64 (so.n:Nat)] (fun _=>True) (.int .i64 (u:Int)):=by
  rw [hsn,←hue]
  exact aV p.what O.length ac ac
 have hsp':=hsp ac
 have hga:∀ w,X7 L h d w→CellAt w so.p u (.string ob):=fun w x=>(hStr w x).at_ hob
 have hobD:O.getD (pickV p.what (O.length:Nat)).toNat ⟨#[]⟩=ob:=by rw [hue,Int.toNat_natCast,List.getD_eq_getElem?_getD,hob,Option.getD_some]
 have hky:=nd q ac
 obtain ⟨hda,hdl⟩:=hacts cd hcm
 have hTA:plA (d.C.map Xa.can) p O=actSignV (keyA q) (drK cd kd nn ob):=by
  rw [plA,hpc,hby,zb,hkd,hnn,hobD]
 have hTB:∀ {v:Bool},fitsV cd (actSignV (keyA q) (drK cd kd nn ob)) (idxV cd.actsL (actSignV (keyA q) (drK cd kd nn ob)).object)=v→plB (d.C.map Xa.can) p O=v:=fun {v} x=>by
  rw [plB,decide_eq_false h0,hpc,hTA,md]
  show fitsV cd _ (idxV (cd.actsL.map Xc.can) _)=v
  rw [oJ]
  exact x
 have hsg:=ii (keyA q) (drK cd kd nn ob) (si cd kd nn ob ac (hkd▸hkl) (hnn▸hnl)) (xz cd kd nn ob)
 have hat:=Bu cd kd nn ob
 have hsr:(actSignV (keyA q) (drK cd kd nn ob)).Rng:=kz (si cd kd nn ob ac (hkd▸hkl) (hnn▸hnl))
 have hss:(actSignV (keyA q) (drK cd kd nn ob)).Sm:=mM (xz cd kd nn ob)
 repeat apply cw_seq
 apply cw_reg
 repeat' (first|refine aw ?_ (bg false rfl rfl (decide_eq_false ac))|apply ba|apply cw_seq|refine bA ?_|refine aW ?_|refine bM ?_|refine cg ?_|refine aQ ?_|refine bR ?_|refine cV ?_|refine cA ?_|refine bz ?_|refine bL ?_|refine aO ?_|refine bc fun _=>?_|refine bX fun _=>?_|refine bG fun _=>?_|refine bD ?_|refine aR ?_|refine cw_cond_t ?_|refine cw_cond_f ?_|apply cw_skip|apply cw_block|apply cw_ret|apply cw_exit|refine sy_beql (h:=?_)|refine bC ?_|refine bx ?_|(refine cw_cond (ht:=?_) (hf:=?_);all_goals (intro hx_;first|have:=bm hx_|have:=bT hx_|skip)))
 refine cw_reg (h:=?_)
 repeat' (first|apply ba|apply cw_seq|refine bA ?_|refine aW ?_|refine bM ?_|refine cg ?_|refine aQ ?_|refine bR ?_|refine cV ?_|refine cA ?_|refine bz ?_|refine bL ?_|refine aO ?_|refine bc fun _=>?_|refine bX fun _=>?_|refine bG fun _=>?_|refine bD ?_|refine aR ?_|refine cw_cond_t ?_|refine cw_cond_f ?_|apply cw_skip|apply cw_block|apply cw_ret|apply cw_exit|refine sy_beql (h:=?_)|refine bC ?_|refine bx ?_|(refine ag (hc:=hpo) ?_)|(refine aA (q:=u) ?_)|(refine bE (q:=u) (u:=.string ob) (hF:=hga) ?_)|(refine cw_cond (ht:=?_) (hf:=?_);all_goals (intro hx_;first|have:=bm hx_|have:=bT hx_|skip)))
 obtain ⟨dw,hdw⟩:∃ dw,drK cd kd nn ob=dw:=⟨_,rfl⟩
 rw [hdw] at hTA hTB hsg hat hsr hss
 have hcells:dw.cells=(drK cd kd nn ⟨#[]⟩).cells.set 5 (.string ob):=by rw [←hdw];rfl
 refine ej (ι:={ j:Xi×Xi // j.1.n=(actSignV (keyA q) dw).to.n∧j.2.n=(actSignV (keyA q) dw).wraps.n }) (fun j=>⟨[(2,.pointer (some ⟨b2,0,none⟩)),(3,.pointer (some ⟨b3,0,none⟩)),(4,.pointer (some ⟨b4,0,none⟩)),(5,.int .i64 (q:Int)),(6,.pointer (some ⟨b6,0,none⟩)),(7,.pointer (some ⟨b7,0,none⟩))],[cel b7 72 ((actSignV (keyA q) dw).re j.1.1 j.1.2).cells,cel b6 65 cd.cells,cel b4 37 [.slice none 0 0,.slice none 0 0,.slice none 0 0,.slice none 0 0,.slice none 0 0,.slice none 0 0],cel b3 52 p.cells,cel b2 37 [h.ks.v,h.ki.v,h.cs.v,h.sd.v,h.sg.v,h.sa.v]],fun w=>X7 L h d w∧((actSignV (keyA q) dw).re j.1.1 j.1.2).at_ w⟩) ?_ fun j=>?_
 · rw [←hcells]
   (refine ao ⟨[0],[(1,⟨[],[(2,⟨[],[(3,⟨[],[(4,⟨[],[]⟩)]⟩)]⟩)]⟩),(2,⟨[],[(1,⟨[],[(3,⟨[],[(4,⟨[],[]⟩)]⟩)]⟩)]⟩)]⟩ [] (fun _=>True) (h:=?_))
   all_goals repeat' (first|(refine ag (hc:=hky) (hX:=fun _ x=>x.glob) ?_)|((refine aT (hc:=hsg) (hX:=fun w x=>⟨hat w,x.glob⟩) fun v2 X2 h2=>?_;obtain ⟨s1,s2,rfl,e1,e2,hat2⟩:=h2))|refine gd ?_|refine aF ?_ (h':=?_)|exact aG|refine gs1 fun _=>?_|(refine gq ?_ ?_<;>intro hx_ this)|fail)
   all_goals exact ⟨⟨(s1,s2),e1,e2⟩,ak an (al _) fun w x=>⟨x.1,hat2 w x.2⟩⟩
 obtain ⟨⟨s1,s2⟩,e1,e2⟩:=j
 simp only at e1 e2 ⊢
 have hfi:=mu cd hda ((actSignV (keyA q) dw).re s1 s2)
 rw [oP cd (actSignV (keyA q) dw) _ e1 e2,show ((actSignV (keyA q) dw).re s1 s2).object=(actSignV (keyA q) dw).object from rfl] at hfi
 obtain ⟨a,hAv⟩:∃ a,(actSignV (keyA q) dw).re s1 s2=a:=⟨_,rfl⟩
 rw [hAv] at hfi
 simp only [hAv]
 cases hF:fitsV cd (actSignV (keyA q) dw) (idxV cd.actsL (actSignV (keyA q) dw).object) with
 | false =>
  rw [hF] at hfi
  have hno:pleadV L d.can p=d.can:=by
   rw [pleadV,show plO p d.can.G d.can.P=O from hO,show plB d.can.C p O=false from hTB hF]
   rfl
  repeat' (first|(refine ag (hc:=hfi) (hX:=fun w x=>⟨⟨x.1.chn.2 cd hcm,x.1.glob⟩,x.2⟩) ?_)|refine gs ?_|refine gs1 fun _=>?_|(refine gp ?_ ?_<;>intro hx_ this)|fail)
  all_goals first
   | exact ae (aI rfl rfl aC (by rfl)) ⟨h,d,rfl,⟨hno.symm,hcl⟩,fun w x=>x.1.1⟩
 | true =>
  rw [hF] at hfi
  repeat apply cw_seq
  apply cw_reg
  have hra:a.Rng:=by rw [←hAv];exact qb hsr e1 e2
  have hsa:a.Sm:=by rw [←hAv];exact vD hss e1 e2
  have hlo:=l8 cd a hra hsa ac
  have hdi:=fq a hra hsa
  have hof:=l3 a hra hsa
  have hdaE:digV a=digV (actSignV (keyA q) dw):=by rw [←hAv];exact g9 e1 e2
  have hC1:∀ cs∈d.C.map Xa.cells,cs.all (·.oneCell')=true:=fun cs hcs=>by
   obtain ⟨x,_,rfl⟩:=List.mem_map.1 hcs
   rfl
  have hcan:a.can=(actSignV (keyA q) dw).can:=by rw [←hAv];exact lp _ e1 e2
  have hN:∀ (s3 s4 s5:Xi) (P':List ByteArray),s3.n=cd.acts.n+1→s4.n=a.to.n→s5.n=a.wraps.n→P'=(bif p.judge then d.P else d.P++[digV a]) →
    (⟨addK L d.I (ofActI (a.re s4 s5)),d.C.set q (cd.more s3 a),d.D,d.G,P'⟩:Xz).can=pleadV L d.can p∧CrtOk L ⟨addK L d.I (ofActI (a.re s4 s5)),d.C.set q (cd.more s3 a),d.D,d.G,P'⟩ (m+1) n (e+1):=fun s3 s4 s5 P' h3 h4 h5 hP'=>by
   have hre:(a.re s4 s5).can=(actSignV (keyA q) dw).can:=(lp a h4 h5).trans hcan
   constructor
   · rw [pleadV,show plO p d.can.G d.can.P=O from hO,show plB d.can.C p O=true from hTB hF,cond_true,show plA d.can.C p O=_ from hTA,show plC d.can.C p=cd.can from hpc,hby]
     show (⟨(addK L d.I (ofActI (a.re s4 s5))).map Xb.can,(d.C.set q (cd.more s3 a)).map Xa.can,d.D.map Xf.can,d.G,P'⟩:Xz)=⟨addK L (d.I.map Xb.can) _,(d.C.map Xa.can).set q _,d.D.map Xf.can,d.G,bif p.judge then d.P else d.P++[digV (actSignV (keyA q) dw)]⟩
     rw [lx (cf hinv) (it:=ofActI (a.re s4 s5)) rfl,kJ,hre,rz,oA hAv e1 e2 h3,hP',hdaE]
     rfl
   · have hb1:=hacts cd hcm
     refine ⟨?_,by rw [List.length_set];exact hC4,fun c hc=>?_,?_,hGD,hDl⟩
     · have h6:=hinv.add hm (it:=ofActI (a.re s4 s5)) (jS hra h4 h5) (vC hsa h4 h5) rfl (Nat.zero_le _) (fun h7=>absurd (show false=true from h7) (by decide))
       exact h6
     · rcases List.mem_or_eq_of_mem_set hc with hc|rfl
       · exact ⟨(hacts c hc).1,Nat.le_succ_of_le (hacts c hc).2⟩
       · refine ⟨⟨fun y hy=>?_,fun y hy=>?_⟩,?_⟩
         · rcases List.mem_append.1 hy with hy|hy
           · exact hb1.1.rng y hy
           · rw [List.mem_singleton] at hy
             subst hy
             exact hra
         · rcases List.mem_append.1 hy with hy|hy
           · exact hb1.1.sm y hy
           · rw [List.mem_singleton] at hy
             subst hy
             exact hsa
         · show (cd.actsL++[a]).length≤_
           rw [List.length_append]
           have:=hb1.2
           simp only [List.length_cons,List.length_nil]
           omega
     · show P'.length≤e+1
       rw [hP']
       cases p.judge with
       | true=>exact Nat.le_succ_of_le hPl
       | false=>rw [cond_false,List.length_append];exact Nat.succ_le_succ hPl
  repeat' (first|apply ba|apply cw_seq|refine bA ?_|refine aW ?_|refine bM ?_|refine cg ?_|refine aQ ?_|refine bR ?_|refine cV ?_|refine cA ?_|refine bz ?_|refine bL ?_|refine aO ?_|refine bc fun _=>?_|refine bX fun _=>?_|refine bG fun _=>?_|refine bD ?_|refine aR ?_|refine cw_cond_t ?_|refine cw_cond_f ?_|apply cw_skip|apply cw_block|apply cw_ret|apply cw_exit|refine sy_beql (h:=?_)|refine bC ?_|refine bx ?_|(refine ag (hc:=hfi) (hX:=fun w x=>⟨⟨x.1.chn.2 cd hcm,x.1.glob⟩,x.2⟩) ?_)|(refine cw_cond (ht:=?_) (hf:=?_);all_goals (intro hx_;first|have:=bm hx_|have:=bT hx_|skip)))
  repeat' (first|refine gs ?_|refine gs1 fun _=>?_|refine fk fun _=>?_|(refine gp ?_ ?_<;>intro hx_ this)|fail)
  rename_i b16
  refine aH (size:=6) (news:=(d.C.map Xa.cells).flatten) (q:=h.cs.n) rfl rfl rfl rfl (fun _=>At.here _) (fun w G=>cO G.keep.now.1.chn.1 hC1) ac (by simp only [maxLen];omega) rfl ?_ rfl ?_
  · (first|with_reducible rfl|with_reducible assumption|with_reducible exact Bool.not_false|with_reducible exact Bool.not_true)
  intro A2 c2
  repeat' (first|apply ba|apply cw_seq|refine bA ?_|refine aW ?_|refine bM ?_|refine cg ?_|refine aQ ?_|refine bR ?_|refine cV ?_|refine cA ?_|refine bz ?_|refine bL ?_|refine aO ?_|refine bc fun _=>?_|refine bX fun _=>?_|refine bG fun _=>?_|refine bD ?_|refine aR ?_|refine cw_cond_t ?_|refine cw_cond_f ?_|apply cw_skip|apply cw_block|apply cw_ret|apply cw_exit|refine sy_beql (h:=?_)|refine bC ?_|refine bx ?_|(refine cw_cond (ht:=?_) (hf:=?_);all_goals (intro hx_;first|have:=bm hx_|have:=bT hx_|skip)))
  rw [Nat.zero_add,hcs4,List.nil_append]
  refine cY (r:=orow 65 6 (.slice A2 4 c2) 4 (d.C.map Xa.cells).flatten) ay (fun w h=>cG h (by decide)) fun hA2=>?_
  refine cw_reg (h:=?_)
  repeat' (first|(refine aT (hc:=hlo) (hX:=fun w x=>⟨⟨x.1.chn.2 cd hcm,x.2⟩,x.1.glob⟩) fun v3 X3 h3=>?_;obtain ⟨s3,rfl,e3,hat3⟩:=h3)|refine gs ?_|refine gs1 fun _=>?_|(refine aA (q:=q*6) ?_)|(refine mL (i:=q) (size:=6) (vs:=(cd.more s3 a).cells) ai rfl rfl rfl rfl rfl ac rfl (by (repeat (first|exact At.here _|apply At.there))) rfl ax rfl ?_)|(refine gp ?_ ?_<;>intro hx_ this)|fail)
  have hfl:=gy d.C q (cd.more s3 a) ac
  rw [hfl]
  refine iG (st':=⟨[(2,.pointer (some ⟨b2,0,none⟩)),(3,.pointer (some ⟨b3,0,none⟩)),(4,.pointer (some ⟨b4,0,none⟩)),(5,.int .i64 (q:Int)),(6,.pointer (some ⟨b6,0,none⟩)),(7,.pointer (some ⟨b7,0,none⟩))],[cel b7 72 a.cells,cel b4 37 [.slice none 0 0,.slice none 0 0,.slice none 0 0,.slice none 0 0,.slice none 0 0,.slice none 0 0],cel b3 52 p.cells,cel b2 37 [h.ks.v,h.ki.v,.slice A2 4 c2,h.sd.v,h.sg.v,h.sa.v]],fun w=>(X7 L h d w∧Xc.at_ w a)∧Chains w ⟨A2,4,c2⟩ (d.C.set q (cd.more s3 a))⟩) (fm (r:=orow 65 6 (.slice A2 4 c2) 4 ((d.C.set q (cd.more s3 a)).map Xa.cells).flatten) ⟨rfl,rfl,rfl,rfl,rfl,rfl,trivial⟩ (.cons_cons _ (.cons_cons _ (.cons _ (al _)))) fun w x hr=>⟨x.1,aM hr (by rw [List.length_map,List.length_set];exact hC4.symm) (cells6 _),fun c hc=>(List.mem_or_eq_of_mem_set hc).elim (x.1.1.chn.2 c) (fun e=>e▸hat3 w x.2)⟩) ?_
  clear hfl hA2
  refine ej (ι:={ j:Xi×Xi×Xi // j.2.1.n=a.to.n∧j.2.2.n=a.wraps.n }) (fun j=>⟨[(2,.pointer (some ⟨b2,0,none⟩)),(3,.pointer (some ⟨b3,0,none⟩)),(4,.pointer (some ⟨b4,0,none⟩)),(5,.int .i64 (q:Int)),(6,.pointer (some ⟨b6,0,none⟩)),(7,.pointer (some ⟨b7,0,none⟩))],[cel b7 72 a.cells,cel b4 37 [.slice none 0 0,.slice none 0 0,.slice none 0 0,.slice none 0 0,.slice none 0 0,.slice none 0 0],cel b3 52 p.cells,cel b2 37 [h.ks.v,j.1.1.v,.slice A2 4 c2,h.sd.v,h.sg.v,h.sa.v]],fun w=>((X7 L h d w∧Xc.at_ w a)∧Chains w ⟨A2,4,c2⟩ (d.C.set q (cd.more s3 a)))∧Items w j.1.1 (addK L d.I (ofActI (a.re j.1.2.1 j.1.2.2)))⟩) ?_ fun j=>?_
  · (refine ao ⟨[0,2],[(1,⟨[],[(3,⟨[],[(4,⟨[5,6,7,8],[(9,⟨[],[]⟩)]⟩)]⟩)]⟩),(3,⟨[],[(1,⟨[],[(4,⟨[5,6,7,8],[(9,⟨[],[]⟩)]⟩)]⟩)]⟩)]⟩ [cel b7 72 a.cells] (fun _=>True) (h:=?_))
    all_goals repeat' (first|((refine aT (hc:=hof) (hX:=fun w x=>x.1.2) fun v3 X3 h3=>?_;obtain ⟨s4,s5,rfl,e4,e5,hw4⟩:=h3))|((refine aT (hc:=nL h.ks h.ki hinv.knr (ofActI (a.re s4 s5)) (jS hra e4 e5) rfl) (hX:=fun w x=>⟨⟨⟨x.1.1.1.srv,x.1.1.1.its⟩,hw4 w x.2,aN w 1⟩,x.1.1.1.glob⟩) fun v5 X5 h5=>?_;obtain ⟨s6,rfl,hw6⟩:=h5))|refine gdz ?_|refine aF ?_ (h':=?_)|exact aG|(refine aE (vs:=[h.ks.v,h.ki.v]) (hv:=rfl) ?_)|(refine aZ [h.ks.v,s6.v,.slice A2 4 c2,h.sd.v,h.sg.v,h.sa.v] (h:=?_))|refine gs1 fun _=>?_|(refine gq ?_ ?_<;>intro hx_ this)|fail)
    all_goals first
     | exact ⟨⟨(s6,s4,s5),e4,e5⟩,ak an (al _) fun w x=>⟨x.1.1,hw6 w ⟨x.1.1.1.1.its,x.2⟩⟩⟩
  obtain ⟨⟨s6,s4,s5⟩,e4,e5⟩:=j
  simp only at e4 e5 ⊢
  refine aD (p:=h.sa.n=d.P.length∧h.sa.n≤maxLen) (fun w x=>⟨x.1.1.1.app.len_,Nat.le_trans (Xe.cap x.1.1.1.app) (Xe.max x.1.1.1.app)⟩) fun ⟨han,ham⟩=>?_
  simp only [maxLen] at ham
  cases hj:p.judge with
  | true =>
   have hN1:=hN s3 s4 s5 d.P e3 e4 e5 (by rw [hj];rfl)
   have hj2:(!p.judge)=false:=by rw [hj];rfl
   repeat' (first|refine gs ?_|refine gs1 fun _=>?_|(refine gp ?_ ?_<;>intro hx_ this)|fail)
   all_goals first
    | (exfalso;rw [hj2] at hx_;cases hx_;done)
    | exact ae (aI rfl rfl aC (by rfl)) ⟨⟨h.ks,s6,⟨A2,4,c2⟩,h.sd,h.sg,h.sa⟩,_,rfl,hN1,fun w x=>⟨x.1.1.1.1.srv,x.1.2,x.1.1.2,x.1.1.1.1.dec,x.1.1.1.1.dig,x.1.1.1.1.app,x.1.1.1.1.glob⟩⟩
  | false =>
   have hN1:=hN s3 s4 s5 (d.P++[digV a]) e3 e4 e5 (by rw [hj];rfl)
   have hP1:∀ cs∈strs d.P,cs.all (·.oneCell')=true:=fun cs hcs=>by
    simp only [strs,List.mem_map] at hcs
    obtain ⟨x,_,rfl⟩:=hcs
    rfl
   have hj2:(!p.judge)=true:=by rw [hj];rfl
   repeat' (first|refine gs ?_|refine gs1 fun _=>?_|(refine gp ?_ ?_<;>intro hx_ this)|fail)
   all_goals try (exfalso;rw [hj2] at hx_;cases hx_;done)
   (refine ao ⟨[1,4],[(0,⟨[],[(2,⟨[],[(3,⟨[],[(5,⟨[],[(6,⟨[],[(7,⟨[8],[(9,⟨[],[]⟩)]⟩)]⟩)]⟩)]⟩)]⟩)]⟩),(2,⟨[],[(0,⟨[],[(3,⟨[],[(5,⟨[],[(6,⟨[],[(7,⟨[8],[(9,⟨[],[]⟩)]⟩)]⟩)]⟩)]⟩)]⟩)]⟩)]⟩ [cel b7 72 a.cells] (fun _=>True) (h:=?_))
   all_goals repeat' (first|(refine ag (hc:=hdi) (hX:=fun w x=>⟨x.1.1.2,x.1.1.1.glob⟩) ?_)|refine gdz ?_|refine aF ?_ (h':=?_)|exact aG|refine fk fun _=>?_|refine bH (size:=1) (vs:=[.string (digV a)]) (css:=[.string (digV a)]) (hsz:=by rfl) (hcs:=by rfl) fun _=>?_|(refine fI ?_;refine aH (size:=1) (news:=(strs d.P).flatten) (q:=h.sa.n) rfl rfl rfl rfl (fun _=>by (repeat (first|exact At.here _|apply At.there))) (fun w G=>cO G.keep.now.1.1.1.app hP1) ac (by simp only [maxLen];omega) rfl ?_ rfl ?_;(first|with_reducible rfl|with_reducible assumption|with_reducible exact Bool.not_false|with_reducible exact Bool.not_true);intro A3 c3)|(refine fI ?_;refine aH (size:=1) (news:=[.string (digV a)]) (q:=1) rfl rfl rfl rfl (fun _=>by (repeat (first|exact At.here _|apply At.there))) (fun w G=>bu G aC rfl rfl 1) ac (by simp only [maxLen];omega) rfl ?_ rfl ?_;(first|with_reducible rfl|with_reducible assumption|with_reducible exact Bool.not_false|with_reducible exact Bool.not_true);intro A4 c4)|refine gs1 fun _=>?_|(refine gq ?_ ?_<;>intro hx_ this)|fail)
   all_goals
    repeat' (first|refine gs ?_|refine gs1 fun _=>?_|(refine gp ?_ ?_<;>intro hx_ this)|fail)
    refine ae (aI rfl rfl aC (by rfl)) ⟨⟨h.ks,s6,⟨A2,4,c2⟩,h.sd,h.sg,⟨A4,0+h.sa.n+1,c4⟩⟩,_,rfl,hN1,fun w x=>⟨x.1.1.1.1.srv,x.1.2,x.1.1.2,x.1.1.1.1.dec,x.1.1.1.1.dig,?_,x.1.1.1.1.glob⟩⟩
    have hr:=x.2 (orow 9 1 (.slice A4 (0+h.sa.n+1) c4) (0+h.sa.n+1) ([]++(strs d.P).flatten++[.string (digV a)])) aC
    have hfl2:([]++(strs d.P).flatten++[.string (digV a)]:List Value)=(d.P++[digV a]).map encB:=by
     rw [ec,List.map_append]
     rfl
    rw [hfl2] at hr
    exact dr hr (by rw [List.length_append,han];simp)
end Go.Proofs.YtgffbiobmamobaaGreatDoor
