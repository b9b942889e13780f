/- Joined. -/
import Derived.Test.YtgffbiobmamobaaGreatDoorI0
import Derived.Test.YtgffbiobmamobaaGreatDoorI20
set_option linter.unusedVariables false
set_option linter.unusedSimpArgs false
set_option maxHeartbeats 16000000
namespace Go.Proofs.YtgffbiobmamobaaGreatDoor
open Go Go.Proofs Sy
def tgtG (w:Xo):ByteArray:=bif decide (7≤w.do_)&&decide (w.do_≤11) then idA21 (pickV w.who (4:Nat)).toNat else ⟨#[]⟩
def objK (k:Int):Bool:=decide (k=2)||(decide (k=3)||(decide (k=4)||(decide (k=5)||(decide (k=6)||(decide (k=13)||(decide (k=14)||decide (k=12)))))))
def objG (w:Xo) (ks:List ByteArray):ByteArray:=bif objK w.do_&&decide (0<ks.length) then ks.getD (pickV w.what (ks.length:Nat)).toNat .empty else ⟨#[]⟩
def txtG (w:Xo):ByteArray:=bif postK w.do_||(decide (w.do_=14)||decide (w.do_=12)) then w.text else ⟨#[]⟩
def draftGV (c:Xa) (w:Xo) (ks:List ByteArray):Xc:={ draftV c w.do_ w.time with target:=tgtG w,object:=objG w ks,text:=txtG w }
section
variable (c:Xa) (w:Xo) (s:Xi) (ks:List ByteArray)
set_option maxRecDepth 20000 in
theorem uk (hk:7≤w.do_∧w.do_≤11):Pu Tryz.prog 39 #[c.v,w.v,s.v] (fun w=>Strs w s ks∧Xg w) (draftGV c w ks).v:=by
 have g7:decide (7≤w.do_)=true:=decide_eq_true ac
 have g11:decide (w.do_≤11)=true:=decide_eq_true ac
 have n2:decide (w.do_=2)=false:=decide_eq_false ac
 have n3:decide (w.do_=3)=false:=decide_eq_false ac
 have n4:decide (w.do_=4)=false:=decide_eq_false ac
 have n5:decide (w.do_=5)=false:=decide_eq_false ac
 have n6:decide (w.do_=6)=false:=decide_eq_false ac
 have n13:decide (w.do_=13)=false:=decide_eq_false ac
 have n14:decide (w.do_=14)=false:=decide_eq_false ac
 have n12:decide (w.do_=12)=false:=decide_eq_false ac
 have n1:decide (w.do_=1)=false:=decide_eq_false ac
 have hP:postK w.do_=false:=by rw [postK];simp only [n1,n2,n3];rfl
 refine aq Tryz.func39 Tryz.ntmps39 fun av bor w0=>?_
 refine aD (p:=s.n=ks.length∧s.n≤maxLen∧(0<ks.length→s.p.isSome=true)) (fun w h=>⟨h.1.len_,Nat.le_trans (Xe.cap h.1) (Xe.max h.1),h.1.some_⟩) fun ⟨hl,hm,hsp⟩=>?_
 simp only [maxLen] at hm
 obtain ⟨p,hp4,hp⟩:=aK w.who 4 (by decide)
 have hpk:=aV w.who 4 (by decide) (by decide)
 rw [hp] at hpk
 have hid:=rW p ac
 have e:draftGV c w ks={ draftV c w.do_ w.time with target:=idA21 p }:=by
  simp only [draftGV,tgtG,objG,objK,txtG,g7,g11,hp,n2,n3,n4,n5,n6,n13,n14,n12,hP,Bool.or_true,Bool.true_or,Bool.or_false,Bool.false_or,Bool.and_true,Bool.and_false,Bool.true_and,Bool.false_and,cond_true,cond_false,Int.toNat_natCast]
  rfl
 rw [e]
 have hpo:=bj w.do_
 rw [hP] at hpo
 have hdr:=bF c w.do_ w.time
 generalize hD:draftV c w.do_ w.time=D at *
 repeat' (first|(refine ag (hc:=hdr) ?_)|(refine ag (hc:=hpo) ?_)|(refine ag (hc:=hpk) ?_)|(refine ag (hc:=hid) ?_)|refine gs ?_|refine gs1 fun _=>?_|(refine aZ ({ D with target:=idA21 p }:Xc).cells (h:=?_))|(refine gp ?_ ?_<;>intro hx_ this)|fail)
 all_goals first
  | exact ae (aI rfl rfl aC (by rfl)) rfl
set_option maxRecDepth 20000 in
theorem xx (hk:w.do_=2) (h0:ks.length=0):Pu Tryz.prog 39 #[c.v,w.v,s.v] (fun w=>Strs w s ks∧Xg w) (draftGV c w ks).v:=by
 have g7:decide (7≤w.do_)=false:=decide_eq_false ac
 have n2:decide (w.do_=2)=true:=decide_eq_true ac
 have n3:decide (w.do_=3)=false:=decide_eq_false ac
 have n4:decide (w.do_=4)=false:=decide_eq_false ac
 have n5:decide (w.do_=5)=false:=decide_eq_false ac
 have n6:decide (w.do_=6)=false:=decide_eq_false ac
 have n13:decide (w.do_=13)=false:=decide_eq_false ac
 have n14:decide (w.do_=14)=false:=decide_eq_false ac
 have n12:decide (w.do_=12)=false:=decide_eq_false ac
 have n1:decide (w.do_=1)=false:=decide_eq_false ac
 have hP:postK w.do_=true:=by rw [postK];simp only [n1,n2,n3];rfl
 refine aq Tryz.func39 Tryz.ntmps39 fun av bor w0=>?_
 refine aD (p:=s.n=ks.length∧s.n≤maxLen∧(0<ks.length→s.p.isSome=true)) (fun w h=>⟨h.1.len_,Nat.le_trans (Xe.cap h.1) (Xe.max h.1),h.1.some_⟩) fun ⟨hl,hm,hsp⟩=>?_
 simp only [maxLen] at hm
 have hgt:decide ((0:Int)<(s.n:Int))=false:=decide_eq_false ac
 have hg0:decide (0<ks.length)=false:=decide_eq_false ac
 have e:draftGV c w ks={ draftV c w.do_ w.time with text:=w.text }:=by
  simp only [draftGV,tgtG,objG,objK,txtG,g7,hg0,n2,n3,n4,n5,n6,n13,n14,n12,hP,Bool.or_true,Bool.true_or,Bool.or_false,Bool.false_or,Bool.and_true,Bool.and_false,Bool.true_and,Bool.false_and,cond_true,cond_false,Int.toNat_natCast]
  rfl
 rw [e]
 have hpo:=bj w.do_
 rw [hP] at hpo
 have hdr:=bF c w.do_ w.time
 generalize hD:draftV c w.do_ w.time=D at *
 repeat' (first|(refine ag (hc:=hdr) ?_)|(refine ag (hc:=hpo) ?_)|refine gs ?_|refine gs1 fun _=>?_|(refine aZ ({ D with text:=w.text }:Xc).cells (h:=?_))|(refine gp ?_ ?_<;>intro hx_ this)|fail)
 all_goals first
  | exact ae (aI rfl rfl aC (by rfl)) rfl
set_option maxRecDepth 20000 in
theorem ur (hk:w.do_=2) (h0:0<ks.length):Pu Tryz.prog 39 #[c.v,w.v,s.v] (fun w=>Strs w s ks∧Xg w) (draftGV c w ks).v:=by
 have g7:decide (7≤w.do_)=false:=decide_eq_false ac
 have n2:decide (w.do_=2)=true:=decide_eq_true ac
 have n3:decide (w.do_=3)=false:=decide_eq_false ac
 have n4:decide (w.do_=4)=false:=decide_eq_false ac
 have n5:decide (w.do_=5)=false:=decide_eq_false ac
 have n6:decide (w.do_=6)=false:=decide_eq_false ac
 have n13:decide (w.do_=13)=false:=decide_eq_false ac
 have n14:decide (w.do_=14)=false:=decide_eq_false ac
 have n12:decide (w.do_=12)=false:=decide_eq_false ac
 have n1:decide (w.do_=1)=false:=decide_eq_false ac
 have hP:postK w.do_=true:=by rw [postK];simp only [n1,n2,n3];rfl
 refine aq Tryz.func39 Tryz.ntmps39 fun av bor w0=>?_
 refine aD (p:=s.n=ks.length∧s.n≤maxLen∧(0<ks.length→s.p.isSome=true)) (fun w h=>⟨h.1.len_,Nat.le_trans (Xe.cap h.1) (Xe.max h.1),h.1.some_⟩) fun ⟨hl,hm,hsp⟩=>?_
 simp only [maxLen] at hm
 have hsp':=hsp h0
 obtain ⟨p,hpl,hp⟩:=aK w.what ks.length h0
 obtain ⟨x,hx⟩:∃ x,ks[p]?=some x:=⟨_,List.getElem?_eq_getElem hpl⟩
 have hpk:=aV w.what s.n ac ac
 rw [show pickV w.what (s.n:Nat)=(p:Int) from by rw [hl];exact hp] at hpk
 have hgt:decide ((0:Int)<(s.n:Int))=true:=decide_eq_true ac
 have hxD:ks.getD p .empty=x:=by rw [List.getD_eq_getElem?_getD,hx];rfl
 have hg0:decide (0<ks.length)=true:=decide_eq_true h0
 have e:draftGV c w ks={ draftV c w.do_ w.time with object:=x,text:=w.text }:=by
  simp only [draftGV,tgtG,objG,objK,txtG,g7,hp,hxD,hg0,Int.toNat_natCast,n2,n3,n4,n5,n6,n13,n14,n12,hP,Bool.or_true,Bool.true_or,Bool.or_false,Bool.false_or,Bool.and_true,Bool.and_false,Bool.true_and,Bool.false_and,cond_true,cond_false,Int.toNat_natCast]
  rfl
 rw [e]
 have hpo:=bj w.do_
 rw [hP] at hpo
 have hdr:=bF c w.do_ w.time
 generalize hD:draftV c w.do_ w.time=D at *
 repeat' (first|(refine ag (hc:=hdr) ?_)|(refine ag (hc:=hpo) ?_)|(refine ag (hc:=hpk) ?_)|refine gs ?_|refine gs1 fun _=>?_|(refine aA (q:=p) ?_)|(refine bE (q:=p) (u:=.string x) (hF:=fun w h=>h.1.at_ hx) ?_)|(refine aZ ({ D with object:=x }:Xc).cells (h:=?_))|(refine aZ ({ D with object:=x,text:=w.text }:Xc).cells (h:=?_))|(refine gp ?_ ?_<;>intro hx_ this)|fail)
 all_goals first
  | exact ae (aI rfl rfl aC (by rfl)) rfl
set_option maxRecDepth 20000 in
theorem xw (hk:w.do_=3) (h0:ks.length=0):Pu Tryz.prog 39 #[c.v,w.v,s.v] (fun w=>Strs w s ks∧Xg w) (draftGV c w ks).v:=by
 have g7:decide (7≤w.do_)=false:=decide_eq_false ac
 have n2:decide (w.do_=2)=false:=decide_eq_false ac
 have n3:decide (w.do_=3)=true:=decide_eq_true ac
 have n4:decide (w.do_=4)=false:=decide_eq_false ac
 have n5:decide (w.do_=5)=false:=decide_eq_false ac
 have n6:decide (w.do_=6)=false:=decide_eq_false ac
 have n13:decide (w.do_=13)=false:=decide_eq_false ac
 have n14:decide (w.do_=14)=false:=decide_eq_false ac
 have n12:decide (w.do_=12)=false:=decide_eq_false ac
 have n1:decide (w.do_=1)=false:=decide_eq_false ac
 have hP:postK w.do_=true:=by rw [postK];simp only [n1,n2,n3];rfl
 refine aq Tryz.func39 Tryz.ntmps39 fun av bor w0=>?_
 refine aD (p:=s.n=ks.length∧s.n≤maxLen∧(0<ks.length→s.p.isSome=true)) (fun w h=>⟨h.1.len_,Nat.le_trans (Xe.cap h.1) (Xe.max h.1),h.1.some_⟩) fun ⟨hl,hm,hsp⟩=>?_
 simp only [maxLen] at hm
 have hgt:decide ((0:Int)<(s.n:Int))=false:=decide_eq_false ac
 have hg0:decide (0<ks.length)=false:=decide_eq_false ac
 have e:draftGV c w ks={ draftV c w.do_ w.time with text:=w.text }:=by
  simp only [draftGV,tgtG,objG,objK,txtG,g7,hg0,n2,n3,n4,n5,n6,n13,n14,n12,hP,Bool.or_true,Bool.true_or,Bool.or_false,Bool.false_or,Bool.and_true,Bool.and_false,Bool.true_and,Bool.false_and,cond_true,cond_false,Int.toNat_natCast]
  rfl
 rw [e]
 have hpo:=bj w.do_
 rw [hP] at hpo
 have hdr:=bF c w.do_ w.time
 generalize hD:draftV c w.do_ w.time=D at *
 repeat' (first|(refine ag (hc:=hdr) ?_)|(refine ag (hc:=hpo) ?_)|refine gs ?_|refine gs1 fun _=>?_|(refine aZ ({ D with text:=w.text }:Xc).cells (h:=?_))|(refine gp ?_ ?_<;>intro hx_ this)|fail)
 all_goals first
  | exact ae (aI rfl rfl aC (by rfl)) rfl
set_option maxRecDepth 20000 in
theorem uq (hk:w.do_=3) (h0:0<ks.length):Pu Tryz.prog 39 #[c.v,w.v,s.v] (fun w=>Strs w s ks∧Xg w) (draftGV c w ks).v:=by
 have g7:decide (7≤w.do_)=false:=decide_eq_false ac
 have n2:decide (w.do_=2)=false:=decide_eq_false ac
 have n3:decide (w.do_=3)=true:=decide_eq_true ac
 have n4:decide (w.do_=4)=false:=decide_eq_false ac
 have n5:decide (w.do_=5)=false:=decide_eq_false ac
 have n6:decide (w.do_=6)=false:=decide_eq_false ac
 have n13:decide (w.do_=13)=false:=decide_eq_false ac
 have n14:decide (w.do_=14)=false:=decide_eq_false ac
 have n12:decide (w.do_=12)=false:=decide_eq_false ac
 have n1:decide (w.do_=1)=false:=decide_eq_false ac
 have hP:postK w.do_=true:=by rw [postK];simp only [n1,n2,n3];rfl
 refine aq Tryz.func39 Tryz.ntmps39 fun av bor w0=>?_
 refine aD (p:=s.n=ks.length∧s.n≤maxLen∧(0<ks.length→s.p.isSome=true)) (fun w h=>⟨h.1.len_,Nat.le_trans (Xe.cap h.1) (Xe.max h.1),h.1.some_⟩) fun ⟨hl,hm,hsp⟩=>?_
 simp only [maxLen] at hm
 have hsp':=hsp h0
 obtain ⟨p,hpl,hp⟩:=aK w.what ks.length h0
 obtain ⟨x,hx⟩:∃ x,ks[p]?=some x:=⟨_,List.getElem?_eq_getElem hpl⟩
 have hpk:=aV w.what s.n ac ac
 rw [show pickV w.what (s.n:Nat)=(p:Int) from by rw [hl];exact hp] at hpk
 have hgt:decide ((0:Int)<(s.n:Int))=true:=decide_eq_true ac
 have hxD:ks.getD p .empty=x:=by rw [List.getD_eq_getElem?_getD,hx];rfl
 have hg0:decide (0<ks.length)=true:=decide_eq_true h0
 have e:draftGV c w ks={ draftV c w.do_ w.time with object:=x,text:=w.text }:=by
  simp only [draftGV,tgtG,objG,objK,txtG,g7,hp,hxD,hg0,Int.toNat_natCast,n2,n3,n4,n5,n6,n13,n14,n12,hP,Bool.or_true,Bool.true_or,Bool.or_false,Bool.false_or,Bool.and_true,Bool.and_false,Bool.true_and,Bool.false_and,cond_true,cond_false,Int.toNat_natCast]
  rfl
 rw [e]
 have hpo:=bj w.do_
 rw [hP] at hpo
 have hdr:=bF c w.do_ w.time
 generalize hD:draftV c w.do_ w.time=D at *
 repeat' (first|(refine ag (hc:=hdr) ?_)|(refine ag (hc:=hpo) ?_)|(refine ag (hc:=hpk) ?_)|refine gs ?_|refine gs1 fun _=>?_|(refine aA (q:=p) ?_)|(refine bE (q:=p) (u:=.string x) (hF:=fun w h=>h.1.at_ hx) ?_)|(refine aZ ({ D with object:=x }:Xc).cells (h:=?_))|(refine aZ ({ D with object:=x,text:=w.text }:Xc).cells (h:=?_))|(refine gp ?_ ?_<;>intro hx_ this)|fail)
 all_goals first
  | exact ae (aI rfl rfl aC (by rfl)) rfl
set_option maxRecDepth 20000 in
theorem xv (hk:w.do_=4) (h0:ks.length=0):Pu Tryz.prog 39 #[c.v,w.v,s.v] (fun w=>Strs w s ks∧Xg w) (draftGV c w ks).v:=by
 have g7:decide (7≤w.do_)=false:=decide_eq_false ac
 have n2:decide (w.do_=2)=false:=decide_eq_false ac
 have n3:decide (w.do_=3)=false:=decide_eq_false ac
 have n4:decide (w.do_=4)=true:=decide_eq_true ac
 have n5:decide (w.do_=5)=false:=decide_eq_false ac
 have n6:decide (w.do_=6)=false:=decide_eq_false ac
 have n13:decide (w.do_=13)=false:=decide_eq_false ac
 have n14:decide (w.do_=14)=false:=decide_eq_false ac
 have n12:decide (w.do_=12)=false:=decide_eq_false ac
 have n1:decide (w.do_=1)=false:=decide_eq_false ac
 have hP:postK w.do_=false:=by rw [postK];simp only [n1,n2,n3];rfl
 refine aq Tryz.func39 Tryz.ntmps39 fun av bor w0=>?_
 refine aD (p:=s.n=ks.length∧s.n≤maxLen∧(0<ks.length→s.p.isSome=true)) (fun w h=>⟨h.1.len_,Nat.le_trans (Xe.cap h.1) (Xe.max h.1),h.1.some_⟩) fun ⟨hl,hm,hsp⟩=>?_
 simp only [maxLen] at hm
 have hgt:decide ((0:Int)<(s.n:Int))=false:=decide_eq_false ac
 have hg0:decide (0<ks.length)=false:=decide_eq_false ac
 have e:draftGV c w ks=draftV c w.do_ w.time:=by
  simp only [draftGV,tgtG,objG,objK,txtG,g7,hg0,n2,n3,n4,n5,n6,n13,n14,n12,hP,Bool.or_true,Bool.true_or,Bool.or_false,Bool.false_or,Bool.and_true,Bool.and_false,Bool.true_and,Bool.false_and,cond_true,cond_false,Int.toNat_natCast]
  rfl
 rw [e]
 have hpo:=bj w.do_
 rw [hP] at hpo
 have hdr:=bF c w.do_ w.time
 generalize hD:draftV c w.do_ w.time=D at *
 repeat' (first|(refine ag (hc:=hdr) ?_)|(refine ag (hc:=hpo) ?_)|refine gs ?_|refine gs1 fun _=>?_|(refine gp ?_ ?_<;>intro hx_ this)|fail)
 all_goals first
  | exact ae (aI rfl rfl aC (by rfl)) rfl
set_option maxRecDepth 20000 in
theorem up (hk:w.do_=4) (h0:0<ks.length):Pu Tryz.prog 39 #[c.v,w.v,s.v] (fun w=>Strs w s ks∧Xg w) (draftGV c w ks).v:=by
 have g7:decide (7≤w.do_)=false:=decide_eq_false ac
 have n2:decide (w.do_=2)=false:=decide_eq_false ac
 have n3:decide (w.do_=3)=false:=decide_eq_false ac
 have n4:decide (w.do_=4)=true:=decide_eq_true ac
 have n5:decide (w.do_=5)=false:=decide_eq_false ac
 have n6:decide (w.do_=6)=false:=decide_eq_false ac
 have n13:decide (w.do_=13)=false:=decide_eq_false ac
 have n14:decide (w.do_=14)=false:=decide_eq_false ac
 have n12:decide (w.do_=12)=false:=decide_eq_false ac
 have n1:decide (w.do_=1)=false:=decide_eq_false ac
 have hP:postK w.do_=false:=by rw [postK];simp only [n1,n2,n3];rfl
 refine aq Tryz.func39 Tryz.ntmps39 fun av bor w0=>?_
 refine aD (p:=s.n=ks.length∧s.n≤maxLen∧(0<ks.length→s.p.isSome=true)) (fun w h=>⟨h.1.len_,Nat.le_trans (Xe.cap h.1) (Xe.max h.1),h.1.some_⟩) fun ⟨hl,hm,hsp⟩=>?_
 simp only [maxLen] at hm
 have hsp':=hsp h0
 obtain ⟨p,hpl,hp⟩:=aK w.what ks.length h0
 obtain ⟨x,hx⟩:∃ x,ks[p]?=some x:=⟨_,List.getElem?_eq_getElem hpl⟩
 have hpk:=aV w.what s.n ac ac
 rw [show pickV w.what (s.n:Nat)=(p:Int) from by rw [hl];exact hp] at hpk
 have hgt:decide ((0:Int)<(s.n:Int))=true:=decide_eq_true ac
 have hxD:ks.getD p .empty=x:=by rw [List.getD_eq_getElem?_getD,hx];rfl
 have hg0:decide (0<ks.length)=true:=decide_eq_true h0
 have e:draftGV c w ks={ draftV c w.do_ w.time with object:=x }:=by
  simp only [draftGV,tgtG,objG,objK,txtG,g7,hp,hxD,hg0,Int.toNat_natCast,n2,n3,n4,n5,n6,n13,n14,n12,hP,Bool.or_true,Bool.true_or,Bool.or_false,Bool.false_or,Bool.and_true,Bool.and_false,Bool.true_and,Bool.false_and,cond_true,cond_false,Int.toNat_natCast]
  rfl
 rw [e]
 have hpo:=bj w.do_
 rw [hP] at hpo
 have hdr:=bF c w.do_ w.time
 generalize hD:draftV c w.do_ w.time=D at *
 repeat' (first|(refine ag (hc:=hdr) ?_)|(refine ag (hc:=hpo) ?_)|(refine ag (hc:=hpk) ?_)|refine gs ?_|refine gs1 fun _=>?_|(refine aA (q:=p) ?_)|(refine bE (q:=p) (u:=.string x) (hF:=fun w h=>h.1.at_ hx) ?_)|(refine aZ ({ D with object:=x }:Xc).cells (h:=?_))|(refine gp ?_ ?_<;>intro hx_ this)|fail)
 all_goals first
  | exact ae (aI rfl rfl aC (by rfl)) rfl
set_option maxRecDepth 20000 in
theorem xu (hk:w.do_=5) (h0:ks.length=0):Pu Tryz.prog 39 #[c.v,w.v,s.v] (fun w=>Strs w s ks∧Xg w) (draftGV c w ks).v:=by
 have g7:decide (7≤w.do_)=false:=decide_eq_false ac
 have n2:decide (w.do_=2)=false:=decide_eq_false ac
 have n3:decide (w.do_=3)=false:=decide_eq_false ac
 have n4:decide (w.do_=4)=false:=decide_eq_false ac
 have n5:decide (w.do_=5)=true:=decide_eq_true ac
 have n6:decide (w.do_=6)=false:=decide_eq_false ac
 have n13:decide (w.do_=13)=false:=decide_eq_false ac
 have n14:decide (w.do_=14)=false:=decide_eq_false ac
 have n12:decide (w.do_=12)=false:=decide_eq_false ac
 have n1:decide (w.do_=1)=false:=decide_eq_false ac
 have hP:postK w.do_=false:=by rw [postK];simp only [n1,n2,n3];rfl
 refine aq Tryz.func39 Tryz.ntmps39 fun av bor w0=>?_
 refine aD (p:=s.n=ks.length∧s.n≤maxLen∧(0<ks.length→s.p.isSome=true)) (fun w h=>⟨h.1.len_,Nat.le_trans (Xe.cap h.1) (Xe.max h.1),h.1.some_⟩) fun ⟨hl,hm,hsp⟩=>?_
 simp only [maxLen] at hm
 have hgt:decide ((0:Int)<(s.n:Int))=false:=decide_eq_false ac
 have hg0:decide (0<ks.length)=false:=decide_eq_false ac
 have e:draftGV c w ks=draftV c w.do_ w.time:=by
  simp only [draftGV,tgtG,objG,objK,txtG,g7,hg0,n2,n3,n4,n5,n6,n13,n14,n12,hP,Bool.or_true,Bool.true_or,Bool.or_false,Bool.false_or,Bool.and_true,Bool.and_false,Bool.true_and,Bool.false_and,cond_true,cond_false,Int.toNat_natCast]
  rfl
 rw [e]
 have hpo:=bj w.do_
 rw [hP] at hpo
 have hdr:=bF c w.do_ w.time
 generalize hD:draftV c w.do_ w.time=D at *
 repeat' (first|(refine ag (hc:=hdr) ?_)|(refine ag (hc:=hpo) ?_)|refine gs ?_|refine gs1 fun _=>?_|(refine gp ?_ ?_<;>intro hx_ this)|fail)
 all_goals first
  | exact ae (aI rfl rfl aC (by rfl)) rfl
set_option maxRecDepth 20000 in
theorem uo (hk:w.do_=5) (h0:0<ks.length):Pu Tryz.prog 39 #[c.v,w.v,s.v] (fun w=>Strs w s ks∧Xg w) (draftGV c w ks).v:=by
 have g7:decide (7≤w.do_)=false:=decide_eq_false ac
 have n2:decide (w.do_=2)=false:=decide_eq_false ac
 have n3:decide (w.do_=3)=false:=decide_eq_false ac
 have n4:decide (w.do_=4)=false:=decide_eq_false ac
 have n5:decide (w.do_=5)=true:=decide_eq_true ac
 have n6:decide (w.do_=6)=false:=decide_eq_false ac
 have n13:decide (w.do_=13)=false:=decide_eq_false ac
 have n14:decide (w.do_=14)=false:=decide_eq_false ac
 have n12:decide (w.do_=12)=false:=decide_eq_false ac
 have n1:decide (w.do_=1)=false:=decide_eq_false ac
 have hP:postK w.do_=false:=by rw [postK];simp only [n1,n2,n3];rfl
 refine aq Tryz.func39 Tryz.ntmps39 fun av bor w0=>?_
 refine aD (p:=s.n=ks.length∧s.n≤maxLen∧(0<ks.length→s.p.isSome=true)) (fun w h=>⟨h.1.len_,Nat.le_trans (Xe.cap h.1) (Xe.max h.1),h.1.some_⟩) fun ⟨hl,hm,hsp⟩=>?_
 simp only [maxLen] at hm
 have hsp':=hsp h0
 obtain ⟨p,hpl,hp⟩:=aK w.what ks.length h0
 obtain ⟨x,hx⟩:∃ x,ks[p]?=some x:=⟨_,List.getElem?_eq_getElem hpl⟩
 have hpk:=aV w.what s.n ac ac
 rw [show pickV w.what (s.n:Nat)=(p:Int) from by rw [hl];exact hp] at hpk
 have hgt:decide ((0:Int)<(s.n:Int))=true:=decide_eq_true ac
 have hxD:ks.getD p .empty=x:=by rw [List.getD_eq_getElem?_getD,hx];rfl
 have hg0:decide (0<ks.length)=true:=decide_eq_true h0
 have e:draftGV c w ks={ draftV c w.do_ w.time with object:=x }:=by
  simp only [draftGV,tgtG,objG,objK,txtG,g7,hp,hxD,hg0,Int.toNat_natCast,n2,n3,n4,n5,n6,n13,n14,n12,hP,Bool.or_true,Bool.true_or,Bool.or_false,Bool.false_or,Bool.and_true,Bool.and_false,Bool.true_and,Bool.false_and,cond_true,cond_false,Int.toNat_natCast]
  rfl
 rw [e]
 have hpo:=bj w.do_
 rw [hP] at hpo
 have hdr:=bF c w.do_ w.time
 generalize hD:draftV c w.do_ w.time=D at *
 repeat' (first|(refine ag (hc:=hdr) ?_)|(refine ag (hc:=hpo) ?_)|(refine ag (hc:=hpk) ?_)|refine gs ?_|refine gs1 fun _=>?_|(refine aA (q:=p) ?_)|(refine bE (q:=p) (u:=.string x) (hF:=fun w h=>h.1.at_ hx) ?_)|(refine aZ ({ D with object:=x }:Xc).cells (h:=?_))|(refine gp ?_ ?_<;>intro hx_ this)|fail)
 all_goals first
  | exact ae (aI rfl rfl aC (by rfl)) rfl
set_option maxRecDepth 20000 in
theorem xt (hk:w.do_=6) (h0:ks.length=0):Pu Tryz.prog 39 #[c.v,w.v,s.v] (fun w=>Strs w s ks∧Xg w) (draftGV c w ks).v:=by
 have g7:decide (7≤w.do_)=false:=decide_eq_false ac
 have n2:decide (w.do_=2)=false:=decide_eq_false ac
 have n3:decide (w.do_=3)=false:=decide_eq_false ac
 have n4:decide (w.do_=4)=false:=decide_eq_false ac
 have n5:decide (w.do_=5)=false:=decide_eq_false ac
 have n6:decide (w.do_=6)=true:=decide_eq_true ac
 have n13:decide (w.do_=13)=false:=decide_eq_false ac
 have n14:decide (w.do_=14)=false:=decide_eq_false ac
 have n12:decide (w.do_=12)=false:=decide_eq_false ac
 have n1:decide (w.do_=1)=false:=decide_eq_false ac
 have hP:postK w.do_=false:=by rw [postK];simp only [n1,n2,n3];rfl
 refine aq Tryz.func39 Tryz.ntmps39 fun av bor w0=>?_
 refine aD (p:=s.n=ks.length∧s.n≤maxLen∧(0<ks.length→s.p.isSome=true)) (fun w h=>⟨h.1.len_,Nat.le_trans (Xe.cap h.1) (Xe.max h.1),h.1.some_⟩) fun ⟨hl,hm,hsp⟩=>?_
 simp only [maxLen] at hm
 have hgt:decide ((0:Int)<(s.n:Int))=false:=decide_eq_false ac
 have hg0:decide (0<ks.length)=false:=decide_eq_false ac
 have e:draftGV c w ks=draftV c w.do_ w.time:=by
  simp only [draftGV,tgtG,objG,objK,txtG,g7,hg0,n2,n3,n4,n5,n6,n13,n14,n12,hP,Bool.or_true,Bool.true_or,Bool.or_false,Bool.false_or,Bool.and_true,Bool.and_false,Bool.true_and,Bool.false_and,cond_true,cond_false,Int.toNat_natCast]
  rfl
 rw [e]
 have hpo:=bj w.do_
 rw [hP] at hpo
 have hdr:=bF c w.do_ w.time
 generalize hD:draftV c w.do_ w.time=D at *
 repeat' (first|(refine ag (hc:=hdr) ?_)|(refine ag (hc:=hpo) ?_)|refine gs ?_|refine gs1 fun _=>?_|(refine gp ?_ ?_<;>intro hx_ this)|fail)
 all_goals first
  | exact ae (aI rfl rfl aC (by rfl)) rfl
set_option maxRecDepth 20000 in
theorem un (hk:w.do_=6) (h0:0<ks.length):Pu Tryz.prog 39 #[c.v,w.v,s.v] (fun w=>Strs w s ks∧Xg w) (draftGV c w ks).v:=by
 have g7:decide (7≤w.do_)=false:=decide_eq_false ac
 have n2:decide (w.do_=2)=false:=decide_eq_false ac
 have n3:decide (w.do_=3)=false:=decide_eq_false ac
 have n4:decide (w.do_=4)=false:=decide_eq_false ac
 have n5:decide (w.do_=5)=false:=decide_eq_false ac
 have n6:decide (w.do_=6)=true:=decide_eq_true ac
 have n13:decide (w.do_=13)=false:=decide_eq_false ac
 have n14:decide (w.do_=14)=false:=decide_eq_false ac
 have n12:decide (w.do_=12)=false:=decide_eq_false ac
 have n1:decide (w.do_=1)=false:=decide_eq_false ac
 have hP:postK w.do_=false:=by rw [postK];simp only [n1,n2,n3];rfl
 refine aq Tryz.func39 Tryz.ntmps39 fun av bor w0=>?_
 refine aD (p:=s.n=ks.length∧s.n≤maxLen∧(0<ks.length→s.p.isSome=true)) (fun w h=>⟨h.1.len_,Nat.le_trans (Xe.cap h.1) (Xe.max h.1),h.1.some_⟩) fun ⟨hl,hm,hsp⟩=>?_
 simp only [maxLen] at hm
 have hsp':=hsp h0
 obtain ⟨p,hpl,hp⟩:=aK w.what ks.length h0
 obtain ⟨x,hx⟩:∃ x,ks[p]?=some x:=⟨_,List.getElem?_eq_getElem hpl⟩
 have hpk:=aV w.what s.n ac ac
 rw [show pickV w.what (s.n:Nat)=(p:Int) from by rw [hl];exact hp] at hpk
 have hgt:decide ((0:Int)<(s.n:Int))=true:=decide_eq_true ac
 have hxD:ks.getD p .empty=x:=by rw [List.getD_eq_getElem?_getD,hx];rfl
 have hg0:decide (0<ks.length)=true:=decide_eq_true h0
 have e:draftGV c w ks={ draftV c w.do_ w.time with object:=x }:=by
  simp only [draftGV,tgtG,objG,objK,txtG,g7,hp,hxD,hg0,Int.toNat_natCast,n2,n3,n4,n5,n6,n13,n14,n12,hP,Bool.or_true,Bool.true_or,Bool.or_false,Bool.false_or,Bool.and_true,Bool.and_false,Bool.true_and,Bool.false_and,cond_true,cond_false,Int.toNat_natCast]
  rfl
 rw [e]
 have hpo:=bj w.do_
 rw [hP] at hpo
 have hdr:=bF c w.do_ w.time
 generalize hD:draftV c w.do_ w.time=D at *
 repeat' (first|(refine ag (hc:=hdr) ?_)|(refine ag (hc:=hpo) ?_)|(refine ag (hc:=hpk) ?_)|refine gs ?_|refine gs1 fun _=>?_|(refine aA (q:=p) ?_)|(refine bE (q:=p) (u:=.string x) (hF:=fun w h=>h.1.at_ hx) ?_)|(refine aZ ({ D with object:=x }:Xc).cells (h:=?_))|(refine gp ?_ ?_<;>intro hx_ this)|fail)
 all_goals first
  | exact ae (aI rfl rfl aC (by rfl)) rfl
set_option maxRecDepth 20000 in
theorem uu (hk:w.do_=13) (h0:ks.length=0):Pu Tryz.prog 39 #[c.v,w.v,s.v] (fun w=>Strs w s ks∧Xg w) (draftGV c w ks).v:=by
 have g7:decide (7≤w.do_)=true:=decide_eq_true ac
 have g11:decide (w.do_≤11)=false:=decide_eq_false ac
 have n2:decide (w.do_=2)=false:=decide_eq_false ac
 have n3:decide (w.do_=3)=false:=decide_eq_false ac
 have n4:decide (w.do_=4)=false:=decide_eq_false ac
 have n5:decide (w.do_=5)=false:=decide_eq_false ac
 have n6:decide (w.do_=6)=false:=decide_eq_false ac
 have n13:decide (w.do_=13)=true:=decide_eq_true ac
 have n14:decide (w.do_=14)=false:=decide_eq_false ac
 have n12:decide (w.do_=12)=false:=decide_eq_false ac
 have n1:decide (w.do_=1)=false:=decide_eq_false ac
 have hP:postK w.do_=false:=by rw [postK];simp only [n1,n2,n3];rfl
 refine aq Tryz.func39 Tryz.ntmps39 fun av bor w0=>?_
 refine aD (p:=s.n=ks.length∧s.n≤maxLen∧(0<ks.length→s.p.isSome=true)) (fun w h=>⟨h.1.len_,Nat.le_trans (Xe.cap h.1) (Xe.max h.1),h.1.some_⟩) fun ⟨hl,hm,hsp⟩=>?_
 simp only [maxLen] at hm
 have hgt:decide ((0:Int)<(s.n:Int))=false:=decide_eq_false ac
 have hg0:decide (0<ks.length)=false:=decide_eq_false ac
 have e:draftGV c w ks=draftV c w.do_ w.time:=by
  simp only [draftGV,tgtG,objG,objK,txtG,g7,g11,hg0,n2,n3,n4,n5,n6,n13,n14,n12,hP,Bool.or_true,Bool.true_or,Bool.or_false,Bool.false_or,Bool.and_true,Bool.and_false,Bool.true_and,Bool.false_and,cond_true,cond_false,Int.toNat_natCast]
  rfl
 rw [e]
 have hpo:=bj w.do_
 rw [hP] at hpo
 have hdr:=bF c w.do_ w.time
 generalize hD:draftV c w.do_ w.time=D at *
 repeat' (first|(refine ag (hc:=hdr) ?_)|(refine ag (hc:=hpo) ?_)|refine gs ?_|refine gs1 fun _=>?_|(refine gp ?_ ?_<;>intro hx_ this)|fail)
 all_goals first
  | exact ae (aI rfl rfl aC (by rfl)) rfl
set_option maxRecDepth 20000 in
theorem qN (hk:w.do_=13) (h0:0<ks.length):Pu Tryz.prog 39 #[c.v,w.v,s.v] (fun w=>Strs w s ks∧Xg w) (draftGV c w ks).v:=by
 have g7:decide (7≤w.do_)=true:=decide_eq_true ac
 have g11:decide (w.do_≤11)=false:=decide_eq_false ac
 have n2:decide (w.do_=2)=false:=decide_eq_false ac
 have n3:decide (w.do_=3)=false:=decide_eq_false ac
 have n4:decide (w.do_=4)=false:=decide_eq_false ac
 have n5:decide (w.do_=5)=false:=decide_eq_false ac
 have n6:decide (w.do_=6)=false:=decide_eq_false ac
 have n13:decide (w.do_=13)=true:=decide_eq_true ac
 have n14:decide (w.do_=14)=false:=decide_eq_false ac
 have n12:decide (w.do_=12)=false:=decide_eq_false ac
 have n1:decide (w.do_=1)=false:=decide_eq_false ac
 have hP:postK w.do_=false:=by rw [postK];simp only [n1,n2,n3];rfl
 refine aq Tryz.func39 Tryz.ntmps39 fun av bor w0=>?_
 refine aD (p:=s.n=ks.length∧s.n≤maxLen∧(0<ks.length→s.p.isSome=true)) (fun w h=>⟨h.1.len_,Nat.le_trans (Xe.cap h.1) (Xe.max h.1),h.1.some_⟩) fun ⟨hl,hm,hsp⟩=>?_
 simp only [maxLen] at hm
 have hsp':=hsp h0
 obtain ⟨p,hpl,hp⟩:=aK w.what ks.length h0
 obtain ⟨x,hx⟩:∃ x,ks[p]?=some x:=⟨_,List.getElem?_eq_getElem hpl⟩
 have hpk:=aV w.what s.n ac ac
 rw [show pickV w.what (s.n:Nat)=(p:Int) from by rw [hl];exact hp] at hpk
 have hgt:decide ((0:Int)<(s.n:Int))=true:=decide_eq_true ac
 have hxD:ks.getD p .empty=x:=by rw [List.getD_eq_getElem?_getD,hx];rfl
 have hg0:decide (0<ks.length)=true:=decide_eq_true h0
 have e:draftGV c w ks={ draftV c w.do_ w.time with object:=x }:=by
  simp only [draftGV,tgtG,objG,objK,txtG,g7,g11,hp,hxD,hg0,Int.toNat_natCast,n2,n3,n4,n5,n6,n13,n14,n12,hP,Bool.or_true,Bool.true_or,Bool.or_false,Bool.false_or,Bool.and_true,Bool.and_false,Bool.true_and,Bool.false_and,cond_true,cond_false,Int.toNat_natCast]
  rfl
 rw [e]
 have hpo:=bj w.do_
 rw [hP] at hpo
 have hdr:=bF c w.do_ w.time
 generalize hD:draftV c w.do_ w.time=D at *
 repeat' (first|(refine ag (hc:=hdr) ?_)|(refine ag (hc:=hpo) ?_)|(refine ag (hc:=hpk) ?_)|refine gs ?_|refine gs1 fun _=>?_|(refine aA (q:=p) ?_)|(refine bE (q:=p) (u:=.string x) (hF:=fun w h=>h.1.at_ hx) ?_)|(refine aZ ({ D with object:=x }:Xc).cells (h:=?_))|(refine gp ?_ ?_<;>intro hx_ this)|fail)
 all_goals first
  | exact ae (aI rfl rfl aC (by rfl)) rfl
set_option maxRecDepth 20000 in
theorem ut (hk:w.do_=14) (h0:ks.length=0):Pu Tryz.prog 39 #[c.v,w.v,s.v] (fun w=>Strs w s ks∧Xg w) (draftGV c w ks).v:=by
 have g7:decide (7≤w.do_)=true:=decide_eq_true ac
 have g11:decide (w.do_≤11)=false:=decide_eq_false ac
 have n2:decide (w.do_=2)=false:=decide_eq_false ac
 have n3:decide (w.do_=3)=false:=decide_eq_false ac
 have n4:decide (w.do_=4)=false:=decide_eq_false ac
 have n5:decide (w.do_=5)=false:=decide_eq_false ac
 have n6:decide (w.do_=6)=false:=decide_eq_false ac
 have n13:decide (w.do_=13)=false:=decide_eq_false ac
 have n14:decide (w.do_=14)=true:=decide_eq_true ac
 have n12:decide (w.do_=12)=false:=decide_eq_false ac
 have n1:decide (w.do_=1)=false:=decide_eq_false ac
 have hP:postK w.do_=false:=by rw [postK];simp only [n1,n2,n3];rfl
 refine aq Tryz.func39 Tryz.ntmps39 fun av bor w0=>?_
 refine aD (p:=s.n=ks.length∧s.n≤maxLen∧(0<ks.length→s.p.isSome=true)) (fun w h=>⟨h.1.len_,Nat.le_trans (Xe.cap h.1) (Xe.max h.1),h.1.some_⟩) fun ⟨hl,hm,hsp⟩=>?_
 simp only [maxLen] at hm
 have hgt:decide ((0:Int)<(s.n:Int))=false:=decide_eq_false ac
 have hg0:decide (0<ks.length)=false:=decide_eq_false ac
 have e:draftGV c w ks={ draftV c w.do_ w.time with text:=w.text }:=by
  simp only [draftGV,tgtG,objG,objK,txtG,g7,g11,hg0,n2,n3,n4,n5,n6,n13,n14,n12,hP,Bool.or_true,Bool.true_or,Bool.or_false,Bool.false_or,Bool.and_true,Bool.and_false,Bool.true_and,Bool.false_and,cond_true,cond_false,Int.toNat_natCast]
  rfl
 rw [e]
 have hpo:=bj w.do_
 rw [hP] at hpo
 have hdr:=bF c w.do_ w.time
 generalize hD:draftV c w.do_ w.time=D at *
 repeat' (first|(refine ag (hc:=hdr) ?_)|(refine ag (hc:=hpo) ?_)|refine gs ?_|refine gs1 fun _=>?_|(refine aZ ({ D with text:=w.text }:Xc).cells (h:=?_))|(refine gp ?_ ?_<;>intro hx_ this)|fail)
 all_goals first
  | exact ae (aI rfl rfl aC (by rfl)) rfl
set_option maxRecDepth 20000 in
theorem qM (hk:w.do_=14) (h0:0<ks.length):Pu Tryz.prog 39 #[c.v,w.v,s.v] (fun w=>Strs w s ks∧Xg w) (draftGV c w ks).v:=by
 have g7:decide (7≤w.do_)=true:=decide_eq_true ac
 have g11:decide (w.do_≤11)=false:=decide_eq_false ac
 have n2:decide (w.do_=2)=false:=decide_eq_false ac
 have n3:decide (w.do_=3)=false:=decide_eq_false ac
 have n4:decide (w.do_=4)=false:=decide_eq_false ac
 have n5:decide (w.do_=5)=false:=decide_eq_false ac
 have n6:decide (w.do_=6)=false:=decide_eq_false ac
 have n13:decide (w.do_=13)=false:=decide_eq_false ac
 have n14:decide (w.do_=14)=true:=decide_eq_true ac
 have n12:decide (w.do_=12)=false:=decide_eq_false ac
 have n1:decide (w.do_=1)=false:=decide_eq_false ac
 have hP:postK w.do_=false:=by rw [postK];simp only [n1,n2,n3];rfl
 refine aq Tryz.func39 Tryz.ntmps39 fun av bor w0=>?_
 refine aD (p:=s.n=ks.length∧s.n≤maxLen∧(0<ks.length→s.p.isSome=true)) (fun w h=>⟨h.1.len_,Nat.le_trans (Xe.cap h.1) (Xe.max h.1),h.1.some_⟩) fun ⟨hl,hm,hsp⟩=>?_
 simp only [maxLen] at hm
 have hsp':=hsp h0
 obtain ⟨p,hpl,hp⟩:=aK w.what ks.length h0
 obtain ⟨x,hx⟩:∃ x,ks[p]?=some x:=⟨_,List.getElem?_eq_getElem hpl⟩
 have hpk:=aV w.what s.n ac ac
 rw [show pickV w.what (s.n:Nat)=(p:Int) from by rw [hl];exact hp] at hpk
 have hgt:decide ((0:Int)<(s.n:Int))=true:=decide_eq_true ac
 have hxD:ks.getD p .empty=x:=by rw [List.getD_eq_getElem?_getD,hx];rfl
 have hg0:decide (0<ks.length)=true:=decide_eq_true h0
 have e:draftGV c w ks={ draftV c w.do_ w.time with object:=x,text:=w.text }:=by
  simp only [draftGV,tgtG,objG,objK,txtG,g7,g11,hp,hxD,hg0,Int.toNat_natCast,n2,n3,n4,n5,n6,n13,n14,n12,hP,Bool.or_true,Bool.true_or,Bool.or_false,Bool.false_or,Bool.and_true,Bool.and_false,Bool.true_and,Bool.false_and,cond_true,cond_false,Int.toNat_natCast]
  rfl
 rw [e]
 have hpo:=bj w.do_
 rw [hP] at hpo
 have hdr:=bF c w.do_ w.time
 generalize hD:draftV c w.do_ w.time=D at *
 repeat' (first|(refine ag (hc:=hdr) ?_)|(refine ag (hc:=hpo) ?_)|(refine ag (hc:=hpk) ?_)|refine gs ?_|refine gs1 fun _=>?_|(refine aA (q:=p) ?_)|(refine bE (q:=p) (u:=.string x) (hF:=fun w h=>h.1.at_ hx) ?_)|(refine aZ ({ D with object:=x }:Xc).cells (h:=?_))|(refine aZ ({ D with object:=x,text:=w.text }:Xc).cells (h:=?_))|(refine gp ?_ ?_<;>intro hx_ this)|fail)
 all_goals first
  | exact ae (aI rfl rfl aC (by rfl)) rfl
set_option maxRecDepth 20000 in
theorem uv (hk:w.do_=12) (h0:ks.length=0):Pu Tryz.prog 39 #[c.v,w.v,s.v] (fun w=>Strs w s ks∧Xg w) (draftGV c w ks).v:=by
 have g7:decide (7≤w.do_)=true:=decide_eq_true ac
 have g11:decide (w.do_≤11)=false:=decide_eq_false ac
 have n2:decide (w.do_=2)=false:=decide_eq_false ac
 have n3:decide (w.do_=3)=false:=decide_eq_false ac
 have n4:decide (w.do_=4)=false:=decide_eq_false ac
 have n5:decide (w.do_=5)=false:=decide_eq_false ac
 have n6:decide (w.do_=6)=false:=decide_eq_false ac
 have n13:decide (w.do_=13)=false:=decide_eq_false ac
 have n14:decide (w.do_=14)=false:=decide_eq_false ac
 have n12:decide (w.do_=12)=true:=decide_eq_true ac
 have n1:decide (w.do_=1)=false:=decide_eq_false ac
 have hP:postK w.do_=false:=by rw [postK];simp only [n1,n2,n3];rfl
 refine aq Tryz.func39 Tryz.ntmps39 fun av bor w0=>?_
 refine aD (p:=s.n=ks.length∧s.n≤maxLen∧(0<ks.length→s.p.isSome=true)) (fun w h=>⟨h.1.len_,Nat.le_trans (Xe.cap h.1) (Xe.max h.1),h.1.some_⟩) fun ⟨hl,hm,hsp⟩=>?_
 simp only [maxLen] at hm
 have hgt:decide ((0:Int)<(s.n:Int))=false:=decide_eq_false ac
 have hg0:decide (0<ks.length)=false:=decide_eq_false ac
 have e:draftGV c w ks={ draftV c w.do_ w.time with text:=w.text }:=by
  simp only [draftGV,tgtG,objG,objK,txtG,g7,g11,hg0,n2,n3,n4,n5,n6,n13,n14,n12,hP,Bool.or_true,Bool.true_or,Bool.or_false,Bool.false_or,Bool.and_true,Bool.and_false,Bool.true_and,Bool.false_and,cond_true,cond_false,Int.toNat_natCast]
  rfl
 rw [e]
 have hpo:=bj w.do_
 rw [hP] at hpo
 have hdr:=bF c w.do_ w.time
 generalize hD:draftV c w.do_ w.time=D at *
 repeat' (first|(refine ag (hc:=hdr) ?_)|(refine ag (hc:=hpo) ?_)|refine gs ?_|refine gs1 fun _=>?_|(refine aZ ({ D with text:=w.text }:Xc).cells (h:=?_))|(refine gp ?_ ?_<;>intro hx_ this)|fail)
 all_goals first
  | exact ae (aI rfl rfl aC (by rfl)) rfl
set_option maxRecDepth 20000 in
theorem qO (hk:w.do_=12) (h0:0<ks.length):Pu Tryz.prog 39 #[c.v,w.v,s.v] (fun w=>Strs w s ks∧Xg w) (draftGV c w ks).v:=by
 have g7:decide (7≤w.do_)=true:=decide_eq_true ac
 have g11:decide (w.do_≤11)=false:=decide_eq_false ac
 have n2:decide (w.do_=2)=false:=decide_eq_false ac
 have n3:decide (w.do_=3)=false:=decide_eq_false ac
 have n4:decide (w.do_=4)=false:=decide_eq_false ac
 have n5:decide (w.do_=5)=false:=decide_eq_false ac
 have n6:decide (w.do_=6)=false:=decide_eq_false ac
 have n13:decide (w.do_=13)=false:=decide_eq_false ac
 have n14:decide (w.do_=14)=false:=decide_eq_false ac
 have n12:decide (w.do_=12)=true:=decide_eq_true ac
 have n1:decide (w.do_=1)=false:=decide_eq_false ac
 have hP:postK w.do_=false:=by rw [postK];simp only [n1,n2,n3];rfl
 refine aq Tryz.func39 Tryz.ntmps39 fun av bor w0=>?_
 refine aD (p:=s.n=ks.length∧s.n≤maxLen∧(0<ks.length→s.p.isSome=true)) (fun w h=>⟨h.1.len_,Nat.le_trans (Xe.cap h.1) (Xe.max h.1),h.1.some_⟩) fun ⟨hl,hm,hsp⟩=>?_
 simp only [maxLen] at hm
 have hsp':=hsp h0
 obtain ⟨p,hpl,hp⟩:=aK w.what ks.length h0
 obtain ⟨x,hx⟩:∃ x,ks[p]?=some x:=⟨_,List.getElem?_eq_getElem hpl⟩
 have hpk:=aV w.what s.n ac ac
 rw [show pickV w.what (s.n:Nat)=(p:Int) from by rw [hl];exact hp] at hpk
 have hgt:decide ((0:Int)<(s.n:Int))=true:=decide_eq_true ac
 have hxD:ks.getD p .empty=x:=by rw [List.getD_eq_getElem?_getD,hx];rfl
 have hg0:decide (0<ks.length)=true:=decide_eq_true h0
 have e:draftGV c w ks={ draftV c w.do_ w.time with object:=x,text:=w.text }:=by
  simp only [draftGV,tgtG,objG,objK,txtG,g7,g11,hp,hxD,hg0,Int.toNat_natCast,n2,n3,n4,n5,n6,n13,n14,n12,hP,Bool.or_true,Bool.true_or,Bool.or_false,Bool.false_or,Bool.and_true,Bool.and_false,Bool.true_and,Bool.false_and,cond_true,cond_false,Int.toNat_natCast]
  rfl
 rw [e]
 have hpo:=bj w.do_
 rw [hP] at hpo
 have hdr:=bF c w.do_ w.time
 generalize hD:draftV c w.do_ w.time=D at *
 repeat' (first|(refine ag (hc:=hdr) ?_)|(refine ag (hc:=hpo) ?_)|(refine ag (hc:=hpk) ?_)|refine gs ?_|refine gs1 fun _=>?_|(refine aA (q:=p) ?_)|(refine bE (q:=p) (u:=.string x) (hF:=fun w h=>h.1.at_ hx) ?_)|(refine aZ ({ D with object:=x }:Xc).cells (h:=?_))|(refine aZ ({ D with object:=x,text:=w.text }:Xc).cells (h:=?_))|(refine gp ?_ ?_<;>intro hx_ this)|fail)
 all_goals first
  | exact ae (aI rfl rfl aC (by rfl)) rfl
set_option maxRecDepth 20000 in
theorem xy (hk:w.do_=1):Pu Tryz.prog 39 #[c.v,w.v,s.v] (fun w=>Strs w s ks∧Xg w) (draftGV c w ks).v:=by
 have g7:decide (7≤w.do_)=false:=decide_eq_false ac
 have n2:decide (w.do_=2)=false:=decide_eq_false ac
 have n3:decide (w.do_=3)=false:=decide_eq_false ac
 have n4:decide (w.do_=4)=false:=decide_eq_false ac
 have n5:decide (w.do_=5)=false:=decide_eq_false ac
 have n6:decide (w.do_=6)=false:=decide_eq_false ac
 have n13:decide (w.do_=13)=false:=decide_eq_false ac
 have n14:decide (w.do_=14)=false:=decide_eq_false ac
 have n12:decide (w.do_=12)=false:=decide_eq_false ac
 have n1:decide (w.do_=1)=true:=decide_eq_true ac
 have hP:postK w.do_=true:=by rw [postK];simp only [n1,n2,n3];rfl
 refine aq Tryz.func39 Tryz.ntmps39 fun av bor w0=>?_
 refine aD (p:=s.n=ks.length∧s.n≤maxLen∧(0<ks.length→s.p.isSome=true)) (fun w h=>⟨h.1.len_,Nat.le_trans (Xe.cap h.1) (Xe.max h.1),h.1.some_⟩) fun ⟨hl,hm,hsp⟩=>?_
 simp only [maxLen] at hm
 have e:draftGV c w ks={ draftV c w.do_ w.time with text:=w.text }:=by
  simp only [draftGV,tgtG,objG,objK,txtG,g7,n2,n3,n4,n5,n6,n13,n14,n12,hP,Bool.or_true,Bool.true_or,Bool.or_false,Bool.false_or,Bool.and_true,Bool.and_false,Bool.true_and,Bool.false_and,cond_true,cond_false,Int.toNat_natCast]
  rfl
 rw [e]
 have hpo:=bj w.do_
 rw [hP] at hpo
 have hdr:=bF c w.do_ w.time
 generalize hD:draftV c w.do_ w.time=D at *
 repeat' (first|(refine ag (hc:=hdr) ?_)|(refine ag (hc:=hpo) ?_)|refine gs ?_|refine gs1 fun _=>?_|(refine aZ ({ D with text:=w.text }:Xc).cells (h:=?_))|(refine gp ?_ ?_<;>intro hx_ this)|fail)
 all_goals first
  | exact ae (aI rfl rfl aC (by rfl)) rfl
set_option maxRecDepth 20000 in
theorem uj (hk:w.do_<1):Pu Tryz.prog 39 #[c.v,w.v,s.v] (fun w=>Strs w s ks∧Xg w) (draftGV c w ks).v:=by
 have g7:decide (7≤w.do_)=false:=decide_eq_false ac
 have n2:decide (w.do_=2)=false:=decide_eq_false ac
 have n3:decide (w.do_=3)=false:=decide_eq_false ac
 have n4:decide (w.do_=4)=false:=decide_eq_false ac
 have n5:decide (w.do_=5)=false:=decide_eq_false ac
 have n6:decide (w.do_=6)=false:=decide_eq_false ac
 have n13:decide (w.do_=13)=false:=decide_eq_false ac
 have n14:decide (w.do_=14)=false:=decide_eq_false ac
 have n12:decide (w.do_=12)=false:=decide_eq_false ac
 have n1:decide (w.do_=1)=false:=decide_eq_false ac
 have hP:postK w.do_=false:=by rw [postK];simp only [n1,n2,n3];rfl
 refine aq Tryz.func39 Tryz.ntmps39 fun av bor w0=>?_
 refine aD (p:=s.n=ks.length∧s.n≤maxLen∧(0<ks.length→s.p.isSome=true)) (fun w h=>⟨h.1.len_,Nat.le_trans (Xe.cap h.1) (Xe.max h.1),h.1.some_⟩) fun ⟨hl,hm,hsp⟩=>?_
 simp only [maxLen] at hm
 have e:draftGV c w ks=draftV c w.do_ w.time:=by
  simp only [draftGV,tgtG,objG,objK,txtG,g7,n2,n3,n4,n5,n6,n13,n14,n12,hP,Bool.or_true,Bool.true_or,Bool.or_false,Bool.false_or,Bool.and_true,Bool.and_false,Bool.true_and,Bool.false_and,cond_true,cond_false,Int.toNat_natCast]
  rfl
 rw [e]
 have hpo:=bj w.do_
 rw [hP] at hpo
 have hdr:=bF c w.do_ w.time
 generalize hD:draftV c w.do_ w.time=D at *
 repeat' (first|(refine ag (hc:=hdr) ?_)|(refine ag (hc:=hpo) ?_)|refine gs ?_|refine gs1 fun _=>?_|(refine gp ?_ ?_<;>intro hx_ this)|fail)
 all_goals first
  | exact ae (aI rfl rfl aC (by rfl)) rfl
set_option maxRecDepth 20000 in
theorem ul (hk:14<w.do_):Pu Tryz.prog 39 #[c.v,w.v,s.v] (fun w=>Strs w s ks∧Xg w) (draftGV c w ks).v:=by
 have g7:decide (7≤w.do_)=true:=decide_eq_true ac
 have g11:decide (w.do_≤11)=false:=decide_eq_false ac
 have n2:decide (w.do_=2)=false:=decide_eq_false ac
 have n3:decide (w.do_=3)=false:=decide_eq_false ac
 have n4:decide (w.do_=4)=false:=decide_eq_false ac
 have n5:decide (w.do_=5)=false:=decide_eq_false ac
 have n6:decide (w.do_=6)=false:=decide_eq_false ac
 have n13:decide (w.do_=13)=false:=decide_eq_false ac
 have n14:decide (w.do_=14)=false:=decide_eq_false ac
 have n12:decide (w.do_=12)=false:=decide_eq_false ac
 have n1:decide (w.do_=1)=false:=decide_eq_false ac
 have hP:postK w.do_=false:=by rw [postK];simp only [n1,n2,n3];rfl
 refine aq Tryz.func39 Tryz.ntmps39 fun av bor w0=>?_
 refine aD (p:=s.n=ks.length∧s.n≤maxLen∧(0<ks.length→s.p.isSome=true)) (fun w h=>⟨h.1.len_,Nat.le_trans (Xe.cap h.1) (Xe.max h.1),h.1.some_⟩) fun ⟨hl,hm,hsp⟩=>?_
 simp only [maxLen] at hm
 have e:draftGV c w ks=draftV c w.do_ w.time:=by
  simp only [draftGV,tgtG,objG,objK,txtG,g7,g11,n2,n3,n4,n5,n6,n13,n14,n12,hP,Bool.or_true,Bool.true_or,Bool.or_false,Bool.false_or,Bool.and_true,Bool.and_false,Bool.true_and,Bool.false_and,cond_true,cond_false,Int.toNat_natCast]
  rfl
 rw [e]
 have hpo:=bj w.do_
 rw [hP] at hpo
 have hdr:=bF c w.do_ w.time
 generalize hD:draftV c w.do_ w.time=D at *
 repeat' (first|(refine ag (hc:=hdr) ?_)|(refine ag (hc:=hpo) ?_)|refine gs ?_|refine gs1 fun _=>?_|(refine gp ?_ ?_<;>intro hx_ this)|fail)
 all_goals first
  | exact ae (aI rfl rfl aC (by rfl)) rfl
end
theorem ui (c:Xa) (w:Xo) (s:Xi) (ks:List ByteArray):Pu Tryz.prog 39 #[c.v,w.v,s.v] (fun w=>Strs w s ks∧Xg w) (draftGV c w ks).v:=by
 by_cases hi:7≤w.do_∧w.do_≤11
 · exact uk c w s ks hi
 by_cases h1:w.do_=1
 · exact xy c w s ks h1
 by_cases h2:w.do_=2
 · by_cases h0:0<ks.length
   · exact ur c w s ks h2 h0
   · exact xx c w s ks h2 ac
 by_cases h3:w.do_=3
 · by_cases h0:0<ks.length
   · exact uq c w s ks h3 h0
   · exact xw c w s ks h3 ac
 by_cases h4:w.do_=4
 · by_cases h0:0<ks.length
   · exact up c w s ks h4 h0
   · exact xv c w s ks h4 ac
 by_cases h5:w.do_=5
 · by_cases h0:0<ks.length
   · exact uo c w s ks h5 h0
   · exact xu c w s ks h5 ac
 by_cases h6:w.do_=6
 · by_cases h0:0<ks.length
   · exact un c w s ks h6 h0
   · exact xt c w s ks h6 ac
 by_cases h13:w.do_=13
 · by_cases h0:0<ks.length
   · exact qN c w s ks h13 h0
   · exact uu c w s ks h13 ac
 by_cases h14:w.do_=14
 · by_cases h0:0<ks.length
   · exact qM c w s ks h14 h0
   · exact ut c w s ks h14 ac
 by_cases h12:w.do_=12
 · by_cases h0:0<ks.length
   · exact qO c w s ks h12 h0
   · exact uv c w s ks h12 ac
 by_cases hlo:w.do_<1
 · exact uj c w s ks hlo
 · exact ul c w s ks ac
end Go.Proofs.YtgffbiobmamobaaGreatDoor
