/- Joined by program out of: Uh Ui Uj Uk Ul Um Un Uo. -/
import Derived.Test.YtfnjklhjngphmaaGreatDoorQ6
set_option linter.unusedVariables false
set_option linter.unusedSimpArgs false
namespace Go.Proofs.YtfnjklhjngphmaaGreatDoor
open Go Go.Proofs Sy
structure ActD.Str (a:ActD):Prop where
 author:a.author.size≤maxLen
 target:a.target.size≤maxLen
 group:a.group.size≤maxLen
 text:a.text.size≤maxLen
 to:∀ x∈a.toL,x.size≤maxLen
def badIdsR (l:List ByteArray) (k:Nat):Bool:=!isId (l.getD k .empty)||decide (0<(k:Int))&&!Op.bytesLess (l.getD (k-1) .empty).toList (l.getD k .empty).toList
theorem Ab (a b:ByteArray):(Op.bytesLess a.toList b.toList||seqB a b)=!Op.bytesLess b.toList a.toList:=by
 show (ltB a b||seqB a b)=!ltB b a
 cases h:ltB a b with
 | true=>rw [m0 h];rfl
 | false =>
  cases k:ltB b a with
  | true =>
   have:a≠b:=fun e=>yo k e.symm
   rw [seqB_ne.2 this]
   rfl
  | false =>
   rw [mZ h k,cG]
   rfl
theorem yv (l:List ByteArray):isIds l=(allB l.length (badIdsR l)&&decide ((l.length:Int)≤64)):=by
 rw [isIds,Bool.and_comm]
 congr 1
 · refine congrArg (allB l.length) (funext fun k=>?_)
   rw [badIds,badIdsR,Ab]
 · rw [←decide_not]
   exact decide_eq_decide.2 ag
set_option maxHeartbeats 4000000 in
theorem mL (s:SlV) (l:List ByteArray) (hz:∀ x∈l,x.size≤maxLen):Pu Tryz.prog 282 #[s.v] (fun w=>Strs w s l) (.bool (isIds l)):=by
 refine aN (args:=[_]) _ Tryz.func282 rfl Tryz.ntmps282 rfl fun av bor w0=>?_
 refine bt (p:=s.n=l.length∧s.n≤maxLen∧(0<l.length→s.p.isSome=true)) (fun w h=>⟨h.len_,Nat.le_trans (RowsD.cap h) (RowsD.max h),h.some_⟩) fun ⟨hl,hm,hp⟩=>?_
 simp only [maxLen] at hm
 rw [yv]
 repeat' (first|apply ab|apply aj|apply ai|refine ac ?_|apply aw|fail)
 refine be (ι:=Upto l.length (badIdsR l)) (fun i=>⟨[(0,s.v),(3,.int .i64 (i.k:Nat))],[],fun w=>Strs w s l⟩) (fun i=>l.length-i.k) (Upto.zero _ _) (aF ⟨rfl,rfl,trivial⟩ (aQ _) fun _ h=>h) fun i=>?_
 have hik:=i.hk
 by_cases hlt:i.k<l.length
 · have hp':=hp ag
   have hid:=lu (l.getD i.k .empty) (hz _ (by rw [List.getD_eq_getElem?_getD,List.getElem?_eq_getElem hlt];exact List.getElem_mem hlt))
   repeat' (first|apply ab|apply aj|apply ai|refine ae ?_|refine ac ?_|refine bu ?_|refine cF ?_|refine bg ?_|apply ay|apply aw|apply aA|apply aV|(refine aO (ht:=?_) (hf:=?_);all_goals (intro hx_;first|have:=aY hx_|have:=aZ hx_)))
   · (apply ci;kernel_rfl)
     all_goals refine aa 0 ?_
     all_goals refine aa 1 ?_
     all_goals (refine aa 2 (hy:=by (apply bp (q:=i.k);rfl;rfl;omega;omega;assumption;omega)) ?_)
     all_goals (refine aa 3 (hy:=by (apply cC (q:=i.k);rfl;exact fun w h=>Strs.get h hlt)) ?_)
     all_goals (refine ao 4 ?_;(refine aC (hc:=hid) (hX:=fun _ _=>trivial) ?_);apply ab;refine ak ?_)
     all_goals refine aa 5 ?_
     all_goals refine aa 6 ?_
     all_goals (refine iT 7 (ht:=?_) (hf:=?_);all_goals (intro hx_;skip);all_goals (first|(refine aa 7 ?_)|(refine cV 7 ?_)))
     all_goals (first|(refine aa 8 ?_)|(refine cV 8 ?_))
     all_goals (first|(refine aa 9 ?_)|(refine cV 9 ?_))
     all_goals (first|(refine dV 10 ?_)|(refine iT 10 (ht:=?_) (hf:=?_);all_goals (intro hx_;first|have:=aY hx_|have:=aZ hx_);all_goals (first|(refine aa 10 ?_)|(refine aX 10 ?_))))
     all_goals (first|(refine aa 11 ?_)|(refine aX 11 ?_)|(refine dV 11 ?_))
     all_goals (first|(refine aa 12 ?_)|(refine aX 12 ?_)|(refine dV 12 ?_))
     all_goals (first|(refine aa 13 (hy:=by (apply bp (q:=i.k-1);rfl;rfl;omega;omega;assumption;omega)) ?_)|(refine aX 13 ?_)|(refine dV 13 ?_))
     all_goals (first|(refine aa 14 (hy:=by (apply cC (q:=i.k-1);rfl;exact fun w h=>Strs.get h (by omega:i.k-1<l.length))) ?_)|(refine aX 14 ?_)|(refine dV 14 ?_))
     all_goals (first|(refine aa 15 ?_)|(refine aX 15 ?_)|(refine dV 15 ?_))
     all_goals (first|(refine aa 16 ?_)|(refine aX 16 ?_)|(refine dV 16 ?_))
     all_goals (first|(refine aa 17 (hy:=by (apply bp (q:=i.k);rfl;rfl;omega;omega;assumption;omega)) ?_)|(refine aX 17 ?_)|(refine dV 17 ?_))
     all_goals (first|(refine aa 18 (hy:=by (apply cC (q:=i.k);rfl;exact fun w h=>Strs.get h hlt)) ?_)|(refine aX 18 ?_)|(refine dV 18 ?_))
     all_goals (first|(refine aa 19 (hy:=by (apply BT;rfl;rfl)) ?_)|(refine aX 19 ?_)|(refine dV 19 ?_))
     all_goals (first|(refine aa 20 ?_)|(refine cV 20 ?_))
     all_goals refine aa 21 ?_
     all_goals (refine aI ?_)
     all_goals
      repeat' (first|apply ab|apply aj|apply ai|refine ae ?_|refine ac ?_|refine bm (h:=?_)|refine aE ?_|refine aD ?_|apply ay|apply aA|(refine aO (ht:=?_) (hf:=?_);all_goals (intro hx_;skip)))
      all_goals first
       | (refine aq (aB rfl rfl) ?_;rw [dB hlt (by simp only [badIdsR, *,decide_true,decide_false,cond_true,cond_false,Bool.and_true,Bool.true_and,Bool.and_false,Bool.false_and,Bool.not_true,Bool.not_false,Bool.or_true,Bool.true_or,Bool.or_false,Bool.false_or]),Bool.false_and])
       | exact ⟨i.next hlt (by simp only [badIdsR, *,decide_true,decide_false,cond_true,cond_false,Bool.and_true,Bool.true_and,Bool.and_false,Bool.false_and,Bool.not_true,Bool.not_false,Bool.or_true,Bool.true_or,Bool.or_false,Bool.false_or]),(by show l.length-(i.k+1)<l.length-i.k;omega),aF ⟨rfl,rfl,trivial⟩ (aQ _) fun _ h=>h⟩
   · exfalso;omega
 · rw [i.all hlt,Bool.true_and]
   repeat' (first|apply ab|apply aj|apply ai|refine ae ?_|refine ac ?_|refine bu ?_|refine cF ?_|refine bg ?_|apply ay|apply aw|apply aA|apply aV|(refine aO (ht:=?_) (hf:=?_);all_goals (intro hx_;first|have:=aY hx_|have:=aZ hx_)))
   all_goals first
    | (exfalso;omega)
    | (refine aq (aB rfl rfl) ?_;rw [hl];done)
theorem eL (n:Int):Pu Tryz.prog 316 #[.int .i64 n] (fun _=>True) (.bool (isPublicB n)):=by
 refine aN (args:=[_]) _ Tryz.func316 rfl Tryz.ntmps316 rfl fun av bor w0=>?_
 have e:isPublicB n=(decide (1≤n)&&decide (n<2305843009213693951)):=by
  rw [isPublicB,withinB]
  congr 1
  exact decide_eq_decide.2 ag
 rw [e]
 clear e
 repeat' (first|apply ab|apply aj|apply ai|refine ae ?_|refine ac ?_|refine aJ ?_|refine aH ?_|refine bu ?_|refine cL ?_|refine aW ?_|apply aA|((fail_if_success (refine bA ?_));refine bj (ht:=?_) (hf:=?_);all_goals (intro hx_;first|have:=aY hx_|have:=aZ hx_))|fail)
 (all_goals (apply aq;apply aB;rfl;rfl));all_goals (simp only [decide_eq_true, *,decide_true,decide_false,cond_true,cond_false,Bool.and_true,Bool.true_and,Bool.and_false,Bool.false_and,Bool.not_true,Bool.not_false,Bool.or_true,Bool.true_or,Bool.or_false,Bool.false_or];done)
theorem jG (b:BoxD):Pu Tryz.prog 345 #[b.v] (fun _=>True) (.bool (isSealedB b)):=by
 refine aN (args:=[_]) _ Tryz.func345 rfl Tryz.ntmps345 rfl fun av bor w0=>?_
 repeat' (first|apply ab|apply aj|apply ai|refine ae ?_|refine ac ?_|refine aM ?_|refine aL ?_|refine aJ ?_|refine aH ?_|refine bR ?_|refine cF ?_|refine cr ?_|refine aW ?_|refine aT fun _=>?_|apply aA|((fail_if_success (refine bA ?_));refine bj (ht:=?_) (hf:=?_);all_goals (intro hx_;first|have:=aY hx_|have:=aZ hx_))|fail)
 (all_goals (apply aq;apply aB;rfl;rfl));all_goals (simp only [isSealedB,isShortB, *,decide_true,decide_false,cond_true,cond_false,Bool.and_true,Bool.true_and,Bool.and_false,Bool.false_and,Bool.not_true,Bool.not_false,Bool.or_true,Bool.true_or,Bool.or_false,Bool.false_or];done)
theorem jF (b:BoxD):Pu Tryz.prog 344 #[b.v] (fun _=>True) (.bool (boxEq b BoxD.zero)):=by
 refine aN (args:=[_]) _ Tryz.func344 rfl Tryz.ntmps344 rfl fun av bor w0=>?_
 repeat' (first|apply ab|apply aj|apply ai|refine ae ?_|refine ac ?_|refine aM ?_|refine aL ?_|refine aJ ?_|refine aH ?_|refine co ?_|refine aW ?_|refine aT fun _=>?_|apply aA|((fail_if_success (refine bA ?_));refine bj (ht:=?_) (hf:=?_);all_goals (intro hx_;skip))|fail)
 (all_goals (apply aq;apply aB;rfl;rfl));all_goals (simp only [boxEq,BoxD.zero, *,decide_true,decide_false,cond_true,cond_false,Bool.and_true,Bool.true_and,Bool.and_false,Bool.false_and,Bool.not_true,Bool.not_false,Bool.or_true,Bool.true_or,Bool.or_false,Bool.false_or];done)
def groupR (a:ActD):Bool:=bif decide (a.scope=2) then isName a.group else seqB a.group ⟨#[]⟩
theorem jE (a:ActD) (hs:a.Str):Pu Tryz.prog 320 #[a.v] (fun _=>True) (.bool (groupR a)):=by
 refine aN (args:=[_]) _ Tryz.func320 rfl Tryz.ntmps320 rfl fun av bor w0=>?_
 have hn:=gV a.group hs.group
 repeat' (first|apply ab|apply aj|apply ai|refine ac ?_|refine aM ?_|refine aL ?_|refine bR ?_|refine co ?_|refine aT fun _=>?_|apply ay|apply aA|(refine aC (hc:=hn) (hX:=fun _ _=>trivial) ?_)|(refine aO (ht:=?_) (hf:=?_);all_goals (intro hx_;first|have:=aY hx_|have:=aZ hx_)))
 (all_goals (apply aq;apply aB;rfl;rfl));all_goals (simp only [groupR, *,decide_true,decide_false,cond_true,cond_false,Bool.and_true,Bool.true_and,Bool.and_false,Bool.false_and,Bool.not_true,Bool.not_false,Bool.or_true,Bool.true_or,Bool.or_false,Bool.false_or];done)
def zeroR (a:ActD):Bool:=seqB a.object ⟨#[]⟩&&seqB a.target ⟨#[]⟩&&decide (a.scope=0)&&seqB a.group ⟨#[]⟩&&decide ((a.to.n:Int)=0)&&seqB a.text ⟨#[]⟩&&boxEq a.body BoxD.zero&&decide (a.epoch=0)&&decide ((a.wraps.n:Int)=0)&&decide (a.n=0)&&decide (a.m=0)
theorem bY (a:ActD):Pu Tryz.prog 322 #[a.v] (fun _=>True) (.bool (zeroR a)):=by
 refine aN (args:=[_]) _ Tryz.func322 rfl Tryz.ntmps322 rfl fun av bor w0=>?_
 have hn:=jF a.body
 repeat' (first|apply ab|apply aj|apply ai|refine ae ?_|refine ac ?_|refine aM ?_|refine aL ?_|refine aJ ?_|refine aH ?_|refine bR ?_|refine co ?_|refine bg ?_|refine aW ?_|refine aT fun _=>?_|apply aA|(refine aC (hc:=hn) (hX:=fun _ _=>trivial) ?_)|(refine bZ ?_)|((fail_if_success (refine bA ?_));refine bj (ht:=?_) (hf:=?_);all_goals (intro hx_;first|have:=aY hx_|have:=aZ hx_|skip))|fail)
 (all_goals (apply aq;apply aB;rfl;rfl));all_goals (simp only [zeroR, *,decide_true,decide_false,cond_true,cond_false,Bool.and_true,Bool.true_and,Bool.and_false,Bool.false_and,Bool.not_true,Bool.not_false,Bool.or_true,Bool.true_or,Bool.or_false,Bool.false_or];done)
theorem mi (a:ActD):Pu Tryz.prog 321 #[a.v] (ActD.at_ · a) (.bool (wrappedB a)):=by
 refine aN (args:=[_]) _ Tryz.func321 rfl Tryz.ntmps321 rfl fun av bor w0=>?_
 refine bt (p:=a.wraps.n=a.wrapsL.length∧a.wraps.n≤maxLen∧(0<a.wrapsL.length→a.wraps.p.isSome=true)) (fun w h=>⟨h.2.len_,Nat.le_trans (RowsD.cap h.2) (RowsD.max h.2),h.2.some_⟩) fun ⟨hl,hm,hp⟩=>?_
 simp only [maxLen] at hm
 repeat' (first|apply ab|apply aj|apply ai|refine ac ?_|refine aT fun _=>?_|apply aw|fail)
 rename_i b
 refine be (ι:=Upto a.wrapsL.length (badW a.wrapsL)) (fun i=>⟨[(1,.pointer (some ⟨b,0,none⟩)),(3,.int .i64 i.k)],[cel b 46 a.cells],(ActD.at_ · a)⟩) (fun i=>a.wrapsL.length-i.k) (Upto.zero _ _) (aF ⟨rfl,rfl,trivial⟩ (aQ _) fun _ h=>h) fun i=>?_
 have hik:=i.hk
 repeat' (first|apply ab|apply aj|apply ai|refine ae ?_|refine ac ?_|refine aM ?_|refine aL ?_|refine bR ?_|refine bu ?_|refine bg ?_|apply ay|apply aw|apply aA|apply aV|(refine aO (ht:=?_) (hf:=?_);all_goals (intro hx_;first|have:=aY hx_|have:=aZ hx_)))
 · have hlt:i.k<a.wrapsL.length:=by omega
   have hp':=hp ag
   obtain ⟨x,hx⟩:∃ x,a.wrapsL[i.k]?=some x:=⟨_,List.getElem?_eq_getElem hlt⟩
   have hc1:=eL x.to
   have hc2:=eL x.eph
   have hc3:=jG x.box
   repeat' (first|apply ab|apply aj|apply ai|refine ae ?_|refine ac ?_|refine aM ?_|refine aL ?_|refine aJ ?_|refine aH ?_|refine bE ?_|refine bm (h:=?_)|refine bI ?_|refine aP fun _=>?_|refine aK ?_|refine aE ?_|apply ay|apply aA|(refine aC (hc:=hc1) (hX:=fun _ _=>trivial) ?_)|(refine aC (hc:=hc2) (hX:=fun _ _=>trivial) ?_)|(refine aC (hc:=hc3) (hX:=fun _ _=>trivial) ?_)|(refine bf (q:=i.k*5) ?_)|(refine bD (cs:=x.cells) (hF:=fun w h=>Wraps.get h.2 hx) ?_)|(refine bZ ?_)|((fail_if_success (refine bA ?_));refine bj (ht:=?_) (hf:=?_);all_goals (intro hx_;skip))|(refine aO (ht:=?_) (hf:=?_);all_goals (intro hx_;skip)))
   all_goals first
    | (refine aq (aB rfl rfl) ?_;rw [wrappedB,dB hlt (by simp only [iR hx, *,decide_true,decide_false,cond_true,cond_false,Bool.and_true,Bool.true_and,Bool.and_false,Bool.false_and,Bool.not_true,Bool.not_false,Bool.or_true,Bool.true_or,Bool.or_false,Bool.false_or]),Bool.false_and])
    | exact ⟨i.next hlt (by simp only [iR hx, *,decide_true,decide_false,cond_true,cond_false,Bool.and_true,Bool.true_and,Bool.and_false,Bool.false_and,Bool.not_true,Bool.not_false,Bool.or_true,Bool.true_or,Bool.or_false,Bool.false_or]),(by show a.wrapsL.length-(i.k+1)<a.wrapsL.length-i.k;omega),aF ⟨rfl,rfl,trivial⟩ (List.Sublist.cons _ (aQ _)) fun _ h=>h⟩
 · refine aq (aB rfl rfl) ?_
   rw [wrappedB,i.all ag,Bool.true_and]
def sealR (a:ActD):Bool:=decide (0≤a.epoch)&&decide (a.epoch≤1073741824)&&seqB a.text ⟨#[]⟩&&isSealedB a.body
def audR (a:ActD):Bool:=bif !isIds a.toL then false else bif !groupR a then false else bif decide (a.scope=0) then decide (a.epoch=0)&&decide ((a.text.size:Int)≤500)&&boxEq a.body BoxD.zero
 else bif decide (a.scope=3) then sealR a else bif decide (a.scope=1)||decide (a.scope=2) then sealR a&&decide ((a.to.n:Int)=0) else false
theorem CR (a:ActD):audR a=audienceB a:=by
 have hw:withinB a.epoch 0 1073741824=(decide (0≤a.epoch)&&decide (a.epoch≤1073741824)):=rfl
 have hz:decide (0<(a.to.n:Int))=!decide ((a.to.n:Int)=0):=by rw [←decide_not];exact decide_eq_decide.2 ag
 have hsh:isShortB a.text=decide ((a.text.size:Int)≤500):=rfl
 rw [audR,audienceB,groupR,sealedScopeB,hw,hz,hsh,sealR]
 cases isIds a.toL
 · rfl
 simp only [Bool.not_true,cond_false]
 by_cases h0:a.scope=0
 · rw [h0]
   simp only [show decide ((0:Int)=2)=false from rfl,show decide ((0:Int)=0)=true from rfl,cond_false,cond_true]
   cases seqB a.group ⟨#[]⟩<;>simp [Bool.and_assoc]
 by_cases h3:a.scope=3
 · rw [h3]
   simp only [show decide ((3:Int)=2)=false from rfl,show decide ((3:Int)=0)=false from rfl,show decide ((3:Int)=3)=true from rfl,show decide ((3:Int)=1)=false from rfl,cond_false,cond_true,Bool.not_true,Bool.and_false]
   cases seqB a.group ⟨#[]⟩<;>simp [Bool.and_assoc]
 by_cases h1:a.scope=1
 · rw [h1]
   simp only [show decide ((1:Int)=2)=false from rfl,show decide ((1:Int)=0)=false from rfl,show decide ((1:Int)=3)=false from rfl,show decide ((1:Int)=1)=true from rfl,cond_false,cond_true,Bool.not_false,Bool.and_true,Bool.true_or]
   cases seqB a.group ⟨#[]⟩<;>cases decide ((a.to.n:Int)=0)<;>simp [Bool.and_assoc]
 by_cases h2:a.scope=2
 · rw [h2]
   simp only [show decide ((2:Int)=2)=true from rfl,show decide ((2:Int)=0)=false from rfl,show decide ((2:Int)=3)=false from rfl,show decide ((2:Int)=1)=false from rfl,cond_false,cond_true,Bool.not_false,Bool.and_true,Bool.false_or]
   cases isName a.group<;>cases decide ((a.to.n:Int)=0)<;>simp [Bool.and_assoc]
 rw [decide_eq_false h0,decide_eq_false h1,decide_eq_false h2,decide_eq_false h3]
 cases seqB a.group ⟨#[]⟩<;>cases decide ((a.to.n:Int)=0)<;>rfl
set_option maxHeartbeats 2000000 in
theorem lw (a:ActD) (hs:a.Str):Pu Tryz.prog 318 #[a.v] (ActD.at_ · a) (.bool (audienceB a)):=by
 refine aN (args:=[_]) _ Tryz.func318 rfl Tryz.ntmps318 rfl fun av bor w0=>?_
 rw [←CR]
 have hi:=mL a.to a.toL hs.to
 have hg:=jE a hs
 have hb:=jG a.body
 have he:=jF a.body
 repeat' (first|apply ab|apply aj|apply ai|refine ae ?_|refine ac ?_|refine aM ?_|refine aL ?_|refine aG ?_|refine aJ ?_|refine aH ?_|refine bE ?_|refine bR ?_|refine cF ?_|refine cL ?_|refine co ?_|refine cr ?_|refine bg ?_|refine aW ?_|refine bI ?_|refine aT fun _=>?_|refine aE ?_|apply ay|apply aw|apply aA|(refine aC (hc:=hi) (hX:=fun w h=>h.1) ?_)|(refine aC (hc:=hg) (hX:=fun _ _=>trivial) ?_)|(refine aC (hc:=hb) (hX:=fun _ _=>trivial) ?_)|(refine aC (hc:=he) (hX:=fun _ _=>trivial) ?_)|(refine bZ ?_)|((fail_if_success (refine bA ?_));refine bj (ht:=?_) (hf:=?_);all_goals (intro hx_;first|have:=aY hx_|have:=aZ hx_|skip))|(refine aO (ht:=?_) (hf:=?_);all_goals (intro hx_;first|have:=aY hx_|have:=aZ hx_|skip)))
 all_goals refine aq (aB rfl rfl) ?_
 all_goals first
  | rfl
  | (simp_all [audR,sealR];done)
  | (simp_all [audR,sealR];intros;omega)
def bareA (a:ActD):ActD:={ a with scope:=0,group:=⟨#[]⟩,to:=⟨none,0,0⟩,text:=⟨#[]⟩,body:=BoxD.zero,epoch:=0,toL:=[] }
theorem qN (a:ActD):Pu Tryz.prog 319 #[a.v] (fun _=>True) (bareA a).v:=by
 refine aN (args:=[_]) _ Tryz.func319 rfl Tryz.ntmps319 rfl fun av bor w0=>?_
 repeat' (first|refine ja ?_|apply ab|apply aj|apply ai|refine aM ?_|refine aG ?_|refine aP fun _=>?_|refine aT fun _=>?_|refine br ?_|refine aK ?_|apply aA|(refine dC ({ a with scope:=0,group:=⟨#[]⟩,to:=⟨none,0,0⟩,text:=⟨#[]⟩,body:=BoxD.zero }:ActD).cells (h:=?_))|fail)
 exact aq (bT (cs:=(bareA a).cells) rfl rfl aU (by rfl)) rfl
def okR (k:Int) (a:ActD):Bool :=
 bif decide (k=0) then (isPublicB a.n&&decide (0≤a.m)&&decide (a.m<20))&&isName a.text else bif decide (k=1) then audienceB a else bif decide (k=2) then audienceB a&&decide ((a.object.size:Int)=32) else bif decide (k=3) then audienceB a&&decide ((a.object.size:Int)=32) else bif decide (k=4) then decide ((a.object.size:Int)=32) else bif decide (k=5) then decide ((a.object.size:Int)=32) else bif decide (k=6) then decide ((a.object.size:Int)=32) else bif decide (k=7) then isId a.target else bif decide (k=8) then isId a.target else bif decide (k=9) then isId a.target else bif decide (k=10) then isId a.target else bif decide (k=11) then isId a.target else bif decide (k=12) then decide ((a.object.size:Int)=32)&&decide ((a.text.size:Int)≤500) else bif decide (k=13) then decide ((a.object.size:Int)=32) else bif decide (k=14) then audienceB a&&decide ((a.object.size:Int)=32) else bif decide (k=15) then isIds a.toL&&isName a.group else bif decide (k=16) then isIds a.toL&&decide (1≤a.scope)&&decide (a.scope≤3)&&groupR a&&decide (0≤a.epoch)&&decide (a.epoch≤1073741824)&&wrappedB a else bif decide (k=17) then (bif !seqB a.object ⟨#[]⟩ then isName a.text&&decide ((a.object.size:Int)=32)&&seqB a.target ⟨#[]⟩ else isName a.text&&isId a.target) else bif decide (k=18) then (isPublicB a.n&&decide (0≤a.m)&&decide (a.m<20)) else bif decide (k=19) then isIds a.toL&&decide (0<(a.to.n:Int))&&wrappedB a&&decide (1≤a.n)&&decide (a.n≤(a.to.n:Int))&&isPublicB a.m else bif decide (k=20) then decide ((a.object.size:Int)=32) else bif decide (k=21) then decide ((a.object.size:Int)=32)&&decide ((a.text.size:Int)≤500) else bif decide (k=22) then decide ((a.object.size:Int)=32)&&decide (0≤a.n)&&decide (a.n≤1) else bif decide (k=23) then isId a.target&&decide ((a.text.size:Int)≤500)&&decide (0≤a.n)&&decide (a.n≤1099511627776) else false
def restA (k:Int) (a:ActD):ActD :=
 bif decide (k=0) then { a with text:=⟨#[]⟩,n:=0,m:=0 } else bif decide (k=1) then bareA a else bif decide (k=2) then { bareA a with object:=⟨#[]⟩ } else bif decide (k=3) then { bareA a with object:=⟨#[]⟩ } else bif decide (k=4) then { a with object:=⟨#[]⟩ } else bif decide (k=5) then { a with object:=⟨#[]⟩ } else bif decide (k=6) then { a with object:=⟨#[]⟩ } else bif decide (k=7) then { a with target:=⟨#[]⟩ } else bif decide (k=8) then { a with target:=⟨#[]⟩ } else bif decide (k=9) then { a with target:=⟨#[]⟩ } else bif decide (k=10) then { a with target:=⟨#[]⟩ } else bif decide (k=11) then { a with target:=⟨#[]⟩ } else bif decide (k=12) then { a with object:=⟨#[]⟩,text:=⟨#[]⟩ } else bif decide (k=13) then { a with object:=⟨#[]⟩ } else bif decide (k=14) then { bareA a with object:=⟨#[]⟩ } else bif decide (k=15) then { a with group:=⟨#[]⟩,to:=⟨none,0,0⟩,toL:=[] } else bif decide (k=16) then { a with scope:=0,group:=⟨#[]⟩,to:=⟨none,0,0⟩,toL:=[],epoch:=0,wraps:=⟨none,0,0⟩,wrapsL:=[] } else bif decide (k=17) then { a with text:=⟨#[]⟩,object:=⟨#[]⟩,target:=⟨#[]⟩ } else bif decide (k=18) then { a with n:=0,m:=0 } else bif decide (k=19) then { a with to:=⟨none,0,0⟩,toL:=[],wraps:=⟨none,0,0⟩,wrapsL:=[],n:=0,m:=0 } else bif decide (k=20) then { a with object:=⟨#[]⟩ } else bif decide (k=21) then { a with object:=⟨#[]⟩,text:=⟨#[]⟩ } else bif decide (k=22) then { a with object:=⟨#[]⟩,n:=0 } else bif decide (k=23) then { a with target:=⟨#[]⟩,text:=⟨#[]⟩,n:=0 } else a
def fitsR (a:ActD):Bool:=okR a.kind a&&zeroR (restA a.kind a)
theorem BM (a:ActD):okR 0 a=((isPublicB a.n&&decide (0≤a.m)&&decide (a.m<20))&&isName a.text):=rfl
theorem sD (a:ActD):restA 0 a=({ a with text:=⟨#[]⟩,n:=0,m:=0 }:ActD):=rfl
theorem BL (a:ActD):okR 1 a=(audienceB a):=rfl
theorem sC (a:ActD):restA 1 a=(bareA a:ActD):=rfl
theorem BK (a:ActD):okR 2 a=(audienceB a&&decide ((a.object.size:Int)=32)):=rfl
theorem sB (a:ActD):restA 2 a=({ bareA a with object:=⟨#[]⟩ }:ActD):=rfl
theorem BJ (a:ActD):okR 3 a=(audienceB a&&decide ((a.object.size:Int)=32)):=rfl
theorem sA (a:ActD):restA 3 a=({ bareA a with object:=⟨#[]⟩ }:ActD):=rfl
theorem BI (a:ActD):okR 4 a=(decide ((a.object.size:Int)=32)):=rfl
theorem sz (a:ActD):restA 4 a=({ a with object:=⟨#[]⟩ }:ActD):=rfl
theorem BH (a:ActD):okR 5 a=(decide ((a.object.size:Int)=32)):=rfl
theorem sy (a:ActD):restA 5 a=({ a with object:=⟨#[]⟩ }:ActD):=rfl
theorem BG (a:ActD):okR 6 a=(decide ((a.object.size:Int)=32)):=rfl
theorem sx (a:ActD):restA 6 a=({ a with object:=⟨#[]⟩ }:ActD):=rfl
theorem BF (a:ActD):okR 7 a=(isId a.target):=rfl
theorem sv (a:ActD):restA 7 a=({ a with target:=⟨#[]⟩ }:ActD):=rfl
theorem BE (a:ActD):okR 8 a=(isId a.target):=rfl
theorem su (a:ActD):restA 8 a=({ a with target:=⟨#[]⟩ }:ActD):=rfl
theorem BD (a:ActD):okR 9 a=(isId a.target):=rfl
theorem sr (a:ActD):restA 9 a=({ a with target:=⟨#[]⟩ }:ActD):=rfl
theorem xY (a:ActD):okR 10 a=(isId a.target):=rfl
theorem pf (a:ActD):restA 10 a=({ a with target:=⟨#[]⟩ }:ActD):=rfl
theorem xX (a:ActD):okR 11 a=(isId a.target):=rfl
theorem pe (a:ActD):restA 11 a=({ a with target:=⟨#[]⟩ }:ActD):=rfl
theorem xW (a:ActD):okR 12 a=(decide ((a.object.size:Int)=32)&&decide ((a.text.size:Int)≤500)):=rfl
theorem pd (a:ActD):restA 12 a=({ a with object:=⟨#[]⟩,text:=⟨#[]⟩ }:ActD):=rfl
theorem xV (a:ActD):okR 13 a=(decide ((a.object.size:Int)=32)):=rfl
theorem pc (a:ActD):restA 13 a=({ a with object:=⟨#[]⟩ }:ActD):=rfl
theorem xU (a:ActD):okR 14 a=(audienceB a&&decide ((a.object.size:Int)=32)):=rfl
theorem pb (a:ActD):restA 14 a=({ bareA a with object:=⟨#[]⟩ }:ActD):=rfl
theorem xT (a:ActD):okR 15 a=(isIds a.toL&&isName a.group):=rfl
theorem pa (a:ActD):restA 15 a=({ a with group:=⟨#[]⟩,to:=⟨none,0,0⟩,toL:=[] }:ActD):=rfl
theorem xS (a:ActD):okR 16 a=(isIds a.toL&&decide (1≤a.scope)&&decide (a.scope≤3)&&groupR a&&decide (0≤a.epoch)&&decide (a.epoch≤1073741824)&&wrappedB a):=rfl
theorem o9 (a:ActD):restA 16 a=({ a with scope:=0,group:=⟨#[]⟩,to:=⟨none,0,0⟩,toL:=[],epoch:=0,wraps:=⟨none,0,0⟩,wrapsL:=[] }:ActD):=rfl
theorem xR (a:ActD):okR 17 a=((bif !seqB a.object ⟨#[]⟩ then isName a.text&&decide ((a.object.size:Int)=32)&&seqB a.target ⟨#[]⟩ else isName a.text&&isId a.target)):=rfl
theorem o8 (a:ActD):restA 17 a=({ a with text:=⟨#[]⟩,object:=⟨#[]⟩,target:=⟨#[]⟩ }:ActD):=rfl
theorem xQ (a:ActD):okR 18 a=((isPublicB a.n&&decide (0≤a.m)&&decide (a.m<20))):=rfl
theorem o7 (a:ActD):restA 18 a=({ a with n:=0,m:=0 }:ActD):=rfl
theorem xP (a:ActD):okR 19 a=(isIds a.toL&&decide (0<(a.to.n:Int))&&wrappedB a&&decide (1≤a.n)&&decide (a.n≤(a.to.n:Int))&&isPublicB a.m):=rfl
theorem o6 (a:ActD):restA 19 a=({ a with to:=⟨none,0,0⟩,toL:=[],wraps:=⟨none,0,0⟩,wrapsL:=[],n:=0,m:=0 }:ActD):=rfl
theorem xO (a:ActD):okR 20 a=(decide ((a.object.size:Int)=32)):=rfl
theorem o5 (a:ActD):restA 20 a=({ a with object:=⟨#[]⟩ }:ActD):=rfl
theorem xN (a:ActD):okR 21 a=(decide ((a.object.size:Int)=32)&&decide ((a.text.size:Int)≤500)):=rfl
theorem o4 (a:ActD):restA 21 a=({ a with object:=⟨#[]⟩,text:=⟨#[]⟩ }:ActD):=rfl
theorem xM (a:ActD):okR 22 a=(decide ((a.object.size:Int)=32)&&decide (0≤a.n)&&decide (a.n≤1)):=rfl
theorem o0 (a:ActD):restA 22 a=({ a with object:=⟨#[]⟩,n:=0 }:ActD):=rfl
theorem xL (a:ActD):okR 23 a=(isId a.target&&decide ((a.text.size:Int)≤500)&&decide (0≤a.n)&&decide (a.n≤1099511627776)):=rfl
theorem oZ (a:ActD):restA 23 a=({ a with target:=⟨#[]⟩,text:=⟨#[]⟩,n:=0 }:ActD):=rfl
theorem py {a:ActD} (h:¬ (0≤a.kind∧a.kind≤23)):okR a.kind a=false:=by
 rw [okR]
 rw [decide_eq_false (show ¬ a.kind=0 by omega),cond_false]
 rw [decide_eq_false (show ¬ a.kind=1 by omega),cond_false]
 rw [decide_eq_false (show ¬ a.kind=2 by omega),cond_false]
 rw [decide_eq_false (show ¬ a.kind=3 by omega),cond_false]
 rw [decide_eq_false (show ¬ a.kind=4 by omega),cond_false]
 rw [decide_eq_false (show ¬ a.kind=5 by omega),cond_false]
 rw [decide_eq_false (show ¬ a.kind=6 by omega),cond_false]
 rw [decide_eq_false (show ¬ a.kind=7 by omega),cond_false]
 rw [decide_eq_false (show ¬ a.kind=8 by omega),cond_false]
 rw [decide_eq_false (show ¬ a.kind=9 by omega),cond_false]
 rw [decide_eq_false (show ¬ a.kind=10 by omega),cond_false]
 rw [decide_eq_false (show ¬ a.kind=11 by omega),cond_false]
 rw [decide_eq_false (show ¬ a.kind=12 by omega),cond_false]
 rw [decide_eq_false (show ¬ a.kind=13 by omega),cond_false]
 rw [decide_eq_false (show ¬ a.kind=14 by omega),cond_false]
 rw [decide_eq_false (show ¬ a.kind=15 by omega),cond_false]
 rw [decide_eq_false (show ¬ a.kind=16 by omega),cond_false]
 rw [decide_eq_false (show ¬ a.kind=17 by omega),cond_false]
 rw [decide_eq_false (show ¬ a.kind=18 by omega),cond_false]
 rw [decide_eq_false (show ¬ a.kind=19 by omega),cond_false]
 rw [decide_eq_false (show ¬ a.kind=20 by omega),cond_false]
 rw [decide_eq_false (show ¬ a.kind=21 by omega),cond_false]
 rw [decide_eq_false (show ¬ a.kind=22 by omega),cond_false]
 rw [decide_eq_false (show ¬ a.kind=23 by omega),cond_false]
theorem m7 {k:Int} (h:0≤k∧k≤23):k=0∨k=1∨k=2∨k=3∨k=4∨k=5∨k=6∨k=7∨k=8∨k=9∨k=10∨k=11∨k=12∨k=13∨k=14∨k=15∨k=16∨k=17∨k=18∨k=19∨k=20∨k=21∨k=22∨k=23:=by omega
set_option maxRecDepth 20000 in
set_option maxHeartbeats 16000000 in
theorem qJ (a:ActD) (hs:a.Str):Pu Tryz.prog 279 #[a.v] (ActD.at_ · a) (.bool (fitsR a)):=by
 refine aN (args:=[_]) _ Tryz.func279 rfl Tryz.ntmps279 rfl fun av bor w0=>?_
 have c1:=eL a.n
 have c2:=eL a.m
 have c3:=gV a.text hs.text
 have c4:=gV a.group hs.group
 have c5:=lw a hs
 have c6:=qN a
 have c7:=lu a.target hs.target
 have c8:=mL a.to a.toL hs.to
 have c9:=jE a hs
 have c10:=mi a
 by_cases hk:0≤a.kind∧a.kind≤23
 · rw [fitsR]
   rcases m7 hk with h|h|h|h|h|h|h|h|h|h|h|h|h|h|h|h|h|h|h|h|h|h|h|h
   · rw [h,BM,sD]
     have c0:=bY ({ a with text:=⟨#[]⟩,n:=0,m:=0 }:ActD)
     repeat' (first|refine bM (hab:=by omega) ?_|apply ab|apply aj|apply ai|refine ae ?_|refine ac ?_|refine aM ?_|refine aL ?_|refine aG ?_|refine aJ ?_|refine aH ?_|refine bu ?_|refine cL ?_|refine aW ?_|refine aP fun _=>?_|refine aT fun _=>?_|refine br ?_|refine aK ?_|refine aE ?_|apply ay|apply aw|apply aA|(refine aC (hc:=c0) (hX:=fun _ _=>trivial) ?_)|(refine aC (hc:=c1) (hX:=fun _ _=>trivial) ?_)|(refine aC (hc:=c3) (hX:=fun _ _=>trivial) ?_)|((fail_if_success (refine bA ?_));refine bj (ht:=?_) (hf:=?_);all_goals (intro hx_;first|have:=aY hx_|have:=aZ hx_|skip))|fail)
     all_goals refine aq (aB rfl rfl) ?_
     all_goals first
      | rfl
      | (simp only [*,decide_true,decide_false,cond_true,cond_false,Bool.and_true,Bool.true_and,Bool.and_false,Bool.false_and,Bool.not_true,Bool.not_false,Bool.or_true,Bool.true_or,Bool.or_false,Bool.false_or];done)
      | (simp_all;done)
      | (simp_all;intros;omega)
      | skip
   · rw [h,BL,sC]
     have c0:=bY (bareA a:ActD)
     repeat' (first|refine bM (hab:=by omega) ?_|refine bQ (hab:=by omega) ?_|apply ab|apply aj|apply ai|refine ae ?_|refine ac ?_|refine aM ?_|refine aL ?_|refine aG ?_|refine aJ ?_|refine aH ?_|refine aW ?_|refine aP fun _=>?_|refine aT fun _=>?_|refine aK ?_|refine aE ?_|refine aD ?_|apply aw|apply aA|(refine aC (hc:=c0) (hX:=fun _ _=>trivial) ?_)|(refine aC (hc:=c5) (hX:=fun w h=>h) ?_)|(refine aC (hc:=c6) (hX:=fun _ _=>trivial) ?_)|((fail_if_success (refine bA ?_));refine bj (ht:=?_) (hf:=?_);all_goals (intro hx_;skip))|fail)
     all_goals refine aq (aB rfl rfl) ?_
     all_goals first
      | rfl
      | (simp only [*,decide_true,decide_false,cond_true,cond_false,Bool.and_true,Bool.true_and,Bool.and_false,Bool.false_and,Bool.not_true,Bool.not_false,Bool.or_true,Bool.true_or,Bool.or_false,Bool.false_or];done)
      | (simp_all;done)
      | (simp_all;intros;omega)
      | skip
   · rw [h,BK,sB]
     have c0:=bY ({ bareA a with object:=⟨#[]⟩ }:ActD)
     repeat' (first|refine bM (hab:=by omega) ?_|refine bQ (hab:=by omega) ?_|apply ab|apply aj|apply ai|refine ae ?_|refine ac ?_|refine aM ?_|refine aL ?_|refine aG ?_|refine aJ ?_|refine aH ?_|refine bR ?_|refine cr ?_|refine aW ?_|refine aP fun _=>?_|refine aT fun _=>?_|refine br ?_|refine aK ?_|refine aE ?_|refine aD ?_|apply ay|apply aw|apply aA|(refine aC (hc:=c0) (hX:=fun _ _=>trivial) ?_)|(refine aC (hc:=c5) (hX:=fun w h=>h) ?_)|(refine aC (hc:=c6) (hX:=fun _ _=>trivial) ?_)|((fail_if_success (refine bA ?_));refine bj (ht:=?_) (hf:=?_);all_goals (intro hx_;first|have:=aY hx_|have:=aZ hx_|skip))|fail)
     all_goals refine aq (aB rfl rfl) ?_
     all_goals first
      | rfl
      | (simp only [*,decide_true,decide_false,cond_true,cond_false,Bool.and_true,Bool.true_and,Bool.and_false,Bool.false_and,Bool.not_true,Bool.not_false,Bool.or_true,Bool.true_or,Bool.or_false,Bool.false_or];done)
      | (simp_all;done)
      | (simp_all;intros;omega)
      | skip
   · rw [h,BJ,sA]
     have c0:=bY ({ bareA a with object:=⟨#[]⟩ }:ActD)
     repeat' (first|refine bM (hab:=by omega) ?_|refine bQ (hab:=by omega) ?_|apply ab|apply aj|apply ai|refine ae ?_|refine ac ?_|refine aM ?_|refine aL ?_|refine aG ?_|refine aJ ?_|refine aH ?_|refine bR ?_|refine cr ?_|refine aW ?_|refine aP fun _=>?_|refine aT fun _=>?_|refine br ?_|refine aK ?_|refine aE ?_|refine aD ?_|apply ay|apply aw|apply aA|(refine aC (hc:=c0) (hX:=fun _ _=>trivial) ?_)|(refine aC (hc:=c5) (hX:=fun w h=>h) ?_)|(refine aC (hc:=c6) (hX:=fun _ _=>trivial) ?_)|((fail_if_success (refine bA ?_));refine bj (ht:=?_) (hf:=?_);all_goals (intro hx_;first|have:=aY hx_|have:=aZ hx_|skip))|fail)
     all_goals refine aq (aB rfl rfl) ?_
     all_goals first
      | rfl
      | (simp only [*,decide_true,decide_false,cond_true,cond_false,Bool.and_true,Bool.true_and,Bool.and_false,Bool.false_and,Bool.not_true,Bool.not_false,Bool.or_true,Bool.true_or,Bool.or_false,Bool.false_or];done)
      | (simp_all;done)
      | (simp_all;intros;omega)
      | skip
   · rw [h,BI,sz]
     have c0:=bY ({ a with object:=⟨#[]⟩ }:ActD)
     repeat' (first|refine bM (hab:=by omega) ?_|refine bQ (hab:=by omega) ?_|apply ab|apply aj|apply ai|refine ae ?_|refine ac ?_|refine aM ?_|refine aL ?_|refine aG ?_|refine aJ ?_|refine aH ?_|refine bR ?_|refine cr ?_|refine aW ?_|refine aP fun _=>?_|refine aT fun _=>?_|refine br ?_|refine aK ?_|refine aE ?_|refine aD ?_|apply ay|apply aw|apply aA|(refine aC (hc:=c0) (hX:=fun _ _=>trivial) ?_)|((fail_if_success (refine bA ?_));refine bj (ht:=?_) (hf:=?_);all_goals (intro hx_;first|have:=aY hx_|have:=aZ hx_))|fail)
     all_goals refine aq (aB rfl rfl) ?_
     all_goals first
      | rfl
      | (simp only [*,decide_true,decide_false,cond_true,cond_false,Bool.and_true,Bool.true_and,Bool.and_false,Bool.false_and,Bool.not_true,Bool.not_false,Bool.or_true,Bool.true_or,Bool.or_false,Bool.false_or];done)
      | (simp_all;done)
      | (simp_all;intros;omega)
      | skip
   · rw [h,BH,sy]
     have c0:=bY ({ a with object:=⟨#[]⟩ }:ActD)
     repeat' (first|refine bM (hab:=by omega) ?_|refine bQ (hab:=by omega) ?_|apply ab|apply aj|apply ai|refine ae ?_|refine ac ?_|refine aM ?_|refine aL ?_|refine aG ?_|refine aJ ?_|refine aH ?_|refine bR ?_|refine cr ?_|refine aW ?_|refine aP fun _=>?_|refine aT fun _=>?_|refine br ?_|refine aK ?_|refine aE ?_|refine aD ?_|apply ay|apply aw|apply aA|(refine aC (hc:=c0) (hX:=fun _ _=>trivial) ?_)|((fail_if_success (refine bA ?_));refine bj (ht:=?_) (hf:=?_);all_goals (intro hx_;first|have:=aY hx_|have:=aZ hx_))|fail)
     all_goals refine aq (aB rfl rfl) ?_
     all_goals first
      | rfl
      | (simp only [*,decide_true,decide_false,cond_true,cond_false,Bool.and_true,Bool.true_and,Bool.and_false,Bool.false_and,Bool.not_true,Bool.not_false,Bool.or_true,Bool.true_or,Bool.or_false,Bool.false_or];done)
      | (simp_all;done)
      | (simp_all;intros;omega)
      | skip
   · rw [h,BG,sx]
     have c0:=bY ({ a with object:=⟨#[]⟩ }:ActD)
     repeat' (first|refine bM (hab:=by omega) ?_|refine bQ (hab:=by omega) ?_|apply ab|apply aj|apply ai|refine ae ?_|refine ac ?_|refine aM ?_|refine aL ?_|refine aG ?_|refine aJ ?_|refine aH ?_|refine bR ?_|refine cr ?_|refine aW ?_|refine aP fun _=>?_|refine aT fun _=>?_|refine br ?_|refine aK ?_|refine aE ?_|refine aD ?_|apply ay|apply aw|apply aA|(refine aC (hc:=c0) (hX:=fun _ _=>trivial) ?_)|((fail_if_success (refine bA ?_));refine bj (ht:=?_) (hf:=?_);all_goals (intro hx_;first|have:=aY hx_|have:=aZ hx_))|fail)
     all_goals refine aq (aB rfl rfl) ?_
     all_goals first
      | rfl
      | (simp only [*,decide_true,decide_false,cond_true,cond_false,Bool.and_true,Bool.true_and,Bool.and_false,Bool.false_and,Bool.not_true,Bool.not_false,Bool.or_true,Bool.true_or,Bool.or_false,Bool.false_or];done)
      | (simp_all;done)
      | (simp_all;intros;omega)
      | skip
   · rw [h,BF,sv]
     have c0:=bY ({ a with target:=⟨#[]⟩ }:ActD)
     repeat' (first|refine bM (hab:=by omega) ?_|refine bQ (hab:=by omega) ?_|apply ab|apply aj|apply ai|refine ae ?_|refine ac ?_|refine aM ?_|refine aL ?_|refine aG ?_|refine aJ ?_|refine aH ?_|refine aW ?_|refine aP fun _=>?_|refine aT fun _=>?_|refine br ?_|refine aK ?_|refine aE ?_|refine aD ?_|apply ay|apply aw|apply aA|(refine aC (hc:=c0) (hX:=fun _ _=>trivial) ?_)|(refine aC (hc:=c7) (hX:=fun _ _=>trivial) ?_)|((fail_if_success (refine bA ?_));refine bj (ht:=?_) (hf:=?_);all_goals (intro hx_;skip))|fail)
     all_goals refine aq (aB rfl rfl) ?_
     all_goals first
      | rfl
      | (simp only [*,decide_true,decide_false,cond_true,cond_false,Bool.and_true,Bool.true_and,Bool.and_false,Bool.false_and,Bool.not_true,Bool.not_false,Bool.or_true,Bool.true_or,Bool.or_false,Bool.false_or];done)
      | (simp_all;done)
      | (simp_all;intros;omega)
      | skip
   · rw [h,BE,su]
     have c0:=bY ({ a with target:=⟨#[]⟩ }:ActD)
     repeat' (first|refine bM (hab:=by omega) ?_|refine bQ (hab:=by omega) ?_|apply ab|apply aj|apply ai|refine ae ?_|refine ac ?_|refine aM ?_|refine aL ?_|refine aG ?_|refine aJ ?_|refine aH ?_|refine aW ?_|refine aP fun _=>?_|refine aT fun _=>?_|refine br ?_|refine aK ?_|refine aE ?_|refine aD ?_|apply ay|apply aw|apply aA|(refine aC (hc:=c0) (hX:=fun _ _=>trivial) ?_)|(refine aC (hc:=c7) (hX:=fun _ _=>trivial) ?_)|((fail_if_success (refine bA ?_));refine bj (ht:=?_) (hf:=?_);all_goals (intro hx_;skip))|fail)
     all_goals refine aq (aB rfl rfl) ?_
     all_goals first
      | rfl
      | (simp only [*,decide_true,decide_false,cond_true,cond_false,Bool.and_true,Bool.true_and,Bool.and_false,Bool.false_and,Bool.not_true,Bool.not_false,Bool.or_true,Bool.true_or,Bool.or_false,Bool.false_or];done)
      | (simp_all;done)
      | (simp_all;intros;omega)
      | skip
   · rw [h,BD,sr]
     have c0:=bY ({ a with target:=⟨#[]⟩ }:ActD)
     repeat' (first|refine bM (hab:=by omega) ?_|refine bQ (hab:=by omega) ?_|apply ab|apply aj|apply ai|refine ae ?_|refine ac ?_|refine aM ?_|refine aL ?_|refine aG ?_|refine aJ ?_|refine aH ?_|refine aW ?_|refine aP fun _=>?_|refine aT fun _=>?_|refine br ?_|refine aK ?_|refine aE ?_|refine aD ?_|apply ay|apply aw|apply aA|(refine aC (hc:=c0) (hX:=fun _ _=>trivial) ?_)|(refine aC (hc:=c7) (hX:=fun _ _=>trivial) ?_)|((fail_if_success (refine bA ?_));refine bj (ht:=?_) (hf:=?_);all_goals (intro hx_;skip))|fail)
     all_goals refine aq (aB rfl rfl) ?_
     all_goals first
      | rfl
      | (simp only [*,decide_true,decide_false,cond_true,cond_false,Bool.and_true,Bool.true_and,Bool.and_false,Bool.false_and,Bool.not_true,Bool.not_false,Bool.or_true,Bool.true_or,Bool.or_false,Bool.false_or];done)
      | (simp_all;done)
      | (simp_all;intros;omega)
      | skip
   · rw [h,xY,pf]
     have c0:=bY ({ a with target:=⟨#[]⟩ }:ActD)
     repeat' (first|refine bM (hab:=by omega) ?_|refine bQ (hab:=by omega) ?_|apply ab|apply aj|apply ai|refine ae ?_|refine ac ?_|refine aM ?_|refine aL ?_|refine aG ?_|refine aJ ?_|refine aH ?_|refine aW ?_|refine aP fun _=>?_|refine aT fun _=>?_|refine br ?_|refine aK ?_|refine aE ?_|refine aD ?_|apply ay|apply aw|apply aA|(refine aC (hc:=c0) (hX:=fun _ _=>trivial) ?_)|(refine aC (hc:=c7) (hX:=fun _ _=>trivial) ?_)|((fail_if_success (refine bA ?_));refine bj (ht:=?_) (hf:=?_);all_goals (intro hx_;skip))|fail)
     all_goals refine aq (aB rfl rfl) ?_
     all_goals first
      | rfl
      | (simp only [*,decide_true,decide_false,cond_true,cond_false,Bool.and_true,Bool.true_and,Bool.and_false,Bool.false_and,Bool.not_true,Bool.not_false,Bool.or_true,Bool.true_or,Bool.or_false,Bool.false_or];done)
      | (simp_all;done)
      | (simp_all;intros;omega)
      | skip
   · rw [h,xX,pe]
     have c0:=bY ({ a with target:=⟨#[]⟩ }:ActD)
     repeat' (first|refine bM (hab:=by omega) ?_|refine bQ (hab:=by omega) ?_|apply ab|apply aj|apply ai|refine ae ?_|refine ac ?_|refine aM ?_|refine aL ?_|refine aG ?_|refine aJ ?_|refine aH ?_|refine aW ?_|refine aP fun _=>?_|refine aT fun _=>?_|refine br ?_|refine aK ?_|refine aE ?_|refine aD ?_|apply aw|apply aA|(refine aC (hc:=c0) (hX:=fun _ _=>trivial) ?_)|(refine aC (hc:=c7) (hX:=fun _ _=>trivial) ?_)|((fail_if_success (refine bA ?_));refine bj (ht:=?_) (hf:=?_);all_goals (intro hx_;skip))|fail)
     all_goals refine aq (aB rfl rfl) ?_
     all_goals first
      | rfl
      | (simp only [*,decide_true,decide_false,cond_true,cond_false,Bool.and_true,Bool.true_and,Bool.and_false,Bool.false_and,Bool.not_true,Bool.not_false,Bool.or_true,Bool.true_or,Bool.or_false,Bool.false_or];done)
      | (simp_all;done)
      | (simp_all;intros;omega)
      | skip
   · rw [h,xW,pd]
     have c0:=bY ({ a with object:=⟨#[]⟩,text:=⟨#[]⟩ }:ActD)
     repeat' (first|refine bM (hab:=by omega) ?_|refine bQ (hab:=by omega) ?_|apply ab|apply aj|apply ai|refine ae ?_|refine ac ?_|refine aM ?_|refine aL ?_|refine aG ?_|refine aJ ?_|refine aH ?_|refine bR ?_|refine cF ?_|refine cr ?_|refine aW ?_|refine aP fun _=>?_|refine aT fun _=>?_|refine br ?_|refine aK ?_|refine aE ?_|refine aD ?_|apply ay|apply aw|apply aA|(refine aC (hc:=c0) (hX:=fun _ _=>trivial) ?_)|((fail_if_success (refine bA ?_));refine bj (ht:=?_) (hf:=?_);all_goals (intro hx_;first|have:=aY hx_|have:=aZ hx_))|fail)
     all_goals refine aq (aB rfl rfl) ?_
     all_goals first
      | rfl
      | (simp only [*,decide_true,decide_false,cond_true,cond_false,Bool.and_true,Bool.true_and,Bool.and_false,Bool.false_and,Bool.not_true,Bool.not_false,Bool.or_true,Bool.true_or,Bool.or_false,Bool.false_or];done)
      | (simp_all;done)
      | (simp_all;intros;omega)
      | skip
   · rw [h,xV,pc]
     have c0:=bY ({ a with object:=⟨#[]⟩ }:ActD)
     repeat' (first|refine bM (hab:=by omega) ?_|refine bQ (hab:=by omega) ?_|apply ab|apply aj|apply ai|refine ae ?_|refine ac ?_|refine aM ?_|refine aL ?_|refine aG ?_|refine aJ ?_|refine aH ?_|refine bR ?_|refine cr ?_|refine aW ?_|refine aP fun _=>?_|refine aT fun _=>?_|refine br ?_|refine aK ?_|refine aE ?_|refine aD ?_|apply ay|apply aw|apply aA|(refine aC (hc:=c0) (hX:=fun _ _=>trivial) ?_)|((fail_if_success (refine bA ?_));refine bj (ht:=?_) (hf:=?_);all_goals (intro hx_;first|have:=aY hx_|have:=aZ hx_))|fail)
     all_goals refine aq (aB rfl rfl) ?_
     all_goals first
      | rfl
      | (simp only [*,decide_true,decide_false,cond_true,cond_false,Bool.and_true,Bool.true_and,Bool.and_false,Bool.false_and,Bool.not_true,Bool.not_false,Bool.or_true,Bool.true_or,Bool.or_false,Bool.false_or];done)
      | (simp_all;done)
      | (simp_all;intros;omega)
      | skip
   · rw [h,xU,pb]
     have c0:=bY ({ bareA a with object:=⟨#[]⟩ }:ActD)
     repeat' (first|refine bM (hab:=by omega) ?_|refine bQ (hab:=by omega) ?_|apply ab|apply aj|apply ai|refine ae ?_|refine ac ?_|refine aM ?_|refine aL ?_|refine aG ?_|refine aJ ?_|refine aH ?_|refine bR ?_|refine cr ?_|refine aW ?_|refine aP fun _=>?_|refine aT fun _=>?_|refine br ?_|refine aK ?_|refine aE ?_|refine aD ?_|apply aw|apply aA|(refine aC (hc:=c0) (hX:=fun _ _=>trivial) ?_)|(refine aC (hc:=c5) (hX:=fun w h=>h) ?_)|(refine aC (hc:=c6) (hX:=fun _ _=>trivial) ?_)|((fail_if_success (refine bA ?_));refine bj (ht:=?_) (hf:=?_);all_goals (intro hx_;first|have:=aY hx_|have:=aZ hx_|skip))|fail)
     all_goals refine aq (aB rfl rfl) ?_
     all_goals first
      | rfl
      | (simp only [*,decide_true,decide_false,cond_true,cond_false,Bool.and_true,Bool.true_and,Bool.and_false,Bool.false_and,Bool.not_true,Bool.not_false,Bool.or_true,Bool.true_or,Bool.or_false,Bool.false_or];done)
      | (simp_all;done)
      | (simp_all;intros;omega)
      | skip
   · rw [h,xT,pa]
     have c0:=bY ({ a with group:=⟨#[]⟩,to:=⟨none,0,0⟩,toL:=[] }:ActD)
     repeat' (first|refine bM (hab:=by omega) ?_|refine bQ (hab:=by omega) ?_|apply ab|apply aj|apply ai|refine ae ?_|refine ac ?_|refine aM ?_|refine aL ?_|refine aG ?_|refine aJ ?_|refine aH ?_|refine aW ?_|refine aP fun _=>?_|refine aT fun _=>?_|refine br ?_|refine aK ?_|refine aE ?_|refine aD ?_|apply aw|apply aA|(refine aC (hc:=c0) (hX:=fun _ _=>trivial) ?_)|(refine aC (hc:=c4) (hX:=fun _ _=>trivial) ?_)|(refine aC (hc:=c8) (hX:=fun w h=>h.1) ?_)|((fail_if_success (refine bA ?_));refine bj (ht:=?_) (hf:=?_);all_goals (intro hx_;skip))|fail)
     all_goals refine aq (aB rfl rfl) ?_
     all_goals first
      | rfl
      | (simp only [*,decide_true,decide_false,cond_true,cond_false,Bool.and_true,Bool.true_and,Bool.and_false,Bool.false_and,Bool.not_true,Bool.not_false,Bool.or_true,Bool.true_or,Bool.or_false,Bool.false_or];done)
      | (simp_all;done)
      | (simp_all;intros;omega)
      | skip
   · rw [h,xS,o9]
     have c0:=bY ({ a with scope:=0,group:=⟨#[]⟩,to:=⟨none,0,0⟩,toL:=[],epoch:=0,wraps:=⟨none,0,0⟩,wrapsL:=[] }:ActD)
     repeat' (first|refine bM (hab:=by omega) ?_|refine bQ (hab:=by omega) ?_|apply ab|apply aj|apply ai|refine ae ?_|refine ac ?_|refine aM ?_|refine aL ?_|refine aG ?_|refine aJ ?_|refine aH ?_|refine cF ?_|refine cL ?_|refine aW ?_|refine aP fun _=>?_|refine aT fun _=>?_|refine br ?_|refine aK ?_|refine aE ?_|refine aD ?_|apply aw|apply aA|(refine aC (hc:=c0) (hX:=fun _ _=>trivial) ?_)|(refine aC (hc:=c8) (hX:=fun w h=>h.1) ?_)|(refine aC (hc:=c9) (hX:=fun _ _=>trivial) ?_)|(refine aC (hc:=c10) (hX:=fun w h=>h) ?_)|((fail_if_success (refine bA ?_));refine bj (ht:=?_) (hf:=?_);all_goals (intro hx_;first|have:=aY hx_|have:=aZ hx_|skip))|fail)
     all_goals refine aq (aB rfl rfl) ?_
     all_goals first
      | rfl
      | (simp only [*,decide_true,decide_false,cond_true,cond_false,Bool.and_true,Bool.true_and,Bool.and_false,Bool.false_and,Bool.not_true,Bool.not_false,Bool.or_true,Bool.true_or,Bool.or_false,Bool.false_or];done)
      | (simp_all;done)
      | (simp_all;intros;omega)
      | skip
   · rw [h,xR,o8]
     have c0:=bY ({ a with text:=⟨#[]⟩,object:=⟨#[]⟩,target:=⟨#[]⟩ }:ActD)
     repeat' (first|refine bM (hab:=by omega) ?_|refine bQ (hab:=by omega) ?_|apply ab|apply aj|apply ai|refine ae ?_|refine ac ?_|refine aM ?_|refine aL ?_|refine aG ?_|refine aJ ?_|refine aH ?_|refine bR ?_|refine co ?_|refine dp ?_|refine cr ?_|refine aW ?_|refine aP fun _=>?_|refine aT fun _=>?_|refine br ?_|refine aK ?_|refine aE ?_|refine aD ?_|apply aw|apply aA|(refine aC (hc:=c0) (hX:=fun _ _=>trivial) ?_)|(refine aC (hc:=c3) (hX:=fun _ _=>trivial) ?_)|(refine aC (hc:=c7) (hX:=fun _ _=>trivial) ?_)|((fail_if_success (refine bA ?_));refine bj (ht:=?_) (hf:=?_);all_goals (intro hx_;first|have:=aY hx_|have:=aZ hx_|skip))|(refine aO (ht:=?_) (hf:=?_);all_goals (intro hx_;skip)))
     all_goals refine aq (aB rfl rfl) ?_
     all_goals first
      | rfl
      | (simp only [*,decide_true,decide_false,cond_true,cond_false,Bool.and_true,Bool.true_and,Bool.and_false,Bool.false_and,Bool.not_true,Bool.not_false,Bool.or_true,Bool.true_or,Bool.or_false,Bool.false_or];done)
      | (simp_all;done)
      | (simp_all;intros;omega)
      | skip
   · rw [h,xQ,o7]
     have c0:=bY ({ a with n:=0,m:=0 }:ActD)
     repeat' (first|refine bM (hab:=by omega) ?_|refine bQ (hab:=by omega) ?_|apply ab|apply aj|apply ai|refine ae ?_|refine ac ?_|refine aM ?_|refine aL ?_|refine aG ?_|refine aJ ?_|refine aH ?_|refine bu ?_|refine cL ?_|refine aW ?_|refine aP fun _=>?_|refine aT fun _=>?_|refine br ?_|refine aK ?_|refine aE ?_|refine aD ?_|apply ay|apply aw|apply aA|(refine aC (hc:=c0) (hX:=fun _ _=>trivial) ?_)|(refine aC (hc:=c1) (hX:=fun _ _=>trivial) ?_)|((fail_if_success (refine bA ?_));refine bj (ht:=?_) (hf:=?_);all_goals (intro hx_;first|have:=aY hx_|have:=aZ hx_|skip))|fail)
     all_goals refine aq (aB rfl rfl) ?_
     all_goals first
      | rfl
      | (simp only [*,decide_true,decide_false,cond_true,cond_false,Bool.and_true,Bool.true_and,Bool.and_false,Bool.false_and,Bool.not_true,Bool.not_false,Bool.or_true,Bool.true_or,Bool.or_false,Bool.false_or];done)
      | (simp_all;done)
      | (simp_all;intros;omega)
      | skip
   · rw [h,xP,o6]
     have c0:=bY ({ a with to:=⟨none,0,0⟩,toL:=[],wraps:=⟨none,0,0⟩,wrapsL:=[],n:=0,m:=0 }:ActD)
     repeat' (first|refine bM (hab:=by omega) ?_|refine bQ (hab:=by omega) ?_|apply ab|apply aj|apply ai|refine ae ?_|refine ac ?_|refine aM ?_|refine aL ?_|refine aG ?_|refine aJ ?_|refine aH ?_|refine cF ?_|refine cP ?_|refine cL ?_|refine bg ?_|refine aW ?_|refine aP fun _=>?_|refine aT fun _=>?_|refine br ?_|refine aK ?_|refine aE ?_|refine aD ?_|apply aw|apply aA|(refine aC (hc:=c0) (hX:=fun _ _=>trivial) ?_)|(refine aC (hc:=c2) (hX:=fun _ _=>trivial) ?_)|(refine aC (hc:=c8) (hX:=fun w h=>h.1) ?_)|(refine aC (hc:=c10) (hX:=fun w h=>h) ?_)|((fail_if_success (refine bA ?_));refine bj (ht:=?_) (hf:=?_);all_goals (intro hx_;first|have:=aY hx_|have:=aZ hx_|skip))|fail)
     all_goals refine aq (aB rfl rfl) ?_
     all_goals first
      | rfl
      | (simp only [*,decide_true,decide_false,cond_true,cond_false,Bool.and_true,Bool.true_and,Bool.and_false,Bool.false_and,Bool.not_true,Bool.not_false,Bool.or_true,Bool.true_or,Bool.or_false,Bool.false_or];done)
      | (simp_all;done)
      | (simp_all;intros;omega)
      | skip
   · rw [h,xO,o5]
     have c0:=bY ({ a with object:=⟨#[]⟩ }:ActD)
     repeat' (first|refine bM (hab:=by omega) ?_|refine bQ (hab:=by omega) ?_|apply ab|apply aj|apply ai|refine ae ?_|refine ac ?_|refine aM ?_|refine aL ?_|refine aG ?_|refine aJ ?_|refine aH ?_|refine bR ?_|refine cr ?_|refine aW ?_|refine aP fun _=>?_|refine aT fun _=>?_|refine br ?_|refine aK ?_|refine aE ?_|refine aD ?_|apply aw|apply aA|(refine aC (hc:=c0) (hX:=fun _ _=>trivial) ?_)|((fail_if_success (refine bA ?_));refine bj (ht:=?_) (hf:=?_);all_goals (intro hx_;first|have:=aY hx_|have:=aZ hx_))|fail)
     all_goals refine aq (aB rfl rfl) ?_
     all_goals first
      | rfl
      | (simp only [*,decide_true,decide_false,cond_true,cond_false,Bool.and_true,Bool.true_and,Bool.and_false,Bool.false_and,Bool.not_true,Bool.not_false,Bool.or_true,Bool.true_or,Bool.or_false,Bool.false_or];done)
      | (simp_all;done)
      | (simp_all;intros;omega)
      | skip
   · rw [h,xN,o4]
     have c0:=bY ({ a with object:=⟨#[]⟩,text:=⟨#[]⟩ }:ActD)
     repeat' (first|refine bM (hab:=by omega) ?_|refine bQ (hab:=by omega) ?_|apply ab|apply aj|apply ai|refine ae ?_|refine ac ?_|refine aM ?_|refine aL ?_|refine aG ?_|refine aJ ?_|refine aH ?_|refine bR ?_|refine cF ?_|refine cr ?_|refine aW ?_|refine aP fun _=>?_|refine aT fun _=>?_|refine br ?_|refine aK ?_|refine aE ?_|refine aD ?_|apply aw|apply aA|(refine aC (hc:=c0) (hX:=fun _ _=>trivial) ?_)|((fail_if_success (refine bA ?_));refine bj (ht:=?_) (hf:=?_);all_goals (intro hx_;first|have:=aY hx_|have:=aZ hx_))|fail)
     all_goals refine aq (aB rfl rfl) ?_
     all_goals first
      | rfl
      | (simp only [*,decide_true,decide_false,cond_true,cond_false,Bool.and_true,Bool.true_and,Bool.and_false,Bool.false_and,Bool.not_true,Bool.not_false,Bool.or_true,Bool.true_or,Bool.or_false,Bool.false_or];done)
      | (simp_all;done)
      | (simp_all;intros;omega)
      | skip
   · rw [h,xM,o0]
     have c0:=bY ({ a with object:=⟨#[]⟩,n:=0 }:ActD)
     repeat' (first|refine bM (hab:=by omega) ?_|refine bQ (hab:=by omega) ?_|apply ab|apply aj|apply ai|refine ae ?_|refine ac ?_|refine aM ?_|refine aL ?_|refine aG ?_|refine aJ ?_|refine aH ?_|refine bR ?_|refine cF ?_|refine cL ?_|refine cr ?_|refine aW ?_|refine aP fun _=>?_|refine aT fun _=>?_|refine br ?_|refine aK ?_|refine aE ?_|refine aD ?_|apply aw|apply aA|(refine aC (hc:=c0) (hX:=fun _ _=>trivial) ?_)|((fail_if_success (refine bA ?_));refine bj (ht:=?_) (hf:=?_);all_goals (intro hx_;first|have:=aY hx_|have:=aZ hx_))|fail)
     all_goals refine aq (aB rfl rfl) ?_
     all_goals first
      | rfl
      | (simp only [*,decide_true,decide_false,cond_true,cond_false,Bool.and_true,Bool.true_and,Bool.and_false,Bool.false_and,Bool.not_true,Bool.not_false,Bool.or_true,Bool.true_or,Bool.or_false,Bool.false_or];done)
      | (simp_all;done)
      | (simp_all;intros;omega)
      | skip
   · rw [h,xL,oZ]
     have c0:=bY ({ a with target:=⟨#[]⟩,text:=⟨#[]⟩,n:=0 }:ActD)
     repeat' (first|refine bM (hab:=by omega) ?_|refine bQ (hab:=by omega) ?_|apply ab|apply aj|apply ai|refine ae ?_|refine ac ?_|refine aM ?_|refine aL ?_|refine aG ?_|refine aJ ?_|refine aH ?_|refine cF ?_|refine cL ?_|refine cr ?_|refine aW ?_|refine aP fun _=>?_|refine aT fun _=>?_|refine br ?_|refine aK ?_|refine aE ?_|refine aD ?_|apply aw|apply aA|(refine aC (hc:=c0) (hX:=fun _ _=>trivial) ?_)|(refine aC (hc:=c7) (hX:=fun _ _=>trivial) ?_)|((fail_if_success (refine bA ?_));refine bj (ht:=?_) (hf:=?_);all_goals (intro hx_;first|have:=aY hx_|have:=aZ hx_|skip))|fail)
     all_goals refine aq (aB rfl rfl) ?_
     all_goals first
      | rfl
      | (simp only [*,decide_true,decide_false,cond_true,cond_false,Bool.and_true,Bool.true_and,Bool.and_false,Bool.false_and,Bool.not_true,Bool.not_false,Bool.or_true,Bool.true_or,Bool.or_false,Bool.false_or];done)
      | (simp_all;done)
      | (simp_all;intros;omega)
      | skip
 · rw [fitsR,py hk,Bool.false_and]
   repeat' (first|refine bQ (hab:=by omega) ?_|apply ab|apply aj|apply ai|refine ae ?_|refine ac ?_|refine aM ?_|refine aL ?_|refine aG ?_|refine aH ?_|refine aW ?_|refine aP fun _=>?_|refine aT fun _=>?_|refine aK ?_|refine aD ?_|apply ay|apply aw|apply aA|fail)
   exact aq (aB rfl rfl) rfl
def maskB (fs:Nat) (z0 z1 z2 z3 z4 z5 z6 z7 z8 z9 z10:Bool):Bool:=(fs.testBit 0||z0)&&(fs.testBit 1||z1)&&(fs.testBit 2||z2)&&(fs.testBit 3||z3)&&(fs.testBit 4||z4)&&(fs.testBit 5||z5)&&(fs.testBit 6||z6)&&(fs.testBit 7||z7)&&(fs.testBit 8||z8)&&(fs.testBit 9||z9)&&(fs.testBit 10||z10)
def maskOk (fs:Nat) (z0 z1 z2 z3 z4 z5 z6 z7 z8 z9 z10:Bool):Bool:=decide (bitsV .andNot .i64 (useU z0 z1 z2 z3 z4 z5 z6 z7 z8 z9 z10) fs=0)==maskB fs z0 z1 z2 z3 z4 z5 z6 z7 z8 z9 z10
def maskAll (fs:Nat):Bool:=bools fun z0=>bools fun z1=>bools fun z2=>bools fun z3=>bools fun z4=>bools fun z5=>bools fun z6=>bools fun z7=>bools fun z8=>bools fun z9=>bools fun z10=>maskOk fs z0 z1 z2 z3 z4 z5 z6 z7 z8 z9 z10
theorem pK:([1568,252,253,1,2,33,24,412,35,1536,1808,513,546].all maskAll)=true:=by decide +kernel
theorem cI {fs:Nat} (hfs:fs∈[1568,252,253,1,2,33,24,412,35,1536,1808,513,546]) (z0 z1 z2 z3 z4 z5 z6 z7 z8 z9 z10:Bool):decide (bitsV .andNot .i64 (useU z0 z1 z2 z3 z4 z5 z6 z7 z8 z9 z10) fs=0)=maskB fs z0 z1 z2 z3 z4 z5 z6 z7 z8 z9 z10:=by
 have h:=List.all_eq_true.1 pK fs hfs
 have h1:=cv (cv (cv (cv (cv (cv (cv (cv (cv (cv (cv h z0) z1) z2) z3) z4) z5) z6) z7) z8) z9) z10
 exact eq_of_beq h1
theorem ck (a:ActD):usedV a=useU (seqB a.object ⟨#[]⟩) (seqB a.target ⟨#[]⟩) (decide (a.scope=0)) (seqB a.group ⟨#[]⟩) (decide ((a.to.n:Int)=0)) (seqB a.text ⟨#[]⟩) (boxEq a.body BoxD.zero) (decide (a.epoch=0)) (decide ((a.wraps.n:Int)=0)) (decide (a.n=0)) (decide (a.m=0)):=rfl
theorem lt20 (m:Int):decide (m<20)=decide (m≤19):=decide_eq_decide.2 ag
theorem bO (a:ActD):sealedScopeB a.scope a.group=(decide (1≤a.scope)&&decide (a.scope≤3)&&groupR a):=by
 rw [sealedScopeB,groupR]
 by_cases h2:a.scope=2
 · rw [h2];rfl
 by_cases h1:a.scope=1
 · rw [h1];rfl
 by_cases h3:a.scope=3
 · rw [h3];rfl
 rw [decide_eq_false h1,decide_eq_false h2,decide_eq_false h3]
 by_cases hl:1≤a.scope
 · rw [decide_eq_false (show ¬ a.scope≤3 by omega),Bool.and_false]
   rfl
 · rw [decide_eq_false hl]
   rfl
theorem ro (s:ByteArray) (h:seqB s ⟨#[]⟩=true):decide ((s.size:Int)=32)=false:=by
 rw [da,decide_eq_true_eq] at h
 exact decide_eq_false ag
theorem Ck {a:ActD} (h:a.kind=0):ruleB a=(maskB 1568 (seqB a.object ⟨#[]⟩) (seqB a.target ⟨#[]⟩) (decide (a.scope=0)) (seqB a.group ⟨#[]⟩) (decide ((a.to.n:Int)=0)) (seqB a.text ⟨#[]⟩) (boxEq a.body BoxD.zero) (decide (a.epoch=0)) (decide ((a.wraps.n:Int)=0)) (decide (a.n=0)) (decide (a.m=0))&&rule3B a):=by
 have hm:mget (ruleL a) a.kind=some (1568,rule3B a):=by rw [h];rfl
 rw [ruleB,hm]
 simp only
 rw [ck]
 exact congrArg (·&&_) (cI (fs:=1568) (by decide) _ _ _ _ _ _ _ _ _ _ _)
theorem Cj {a:ActD} (h:a.kind=1):ruleB a=(maskB 252 (seqB a.object ⟨#[]⟩) (seqB a.target ⟨#[]⟩) (decide (a.scope=0)) (seqB a.group ⟨#[]⟩) (decide ((a.to.n:Int)=0)) (seqB a.text ⟨#[]⟩) (boxEq a.body BoxD.zero) (decide (a.epoch=0)) (decide ((a.wraps.n:Int)=0)) (decide (a.n=0)) (decide (a.m=0))&&audienceB a):=by
 have hm:mget (ruleL a) a.kind=some (252,audienceB a):=by rw [h];rfl
 rw [ruleB,hm]
 simp only
 rw [ck]
 exact congrArg (·&&_) (cI (fs:=252) (by decide) _ _ _ _ _ _ _ _ _ _ _)
theorem Ci {a:ActD} (h:a.kind=2):ruleB a=(maskB 253 (seqB a.object ⟨#[]⟩) (seqB a.target ⟨#[]⟩) (decide (a.scope=0)) (seqB a.group ⟨#[]⟩) (decide ((a.to.n:Int)=0)) (seqB a.text ⟨#[]⟩) (boxEq a.body BoxD.zero) (decide (a.epoch=0)) (decide ((a.wraps.n:Int)=0)) (decide (a.n=0)) (decide (a.m=0))&&rule1B a):=by
 have hm:mget (ruleL a) a.kind=some (253,rule1B a):=by rw [h];rfl
 rw [ruleB,hm]
 simp only
 rw [ck]
 exact congrArg (·&&_) (cI (fs:=253) (by decide) _ _ _ _ _ _ _ _ _ _ _)
theorem Cg {a:ActD} (h:a.kind=3):ruleB a=(maskB 253 (seqB a.object ⟨#[]⟩) (seqB a.target ⟨#[]⟩) (decide (a.scope=0)) (seqB a.group ⟨#[]⟩) (decide ((a.to.n:Int)=0)) (seqB a.text ⟨#[]⟩) (boxEq a.body BoxD.zero) (decide (a.epoch=0)) (decide ((a.wraps.n:Int)=0)) (decide (a.n=0)) (decide (a.m=0))&&rule1B a):=by
 have hm:mget (ruleL a) a.kind=some (253,rule1B a):=by rw [h];rfl
 rw [ruleB,hm]
 simp only
 rw [ck]
 exact congrArg (·&&_) (cI (fs:=253) (by decide) _ _ _ _ _ _ _ _ _ _ _)
theorem Cf {a:ActD} (h:a.kind=4):ruleB a=(maskB 1 (seqB a.object ⟨#[]⟩) (seqB a.target ⟨#[]⟩) (decide (a.scope=0)) (seqB a.group ⟨#[]⟩) (decide ((a.to.n:Int)=0)) (seqB a.text ⟨#[]⟩) (boxEq a.body BoxD.zero) (decide (a.epoch=0)) (decide ((a.wraps.n:Int)=0)) (decide (a.n=0)) (decide (a.m=0))&&objectB a):=by
 have hm:mget (ruleL a) a.kind=some (1,objectB a):=by rw [h];rfl
 rw [ruleB,hm]
 simp only
 rw [ck]
 exact congrArg (·&&_) (cI (fs:=1) (by decide) _ _ _ _ _ _ _ _ _ _ _)
theorem Ce {a:ActD} (h:a.kind=5):ruleB a=(maskB 1 (seqB a.object ⟨#[]⟩) (seqB a.target ⟨#[]⟩) (decide (a.scope=0)) (seqB a.group ⟨#[]⟩) (decide ((a.to.n:Int)=0)) (seqB a.text ⟨#[]⟩) (boxEq a.body BoxD.zero) (decide (a.epoch=0)) (decide ((a.wraps.n:Int)=0)) (decide (a.n=0)) (decide (a.m=0))&&objectB a):=by
 have hm:mget (ruleL a) a.kind=some (1,objectB a):=by rw [h];rfl
 rw [ruleB,hm]
 simp only
 rw [ck]
 exact congrArg (·&&_) (cI (fs:=1) (by decide) _ _ _ _ _ _ _ _ _ _ _)
theorem Cd {a:ActD} (h:a.kind=6):ruleB a=(maskB 1 (seqB a.object ⟨#[]⟩) (seqB a.target ⟨#[]⟩) (decide (a.scope=0)) (seqB a.group ⟨#[]⟩) (decide ((a.to.n:Int)=0)) (seqB a.text ⟨#[]⟩) (boxEq a.body BoxD.zero) (decide (a.epoch=0)) (decide ((a.wraps.n:Int)=0)) (decide (a.n=0)) (decide (a.m=0))&&objectB a):=by
 have hm:mget (ruleL a) a.kind=some (1,objectB a):=by rw [h];rfl
 rw [ruleB,hm]
 simp only
 rw [ck]
 exact congrArg (·&&_) (cI (fs:=1) (by decide) _ _ _ _ _ _ _ _ _ _ _)
theorem Cc {a:ActD} (h:a.kind=7):ruleB a=(maskB 2 (seqB a.object ⟨#[]⟩) (seqB a.target ⟨#[]⟩) (decide (a.scope=0)) (seqB a.group ⟨#[]⟩) (decide ((a.to.n:Int)=0)) (seqB a.text ⟨#[]⟩) (boxEq a.body BoxD.zero) (decide (a.epoch=0)) (decide ((a.wraps.n:Int)=0)) (decide (a.n=0)) (decide (a.m=0))&&targetB a):=by
 have hm:mget (ruleL a) a.kind=some (2,targetB a):=by rw [h];rfl
 rw [ruleB,hm]
 simp only
 rw [ck]
 exact congrArg (·&&_) (cI (fs:=2) (by decide) _ _ _ _ _ _ _ _ _ _ _)
theorem Cb {a:ActD} (h:a.kind=8):ruleB a=(maskB 2 (seqB a.object ⟨#[]⟩) (seqB a.target ⟨#[]⟩) (decide (a.scope=0)) (seqB a.group ⟨#[]⟩) (decide ((a.to.n:Int)=0)) (seqB a.text ⟨#[]⟩) (boxEq a.body BoxD.zero) (decide (a.epoch=0)) (decide ((a.wraps.n:Int)=0)) (decide (a.n=0)) (decide (a.m=0))&&targetB a):=by
 have hm:mget (ruleL a) a.kind=some (2,targetB a):=by rw [h];rfl
 rw [ruleB,hm]
 simp only
 rw [ck]
 exact congrArg (·&&_) (cI (fs:=2) (by decide) _ _ _ _ _ _ _ _ _ _ _)
theorem Ca {a:ActD} (h:a.kind=9):ruleB a=(maskB 2 (seqB a.object ⟨#[]⟩) (seqB a.target ⟨#[]⟩) (decide (a.scope=0)) (seqB a.group ⟨#[]⟩) (decide ((a.to.n:Int)=0)) (seqB a.text ⟨#[]⟩) (boxEq a.body BoxD.zero) (decide (a.epoch=0)) (decide ((a.wraps.n:Int)=0)) (decide (a.n=0)) (decide (a.m=0))&&targetB a):=by
 have hm:mget (ruleL a) a.kind=some (2,targetB a):=by rw [h];rfl
 rw [ruleB,hm]
 simp only
 rw [ck]
 exact congrArg (·&&_) (cI (fs:=2) (by decide) _ _ _ _ _ _ _ _ _ _ _)
theorem Av {a:ActD} (h:a.kind=10):ruleB a=(maskB 2 (seqB a.object ⟨#[]⟩) (seqB a.target ⟨#[]⟩) (decide (a.scope=0)) (seqB a.group ⟨#[]⟩) (decide ((a.to.n:Int)=0)) (seqB a.text ⟨#[]⟩) (boxEq a.body BoxD.zero) (decide (a.epoch=0)) (decide ((a.wraps.n:Int)=0)) (decide (a.n=0)) (decide (a.m=0))&&targetB a):=by
 have hm:mget (ruleL a) a.kind=some (2,targetB a):=by rw [h];rfl
 rw [ruleB,hm]
 simp only
 rw [ck]
 exact congrArg (·&&_) (cI (fs:=2) (by decide) _ _ _ _ _ _ _ _ _ _ _)
theorem Au {a:ActD} (h:a.kind=11):ruleB a=(maskB 2 (seqB a.object ⟨#[]⟩) (seqB a.target ⟨#[]⟩) (decide (a.scope=0)) (seqB a.group ⟨#[]⟩) (decide ((a.to.n:Int)=0)) (seqB a.text ⟨#[]⟩) (boxEq a.body BoxD.zero) (decide (a.epoch=0)) (decide ((a.wraps.n:Int)=0)) (decide (a.n=0)) (decide (a.m=0))&&targetB a):=by
 have hm:mget (ruleL a) a.kind=some (2,targetB a):=by rw [h];rfl
 rw [ruleB,hm]
 simp only
 rw [ck]
 exact congrArg (·&&_) (cI (fs:=2) (by decide) _ _ _ _ _ _ _ _ _ _ _)
theorem As {a:ActD} (h:a.kind=12):ruleB a=(maskB 33 (seqB a.object ⟨#[]⟩) (seqB a.target ⟨#[]⟩) (decide (a.scope=0)) (seqB a.group ⟨#[]⟩) (decide ((a.to.n:Int)=0)) (seqB a.text ⟨#[]⟩) (boxEq a.body BoxD.zero) (decide (a.epoch=0)) (decide ((a.wraps.n:Int)=0)) (decide (a.n=0)) (decide (a.m=0))&&rule2B a):=by
 have hm:mget (ruleL a) a.kind=some (33,rule2B a):=by rw [h];rfl
 rw [ruleB,hm]
 simp only
 rw [ck]
 exact congrArg (·&&_) (cI (fs:=33) (by decide) _ _ _ _ _ _ _ _ _ _ _)
theorem Ar {a:ActD} (h:a.kind=13):ruleB a=(maskB 1 (seqB a.object ⟨#[]⟩) (seqB a.target ⟨#[]⟩) (decide (a.scope=0)) (seqB a.group ⟨#[]⟩) (decide ((a.to.n:Int)=0)) (seqB a.text ⟨#[]⟩) (boxEq a.body BoxD.zero) (decide (a.epoch=0)) (decide ((a.wraps.n:Int)=0)) (decide (a.n=0)) (decide (a.m=0))&&objectB a):=by
 have hm:mget (ruleL a) a.kind=some (1,objectB a):=by rw [h];rfl
 rw [ruleB,hm]
 simp only
 rw [ck]
 exact congrArg (·&&_) (cI (fs:=1) (by decide) _ _ _ _ _ _ _ _ _ _ _)
theorem Aq {a:ActD} (h:a.kind=14):ruleB a=(maskB 253 (seqB a.object ⟨#[]⟩) (seqB a.target ⟨#[]⟩) (decide (a.scope=0)) (seqB a.group ⟨#[]⟩) (decide ((a.to.n:Int)=0)) (seqB a.text ⟨#[]⟩) (boxEq a.body BoxD.zero) (decide (a.epoch=0)) (decide ((a.wraps.n:Int)=0)) (decide (a.n=0)) (decide (a.m=0))&&rule1B a):=by
 have hm:mget (ruleL a) a.kind=some (253,rule1B a):=by rw [h];rfl
 rw [ruleB,hm]
 simp only
 rw [ck]
 exact congrArg (·&&_) (cI (fs:=253) (by decide) _ _ _ _ _ _ _ _ _ _ _)
theorem Ap {a:ActD} (h:a.kind=15):ruleB a=(maskB 24 (seqB a.object ⟨#[]⟩) (seqB a.target ⟨#[]⟩) (decide (a.scope=0)) (seqB a.group ⟨#[]⟩) (decide ((a.to.n:Int)=0)) (seqB a.text ⟨#[]⟩) (boxEq a.body BoxD.zero) (decide (a.epoch=0)) (decide ((a.wraps.n:Int)=0)) (decide (a.n=0)) (decide (a.m=0))&&rule4B a):=by
 have hm:mget (ruleL a) a.kind=some (24,rule4B a):=by rw [h];rfl
 rw [ruleB,hm]
 simp only
 rw [ck]
 exact congrArg (·&&_) (cI (fs:=24) (by decide) _ _ _ _ _ _ _ _ _ _ _)
theorem Ao {a:ActD} (h:a.kind=16):ruleB a=(maskB 412 (seqB a.object ⟨#[]⟩) (seqB a.target ⟨#[]⟩) (decide (a.scope=0)) (seqB a.group ⟨#[]⟩) (decide ((a.to.n:Int)=0)) (seqB a.text ⟨#[]⟩) (boxEq a.body BoxD.zero) (decide (a.epoch=0)) (decide ((a.wraps.n:Int)=0)) (decide (a.n=0)) (decide (a.m=0))&&grantB a):=by
 have hm:mget (ruleL a) a.kind=some (412,grantB a):=by rw [h];rfl
 rw [ruleB,hm]
 simp only
 rw [ck]
 exact congrArg (·&&_) (cI (fs:=412) (by decide) _ _ _ _ _ _ _ _ _ _ _)
theorem An {a:ActD} (h:a.kind=17):ruleB a=(maskB 35 (seqB a.object ⟨#[]⟩) (seqB a.target ⟨#[]⟩) (decide (a.scope=0)) (seqB a.group ⟨#[]⟩) (decide ((a.to.n:Int)=0)) (seqB a.text ⟨#[]⟩) (boxEq a.body BoxD.zero) (decide (a.epoch=0)) (decide ((a.wraps.n:Int)=0)) (decide (a.n=0)) (decide (a.m=0))&&labelB a):=by
 have hm:mget (ruleL a) a.kind=some (35,labelB a):=by rw [h];rfl
 rw [ruleB,hm]
 simp only
 rw [ck]
 exact congrArg (·&&_) (cI (fs:=35) (by decide) _ _ _ _ _ _ _ _ _ _ _)
theorem Am {a:ActD} (h:a.kind=18):ruleB a=(maskB 1536 (seqB a.object ⟨#[]⟩) (seqB a.target ⟨#[]⟩) (decide (a.scope=0)) (seqB a.group ⟨#[]⟩) (decide ((a.to.n:Int)=0)) (seqB a.text ⟨#[]⟩) (boxEq a.body BoxD.zero) (decide (a.epoch=0)) (decide ((a.wraps.n:Int)=0)) (decide (a.n=0)) (decide (a.m=0))&&homeB a):=by
 have hm:mget (ruleL a) a.kind=some (1536,homeB a):=by rw [h];rfl
 rw [ruleB,hm]
 simp only
 rw [ck]
 exact congrArg (·&&_) (cI (fs:=1536) (by decide) _ _ _ _ _ _ _ _ _ _ _)
theorem Al {a:ActD} (h:a.kind=19):ruleB a=(maskB 1808 (seqB a.object ⟨#[]⟩) (seqB a.target ⟨#[]⟩) (decide (a.scope=0)) (seqB a.group ⟨#[]⟩) (decide ((a.to.n:Int)=0)) (seqB a.text ⟨#[]⟩) (boxEq a.body BoxD.zero) (decide (a.epoch=0)) (decide ((a.wraps.n:Int)=0)) (decide (a.n=0)) (decide (a.m=0))&&setupB a):=by
 have hm:mget (ruleL a) a.kind=some (1808,setupB a):=by rw [h];rfl
 rw [ruleB,hm]
 simp only
 rw [ck]
 exact congrArg (·&&_) (cI (fs:=1808) (by decide) _ _ _ _ _ _ _ _ _ _ _)
theorem Ak {a:ActD} (h:a.kind=20):ruleB a=(maskB 1 (seqB a.object ⟨#[]⟩) (seqB a.target ⟨#[]⟩) (decide (a.scope=0)) (seqB a.group ⟨#[]⟩) (decide ((a.to.n:Int)=0)) (seqB a.text ⟨#[]⟩) (boxEq a.body BoxD.zero) (decide (a.epoch=0)) (decide ((a.wraps.n:Int)=0)) (decide (a.n=0)) (decide (a.m=0))&&objectB a):=by
 have hm:mget (ruleL a) a.kind=some (1,objectB a):=by rw [h];rfl
 rw [ruleB,hm]
 simp only
 rw [ck]
 exact congrArg (·&&_) (cI (fs:=1) (by decide) _ _ _ _ _ _ _ _ _ _ _)
theorem Aj {a:ActD} (h:a.kind=21):ruleB a=(maskB 33 (seqB a.object ⟨#[]⟩) (seqB a.target ⟨#[]⟩) (decide (a.scope=0)) (seqB a.group ⟨#[]⟩) (decide ((a.to.n:Int)=0)) (seqB a.text ⟨#[]⟩) (boxEq a.body BoxD.zero) (decide (a.epoch=0)) (decide ((a.wraps.n:Int)=0)) (decide (a.n=0)) (decide (a.m=0))&&rule2B a):=by
 have hm:mget (ruleL a) a.kind=some (33,rule2B a):=by rw [h];rfl
 rw [ruleB,hm]
 simp only
 rw [ck]
 exact congrArg (·&&_) (cI (fs:=33) (by decide) _ _ _ _ _ _ _ _ _ _ _)
theorem Ai {a:ActD} (h:a.kind=22):ruleB a=(maskB 513 (seqB a.object ⟨#[]⟩) (seqB a.target ⟨#[]⟩) (decide (a.scope=0)) (seqB a.group ⟨#[]⟩) (decide ((a.to.n:Int)=0)) (seqB a.text ⟨#[]⟩) (boxEq a.body BoxD.zero) (decide (a.epoch=0)) (decide ((a.wraps.n:Int)=0)) (decide (a.n=0)) (decide (a.m=0))&&rule5B a):=by
 have hm:mget (ruleL a) a.kind=some (513,rule5B a):=by rw [h];rfl
 rw [ruleB,hm]
 simp only
 rw [ck]
 exact congrArg (·&&_) (cI (fs:=513) (by decide) _ _ _ _ _ _ _ _ _ _ _)
theorem Ag {a:ActD} (h:a.kind=23):ruleB a=(maskB 546 (seqB a.object ⟨#[]⟩) (seqB a.target ⟨#[]⟩) (decide (a.scope=0)) (seqB a.group ⟨#[]⟩) (decide ((a.to.n:Int)=0)) (seqB a.text ⟨#[]⟩) (boxEq a.body BoxD.zero) (decide (a.epoch=0)) (decide ((a.wraps.n:Int)=0)) (decide (a.n=0)) (decide (a.m=0))&&rule6B a):=by
 have hm:mget (ruleL a) a.kind=some (546,rule6B a):=by rw [h];rfl
 rw [ruleB,hm]
 simp only
 rw [ck]
 exact congrArg (·&&_) (cI (fs:=546) (by decide) _ _ _ _ _ _ _ _ _ _ _)
theorem uN {a:ActD} (h:¬ (0≤a.kind∧a.kind≤23)):ruleB a=false:=by
 have hm:mget (ruleL a) a.kind=none:=by
  rw [ruleL]
  rw [mget,show KeyT.eqb a.kind 0=false from decide_eq_false ag,cond_false]
  rw [mget,show KeyT.eqb a.kind 1=false from decide_eq_false ag,cond_false]
  rw [mget,show KeyT.eqb a.kind 2=false from decide_eq_false ag,cond_false]
  rw [mget,show KeyT.eqb a.kind 3=false from decide_eq_false ag,cond_false]
  rw [mget,show KeyT.eqb a.kind 14=false from decide_eq_false ag,cond_false]
  rw [mget,show KeyT.eqb a.kind 4=false from decide_eq_false ag,cond_false]
  rw [mget,show KeyT.eqb a.kind 5=false from decide_eq_false ag,cond_false]
  rw [mget,show KeyT.eqb a.kind 6=false from decide_eq_false ag,cond_false]
  rw [mget,show KeyT.eqb a.kind 13=false from decide_eq_false ag,cond_false]
  rw [mget,show KeyT.eqb a.kind 20=false from decide_eq_false ag,cond_false]
  rw [mget,show KeyT.eqb a.kind 7=false from decide_eq_false ag,cond_false]
  rw [mget,show KeyT.eqb a.kind 8=false from decide_eq_false ag,cond_false]
  rw [mget,show KeyT.eqb a.kind 9=false from decide_eq_false ag,cond_false]
  rw [mget,show KeyT.eqb a.kind 10=false from decide_eq_false ag,cond_false]
  rw [mget,show KeyT.eqb a.kind 11=false from decide_eq_false ag,cond_false]
  rw [mget,show KeyT.eqb a.kind 12=false from decide_eq_false ag,cond_false]
  rw [mget,show KeyT.eqb a.kind 21=false from decide_eq_false ag,cond_false]
  rw [mget,show KeyT.eqb a.kind 15=false from decide_eq_false ag,cond_false]
  rw [mget,show KeyT.eqb a.kind 16=false from decide_eq_false ag,cond_false]
  rw [mget,show KeyT.eqb a.kind 17=false from decide_eq_false ag,cond_false]
  rw [mget,show KeyT.eqb a.kind 18=false from decide_eq_false ag,cond_false]
  rw [mget,show KeyT.eqb a.kind 19=false from decide_eq_false ag,cond_false]
  rw [mget,show KeyT.eqb a.kind 22=false from decide_eq_false ag,cond_false]
  rw [mget,show KeyT.eqb a.kind 23=false from decide_eq_false ag,cond_false]
  rfl
 rw [ruleB,hm]
theorem zS:seqB (⟨#[]⟩:ByteArray) ⟨#[]⟩=true:=by kernel_rfl
theorem zB:boxEq BoxD.zero BoxD.zero=true:=by kernel_rfl
theorem zI:decide ((0:Int)=0)=true:=rfl
theorem zN:decide (((0:Nat):Int)=0)=true:=rfl
theorem la:Nat.testBit 1 0=true:=by decide +kernel
theorem k9:Nat.testBit 1 1=false:=by decide +kernel
theorem k8:Nat.testBit 1 2=false:=by decide +kernel
theorem k7:Nat.testBit 1 3=false:=by decide +kernel
theorem k0:Nat.testBit 1 4=false:=by decide +kernel
theorem kZ:Nat.testBit 1 5=false:=by decide +kernel
theorem kY:Nat.testBit 1 6=false:=by decide +kernel
theorem kX:Nat.testBit 1 7=false:=by decide +kernel
theorem kW:Nat.testBit 1 8=false:=by decide +kernel
theorem kV:Nat.testBit 1 9=false:=by decide +kernel
theorem ij:Nat.testBit 1 10=false:=by decide +kernel
theorem kJ:Nat.testBit 2 0=false:=by decide +kernel
theorem kI:Nat.testBit 2 1=true:=by decide +kernel
theorem kH:Nat.testBit 2 2=false:=by decide +kernel
theorem kG:Nat.testBit 2 3=false:=by decide +kernel
theorem kF:Nat.testBit 2 4=false:=by decide +kernel
theorem kE:Nat.testBit 2 5=false:=by decide +kernel
theorem kD:Nat.testBit 2 6=false:=by decide +kernel
theorem kB:Nat.testBit 2 7=false:=by decide +kernel
theorem kA:Nat.testBit 2 8=false:=by decide +kernel
theorem kz:Nat.testBit 2 9=false:=by decide +kernel
theorem ii:Nat.testBit 2 10=false:=by decide +kernel
theorem zP:Nat.testBit 24 0=false:=by decide +kernel
theorem zO:Nat.testBit 24 1=false:=by decide +kernel
theorem zM:Nat.testBit 24 2=false:=by decide +kernel
theorem zL:Nat.testBit 24 3=true:=by decide +kernel
theorem zK:Nat.testBit 24 4=true:=by decide +kernel
theorem zJ:Nat.testBit 24 5=false:=by decide +kernel
theorem zH:Nat.testBit 24 6=false:=by decide +kernel
theorem zG:Nat.testBit 24 7=false:=by decide +kernel
theorem zF:Nat.testBit 24 8=false:=by decide +kernel
theorem zE:Nat.testBit 24 9=false:=by decide +kernel
theorem wU:Nat.testBit 24 10=false:=by decide +kernel
theorem rZ:Nat.testBit 33 0=true:=by decide +kernel
theorem rY:Nat.testBit 33 1=false:=by decide +kernel
theorem rX:Nat.testBit 33 2=false:=by decide +kernel
theorem rW:Nat.testBit 33 3=false:=by decide +kernel
theorem rV:Nat.testBit 33 4=false:=by decide +kernel
theorem rU:Nat.testBit 33 5=true:=by decide +kernel
theorem rT:Nat.testBit 33 6=false:=by decide +kernel
theorem rS:Nat.testBit 33 7=false:=by decide +kernel
theorem rR:Nat.testBit 33 8=false:=by decide +kernel
theorem rQ:Nat.testBit 33 9=false:=by decide +kernel
theorem oI:Nat.testBit 33 10=false:=by decide +kernel
theorem zD:Nat.testBit 35 0=true:=by decide +kernel
theorem zC:Nat.testBit 35 1=true:=by decide +kernel
theorem zA:Nat.testBit 35 2=false:=by decide +kernel
theorem zz:Nat.testBit 35 3=false:=by decide +kernel
theorem zy:Nat.testBit 35 4=false:=by decide +kernel
theorem zx:Nat.testBit 35 5=true:=by decide +kernel
theorem zw:Nat.testBit 35 6=false:=by decide +kernel
theorem zu:Nat.testBit 35 7=false:=by decide +kernel
theorem zt:Nat.testBit 35 8=false:=by decide +kernel
theorem zr:Nat.testBit 35 9=false:=by decide +kernel
theorem wJ:Nat.testBit 35 10=false:=by decide +kernel
theorem wT:Nat.testBit 252 0=false:=by decide +kernel
theorem wS:Nat.testBit 252 1=false:=by decide +kernel
theorem wR:Nat.testBit 252 2=true:=by decide +kernel
theorem wQ:Nat.testBit 252 3=true:=by decide +kernel
theorem wP:Nat.testBit 252 4=true:=by decide +kernel
theorem wO:Nat.testBit 252 5=true:=by decide +kernel
theorem wN:Nat.testBit 252 6=true:=by decide +kernel
theorem wM:Nat.testBit 252 7=true:=by decide +kernel
theorem wL:Nat.testBit 252 8=false:=by decide +kernel
theorem wK:Nat.testBit 252 9=false:=by decide +kernel
theorem tJ:Nat.testBit 252 10=false:=by decide +kernel
theorem kU:Nat.testBit 253 0=true:=by decide +kernel
theorem kT:Nat.testBit 253 1=false:=by decide +kernel
theorem kS:Nat.testBit 253 2=true:=by decide +kernel
theorem kR:Nat.testBit 253 3=true:=by decide +kernel
theorem kQ:Nat.testBit 253 4=true:=by decide +kernel
theorem kP:Nat.testBit 253 5=true:=by decide +kernel
theorem kO:Nat.testBit 253 6=true:=by decide +kernel
theorem kM:Nat.testBit 253 7=true:=by decide +kernel
theorem kL:Nat.testBit 253 8=false:=by decide +kernel
theorem kK:Nat.testBit 253 9=false:=by decide +kernel
theorem iZ:Nat.testBit 253 10=false:=by decide +kernel
theorem wI:Nat.testBit 412 0=false:=by decide +kernel
theorem wH:Nat.testBit 412 1=false:=by decide +kernel
theorem wG:Nat.testBit 412 2=true:=by decide +kernel
theorem wF:Nat.testBit 412 3=true:=by decide +kernel
theorem wE:Nat.testBit 412 4=true:=by decide +kernel
theorem wD:Nat.testBit 412 5=false:=by decide +kernel
theorem wC:Nat.testBit 412 6=false:=by decide +kernel
theorem wB:Nat.testBit 412 7=true:=by decide +kernel
theorem wA:Nat.testBit 412 8=true:=by decide +kernel
theorem wz:Nat.testBit 412 9=false:=by decide +kernel
theorem tI:Nat.testBit 412 10=false:=by decide +kernel
theorem wy:Nat.testBit 513 0=true:=by decide +kernel
theorem wx:Nat.testBit 513 1=false:=by decide +kernel
theorem wu:Nat.testBit 513 2=false:=by decide +kernel
theorem wt:Nat.testBit 513 3=false:=by decide +kernel
theorem wr:Nat.testBit 513 4=false:=by decide +kernel
theorem wq:Nat.testBit 513 5=false:=by decide +kernel
theorem wo:Nat.testBit 513 6=false:=by decide +kernel
theorem wm:Nat.testBit 513 7=false:=by decide +kernel
theorem wk:Nat.testBit 513 8=false:=by decide +kernel
theorem wj:Nat.testBit 513 9=true:=by decide +kernel
theorem tH:Nat.testBit 513 10=false:=by decide +kernel
theorem wi:Nat.testBit 546 0=false:=by decide +kernel
theorem wg:Nat.testBit 546 1=true:=by decide +kernel
theorem we:Nat.testBit 546 2=false:=by decide +kernel
theorem wd:Nat.testBit 546 3=false:=by decide +kernel
theorem wc:Nat.testBit 546 4=false:=by decide +kernel
theorem wb:Nat.testBit 546 5=true:=by decide +kernel
theorem wa:Nat.testBit 546 6=false:=by decide +kernel
theorem vZ:Nat.testBit 546 7=false:=by decide +kernel
theorem vY:Nat.testBit 546 8=false:=by decide +kernel
theorem vX:Nat.testBit 546 9=true:=by decide +kernel
theorem tG:Nat.testBit 546 10=false:=by decide +kernel
theorem un:Nat.testBit 1536 0=false:=by decide +kernel
theorem um:Nat.testBit 1536 1=false:=by decide +kernel
theorem ul:Nat.testBit 1536 2=false:=by decide +kernel
theorem uk:Nat.testBit 1536 3=false:=by decide +kernel
theorem uj:Nat.testBit 1536 4=false:=by decide +kernel
theorem ui:Nat.testBit 1536 5=false:=by decide +kernel
theorem ug:Nat.testBit 1536 6=false:=by decide +kernel
theorem uf:Nat.testBit 1536 7=false:=by decide +kernel
theorem ue:Nat.testBit 1536 8=false:=by decide +kernel
theorem ud:Nat.testBit 1536 9=true:=by decide +kernel
theorem qs:Nat.testBit 1536 10=true:=by decide +kernel
theorem uc:Nat.testBit 1568 0=false:=by decide +kernel
theorem ub:Nat.testBit 1568 1=false:=by decide +kernel
theorem ua:Nat.testBit 1568 2=false:=by decide +kernel
theorem t8:Nat.testBit 1568 3=false:=by decide +kernel
theorem tZ:Nat.testBit 1568 4=false:=by decide +kernel
theorem tY:Nat.testBit 1568 5=true:=by decide +kernel
theorem tX:Nat.testBit 1568 6=false:=by decide +kernel
theorem tW:Nat.testBit 1568 7=false:=by decide +kernel
theorem tV:Nat.testBit 1568 8=false:=by decide +kernel
theorem tU:Nat.testBit 1568 9=true:=by decide +kernel
theorem qr:Nat.testBit 1568 10=true:=by decide +kernel
theorem tT:Nat.testBit 1808 0=false:=by decide +kernel
theorem tS:Nat.testBit 1808 1=false:=by decide +kernel
theorem tR:Nat.testBit 1808 2=false:=by decide +kernel
theorem tQ:Nat.testBit 1808 3=false:=by decide +kernel
theorem tP:Nat.testBit 1808 4=true:=by decide +kernel
theorem tO:Nat.testBit 1808 5=false:=by decide +kernel
theorem tN:Nat.testBit 1808 6=false:=by decide +kernel
theorem tM:Nat.testBit 1808 7=false:=by decide +kernel
theorem tL:Nat.testBit 1808 8=true:=by decide +kernel
theorem tK:Nat.testBit 1808 9=true:=by decide +kernel
theorem qq:Nat.testBit 1808 10=true:=by decide +kernel
theorem CL {a:ActD} (h:a.kind=0):fitsR a=ruleB a:=by
 rw [Ck h,fitsR,h,BM,sD]
 simp only [zeroR,bareA,maskB,zS,zB,zI,zN,uc,ub,ua,t8,tZ,tY,tX,tW,tV,tU,qr,Bool.true_and,Bool.and_true,Bool.true_or,Bool.false_or,rule1B,rule2B,rule3B,rule4B,rule5B,rule6B,objectB,targetB,homeB,isDigestB,isShortB,withinB,lt20,grantB,setupB,bO]
 ac_rfl
theorem CK {a:ActD} (h:a.kind=1):fitsR a=ruleB a:=by
 rw [Cj h,fitsR,h,BL,sC]
 simp only [zeroR,bareA,maskB,zS,zB,zI,zN,wT,wS,wR,wQ,wP,wO,wN,wM,wL,wK,tJ,Bool.true_and,Bool.and_true,Bool.true_or,Bool.false_or,rule1B,rule2B,rule3B,rule4B,rule5B,rule6B,objectB,targetB,homeB,isDigestB,isShortB,withinB,lt20,grantB,setupB,bO]
 ac_rfl
theorem CJ {a:ActD} (h:a.kind=2):fitsR a=ruleB a:=by
 rw [Ci h,fitsR,h,BK,sB]
 simp only [zeroR,bareA,maskB,zS,zB,zI,zN,kU,kT,kS,kR,kQ,kP,kO,kM,kL,kK,iZ,Bool.true_and,Bool.and_true,Bool.true_or,Bool.false_or,rule1B,rule2B,rule3B,rule4B,rule5B,rule6B,objectB,targetB,homeB,isDigestB,isShortB,withinB,lt20,grantB,setupB,bO]
 ac_rfl
theorem CI {a:ActD} (h:a.kind=3):fitsR a=ruleB a:=by
 rw [Cg h,fitsR,h,BJ,sA]
 simp only [zeroR,bareA,maskB,zS,zB,zI,zN,kU,kT,kS,kR,kQ,kP,kO,kM,kL,kK,iZ,Bool.true_and,Bool.and_true,Bool.true_or,Bool.false_or,rule1B,rule2B,rule3B,rule4B,rule5B,rule6B,objectB,targetB,homeB,isDigestB,isShortB,withinB,lt20,grantB,setupB,bO]
 ac_rfl
theorem CH {a:ActD} (h:a.kind=4):fitsR a=ruleB a:=by
 rw [Cf h,fitsR,h,BI,sz]
 simp only [zeroR,bareA,maskB,zS,zB,zI,zN,la,k9,k8,k7,k0,kZ,kY,kX,kW,kV,ij,Bool.true_and,Bool.and_true,Bool.true_or,Bool.false_or,rule1B,rule2B,rule3B,rule4B,rule5B,rule6B,objectB,targetB,homeB,isDigestB,isShortB,withinB,lt20,grantB,setupB,bO]
 ac_rfl
theorem CG {a:ActD} (h:a.kind=5):fitsR a=ruleB a:=by
 rw [Ce h,fitsR,h,BH,sy]
 simp only [zeroR,bareA,maskB,zS,zB,zI,zN,la,k9,k8,k7,k0,kZ,kY,kX,kW,kV,ij,Bool.true_and,Bool.and_true,Bool.true_or,Bool.false_or,rule1B,rule2B,rule3B,rule4B,rule5B,rule6B,objectB,targetB,homeB,isDigestB,isShortB,withinB,lt20,grantB,setupB,bO]
 ac_rfl
theorem CF {a:ActD} (h:a.kind=6):fitsR a=ruleB a:=by
 rw [Cd h,fitsR,h,BG,sx]
 simp only [zeroR,bareA,maskB,zS,zB,zI,zN,la,k9,k8,k7,k0,kZ,kY,kX,kW,kV,ij,Bool.true_and,Bool.and_true,Bool.true_or,Bool.false_or,rule1B,rule2B,rule3B,rule4B,rule5B,rule6B,objectB,targetB,homeB,isDigestB,isShortB,withinB,lt20,grantB,setupB,bO]
 ac_rfl
theorem CE {a:ActD} (h:a.kind=7):fitsR a=ruleB a:=by
 rw [Cc h,fitsR,h,BF,sv]
 simp only [zeroR,bareA,maskB,zS,zB,zI,zN,kJ,kI,kH,kG,kF,kE,kD,kB,kA,kz,ii,Bool.true_and,Bool.and_true,Bool.true_or,Bool.false_or,rule1B,rule2B,rule3B,rule4B,rule5B,rule6B,objectB,targetB,homeB,isDigestB,isShortB,withinB,lt20,grantB,setupB,bO]
 ac_rfl
theorem CD {a:ActD} (h:a.kind=8):fitsR a=ruleB a:=by
 rw [Cb h,fitsR,h,BE,su]
 simp only [zeroR,bareA,maskB,zS,zB,zI,zN,kJ,kI,kH,kG,kF,kE,kD,kB,kA,kz,ii,Bool.true_and,Bool.and_true,Bool.true_or,Bool.false_or,rule1B,rule2B,rule3B,rule4B,rule5B,rule6B,objectB,targetB,homeB,isDigestB,isShortB,withinB,lt20,grantB,setupB,bO]
 ac_rfl
theorem CC {a:ActD} (h:a.kind=9):fitsR a=ruleB a:=by
 rw [Ca h,fitsR,h,BD,sr]
 simp only [zeroR,bareA,maskB,zS,zB,zI,zN,kJ,kI,kH,kG,kF,kE,kD,kB,kA,kz,ii,Bool.true_and,Bool.and_true,Bool.true_or,Bool.false_or,rule1B,rule2B,rule3B,rule4B,rule5B,rule6B,objectB,targetB,homeB,isDigestB,isShortB,withinB,lt20,grantB,setupB,bO]
 ac_rfl
theorem Bp {a:ActD} (h:a.kind=10):fitsR a=ruleB a:=by
 rw [Av h,fitsR,h,xY,pf]
 simp only [zeroR,bareA,maskB,zS,zB,zI,zN,kJ,kI,kH,kG,kF,kE,kD,kB,kA,kz,ii,Bool.true_and,Bool.and_true,Bool.true_or,Bool.false_or,rule1B,rule2B,rule3B,rule4B,rule5B,rule6B,objectB,targetB,homeB,isDigestB,isShortB,withinB,lt20,grantB,setupB,bO]
 ac_rfl
theorem Bo {a:ActD} (h:a.kind=11):fitsR a=ruleB a:=by
 rw [Au h,fitsR,h,xX,pe]
 simp only [zeroR,bareA,maskB,zS,zB,zI,zN,kJ,kI,kH,kG,kF,kE,kD,kB,kA,kz,ii,Bool.true_and,Bool.and_true,Bool.true_or,Bool.false_or,rule1B,rule2B,rule3B,rule4B,rule5B,rule6B,objectB,targetB,homeB,isDigestB,isShortB,withinB,lt20,grantB,setupB,bO]
 ac_rfl
theorem Bn {a:ActD} (h:a.kind=12):fitsR a=ruleB a:=by
 rw [As h,fitsR,h,xW,pd]
 simp only [zeroR,bareA,maskB,zS,zB,zI,zN,rZ,rY,rX,rW,rV,rU,rT,rS,rR,rQ,oI,Bool.true_and,Bool.and_true,Bool.true_or,Bool.false_or,rule1B,rule2B,rule3B,rule4B,rule5B,rule6B,objectB,targetB,homeB,isDigestB,isShortB,withinB,lt20,grantB,setupB,bO]
 ac_rfl
theorem Bl {a:ActD} (h:a.kind=13):fitsR a=ruleB a:=by
 rw [Ar h,fitsR,h,xV,pc]
 simp only [zeroR,bareA,maskB,zS,zB,zI,zN,la,k9,k8,k7,k0,kZ,kY,kX,kW,kV,ij,Bool.true_and,Bool.and_true,Bool.true_or,Bool.false_or,rule1B,rule2B,rule3B,rule4B,rule5B,rule6B,objectB,targetB,homeB,isDigestB,isShortB,withinB,lt20,grantB,setupB,bO]
 ac_rfl
theorem Bk {a:ActD} (h:a.kind=14):fitsR a=ruleB a:=by
 rw [Aq h,fitsR,h,xU,pb]
 simp only [zeroR,bareA,maskB,zS,zB,zI,zN,kU,kT,kS,kR,kQ,kP,kO,kM,kL,kK,iZ,Bool.true_and,Bool.and_true,Bool.true_or,Bool.false_or,rule1B,rule2B,rule3B,rule4B,rule5B,rule6B,objectB,targetB,homeB,isDigestB,isShortB,withinB,lt20,grantB,setupB,bO]
 ac_rfl
theorem Bj {a:ActD} (h:a.kind=15):fitsR a=ruleB a:=by
 rw [Ap h,fitsR,h,xT,pa]
 simp only [zeroR,bareA,maskB,zS,zB,zI,zN,zP,zO,zM,zL,zK,zJ,zH,zG,zF,zE,wU,Bool.true_and,Bool.and_true,Bool.true_or,Bool.false_or,rule1B,rule2B,rule3B,rule4B,rule5B,rule6B,objectB,targetB,homeB,isDigestB,isShortB,withinB,lt20,grantB,setupB,bO]
 ac_rfl
theorem Bi {a:ActD} (h:a.kind=16):fitsR a=ruleB a:=by
 rw [Ao h,fitsR,h,xS,o9]
 simp only [zeroR,bareA,maskB,zS,zB,zI,zN,wI,wH,wG,wF,wE,wD,wC,wB,wA,wz,tI,Bool.true_and,Bool.and_true,Bool.true_or,Bool.false_or,rule1B,rule2B,rule3B,rule4B,rule5B,rule6B,objectB,targetB,homeB,isDigestB,isShortB,withinB,lt20,grantB,setupB,bO]
 ac_rfl
theorem Bg {a:ActD} (h:a.kind=17):fitsR a=ruleB a:=by
 rw [An h,fitsR,h,xR,o8]
 simp only [zeroR,bareA,maskB,zS,zB,zI,zN,zD,zC,zA,zz,zy,zx,zw,zu,zt,zr,wJ,Bool.true_and,Bool.and_true,Bool.true_or,Bool.false_or,rule1B,rule2B,rule3B,rule4B,rule5B,rule6B,objectB,targetB,homeB,isDigestB,isShortB,withinB,lt20,grantB,setupB,bO]
 rw [labelB,objectB,targetB,isDigestB]
 cases hz:seqB a.object ⟨#[]⟩ with
 | true =>
  rw [ro _ hz]
  cases isName a.text<;>simp [Bool.and_comm,Bool.and_assoc]
 | false=>cases isName a.text<;>cases decide ((a.object.size:Int)=32)<;>cases seqB a.target ⟨#[]⟩<;>simp [Bool.and_comm,Bool.and_assoc]
theorem Bf {a:ActD} (h:a.kind=18):fitsR a=ruleB a:=by
 rw [Am h,fitsR,h,xQ,o7]
 simp only [zeroR,bareA,maskB,zS,zB,zI,zN,un,um,ul,uk,uj,ui,ug,uf,ue,ud,qs,Bool.true_and,Bool.and_true,Bool.true_or,Bool.false_or,rule1B,rule2B,rule3B,rule4B,rule5B,rule6B,objectB,targetB,homeB,isDigestB,isShortB,withinB,lt20,grantB,setupB,bO]
 ac_rfl
theorem Be {a:ActD} (h:a.kind=19):fitsR a=ruleB a:=by
 rw [Al h,fitsR,h,xP,o6]
 simp only [zeroR,bareA,maskB,zS,zB,zI,zN,tT,tS,tR,tQ,tP,tO,tN,tM,tL,tK,qq,Bool.true_and,Bool.and_true,Bool.true_or,Bool.false_or,rule1B,rule2B,rule3B,rule4B,rule5B,rule6B,objectB,targetB,homeB,isDigestB,isShortB,withinB,lt20,grantB,setupB,bO]
 ac_rfl
theorem Bd {a:ActD} (h:a.kind=20):fitsR a=ruleB a:=by
 rw [Ak h,fitsR,h,xO,o5]
 simp only [zeroR,bareA,maskB,zS,zB,zI,zN,la,k9,k8,k7,k0,kZ,kY,kX,kW,kV,ij,Bool.true_and,Bool.and_true,Bool.true_or,Bool.false_or,rule1B,rule2B,rule3B,rule4B,rule5B,rule6B,objectB,targetB,homeB,isDigestB,isShortB,withinB,lt20,grantB,setupB,bO]
 ac_rfl
theorem Bc {a:ActD} (h:a.kind=21):fitsR a=ruleB a:=by
 rw [Aj h,fitsR,h,xN,o4]
 simp only [zeroR,bareA,maskB,zS,zB,zI,zN,rZ,rY,rX,rW,rV,rU,rT,rS,rR,rQ,oI,Bool.true_and,Bool.and_true,Bool.true_or,Bool.false_or,rule1B,rule2B,rule3B,rule4B,rule5B,rule6B,objectB,targetB,homeB,isDigestB,isShortB,withinB,lt20,grantB,setupB,bO]
 ac_rfl
theorem Bb {a:ActD} (h:a.kind=22):fitsR a=ruleB a:=by
 rw [Ai h,fitsR,h,xM,o0]
 simp only [zeroR,bareA,maskB,zS,zB,zI,zN,wy,wx,wu,wt,wr,wq,wo,wm,wk,wj,tH,Bool.true_and,Bool.and_true,Bool.true_or,Bool.false_or,rule1B,rule2B,rule3B,rule4B,rule5B,rule6B,objectB,targetB,homeB,isDigestB,isShortB,withinB,lt20,grantB,setupB,bO]
 ac_rfl
theorem Ba {a:ActD} (h:a.kind=23):fitsR a=ruleB a:=by
 rw [Ag h,fitsR,h,xL,oZ]
 simp only [zeroR,bareA,maskB,zS,zB,zI,zN,wi,wg,we,wd,wc,wb,wa,vZ,vY,vX,tG,Bool.true_and,Bool.and_true,Bool.true_or,Bool.false_or,rule1B,rule2B,rule3B,rule4B,rule5B,rule6B,objectB,targetB,homeB,isDigestB,isShortB,withinB,lt20,grantB,setupB,bO]
 ac_rfl
theorem A9 (a:ActD):fitsR a=ruleB a:=by
 by_cases hk:0≤a.kind∧a.kind≤23
 · rcases m7 hk with h|h|h|h|h|h|h|h|h|h|h|h|h|h|h|h|h|h|h|h|h|h|h|h
   · exact CL h
   · exact CK h
   · exact CJ h
   · exact CI h
   · exact CH h
   · exact CG h
   · exact CF h
   · exact CE h
   · exact CD h
   · exact CC h
   · exact Bp h
   · exact Bo h
   · exact Bn h
   · exact Bl h
   · exact Bk h
   · exact Bj h
   · exact Bi h
   · exact Bg h
   · exact Bf h
   · exact Be h
   · exact Bd h
   · exact Bc h
   · exact Bb h
   · exact Ba h
 · rw [uN hk,fitsR,py hk,Bool.false_and]
def numsR (a:ActD):Bool:=!isId a.author||(decide (a.seq<0)||(decide (1073741824<a.seq)||(decide (a.time<0)||(decide (1099511627776<a.time)||(decide (a.e<0)||(decide (2305843009213693950≤a.e)||(decide (a.s<0)||decide (2305843009213693950≤a.s))))))))
def seqR (a:ActD):Bool:=decide (a.seq=0)&&(!seqB a.prev ⟨#[]⟩||!decide (a.kind=0))||decide (0<a.seq)&&(!decide ((a.prev.size:Int)=32)||decide (a.kind=0))
theorem dnot {p q:Prop} [Decidable p] [Decidable q] (h:p↔¬ q):decide p=!decide q:=by rw [←decide_not];exact decide_eq_decide.2 h
theorem xw (a:ActD):(bif numsR a then false else bif seqR a then false else fitsR a)=rightB a:=by
 rw [A9,rightB,numsR,seqR,placedB,withinB,withinB,withinB,withinB,isDigestB]
 rw [dnot (p:=a.seq<0) (q:=0≤a.seq) ag,dnot (p:=1073741824<a.seq) (q:=a.seq≤1073741824) ag,dnot (p:=a.time<0) (q:=0≤a.time) ag,dnot (p:=1099511627776<a.time) (q:=a.time≤1099511627776) ag,
  dnot (p:=a.e<0) (q:=0≤a.e) ag,dnot (p:=2305843009213693950≤a.e) (q:=a.e≤2305843009213693949) ag,dnot (p:=a.s<0) (q:=0≤a.s) ag,dnot (p:=2305843009213693950≤a.s) (q:=a.s≤2305843009213693949) (by omega)]
 cases isId a.author
 · rfl
 cases decide (0≤a.time)
 · cases decide (0≤a.seq)<;>cases decide (a.seq≤1073741824)<;>simp
 cases decide (a.time≤1099511627776)
 · cases decide (0≤a.seq)<;>cases decide (a.seq≤1073741824)<;>simp
 cases decide (0≤a.e)
 · cases decide (0≤a.seq)<;>cases decide (a.seq≤1073741824)<;>simp
 cases decide (a.e≤2305843009213693949)
 · cases decide (0≤a.seq)<;>cases decide (a.seq≤1073741824)<;>simp
 cases decide (0≤a.s)
 · cases decide (0≤a.seq)<;>cases decide (a.seq≤1073741824)<;>simp
 cases decide (a.s≤2305843009213693949)
 · cases decide (0≤a.seq)<;>cases decide (a.seq≤1073741824)<;>simp
 by_cases h0:a.seq=0
 · rw [h0]
   cases seqB a.prev ⟨#[]⟩<;>cases decide (a.kind=0)<;>simp
 by_cases h1:0<a.seq
 · rw [decide_eq_false h0,decide_eq_true h1,decide_eq_true (show 0≤a.seq by omega),decide_eq_true (show 1≤a.seq by omega)]
   cases decide (a.seq≤1073741824)<;>cases decide ((a.prev.size:Int)=32)<;>cases decide (a.kind=0)<;>simp
 · rw [decide_eq_false h0,decide_eq_false (show ¬ 0≤a.seq by omega),decide_eq_false (show ¬ 1≤a.seq by omega)]
   simp
set_option maxRecDepth 8000 in
set_option maxHeartbeats 8000000 in
theorem jC (a:ActD) (hs:a.Str):Pu Tryz.prog 227 #[a.v] (ActD.at_ · a) (.bool (rightB a)):=by
 refine aN (args:=[_]) _ Tryz.func227 rfl Tryz.ntmps227 rfl fun av bor w0=>?_
 rw [←xw]
 have c1:=lu a.author hs.author
 have c2:=qJ a hs
 repeat' (first|apply ab|apply aj|apply ai|refine ae ?_|refine ac ?_|refine aM ?_|refine aL ?_|refine aG ?_|refine aJ ?_|refine aH ?_|refine bE ?_|refine bR ?_|refine cZ ?_|refine bu ?_|refine cP ?_|refine cL ?_|refine dp ?_|refine cr ?_|refine aW ?_|refine bI ?_|refine dq ?_|refine aT fun _=>?_|refine aE ?_|refine aD ?_|apply ay|apply aA|(refine aC (hc:=c1) (hX:=fun _ _=>trivial) ?_)|(refine aC (hc:=c2) (hX:=fun w h=>h) ?_)|((fail_if_success (refine bA ?_));refine bj (ht:=?_) (hf:=?_);all_goals (intro hx_;first|have:=aY hx_|have:=aZ hx_|skip))|(refine aO (ht:=?_) (hf:=?_);all_goals (intro hx_;first|have:=aY hx_|have:=aZ hx_)))
 all_goals refine aq (aB rfl rfl) ?_
 all_goals first
  | rfl
  | (simp only [numsR,seqR, *,decide_true,decide_false,cond_true,cond_false,Bool.and_true,Bool.true_and,Bool.and_false,Bool.false_and,Bool.not_true,Bool.not_false,Bool.or_true,Bool.true_or,Bool.or_false,Bool.false_or];done)
  | (simp_all [numsR,seqR];done)
  | (simp_all [numsR,seqR];intros;omega)
  | skip
theorem mM (b:BoxD) (hb:b.Fit):Pu Tryz.prog 326 #[b.v] (fun _=>True) (.string (boxV b)):=by
 refine aN (args:=[_]) _ Tryz.func326 rfl Tryz.ntmps326 rfl fun av bor w0=>?_
 have h1:=bx b.nonce
 have h2:=bx b.data
 have h3:=bx b.tag
 have k1:=hb.nonce
 have k2:=hb.data
 have k3:=hb.tag
 repeat' (first|apply ab|apply aj|apply ai|refine ac ?_|refine aT fun _=>?_|fail)
 (apply ci;kernel_rfl)
 all_goals refine aa 0 ?_
 all_goals refine aa 1 ?_
 all_goals refine aa 3 ?_
 all_goals refine aa 4 ?_
 all_goals refine aa 7 ?_
 all_goals refine aa 8 ?_
 all_goals (refine ao 2 ?_;(refine aC (hc:=dc _ ag) ?_);apply ab;refine ak ?_)
 all_goals (refine ao 5 ?_;(refine aC (hc:=dc _ ag) ?_);apply ab;refine ak ?_)
 all_goals (refine aa 6 (hy:=by (apply cA;rfl;rfl;(try simp only [ByteArray.size_append]);omega)) ?_)
 all_goals (refine ao 9 ?_;(refine aC (hc:=dc _ ag) ?_);apply ab;refine ak ?_)
 all_goals (refine aa 10 (hy:=by (apply cA;rfl;rfl;(try simp only [ByteArray.size_append]);omega)) ?_)
 all_goals refine aa 11 ?_
 all_goals (refine aI ?_)
 repeat' (first|apply aA|fail)
 all_goals exact aq (aB rfl rfl) rfl
theorem vN {w:World} {p:Option Addr} {q:Nat} {x:WrapD} (h:∀ j u,x.cells[j]?=some u→CellAt w p (q+j) u):∀ j u,x.box.cells[j]?=some u→CellAt w p (q+2+j) u:=fun j u hj=>by
 have h1:=h (j+2) u hj
 rw [show q+2+j=q+(j+2) from by omega]
 exact h1
set_option maxRecDepth 8000 in
set_option maxHeartbeats 8000000 in
theorem qM (a:ActD) (hs:a.Str) (ha:rightB a=true→a.Fit):Pu Tryz.prog 287 #[a.v] (ActD.at_ · a) (.string (actCore a)):=by
 have hri:=jC a hs
 rw [actCore]
 cases hrB:rightB a with
 | false =>
  rw [hrB] at hri
  refine aN (args:=[_]) _ Tryz.func287 rfl Tryz.ntmps287 rfl fun av bor w0=>?_
  repeat' (first|apply ab|apply aj|apply ai|refine ae ?_|refine ac ?_|refine aG ?_|refine bE ?_|refine aT fun _=>?_|refine aE ?_|apply aA|(refine aC (hc:=hri) (hX:=fun w h=>h) ?_)|fail)
  exact aq (aB rfl rfl) rfl
 | true =>
 rw [hrB] at hri
 replace ha:=ha hrB
 refine aN (args:=[_]) _ Tryz.func287 rfl Tryz.ntmps287 rfl fun av bor w0=>?_
 refine bt (p:=a.wraps.n=a.wrapsL.length∧a.wraps.n≤maxLen∧(0<a.wrapsL.length→a.wraps.p.isSome=true)) (fun w h=>⟨h.2.len_,Nat.le_trans (RowsD.cap h.2) (RowsD.max h.2),h.2.some_⟩) fun ⟨hl,hm,hp⟩=>?_
 simp only [maxLen] at hm
 obtain ⟨i1,i2,i3,i4,i5,i6,i7,i8,i9⟩:=ha.ints
 have s1:=bx a.author
 have s2:=bx a.prev
 have s3:=bx a.object
 have s4:=bx a.target
 have s5:=bx a.group
 have s6:=bx a.text
 have s7:=bx ⟨#[97,99,116]⟩
 have s8:=fH ha.body
 have h1:=ha.author
 have h2:=ha.prev
 have h3:=ha.object
 have h4:=ha.target
 have h5:=ha.group
 have h6:=ha.text
 have h7:=ha.to
 have h8:(⟨#[97,99,116]⟩:ByteArray).size=3:=rfl
 have n1:=bw a.seq
 have n2:=bw a.kind
 have n3:=bw a.time
 have n4:=bw a.scope
 have n5:=bw a.epoch
 have n6:=bw a.wraps.n
 have n7:=bw a.n
 have n8:=bw a.m
 repeat' (first|apply ab|apply aj|apply ai|refine ae ?_|refine ac ?_|refine aG ?_|refine bE ?_|refine aT fun _=>?_|refine aD ?_|apply ay|(refine aC (hc:=hri) (hX:=fun w h=>h) ?_)|fail)
 (apply ci;kernel_rfl)
 all_goals refine aa 1 ?_
 all_goals refine aa 2 ?_
 all_goals refine aa 5 ?_
 all_goals refine aa 6 ?_
 all_goals refine aa 9 ?_
 all_goals refine aa 10 ?_
 all_goals refine aa 13 ?_
 all_goals refine aa 14 ?_
 all_goals refine aa 17 ?_
 all_goals refine aa 18 ?_
 all_goals (refine ao 0 ?_;(refine aC (hc:=dc _ ag) ?_);apply ab;refine ak ?_)
 all_goals (refine ao 3 ?_;(refine aC (hc:=dc _ ag) ?_);apply ab;refine ak ?_)
 all_goals (refine aa 4 (hy:=by (apply cA;rfl;rfl;(try simp only [ByteArray.size_append]);omega)) ?_)
 all_goals (refine ao 7 ?_;(refine aC (hc:=cQ _ ag) ?_);apply ab;refine ak ?_)
 all_goals (refine aa 8 (hy:=by (apply cA;rfl;rfl;(try simp only [ByteArray.size_append]);omega)) ?_)
 all_goals (refine ao 11 ?_;(refine aC (hc:=dc _ ag) ?_);apply ab;refine ak ?_)
 all_goals (refine aa 12 (hy:=by (apply cA;rfl;rfl;(try simp only [ByteArray.size_append]);omega)) ?_)
 all_goals (refine ao 15 ?_;(refine aC (hc:=cQ _ ag) ?_);apply ab;refine ak ?_)
 all_goals (refine aa 16 (hy:=by (apply cA;rfl;rfl;(try simp only [ByteArray.size_append]);omega)) ?_)
 all_goals (refine ao 19 ?_;(refine aC (hc:=cQ _ ag) ?_);apply ab;refine ak ?_)
 all_goals (refine aa 20 (hy:=by (apply cA;rfl;rfl;(try simp only [ByteArray.size_append]);omega)) ?_)
 all_goals refine aa 21 ?_
 all_goals (refine aI ?_)
 repeat' (first|apply aj|fail)
 (apply ci;kernel_rfl)
 all_goals refine aa 0 ?_
 all_goals refine aa 1 ?_
 all_goals refine aa 2 ?_
 all_goals refine aa 5 ?_
 all_goals refine aa 6 ?_
 all_goals refine aa 9 ?_
 all_goals refine aa 10 ?_
 all_goals refine aa 13 ?_
 all_goals refine aa 14 ?_
 all_goals refine aa 17 ?_
 all_goals refine aa 18 ?_
 all_goals refine aa 21 ?_
 all_goals refine aa 22 ?_
 all_goals (refine ao 3 ?_;(refine aC (hc:=dc _ ag) ?_);apply ab;refine ak ?_)
 all_goals (refine aa 4 (hy:=by (apply cA;rfl;rfl;(try simp only [ByteArray.size_append]);omega)) ?_)
 all_goals (refine ao 7 ?_;(refine aC (hc:=dc _ ag) ?_);apply ab;refine ak ?_)
 all_goals (refine aa 8 (hy:=by (apply cA;rfl;rfl;(try simp only [ByteArray.size_append]);omega)) ?_)
 all_goals (refine ao 11 ?_;(refine aC (hc:=cQ _ ag) ?_);apply ab;refine ak ?_)
 all_goals (refine aa 12 (hy:=by (apply cA;rfl;rfl;(try simp only [ByteArray.size_append]);omega)) ?_)
 all_goals (refine ao 15 ?_;(refine aC (hc:=dc _ ag) ?_);apply ab;refine ak ?_)
 all_goals (refine aa 16 (hy:=by (apply cA;rfl;rfl;(try simp only [ByteArray.size_append]);omega)) ?_)
 all_goals (refine ao 19 ?_;(refine aC (hc:=qH a.to a.toL ag) ?_);apply ab;refine ak ?_)
 all_goals (refine aa 20 (hy:=by (apply cA;rfl;rfl;(try simp only [ByteArray.size_append]);omega)) ?_)
 all_goals (refine ao 23 ?_;(refine aC (hc:=dc _ ag) ?_);apply ab;refine ak ?_)
 all_goals (refine aa 24 (hy:=by (apply cA;rfl;rfl;(try simp only [ByteArray.size_append]);omega)) ?_)
 all_goals refine aa 25 ?_
 all_goals (refine aI ?_)
 repeat' (first|apply aj|fail)
 (apply ci;kernel_rfl)
 all_goals refine aa 0 ?_
 all_goals refine aa 1 ?_
 all_goals (refine aa 2 (hy:=by (apply dE;rfl;(repeat (exact aU));exact ActD.cells_body _;rfl)) ?_)
 all_goals refine aa 5 ?_
 all_goals refine aa 6 ?_
 all_goals refine aa 9 ?_
 all_goals refine aa 10 ?_
 all_goals refine aa 11 ?_
 all_goals (refine ao 3 ?_;(refine aC (hc:=mM a.body ha.body) ?_);apply ab;refine ak ?_)
 all_goals (refine aa 4 (hy:=by (apply cA;rfl;rfl;(try simp only [ByteArray.size_append]);omega)) ?_)
 all_goals (refine ao 7 ?_;(refine aC (hc:=cQ _ ag) ?_);apply ab;refine ak ?_)
 all_goals (refine aa 8 (hy:=by (apply cA;rfl;rfl;(try simp only [ByteArray.size_append]);omega)) ?_)
 all_goals (refine ao 12 ?_;(refine aC (hc:=cQ _ ag) ?_);apply ab;refine ak ?_)
 all_goals (refine aa 13 (hy:=by (apply cA;rfl;rfl;(try simp only [ByteArray.size_append]);omega)) ?_)
 all_goals refine aa 14 ?_
 all_goals (refine aI ?_)
 repeat' (first|apply ab|apply aj|apply ai|refine ac ?_|apply aw|fail)
 rename_i b
 have hc4:(core4 a).size≤100000000000:=by
  have:(numV a.wrapsL.length).size≤10:=bw _
  simp only [core4,core3,core2,core1,ByteArray.size_append]
  omega
 have hle:=eS (a.wrapsL.map wrapV)
 have hw:=ha.wrapsV
 have e0:core5 a 0=core4 a:=by simp [core5,cats]
 refine be (ι:=Kth a.wrapsL.length) (fun i=>⟨[(1,.pointer (some ⟨b,0,none⟩)),(4,.string (core5 a i.k)),(5,.int .i64 (i.k:Nat))],[cel b 46 a.cells],(ActD.at_ · a)⟩) (fun i=>a.wrapsL.length-i.k) ⟨0,Nat.zero_le _⟩ (aF ⟨rfl,?_,rfl,trivial⟩ (aQ _) fun _ h=>h) fun i=>?_
 · simp only [e0,core4,core3,core2,core1,←hl,ByteArray.append_assoc];rfl
 have hik:=i.hk
 have hk5:(core5 a i.k).size≤200000000000:=by have:=hle i.k;simp only [core5,ByteArray.size_append];omega
 repeat' (first|apply ab|apply aj|apply ai|refine ae ?_|refine aM ?_|refine aL ?_|refine bu ?_|refine bg ?_|apply ay|apply aw|apply aV|(refine aO (ht:=?_) (hf:=?_);all_goals (intro hx_;first|have:=aY hx_|have:=aZ hx_)))
 · have hlt:i.k<a.wrapsL.length:=by omega
   have hp':=hp ag
   obtain ⟨x,hx⟩:∃ x,a.wrapsL[i.k]?=some x:=⟨_,List.getElem?_eq_getElem hlt⟩
   have hxm:x∈a.wrapsL:=List.mem_of_getElem? hx
   have hf:=ha.wraps x hxm
   have hfs:=fH hf
   obtain ⟨w1,w2⟩:=ha.wints x hxm
   have m1:=bw x.to
   have m2:=bw x.eph
   (refine bo [cel b 46 a.cells] (ActD.at_ · a) ar ?_)
   all_goals refine aa 0 ?_
   all_goals refine aa 1 ?_
   all_goals refine aa 2 ?_
   all_goals refine aa 3 ?_
   all_goals (refine aa 4 (hy:=by (apply bp (q:=i.k*5);rfl;rfl;omega;omega;assumption;omega)) ?_)
   all_goals (refine aa 5 (hy:=by (apply cw;rfl;assumption;rfl)) ?_)
   all_goals (refine aa 6 (hy:=by (apply cC (q:=i.k*5) (u:=.int .i64 x.to);rfl;exact fun w h=>(Wraps.get h.2 hx).2.2 0 _ rfl)) ?_)
   all_goals refine aa 9 ?_
   all_goals refine aa 10 ?_
   all_goals refine aa 11 ?_
   all_goals (refine aa 12 (hy:=by (apply bp (q:=i.k*5);rfl;rfl;omega;omega;assumption;omega)) ?_)
   all_goals (refine aa 13 (hy:=by (apply cw;rfl;assumption;rfl)) ?_)
   all_goals (refine aa 14 (hy:=by (apply cC (q:=i.k*5+1) (u:=.int .i64 x.eph);rfl;exact fun w h=>(Wraps.get h.2 hx).2.2 1 _ rfl)) ?_)
   all_goals refine aa 17 ?_
   all_goals refine aa 18 ?_
   all_goals refine aa 19 ?_
   all_goals (refine aa 20 (hy:=by (apply bp (q:=i.k*5);rfl;rfl;omega;omega;assumption;omega)) ?_)
   all_goals (refine aa 21 (hy:=by (apply cw;rfl;assumption;rfl)) ?_)
   all_goals (refine aa 22 (hy:=by (apply gQ (q:=i.k*5+2) (cs:=x.box.cells);rfl;exact fun w h=>⟨rfl,(Wraps.get h.2 hx).2.1,vN (Wraps.get h.2 hx).2.2⟩)) ?_)
   all_goals (refine ao 7 ?_;(refine aC (hc:=cQ _ ag) ?_);apply ab;refine ak ?_)
   all_goals (refine aa 8 (hy:=by (apply cA;rfl;rfl;(try simp only [ByteArray.size_append]);omega)) ?_)
   all_goals (refine ao 15 ?_;(refine aC (hc:=cQ _ ag) ?_);apply ab;refine ak ?_)
   all_goals (refine aa 16 (hy:=by (apply cA;rfl;rfl;(try simp only [ByteArray.size_append]);omega)) ?_)
   all_goals (refine ao 23 ?_;(refine aC (hc:=mM x.box hf) ?_);apply ab;refine ak ?_)
   all_goals (refine aa 24 (hy:=by (apply cA;rfl;rfl;(try simp only [ByteArray.size_append]);omega)) ?_)
   all_goals refine aa 25 ?_
   all_goals (refine aI ?_)
   repeat' (first|apply ab|apply ai|refine ae ?_|refine ac ?_|refine bm (h:=?_)|fail)
   have hsucc:=fG (a.wrapsL.map wrapV) (k:=i.k) (by simpa using hlt)
   have hget:(a.wrapsL.map wrapV).getD i.k .empty=wrapV x:=by simp [hx]
   rw [hget] at hsucc
   have e2:core5 a (i.k+1)=core5 a i.k++numV x.to++numV x.eph++boxV x.box:=by simp only [core5,hsucc,ByteArray.append_assoc,wrapV]
   all_goals exact ⟨(⟨i.k+1,hlt⟩:Kth a.wrapsL.length),(by show a.wrapsL.length-(i.k+1)<a.wrapsL.length-i.k;omega),aF ⟨rfl,by rw [e2];rfl,rfl,trivial⟩ (aQ _) fun _ h=>h⟩
 have hke:i.k=a.wrapsL.length:=by omega
 (apply ci;kernel_rfl)
 all_goals refine aa 0 ?_
 all_goals refine aa 1 ?_
 all_goals refine aa 2 ?_
 all_goals refine aa 5 ?_
 all_goals refine aa 6 ?_
 all_goals (refine ao 3 ?_;(refine aC (hc:=cQ _ ag) ?_);apply ab;refine ak ?_)
 all_goals (refine aa 4 (hy:=by (apply cA;rfl;rfl;(try simp only [ByteArray.size_append]);omega)) ?_)
 all_goals (refine ao 7 ?_;(refine aC (hc:=cQ _ ag) ?_);apply ab;refine ak ?_)
 all_goals (refine aa 8 (hy:=by (apply cA;rfl;rfl;(try simp only [ByteArray.size_append]);omega)) ?_)
 all_goals refine aa 9 ?_
 all_goals (refine aI ?_)
 repeat' (first|apply aA|fail)
 refine aq (aB rfl rfl) ?_
 simp only [cond_true,coreV,←hke]
theorem lz (a:ActD) (hs:a.Str) (ha:rightB a=true→a.Fit) (hi:a.e<9223372036854775808∧a.s<9223372036854775808):Pu Tryz.prog 238 #[a.v] (ActD.at_ · a) (.string (actBytes a)):=by
 refine aN (args:=[_]) _ Tryz.func238 rfl Tryz.ntmps238 rfl fun av bor w0=>?_
 obtain ⟨i8,i9⟩:=hi
 have n7:=bw a.e
 have n8:=bw a.s
 have hc:(actCore a).size≤300000000000:=by
  unfold actCore
  cases hrB:rightB a with
  | true=>exact eZ (ha hrB)
  | false=>simp [ByteArray.size]
 have hcp:=qM a hs ha
 repeat' (first|apply ab|apply aj|apply ai|refine ae ?_|refine ac ?_|refine aG ?_|refine co ?_|refine aT fun _=>?_|apply ay|apply aA|(refine aC (hc:=hcp) (hX:=fun w h=>h) ?_)|(refine aO (ht:=?_) (hf:=?_);all_goals (intro hx_;skip)))
 · (all_goals (apply aq;apply aB;rfl;rfl));all_goals (simp only [actBytes, *,decide_true,decide_false,cond_true,cond_false,Bool.and_true,Bool.true_and,Bool.and_false,Bool.false_and,Bool.not_true,Bool.not_false,Bool.or_true,Bool.true_or,Bool.or_false,Bool.false_or];done)
 (apply ci;kernel_rfl)
 all_goals refine aa 0 ?_
 all_goals refine aa 1 ?_
 all_goals refine aa 2 ?_
 all_goals refine aa 3 ?_
 all_goals refine aa 6 ?_
 all_goals refine aa 7 ?_
 all_goals refine aa 8 ?_
 all_goals (refine ao 4 ?_;(refine aC (hc:=cQ _ ag) ?_);apply ab;refine ak ?_)
 all_goals (refine aa 5 (hy:=by (apply cA;rfl;rfl;(try simp only [ByteArray.size_append]);omega)) ?_)
 all_goals (refine ao 9 ?_;(refine aC (hc:=cQ _ ag) ?_);apply ab;refine ak ?_)
 all_goals (refine aa 10 (hy:=by (apply cA;rfl;rfl;(try simp only [ByteArray.size_append]);omega)) ?_)
 all_goals refine aa 11 ?_
 all_goals (refine aI ?_)
 repeat' (first|apply aA|fail)
 all_goals ((all_goals (apply aq;apply aB;rfl;rfl));all_goals (simp only [actBytes, *,decide_true,decide_false,cond_true,cond_false,Bool.and_true,Bool.true_and,Bool.and_false,Bool.false_and,Bool.not_true,Bool.not_false,Bool.or_true,Bool.true_or,Bool.or_false,Bool.false_or];done))
end Go.Proofs.YtfnjklhjngphmaaGreatDoor
namespace Go.Proofs.YtfnjklhjngphmaaGreatDoor
open Go Go.Proofs Sy
theorem qL:Pu Tryz.prog 226 #[.agg decZero.toArray,.agg decZero.toArray] (fun _=>True) (.bool true):=by
 refine aN (args:=[_,_]) _ Tryz.func226 rfl Tryz.ntmps226 rfl fun av bor w0=>?_
 repeat' (first|apply ab|apply aj|apply ai|refine ac ?_|refine aM ?_|refine aL ?_|refine cZ ?_|refine bg ?_|refine aT fun _=>?_|apply ay|apply aw|apply aA|(refine aO (ht:=?_) (hf:=?_);all_goals (intro hx_;skip)))
 · simp at *
 rename_i b1 b2
 refine be (ι:=Unit) (fun _=>⟨[(2,.pointer (some ⟨b1,0,none⟩)),(3,.pointer (some ⟨b2,0,none⟩)),(5,.int .i64 0)],[cel b2 55 decZero,cel b1 55 decZero],fun _=>True⟩) (fun _=>0) () (aF ⟨rfl,rfl,rfl,trivial⟩ (aQ _) fun _ h=>h) fun _=>?_
 repeat' (first|(refine lf (h0:=by intro _;kernel_rfl) ?_)|apply ab|apply aj|apply ai|refine ae ?_|refine ac ?_|refine aM ?_|refine aL ?_|refine aJ ?_|refine bu ?_|refine bg ?_|apply ay|apply aw|apply aA|apply aV|(refine bZ (vs:=[.int .i64 0,.int .i64 0]) (hv:=rfl) ?_)|(refine aO (ht:=?_) (hf:=?_);all_goals (intro hx_;first|have:=aY hx_|have:=aZ hx_)))
 · exact absurd this (by decide)
 all_goals (apply aq;apply aB;rfl;rfl;rfl)
theorem qy:Tryz.prog.underlying 44=some (.struct (Tryz.prog.fieldsOf 44)):=by kernel_rfl
theorem uD:Tryz.prog.stoodInHeld 44=false:=by kernel_rfl
theorem uE:Tryz.prog.eqGuardType Tryz.prog.depth 44=false:=by kernel_rfl
theorem uJ (w:World) (a b c d:Int):(Op.equalIn 10000 44 (.agg #[.int .i64 a,.int .i64 b]) (.agg #[.int .i64 c,.int .i64 d])).run Tryz.prog w=.ok (decide (a=c)&&decide (b=d)) w:=by
 have e:(10000:Nat)=9999+1:=rfl
 have e2:(9999:Nat)=9998+1:=rfl
 rw [e,run_equalIn_agg _ _ _ _ _ qy uD]
 have hf:(Tryz.prog.fieldsOf 44).toList.map (fun f=>(f.name,f.type,f.offset))=[("E",3,0),("S",3,1)]:=by kernel_rfl
 generalize (Tryz.prog.fieldsOf 44).toList=l at hf
 rcases l with _|⟨f1,_|⟨f2,_|⟨f3,l⟩⟩⟩
 case cons.cons.nil =>
  simp only [List.map_cons,List.map_nil,List.cons.injEq,Prod.mk.injEq,and_true] at hf
  obtain ⟨⟨n1,t1,o1⟩,n2,t2,o2⟩:=hf
  have hag:=fun w=>(cE (TyOne.out (P:=Tryz.prog) (t:=3)) w).1
  have hst:=fun (x y:Int) (w:World)=>run_equalIn_int (P:=Tryz.prog) w 9998 3 .i64 .i64 x y TyInt.out
  cases h1:decide (a=c)<;>cases h2:decide (b=d) <;>
  · simp only [decide_eq_true_eq,decide_eq_false_iff_not] at h1 h2
    simp [Op.eqFields,n1,n2,t1,t2,o1,o2,part,hag,e2,hst,h1,h2]
 all_goals (have:=congrArg List.length hf;simp at this)
theorem zf {N:Nat} {av bor:List Nat} {w0:World} {E:Env} {loc:List Res} {X:World→Prop} {ty t2:TypeId} {x y:Operand} {a b c d:Int} (hx:ev E x=some (.agg #[.int .i64 a,.int .i64 b])) (hy:ev E y=some (.agg #[.int .i64 c,.int .i64 d])) :
  Sy.Yields Tryz.prog N av bor w0 ⟨E,loc,X⟩ (.binOp .eql 44 x y t2) ty (.bool (decide (a=c)&&decide (b=d))):=Sy.Yields.mk fun A w ok dd pos af g=>by
 have h1:=run_eql_struct (P:=Tryz.prog) w 44 #[.int .i64 a,.int .i64 b] #[.int .i64 c,.int .i64 d]
 have h2:=uJ w a b c d
 rw [h2] at h1
 simp [execOp,ok.eval (st:=⟨E,loc,X⟩) hx,ok.eval (st:=⟨E,loc,X⟩) hy,run_eqGuard_agg _ _ _ _ _ _ _ uE,h1]
section
variable {N:Nat} {av bor:List Nat} {w0:World} {ops:Array Oper} {rest:List Oper} {kk:St→Prop} {E:Env} {loc:List Res} {X:World→Prop} {n:Nat} {ty t2:TypeId} {pos:String} {af:Array Edge} {g:Option (Nat×Bool)} {bb want:Bool} {x y:Operand} {a b c d:Int}
theorem wY (h:Sw Tryz.prog N av bor w0 ops rest ⟨(n,.bool (decide (a=c)&&decide (b=d)))::E,loc,X⟩ kk) (hx:ev E x=some (.agg #[.int .i64 a,.int .i64 b]):=by rfl) (hy:ev E y=some (.agg #[.int .i64 c,.int .i64 d]):=by rfl) (hg:gdB ops E g=some (bb,want):=by rfl) (hbb:bb=want:=by exact aR) (hd:Nat.blt n N=true:=by rfl) :
  Sw Tryz.prog N av bor w0 ops (⟨some n,.binOp .eql 44 x y t2,ty,pos,af,g⟩::rest) ⟨E,loc,X⟩ kk:=ax (zf hx hy) hg hbb hd h
end
def sameZ (a:ActD):Bool:=decide ((a.to.n:Int)=0)&&(decide ((a.wraps.n:Int)=0)&&(seqB a.author ActD.zero.author&&(decide (a.seq=ActD.zero.seq)&&(seqB a.prev ActD.zero.prev&&(decide (a.kind=ActD.zero.kind)&&(decide (a.time=ActD.zero.time)&&(seqB a.object ActD.zero.object&&(seqB a.target ActD.zero.target&&(decide (a.scope=ActD.zero.scope)&&(seqB a.group ActD.zero.group&&(seqB a.text ActD.zero.text&&(boxEq a.body BoxD.zero&&(decide (a.epoch=ActD.zero.epoch)&&(decide (a.n=ActD.zero.n)&&(decide (a.m=ActD.zero.m)&&(decide (a.e=0)&&decide (a.s=0)))))))))))))))))
set_option maxRecDepth 20000 in
set_option maxHeartbeats 8000000 in
theorem qF (a:ActD):Pu Tryz.prog 51 #[a.v,ActD.zero.v] (fun _=>True) (.bool (sameZ a)):=by
 refine aN (args:=[_,_]) _ Tryz.func51 rfl Tryz.ntmps51 rfl fun av bor w0=>?_
 repeat' (first|apply ab|apply aj|apply ai|refine ae ?_|refine ac ?_|refine aM ?_|refine aL ?_|refine aJ ?_|refine aH ?_|refine cZ ?_|refine bg ?_|refine bI ?_|refine aT fun _=>?_|refine aE ?_|apply ay|apply aw|apply aA|((fail_if_success (refine bA ?_));refine bj (ht:=?_) (hf:=?_);all_goals (intro hx_;skip))|(refine aO (ht:=?_) (hf:=?_);all_goals (intro hx_;skip)))
 · refine aq (aB rfl rfl) ?_
   have h0:ActD.zero.to.n=0:=rfl
   rw [h0] at hx_
   simp_all [sameZ]
 · refine aq (aB rfl rfl) ?_
   have h0:ActD.zero.wraps.n=0:=rfl
   rw [h0] at hx_
   simp_all [sameZ]
 rename_i b1 b2 g1
 have n1:a.to.n=0:=by
  have h0:ActD.zero.to.n=0:=rfl
  rw [h0] at g1
  simpa using g1
 have n2:a.wraps.n=0:=by
  have h0:ActD.zero.wraps.n=0:=rfl
  rw [h0] at hx_
  simpa using hx_
 refine be (ι:=Unit) (fun _=>⟨[(2,.pointer (some ⟨b1,0,none⟩)),(3,.pointer (some ⟨b2,0,none⟩)),(5,.int .i64 0)],[cel b2 46 ActD.zero.cells,cel b1 46 a.cells],fun _=>True⟩) (fun _=>0) () (aF ⟨rfl,rfl,rfl,trivial⟩ (aQ _) fun _ h=>h) fun _=>?_
 repeat' (first|apply ab|apply aj|apply ai|refine ae ?_|refine ac ?_|refine aM ?_|refine aL ?_|refine bu ?_|refine bg ?_|apply ay|apply aw|apply aV|(refine aO (ht:=?_) (hf:=?_);all_goals (intro hx_;first|have:=aY hx_|have:=aZ hx_)))
 · exact absurd this (by rw [n1];decide)
 refine be (ι:=Unit) (fun _=>⟨[(2,.pointer (some ⟨b1,0,none⟩)),(3,.pointer (some ⟨b2,0,none⟩)),(6,.int .i64 0)],[cel b2 46 ActD.zero.cells,cel b1 46 a.cells],fun _=>True⟩) (fun _=>0) () (aF ⟨rfl,rfl,rfl,trivial⟩ (aQ _) fun _ h=>h) fun _=>?_
 repeat' (first|apply ab|apply aj|apply ai|refine ae ?_|refine ac ?_|refine aM ?_|refine aL ?_|refine aJ ?_|refine aH ?_|refine bR ?_|refine bu ?_|refine co ?_|refine bg ?_|refine aW ?_|apply ay|apply aw|apply aA|apply aV|(refine lg (a:=a.body) (b:=BoxD.zero) ?_)|(refine wY (a:=a.e) (b:=a.s) (c:=0) (d:=0) ?_)|(refine bZ ?_)|((fail_if_success (refine bA ?_));refine bj (ht:=?_) (hf:=?_);all_goals (intro hx_;first|have:=aY hx_|have:=aZ hx_|skip))|(refine aO (ht:=?_) (hf:=?_);all_goals (intro hx_;first|have:=aY hx_|have:=aZ hx_)))
 · exact absurd this (by rw [n2];decide)
 all_goals (
  refine aq (aB rfl rfl) ?_
  have q1:decide ((a.to.n:Int)=0)=true:=by rw [n1];rfl
  have q2:decide ((a.wraps.n:Int)=0)=true:=by rw [n2];rfl
  rw [sameZ,q1,q2]
  clear q1 q2 n1 n2
  first
   | rfl
   | (simp_all only [Bool.true_and,Bool.false_and,Bool.and_false,decide_true,decide_false,Bool.and_true];done)
   | (simp_all;done)
   | skip)
