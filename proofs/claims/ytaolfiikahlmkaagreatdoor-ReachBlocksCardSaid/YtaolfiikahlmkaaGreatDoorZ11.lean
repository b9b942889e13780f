/- Joined. -/
import Derived.Test.YtaolfiikahlmkaaGreatDoorZ10
set_option linter.unusedVariables false
set_option linter.unusedSimpArgs false
set_option maxHeartbeats 16000000
namespace Go.Proofs.YtaolfiikahlmkaaGreatDoor
open Go Go.Proofs Sy
theorem Cd (s:ByteArray) {i:Nat} (h:i<s.size):(((s.get! i).toNat:Nat):Int)=byteAt s i:=by
 have hs:i<s.data.size:=h
 rw [byteAt,Zo,Qo,Array.getElem?_eq_getElem hs]
 show (((s.data[i]!).toNat:Nat):Int)=_
 rw [getElem!_pos s.data i hs]
 rfl
theorem ES {s:ByteArray} {i:Nat} (h:(s.get! i).toNat<128):Utf8.decode s i=((s.get! i).toNat,1):=by
 unfold Utf8.decode
 simp only [ZT,h,ZN]
theorem Cu {s:ByteArray} {i:Nat} (h:¬ (s.get! i).toNat<128):128≤(Utf8.decode s i).1:=by
 unfold Utf8.decode
 simp only [ZT,h,if_false]
 repeat' split
 all_goals first
  | (simp only [Utf8.runeError];omega)
  | (simp_all;done)
  | (simp only [ge_iff_le] at *;omega)
  | (simp only [ge_iff_le,Zp,Zw] at *;omega)
theorem ll {bad:Nat→Int→Bool} {s:ByteArray} (hb:∀ q c,128≤c→bad q c=true):∀ f q,s.size≤f+q→runes bad s f q=(List.range' q (s.size-q)).all fun k=>!bad k (byteAt s k)
 | 0,q,h=>by
  rw [runes,show s.size-q=0 from by omega]
  rfl
 | f+1,q,h=>by
  rw [runes]
  by_cases hq:q<s.size
  · rw [Zd hq,Zf]
    have e:s.size-q=(s.size-(q+1))+1:=by omega
    rw [e,List.range'_succ,List.all_cons]
    have hg:=Cd s hq
    by_cases hl:(s.get! q).toNat<128
    · rw [ES hl]
      simp only
      rw [hg]
      cases hbq:bad q (byteAt s q) with
      | true=>rfl
      | false =>
       rw [Ze,ll hb f (q+1) (by omega)]
       rfl
    · have h1:=hb q _ (show (128:Int)≤((Utf8.decode s q).1:Int) by have:=Cu hl;omega)
      have h2:=hb q (byteAt s q) (by rw [←hg];omega)
      rw [h1,h2]
      rfl
  · rw [Zc hq,show s.size-q=0 from by omega]
    rfl
theorem pq {bad:Nat→Int→Bool} {s:ByteArray} (hb:∀ q c,128≤c→bad q c=true):runes bad s s.size 0=allB s.size fun k=>bad k (byteAt s k):=by
 rw [ll hb s.size 0 aa,allB,List.range_eq_range']
 rfl
def inChr (c l h:Int):Bool:=decide (l≤c)&&decide (c≤h)
theorem jR (c l h:Int):Pu Tryz.prog 269 #[.int .u8 c,.int .u8 l,.int .u8 h] (fun _=>True) (.bool (inChr c l h)):=by
 refine ak (args:=[_,_,_]) _ Tryz.func269 rfl Tryz.ntmps269 rfl fun av bor w0=>?_
 repeat' (first|refine gs ?_|(refine gp ?_ ?_<;>intro hx_ this)|fail)
 (all_goals (apply ad;apply ag;rfl;rfl));all_goals first|rfl|(simp only [inChr, *,Zt,Zr,Zf,Ze,Zh,Zg,Zk,Zj,Zn,Zl,Zs,Zm,Zq,Zi];done)|(simp_all [inChr];done)
def badIdR (s:ByteArray) (k:Nat):Bool:=!inChr (byteAt s k) 48 57&&!inChr (byteAt s k) 97 102
theorem CG (s:ByteArray) (k:Nat):badId k (byteAt s k)=badIdR s k:=by
 simp only [badId,badIdR,dig,inChr]
 congr 1
 rw [Bool.not_and,←decide_not,←decide_not]
 congr 1<;>exact decide_eq_decide.2 aa
theorem En (s:ByteArray):isId s=(allB s.size (badIdR s)&&decide ((s.size:Int)=16)):=by
 rw [isId,pq (fun q c h=>by simp only [badId,dig];simp;omega),Bool.and_comm]
 congr 2
 exact funext fun k=>CG s k
theorem gB (s:ByteArray) (hs:s.size≤maxLen):Pu Tryz.prog 230 #[.string s] (fun _=>True) (.bool (isId s)):=by
 refine ak (args:=[_]) _ Tryz.func230 rfl Tryz.ntmps230 rfl fun av bor w0=>?_
 simp only [maxLen] at hs
 rw [En]
 repeat' (first|refine gs ?_|fail)
 refine ar (ι:=Upto s.size (badIdR s)) (fun i=>⟨[(0,.string s),(3,.int .i64 (i.k:Nat))],[],fun w=>True⟩) (fun i=>s.size-i.k) (Upto.zero _ _) (aj ao (al _) fun _ h=>h) fun i=>?_
 have hik:=i.hk
 have e1:((i.k:Nat):Int).toNat=i.k:=rfl
 have hc1:=jR (byteAt s i.k) 48 57
 have hc2:=jR (byteAt s i.k) 97 102
 repeat' (first|(refine ab (hc:=hc1) ?_)|(refine ab (hc:=hc2) ?_)|refine gs ?_|(refine gp ?_ ?_<;>intro hx_ this)|fail)
 all_goals first
  | (refine ad (ag rfl rfl) ?_;rw [cM (k:=i.k) aa (by simp only [badIdR, *,Zt,Zr,Zf,Ze,Zh,Zg,Zk,Zj,Zn,Zl,Zs,Zm,Zq,Zi]),Zj])
  | exact ⟨i.next aa (by simp only [badIdR, *,Zt,Zr,Zf,Ze,Zh,Zg,Zk,Zj,Zn,Zl,Zs,Zm,Zq,Zi]),(by show s.size-(i.k+1)<s.size-i.k;omega),aj ao (al _) fun _ h=>h⟩
  | (refine ad (ag rfl rfl) ?_;rw [i.all aa,Zg])
def badNameR (s:ByteArray) (k:Nat):Bool:=!inChr (byteAt s k) 97 122&&(decide ((k:Int)=0)||!inChr (byteAt s k) 48 57&&!decide (byteAt s k=95))
theorem yF (s:ByteArray):isName s=(allB s.size (badNameR s)&&(decide (1≤(s.size:Int))&&decide ((s.size:Int)≤24))):=by
 rw [isName,pq (fun q c h=>by simp only [badName,dig];simp;omega),dD,Bool.and_comm]
 congr 1
 rw [←decide_not,←decide_not]
 congr 1<;>exact decide_eq_decide.2 aa
theorem jm (s:ByteArray) (hs:s.size≤maxLen):Pu Tryz.prog 271 #[.string s] (fun _=>True) (.bool (isName s)):=by
 refine ak (args:=[_]) _ Tryz.func271 rfl Tryz.ntmps271 rfl fun av bor w0=>?_
 simp only [maxLen] at hs
 rw [yF]
 repeat' (first|refine gs ?_|fail)
 refine ar (ι:=Upto s.size (badNameR s)) (fun i=>⟨[(0,.string s),(3,.int .i64 (i.k:Nat))],[],fun w=>True⟩) (fun i=>s.size-i.k) (Upto.zero _ _) (aj ao (al _) fun _ h=>h) fun i=>?_
 have hik:=i.hk
 have e1:((i.k:Nat):Int).toNat=i.k:=rfl
 have hc1:=jR (byteAt s i.k) 97 122
 have hc2:=jR (byteAt s i.k) 48 57
 by_cases hlt:i.k<s.size
 · repeat' (first|(refine ab (hc:=hc1) ?_)|(refine ab (hc:=hc2) ?_)|refine gs ?_|(refine gp ?_ ?_<;>intro hx_ this)|fail)
   all_goals simp only [ZZ] at *
   all_goals first
    | (exfalso;omega)
    | (refine ad (ag rfl rfl) ?_;rw [cM (k:=i.k) aa (by simp only [badNameR, *,Zt,Zr,Zf,Ze,Zh,Zg,Zk,Zj,Zn,Zl,Zs,Zm,Zq,Zi]),Zj])
    | exact ⟨i.next aa (by simp only [badNameR, *,Zt,Zr,Zf,Ze,Zh,Zg,Zk,Zj,Zn,Zl,Zs,Zm,Zq,Zi]),(by show s.size-(i.k+1)<s.size-i.k;omega),aj ao (al _) fun _ h=>h⟩
    | skip
 · rw [i.all hlt,Zg]
   repeat' (first|refine gs ?_|(refine gp ?_ ?_<;>intro hx_ this)|fail)
   all_goals first
    | (exfalso;omega)
    | (refine ad (ag rfl rfl) ?_;simp only [*,Zt,Zr,Zf,Ze,Zh,Zg,Zk,Zj,Zn,Zl,Zs,Zm,Zq,Zi];done)
structure ActD.Str (a:ActD):Prop where
 author:a.author.size≤maxLen
 target:a.target.size≤maxLen
 group:a.group.size≤maxLen
 text:a.text.size≤maxLen
 to:∀ x∈a.toL,x.size≤maxLen
def badIdsR (l:List ByteArray) (k:Nat):Bool:=!isId (l.getD k .empty)||decide (0<(k:Int))&&!Op.bytesLess (l.getD (k-1) .empty).toList (l.getD k .empty).toList
theorem DI (a b:ByteArray):(Op.bytesLess a.toList b.toList||seqB a b)=!Op.bytesLess b.toList a.toList:=by
 show (ltB a b||seqB a b)=!ltB b a
 cases h:ltB a b with
 | true=>rw [kQ h];rfl
 | false =>
  cases k:ltB b a with
  | true =>
   have:a≠b:=fun e=>BV k e.symm
   rw [seqB_ne.2 this]
   rfl
  | false =>
   rw [kP h k,cW]
   rfl
theorem B0 (l:List ByteArray):isIds l=(allB l.length (badIdsR l)&&decide ((l.length:Int)≤64)):=by
 rw [isIds,Bool.and_comm]
 congr 1
 · refine congrArg (allB l.length) (funext fun k=>?_)
   rw [badIds,badIdsR,DI]
 · rw [←decide_not]
   exact decide_eq_decide.2 aa
theorem kI (s:SlV) (l:List ByteArray) (hz:∀ x∈l,x.size≤maxLen):Pu Tryz.prog 234 #[s.v] (fun w=>Strs w s l) (.bool (isIds l)):=by
 refine ak (args:=[_]) _ Tryz.func234 rfl Tryz.ntmps234 rfl fun av bor w0=>?_
 refine aM (p:=s.n=l.length∧s.n≤maxLen∧(0<l.length→s.p.isSome=true)) (fun w h=>⟨h.len_,ZY (RowsD.cap h) (RowsD.max h),h.some_⟩) fun ⟨hl,hm,hp⟩=>?_
 simp only [maxLen] at hm
 rw [B0]
 repeat' (first|refine gs ?_|fail)
 refine ar (ι:=Upto l.length (badIdsR l)) (fun i=>⟨[(0,s.v),(3,.int .i64 (i.k:Nat))],[],fun w=>Strs w s l⟩) (fun i=>l.length-i.k) (Upto.zero _ _) (aj ao (al _) fun _ h=>h) fun i=>?_
 have hik:=i.hk
 by_cases hlt:i.k<l.length
 · have hp':=hp aa
   have hid:=gB (l.getD i.k .empty) (hz _ (by rw [Zo,Zb hlt];exact ZQ hlt))
   repeat' (first|refine gs ?_|(refine gp ?_ ?_<;>intro hx_ this)|fail)
   · (refine bo ⟨[0,1,2,3],[(4,⟨[5,6,7,8,9,10,11,12,13,14,15,16,17,18,19,20,21],[]⟩)]⟩ (h:=?_))
     all_goals repeat' (first|(refine ab (hc:=hid) (hX:=fun _ _=>trivial) ?_)|refine gd ?_|refine ay (hy:=by first|(apply aC (q:=i.k);rfl;rfl;omega;omega;assumption;omega)|(apply aC (q:=i.k-1);rfl;rfl;omega;omega;assumption;omega)|(apply dR (q:=i.k);rfl;exact fun w h=>Strs.get h hlt)|(apply dR (q:=i.k-1);rfl;exact fun w h=>Strs.get h (by omega:i.k-1<l.length))|(apply tX;rfl;rfl)) ?_|refine az ?_ (h':=?_)|exact aA|(refine gq ?_ ?_<;>intro hx_ this)|fail)
     all_goals
      repeat' (first|refine gs ?_|(refine gp ?_ ?_<;>intro hx_ this)|fail)
      all_goals first
       | (refine ad (ag rfl rfl) ?_;rw [cM hlt (by simp only [badIdsR, *,Zt,Zr,Zf,Ze,Zh,Zg,Zk,Zj,Zn,Zl,Zs,Zm,Zq,Zi]),Zj])
       | exact ⟨i.next hlt (by simp only [badIdsR, *,Zt,Zr,Zf,Ze,Zh,Zg,Zk,Zj,Zn,Zl,Zs,Zm,Zq,Zi]),(by show l.length-(i.k+1)<l.length-i.k;omega),aj ao (al _) fun _ h=>h⟩
   · exfalso;omega
 · rw [i.all hlt,Zg]
   repeat' (first|refine gs ?_|(refine gp ?_ ?_<;>intro hx_ this)|fail)
   all_goals first
    | (exfalso;omega)
    | (refine ad (ag rfl rfl) ?_;rw [hl];done)
theorem fx (n:Int):Pu Tryz.prog 270 #[.int .i64 n] (fun _=>True) (.bool (isPublicB n)):=by
 refine ak (args:=[_]) _ Tryz.func270 rfl Tryz.ntmps270 rfl fun av bor w0=>?_
 have e:isPublicB n=(decide (1≤n)&&decide (n<2305843009213693951)):=by
  rw [isPublicB,withinB]
  congr 1
  exact decide_eq_decide.2 aa
 rw [e]
 clear e
 repeat' (first|refine gs ?_|(refine gp ?_ ?_<;>intro hx_ this)|fail)
 (all_goals (apply ad;apply ag;rfl;rfl));all_goals first|rfl|(simp only [Zd, *,Zt,Zr,Zf,Ze,Zh,Zg,Zk,Zj,Zn,Zl,Zs,Zm,Zq,Zi];done)|(simp_all [Zd];done)
theorem lz (b:BoxD):Pu Tryz.prog 294 #[b.v] (fun _=>True) (.bool (isSealedB b)):=by
 refine ak (args:=[_]) _ Tryz.func294 rfl Tryz.ntmps294 rfl fun av bor w0=>?_
 repeat' (first|refine gs ?_|refine gs1 fun _=>?_|(refine gp ?_ ?_<;>intro hx_ this)|fail)
 (all_goals (apply ad;apply ag;rfl;rfl));all_goals first|rfl|(simp only [isSealedB,isShortB, *,Zt,Zr,Zf,Ze,Zh,Zg,Zk,Zj,Zn,Zl,Zs,Zm,Zq,Zi];done)|(simp_all [isSealedB,isShortB];done)
theorem lw (b:BoxD):Pu Tryz.prog 293 #[b.v] (fun _=>True) (.bool (boxEq b BoxD.zero)):=by
 refine ak (args:=[_]) _ Tryz.func293 rfl Tryz.ntmps293 rfl fun av bor w0=>?_
 repeat' (first|refine gs ?_|refine gs1 fun _=>?_|(refine gp ?_ ?_<;>intro hx_ this)|fail)
 (all_goals (apply ad;apply ag;rfl;rfl));all_goals first|rfl|(simp only [boxEq,BoxD.zero, *,Zt,Zr,Zf,Ze,Zh,Zg,Zk,Zj,Zn,Zl,Zs,Zm,Zq,Zi];done)|(simp_all [boxEq,BoxD.zero];done)
def groupR (a:ActD):Bool:=bif decide (a.scope=2) then isName a.group else seqB a.group ⟨#[]⟩
theorem lv (a:ActD) (hs:a.Str):Pu Tryz.prog 274 #[a.v] (fun _=>True) (.bool (groupR a)):=by
 refine ak (args:=[_]) _ Tryz.func274 rfl Tryz.ntmps274 rfl fun av bor w0=>?_
 have hn:=jm a.group hs.group
 repeat' (first|(refine ab (hc:=hn) (hX:=fun _ _=>trivial) ?_)|refine gs ?_|refine gs1 fun _=>?_|(refine gp ?_ ?_<;>intro hx_ this)|fail)
 (all_goals (apply ad;apply ag;rfl;rfl));all_goals first|rfl|(simp only [groupR, *,Zt,Zr,Zf,Ze,Zh,Zg,Zk,Zj,Zn,Zl,Zs,Zm,Zq,Zi];done)|(simp_all [groupR];done)
def zeroR (a:ActD):Bool:=seqB a.object ⟨#[]⟩&&seqB a.target ⟨#[]⟩&&decide (a.scope=0)&&seqB a.group ⟨#[]⟩&&decide ((a.to.n:Int)=0)&&seqB a.text ⟨#[]⟩&&boxEq a.body BoxD.zero&&decide (a.epoch=0)&&decide ((a.wraps.n:Int)=0)&&decide (a.n=0)&&decide (a.m=0)
theorem bJ (a:ActD):Pu Tryz.prog 276 #[a.v] (fun _=>True) (.bool (zeroR a)):=by
 refine ak (args:=[_]) _ Tryz.func276 rfl Tryz.ntmps276 rfl fun av bor w0=>?_
 have hn:=lw a.body
 repeat' (first|(refine ab (hc:=hn) (hX:=fun _ _=>trivial) ?_)|refine gs ?_|refine gs1 fun _=>?_|(refine aw ?_)|(refine gp ?_ ?_<;>intro hx_ this)|fail)
 (all_goals (apply ad;apply ag;rfl;rfl));all_goals first|rfl|(simp only [zeroR, *,Zt,Zr,Zf,Ze,Zh,Zg,Zk,Zj,Zn,Zl,Zs,Zm,Zq,Zi];done)|(simp_all [zeroR];done)
theorem oN (a:ActD):Pu Tryz.prog 275 #[a.v] (ActD.at_ · a) (.bool (wrappedB a)):=by
 refine ak (args:=[_]) _ Tryz.func275 rfl Tryz.ntmps275 rfl fun av bor w0=>?_
 refine aM (p:=a.wraps.n=a.wrapsL.length∧a.wraps.n≤maxLen∧(0<a.wrapsL.length→a.wraps.p.isSome=true)) (fun w h=>⟨h.2.len_,ZY (RowsD.cap h.2) (RowsD.max h.2),h.2.some_⟩) fun ⟨hl,hm,hp⟩=>?_
 simp only [maxLen] at hm
 repeat' (first|refine gs ?_|refine gs1 fun _=>?_|(refine gp ?_ ?_<;>intro hx_ this)|fail)
 rename_i b
 refine ar (ι:=Upto a.wrapsL.length (badW a.wrapsL)) (fun i=>⟨[(1,.pointer (some ⟨b,0,none⟩)),(3,.int .i64 i.k)],[cel b 46 a.cells],(ActD.at_ · a)⟩) (fun i=>a.wrapsL.length-i.k) (Upto.zero _ _) (aj ao (al _) fun _ h=>h) fun i=>?_
 have hik:=i.hk
 repeat' (first|refine gs ?_|refine gs1 fun _=>?_|(refine gp ?_ ?_<;>intro hx_ this)|fail)
 · have hlt:i.k<a.wrapsL.length:=by omega
   have hp':=hp aa
   obtain ⟨x,hx⟩:∃ x,a.wrapsL[i.k]?=some x:=⟨_,Zb hlt⟩
   have hc1:=fx x.to
   have hc2:=fx x.eph
   have hc3:=lz x.box
   repeat' (first|(refine ab (hc:=hc1) (hX:=fun _ _=>trivial) ?_)|(refine ab (hc:=hc2) (hX:=fun _ _=>trivial) ?_)|(refine ab (hc:=hc3) (hX:=fun _ _=>trivial) ?_)|refine gs ?_|refine gs1 fun _=>?_|(refine aO (q:=i.k*5) ?_)|(refine ca (cs:=x.cells) (hF:=fun w h=>Wraps.get h.2 hx) ?_)|(refine aw ?_)|(refine gp ?_ ?_<;>intro hx_ this)|fail)
   all_goals first
    | (refine ad (ag rfl rfl) ?_;rw [wrappedB,cM hlt (by simp only [kq hx, *,Zt,Zr,Zf,Ze,Zh,Zg,Zk,Zj,Zn,Zl,Zs,Zm,Zq,Zi]),Zj])
    | exact ⟨i.next hlt (by simp only [kq hx, *,Zt,Zr,Zf,Ze,Zh,Zg,Zk,Zj,Zn,Zl,Zs,Zm,Zq,Zi]),(by show a.wrapsL.length-(i.k+1)<a.wrapsL.length-i.k;omega),aj ao (Z2 _ (al _)) fun _ h=>h⟩
 · refine ad (ag rfl rfl) ?_
   rw [wrappedB,i.all aa,Zg]
def sealR (a:ActD):Bool:=decide (0≤a.epoch)&&decide (a.epoch≤1073741824)&&seqB a.text ⟨#[]⟩&&isSealedB a.body
def audR (a:ActD):Bool:=bif !isIds a.toL then false else bif !groupR a then false else bif decide (a.scope=0) then decide (a.epoch=0)&&decide ((a.text.size:Int)≤500)&&boxEq a.body BoxD.zero
 else bif decide (a.scope=3) then sealR a else bif decide (a.scope=1)||decide (a.scope=2) then sealR a&&decide ((a.to.n:Int)=0) else false
theorem GE (a:ActD):audR a=audienceB a:=by
 have hw:withinB a.epoch 0 1073741824=(decide (0≤a.epoch)&&decide (a.epoch≤1073741824)):=rfl
 have hz:decide (0<(a.to.n:Int))=!decide ((a.to.n:Int)=0):=by rw [←decide_not];exact decide_eq_decide.2 aa
 have hsh:isShortB a.text=decide ((a.text.size:Int)≤500):=rfl
 rw [audR,audienceB,groupR,sealedScopeB,hw,hz,hsh,sealR]
 cases isIds a.toL
 · rfl
 simp only [Zn,Ze]
 by_cases h0:a.scope=0
 · rw [h0]
   simp only [show decide ((0:Int)=2)=false from rfl,show decide ((0:Int)=0)=true from rfl,Ze,Zf]
   cases seqB a.group ⟨#[]⟩<;>simp [Bool.and_assoc]
 by_cases h3:a.scope=3
 · rw [h3]
   simp only [show decide ((3:Int)=2)=false from rfl,show decide ((3:Int)=0)=false from rfl,show decide ((3:Int)=3)=true from rfl,show decide ((3:Int)=1)=false from rfl,Ze,Zf,Zn,Zk]
   cases seqB a.group ⟨#[]⟩<;>simp [Bool.and_assoc]
 by_cases h1:a.scope=1
 · rw [h1]
   simp only [show decide ((1:Int)=2)=false from rfl,show decide ((1:Int)=0)=false from rfl,show decide ((1:Int)=3)=false from rfl,show decide ((1:Int)=1)=true from rfl,Ze,Zf,Zl,Zh,Zm]
   cases seqB a.group ⟨#[]⟩<;>cases decide ((a.to.n:Int)=0)<;>simp [Bool.and_assoc]
 by_cases h2:a.scope=2
 · rw [h2]
   simp only [show decide ((2:Int)=2)=true from rfl,show decide ((2:Int)=0)=false from rfl,show decide ((2:Int)=3)=false from rfl,show decide ((2:Int)=1)=false from rfl,Ze,Zf,Zl,Zh,Zi]
   cases isName a.group<;>cases decide ((a.to.n:Int)=0)<;>simp [Bool.and_assoc]
 rw [Zc h0,Zc h1,Zc h2,Zc h3]
 cases seqB a.group ⟨#[]⟩<;>cases decide ((a.to.n:Int)=0)<;>rfl
theorem nD (a:ActD) (hs:a.Str):Pu Tryz.prog 272 #[a.v] (ActD.at_ · a) (.bool (audienceB a)):=by
 refine ak (args:=[_]) _ Tryz.func272 rfl Tryz.ntmps272 rfl fun av bor w0=>?_
 rw [←GE]
 have hi:=kI a.to a.toL hs.to
 have hg:=lv a hs
 have hb:=lz a.body
 have he:=lw a.body
 repeat' (first|(refine ab (hc:=hi) (hX:=fun w h=>h.1) ?_)|(refine ab (hc:=hg) (hX:=fun _ _=>trivial) ?_)|(refine ab (hc:=hb) (hX:=fun _ _=>trivial) ?_)|(refine ab (hc:=he) (hX:=fun _ _=>trivial) ?_)|refine gs ?_|refine gs1 fun _=>?_|(refine aw ?_)|(refine gp ?_ ?_<;>intro hx_ this)|fail)
 all_goals refine ad (ag rfl rfl) ?_
 all_goals first
  | rfl
  | (simp_all [audR,sealR];done)
  | (simp_all [audR,sealR];intros;omega)
def bareA (a:ActD):ActD:={ a with scope:=0,group:=⟨#[]⟩,to:=⟨none,0,0⟩,text:=⟨#[]⟩,body:=BoxD.zero,epoch:=0,toL:=[] }
theorem uG (a:ActD):Pu Tryz.prog 273 #[a.v] (fun _=>True) (bareA a).v:=by
 refine ak (args:=[_]) _ Tryz.func273 rfl Tryz.ntmps273 rfl fun av bor w0=>?_
 repeat' (first|refine ky ?_|refine gs ?_|refine gs1 fun _=>?_|(refine dG ({ a with scope:=0,group:=⟨#[]⟩,to:=⟨none,0,0⟩,text:=⟨#[]⟩,body:=BoxD.zero }:ActD).cells (h:=?_))|(refine gp ?_ ?_<;>intro hx_ this)|fail)
 exact ad (cB (cs:=(bareA a).cells) rfl rfl ax (by rfl)) rfl
def okR (k:Int) (a:ActD):Bool :=
 bif decide (k=0) then (isPublicB a.n&&decide (0≤a.m)&&decide (a.m<20))&&isName a.text else bif decide (k=1) then audienceB a else bif decide (k=2) then audienceB a&&decide ((a.object.size:Int)=32) else bif decide (k=3) then audienceB a&&decide ((a.object.size:Int)=32) else bif decide (k=4) then decide ((a.object.size:Int)=32) else bif decide (k=5) then decide ((a.object.size:Int)=32) else bif decide (k=6) then decide ((a.object.size:Int)=32) else bif decide (k=7) then isId a.target else bif decide (k=8) then isId a.target else bif decide (k=9) then isId a.target else bif decide (k=10) then isId a.target else bif decide (k=11) then isId a.target else bif decide (k=12) then decide ((a.object.size:Int)=32)&&decide ((a.text.size:Int)≤500) else bif decide (k=13) then decide ((a.object.size:Int)=32) else bif decide (k=14) then audienceB a&&decide ((a.object.size:Int)=32) else bif decide (k=15) then isIds a.toL&&isName a.group else bif decide (k=16) then isIds a.toL&&decide (1≤a.scope)&&decide (a.scope≤3)&&groupR a&&decide (0≤a.epoch)&&decide (a.epoch≤1073741824)&&wrappedB a else bif decide (k=17) then (bif !seqB a.object ⟨#[]⟩ then isName a.text&&decide ((a.object.size:Int)=32)&&seqB a.target ⟨#[]⟩ else isName a.text&&isId a.target) else bif decide (k=18) then (isPublicB a.n&&decide (0≤a.m)&&decide (a.m<20)) else bif decide (k=19) then isIds a.toL&&decide (0<(a.to.n:Int))&&wrappedB a&&decide (1≤a.n)&&decide (a.n≤(a.to.n:Int))&&isPublicB a.m else bif decide (k=20) then decide ((a.object.size:Int)=32) else bif decide (k=21) then decide ((a.object.size:Int)=32)&&decide ((a.text.size:Int)≤500) else bif decide (k=22) then decide ((a.object.size:Int)=32)&&decide (0≤a.n)&&decide (a.n≤1) else bif decide (k=23) then isId a.target&&decide ((a.text.size:Int)≤500)&&decide (0≤a.n)&&decide (a.n≤1099511627776) else false
def restA (k:Int) (a:ActD):ActD :=
 bif decide (k=0) then { a with text:=⟨#[]⟩,n:=0,m:=0 } else bif decide (k=1) then bareA a else bif decide (k=2) then { bareA a with object:=⟨#[]⟩ } else bif decide (k=3) then { bareA a with object:=⟨#[]⟩ } else bif decide (k=4) then { a with object:=⟨#[]⟩ } else bif decide (k=5) then { a with object:=⟨#[]⟩ } else bif decide (k=6) then { a with object:=⟨#[]⟩ } else bif decide (k=7) then { a with target:=⟨#[]⟩ } else bif decide (k=8) then { a with target:=⟨#[]⟩ } else bif decide (k=9) then { a with target:=⟨#[]⟩ } else bif decide (k=10) then { a with target:=⟨#[]⟩ } else bif decide (k=11) then { a with target:=⟨#[]⟩ } else bif decide (k=12) then { a with object:=⟨#[]⟩,text:=⟨#[]⟩ } else bif decide (k=13) then { a with object:=⟨#[]⟩ } else bif decide (k=14) then { bareA a with object:=⟨#[]⟩ } else bif decide (k=15) then { a with group:=⟨#[]⟩,to:=⟨none,0,0⟩,toL:=[] } else bif decide (k=16) then { a with scope:=0,group:=⟨#[]⟩,to:=⟨none,0,0⟩,toL:=[],epoch:=0,wraps:=⟨none,0,0⟩,wrapsL:=[] } else bif decide (k=17) then { a with text:=⟨#[]⟩,object:=⟨#[]⟩,target:=⟨#[]⟩ } else bif decide (k=18) then { a with n:=0,m:=0 } else bif decide (k=19) then { a with to:=⟨none,0,0⟩,toL:=[],wraps:=⟨none,0,0⟩,wrapsL:=[],n:=0,m:=0 } else bif decide (k=20) then { a with object:=⟨#[]⟩ } else bif decide (k=21) then { a with object:=⟨#[]⟩,text:=⟨#[]⟩ } else bif decide (k=22) then { a with object:=⟨#[]⟩,n:=0 } else bif decide (k=23) then { a with target:=⟨#[]⟩,text:=⟨#[]⟩,n:=0 } else a
def fitsR (a:ActD):Bool:=okR a.kind a&&zeroR (restA a.kind a)
theorem Fl (a:ActD):okR 0 a=((isPublicB a.n&&decide (0≤a.m)&&decide (a.m<20))&&isName a.text):=rfl
theorem wd (a:ActD):restA 0 a=({ a with text:=⟨#[]⟩,n:=0,m:=0 }:ActD):=rfl
theorem Fk (a:ActD):okR 1 a=(audienceB a):=rfl
theorem wc (a:ActD):restA 1 a=(bareA a:ActD):=rfl
theorem Fj (a:ActD):okR 2 a=(audienceB a&&decide ((a.object.size:Int)=32)):=rfl
theorem wb (a:ActD):restA 2 a=({ bareA a with object:=⟨#[]⟩ }:ActD):=rfl
theorem Fi (a:ActD):okR 3 a=(audienceB a&&decide ((a.object.size:Int)=32)):=rfl
theorem wa (a:ActD):restA 3 a=({ bareA a with object:=⟨#[]⟩ }:ActD):=rfl
theorem Fg (a:ActD):okR 4 a=(decide ((a.object.size:Int)=32)):=rfl
theorem v8 (a:ActD):restA 4 a=({ a with object:=⟨#[]⟩ }:ActD):=rfl
theorem Ff (a:ActD):okR 5 a=(decide ((a.object.size:Int)=32)):=rfl
theorem vZ (a:ActD):restA 5 a=({ a with object:=⟨#[]⟩ }:ActD):=rfl
theorem Fe (a:ActD):okR 6 a=(decide ((a.object.size:Int)=32)):=rfl
theorem vY (a:ActD):restA 6 a=({ a with object:=⟨#[]⟩ }:ActD):=rfl
theorem Fc (a:ActD):okR 7 a=(isId a.target):=rfl
theorem vX (a:ActD):restA 7 a=({ a with target:=⟨#[]⟩ }:ActD):=rfl
theorem Fb (a:ActD):okR 8 a=(isId a.target):=rfl
theorem vW (a:ActD):restA 8 a=({ a with target:=⟨#[]⟩ }:ActD):=rfl
theorem Fa (a:ActD):okR 9 a=(isId a.target):=rfl
theorem vV (a:ActD):restA 9 a=({ a with target:=⟨#[]⟩ }:ActD):=rfl
theorem BK (a:ActD):okR 10 a=(isId a.target):=rfl
theorem sA (a:ActD):restA 10 a=({ a with target:=⟨#[]⟩ }:ActD):=rfl
theorem BJ (a:ActD):okR 11 a=(isId a.target):=rfl
theorem sz (a:ActD):restA 11 a=({ a with target:=⟨#[]⟩ }:ActD):=rfl
theorem BI (a:ActD):okR 12 a=(decide ((a.object.size:Int)=32)&&decide ((a.text.size:Int)≤500)):=rfl
theorem sy (a:ActD):restA 12 a=({ a with object:=⟨#[]⟩,text:=⟨#[]⟩ }:ActD):=rfl
theorem BH (a:ActD):okR 13 a=(decide ((a.object.size:Int)=32)):=rfl
theorem sx (a:ActD):restA 13 a=({ a with object:=⟨#[]⟩ }:ActD):=rfl
theorem BG (a:ActD):okR 14 a=(audienceB a&&decide ((a.object.size:Int)=32)):=rfl
theorem su (a:ActD):restA 14 a=({ bareA a with object:=⟨#[]⟩ }:ActD):=rfl
theorem BF (a:ActD):okR 15 a=(isIds a.toL&&isName a.group):=rfl
theorem sr (a:ActD):restA 15 a=({ a with group:=⟨#[]⟩,to:=⟨none,0,0⟩,toL:=[] }:ActD):=rfl
theorem BE (a:ActD):okR 16 a=(isIds a.toL&&decide (1≤a.scope)&&decide (a.scope≤3)&&groupR a&&decide (0≤a.epoch)&&decide (a.epoch≤1073741824)&&wrappedB a):=rfl
theorem sj (a:ActD):restA 16 a=({ a with scope:=0,group:=⟨#[]⟩,to:=⟨none,0,0⟩,toL:=[],epoch:=0,wraps:=⟨none,0,0⟩,wrapsL:=[] }:ActD):=rfl
theorem BD (a:ActD):okR 17 a=((bif !seqB a.object ⟨#[]⟩ then isName a.text&&decide ((a.object.size:Int)=32)&&seqB a.target ⟨#[]⟩ else isName a.text&&isId a.target)):=rfl
theorem si (a:ActD):restA 17 a=({ a with text:=⟨#[]⟩,object:=⟨#[]⟩,target:=⟨#[]⟩ }:ActD):=rfl
theorem BC (a:ActD):okR 18 a=((isPublicB a.n&&decide (0≤a.m)&&decide (a.m<20))):=rfl
theorem sf (a:ActD):restA 18 a=({ a with n:=0,m:=0 }:ActD):=rfl
theorem BB (a:ActD):okR 19 a=(isIds a.toL&&decide (0<(a.to.n:Int))&&wrappedB a&&decide (1≤a.n)&&decide (a.n≤(a.to.n:Int))&&isPublicB a.m):=rfl
theorem se (a:ActD):restA 19 a=({ a with to:=⟨none,0,0⟩,toL:=[],wraps:=⟨none,0,0⟩,wrapsL:=[],n:=0,m:=0 }:ActD):=rfl
theorem BA (a:ActD):okR 20 a=(decide ((a.object.size:Int)=32)):=rfl
theorem sd (a:ActD):restA 20 a=({ a with object:=⟨#[]⟩ }:ActD):=rfl
theorem Bz (a:ActD):okR 21 a=(decide ((a.object.size:Int)=32)&&decide ((a.text.size:Int)≤500)):=rfl
theorem r8 (a:ActD):restA 21 a=({ a with object:=⟨#[]⟩,text:=⟨#[]⟩ }:ActD):=rfl
theorem By (a:ActD):okR 22 a=(decide ((a.object.size:Int)=32)&&decide (0≤a.n)&&decide (a.n≤1)):=rfl
theorem r5 (a:ActD):restA 22 a=({ a with object:=⟨#[]⟩,n:=0 }:ActD):=rfl
theorem Bx (a:ActD):okR 23 a=(isId a.target&&decide ((a.text.size:Int)≤500)&&decide (0≤a.n)&&decide (a.n≤1099511627776)):=rfl
theorem r4 (a:ActD):restA 23 a=({ a with target:=⟨#[]⟩,text:=⟨#[]⟩,n:=0 }:ActD):=rfl
theorem sO {a:ActD} (h:¬ (0≤a.kind∧a.kind≤23)):okR a.kind a=false:=by
 rw [okR]
 rw [Zc (show ¬ a.kind=0 by omega),Ze]
 rw [Zc (show ¬ a.kind=1 by omega),Ze]
 rw [Zc (show ¬ a.kind=2 by omega),Ze]
 rw [Zc (show ¬ a.kind=3 by omega),Ze]
 rw [Zc (show ¬ a.kind=4 by omega),Ze]
 rw [Zc (show ¬ a.kind=5 by omega),Ze]
 rw [Zc (show ¬ a.kind=6 by omega),Ze]
 rw [Zc (show ¬ a.kind=7 by omega),Ze]
 rw [Zc (show ¬ a.kind=8 by omega),Ze]
 rw [Zc (show ¬ a.kind=9 by omega),Ze]
 rw [Zc (show ¬ a.kind=10 by omega),Ze]
 rw [Zc (show ¬ a.kind=11 by omega),Ze]
 rw [Zc (show ¬ a.kind=12 by omega),Ze]
 rw [Zc (show ¬ a.kind=13 by omega),Ze]
 rw [Zc (show ¬ a.kind=14 by omega),Ze]
 rw [Zc (show ¬ a.kind=15 by omega),Ze]
 rw [Zc (show ¬ a.kind=16 by omega),Ze]
 rw [Zc (show ¬ a.kind=17 by omega),Ze]
 rw [Zc (show ¬ a.kind=18 by omega),Ze]
 rw [Zc (show ¬ a.kind=19 by omega),Ze]
 rw [Zc (show ¬ a.kind=20 by omega),Ze]
 rw [Zc (show ¬ a.kind=21 by omega),Ze]
 rw [Zc (show ¬ a.kind=22 by omega),Ze]
 rw [Zc (show ¬ a.kind=23 by omega),Ze]
theorem pH {k:Int} (h:0≤k∧k≤23):k=0∨k=1∨k=2∨k=3∨k=4∨k=5∨k=6∨k=7∨k=8∨k=9∨k=10∨k=11∨k=12∨k=13∨k=14∨k=15∨k=16∨k=17∨k=18∨k=19∨k=20∨k=21∨k=22∨k=23:=by omega
set_option maxRecDepth 20000 in
theorem uC (a:ActD) (hs:a.Str):Pu Tryz.prog 231 #[a.v] (ActD.at_ · a) (.bool (fitsR a)):=by
 refine ak (args:=[_]) _ Tryz.func231 rfl Tryz.ntmps231 rfl fun av bor w0=>?_
 have c1:=fx a.n
 have c2:=fx a.m
 have c3:=jm a.text hs.text
 have c4:=jm a.group hs.group
 have c5:=nD a hs
 have c6:=uG a
 have c7:=gB a.target hs.target
 have c8:=kI a.to a.toL hs.to
 have c9:=lv a hs
 have c10:=oN a
 by_cases hk:0≤a.kind∧a.kind≤23
 · rw [fitsR]
   rcases pH hk with h|h|h|h|h|h|h|h|h|h|h|h|h|h|h|h|h|h|h|h|h|h|h|h
   · rw [h,Fl,wd]
     have c0:=bJ ({ a with text:=⟨#[]⟩,n:=0,m:=0 }:ActD)
     repeat' (first|refine aP (hab:=by omega) ?_|refine aL (hab:=by omega) ?_|apply bq|apply QQ|apply QR|refine aX ?_|refine aD ?_|refine bC ?_|refine bU ?_|refine aE ?_|refine aH ?_|refine aI ?_|refine bF ?_|refine bN ?_|refine bA ?_|refine cP ?_|refine bM ?_|refine cg ?_|refine bj ?_|refine bw ?_|refine be ?_|refine bE ?_|refine aT ?_|refine aU ?_|refine aS ?_|refine aR fun _=>?_|refine bH fun _=>?_|refine bx ?_|refine aJ ?_|refine QU ?_|refine QV ?_|apply QT|apply QS|apply cw_ret|apply cw_exit|refine sy_beql (h:=?_)|refine br ?_|refine bc ?_|refine aZ ?_|(refine ab (hc:=c0) (hX:=fun _ _=>trivial) ?_)|(refine ab (hc:=c1) (hX:=fun _ _=>trivial) ?_)|(refine ab (hc:=c2) (hX:=fun _ _=>trivial) ?_)|(refine ab (hc:=c3) (hX:=fun _ _=>trivial) ?_)|(refine ab (hc:=c4) (hX:=fun _ _=>trivial) ?_)|(refine ab (hc:=c5) (hX:=fun w h=>h) ?_)|(refine ab (hc:=c6) (hX:=fun _ _=>trivial) ?_)|(refine ab (hc:=c7) (hX:=fun _ _=>trivial) ?_)|(refine ab (hc:=c8) (hX:=fun w h=>h.1) ?_)|(refine ab (hc:=c9) (hX:=fun _ _=>trivial) ?_)|(refine ab (hc:=c10) (hX:=fun w h=>h) ?_)|((fail_if_success (refine bI ?_));refine aW (ht:=?_) (hf:=?_);all_goals (intro hx_;first|have:=aG hx_|have:=aQ hx_|skip))|(refine cw_cond (ht:=?_) (hf:=?_);all_goals (intro hx_;first|have:=aG hx_|have:=aQ hx_|skip)))
     all_goals refine ad (ag rfl rfl) ?_
     all_goals first
      | rfl
      | (simp only [*,Zt,Zr,Zf,Ze,Zh,Zg,Zk,Zj,Zn,Zl,Zs,Zm,Zq,Zi];done)
      | (simp_all;done)
      | (simp_all;intros;omega)
      | skip
   · rw [h,Fk,wc]
     have c0:=bJ (bareA a:ActD)
     repeat' (first|refine aP (hab:=by omega) ?_|refine aL (hab:=by omega) ?_|apply bq|apply QQ|apply QR|refine aX ?_|refine aD ?_|refine bC ?_|refine bU ?_|refine aE ?_|refine aH ?_|refine aI ?_|refine bF ?_|refine bN ?_|refine bA ?_|refine cP ?_|refine bM ?_|refine cg ?_|refine bj ?_|refine bw ?_|refine be ?_|refine bE ?_|refine aT ?_|refine aU ?_|refine aS ?_|refine aR fun _=>?_|refine bH fun _=>?_|refine bx ?_|refine aJ ?_|refine QU ?_|refine QV ?_|apply QT|apply QS|apply cw_ret|apply cw_exit|refine sy_beql (h:=?_)|refine br ?_|refine bc ?_|refine aZ ?_|(refine ab (hc:=c0) (hX:=fun _ _=>trivial) ?_)|(refine ab (hc:=c1) (hX:=fun _ _=>trivial) ?_)|(refine ab (hc:=c2) (hX:=fun _ _=>trivial) ?_)|(refine ab (hc:=c3) (hX:=fun _ _=>trivial) ?_)|(refine ab (hc:=c4) (hX:=fun _ _=>trivial) ?_)|(refine ab (hc:=c5) (hX:=fun w h=>h) ?_)|(refine ab (hc:=c6) (hX:=fun _ _=>trivial) ?_)|(refine ab (hc:=c7) (hX:=fun _ _=>trivial) ?_)|(refine ab (hc:=c8) (hX:=fun w h=>h.1) ?_)|(refine ab (hc:=c9) (hX:=fun _ _=>trivial) ?_)|(refine ab (hc:=c10) (hX:=fun w h=>h) ?_)|((fail_if_success (refine bI ?_));refine aW (ht:=?_) (hf:=?_);all_goals (intro hx_;first|have:=aG hx_|have:=aQ hx_|skip))|(refine cw_cond (ht:=?_) (hf:=?_);all_goals (intro hx_;first|have:=aG hx_|have:=aQ hx_|skip)))
     all_goals refine ad (ag rfl rfl) ?_
     all_goals first
      | rfl
      | (simp only [*,Zt,Zr,Zf,Ze,Zh,Zg,Zk,Zj,Zn,Zl,Zs,Zm,Zq,Zi];done)
      | (simp_all;done)
      | (simp_all;intros;omega)
      | skip
   · rw [h,Fj,wb]
     have c0:=bJ ({ bareA a with object:=⟨#[]⟩ }:ActD)
     repeat' (first|refine aP (hab:=by omega) ?_|refine aL (hab:=by omega) ?_|apply bq|apply QQ|apply QR|refine aX ?_|refine aD ?_|refine bC ?_|refine bU ?_|refine aE ?_|refine aH ?_|refine aI ?_|refine bF ?_|refine bN ?_|refine bA ?_|refine cP ?_|refine bM ?_|refine cg ?_|refine bj ?_|refine bw ?_|refine be ?_|refine bE ?_|refine aT ?_|refine aU ?_|refine aS ?_|refine aR fun _=>?_|refine bH fun _=>?_|refine bx ?_|refine aJ ?_|refine QU ?_|refine QV ?_|apply QT|apply QS|apply cw_ret|apply cw_exit|refine sy_beql (h:=?_)|refine br ?_|refine bc ?_|refine aZ ?_|(refine ab (hc:=c0) (hX:=fun _ _=>trivial) ?_)|(refine ab (hc:=c1) (hX:=fun _ _=>trivial) ?_)|(refine ab (hc:=c2) (hX:=fun _ _=>trivial) ?_)|(refine ab (hc:=c3) (hX:=fun _ _=>trivial) ?_)|(refine ab (hc:=c4) (hX:=fun _ _=>trivial) ?_)|(refine ab (hc:=c5) (hX:=fun w h=>h) ?_)|(refine ab (hc:=c6) (hX:=fun _ _=>trivial) ?_)|(refine ab (hc:=c7) (hX:=fun _ _=>trivial) ?_)|(refine ab (hc:=c8) (hX:=fun w h=>h.1) ?_)|(refine ab (hc:=c9) (hX:=fun _ _=>trivial) ?_)|(refine ab (hc:=c10) (hX:=fun w h=>h) ?_)|((fail_if_success (refine bI ?_));refine aW (ht:=?_) (hf:=?_);all_goals (intro hx_;first|have:=aG hx_|have:=aQ hx_|skip))|(refine cw_cond (ht:=?_) (hf:=?_);all_goals (intro hx_;first|have:=aG hx_|have:=aQ hx_|skip)))
     all_goals refine ad (ag rfl rfl) ?_
     all_goals first
      | rfl
      | (simp only [*,Zt,Zr,Zf,Ze,Zh,Zg,Zk,Zj,Zn,Zl,Zs,Zm,Zq,Zi];done)
      | (simp_all;done)
      | (simp_all;intros;omega)
      | skip
   · rw [h,Fi,wa]
     have c0:=bJ ({ bareA a with object:=⟨#[]⟩ }:ActD)
     repeat' (first|refine aP (hab:=by omega) ?_|refine aL (hab:=by omega) ?_|apply bq|apply QQ|apply QR|refine aX ?_|refine aD ?_|refine bC ?_|refine bU ?_|refine aE ?_|refine aH ?_|refine aI ?_|refine bF ?_|refine bN ?_|refine bA ?_|refine cP ?_|refine bM ?_|refine cg ?_|refine bj ?_|refine bw ?_|refine be ?_|refine bE ?_|refine aT ?_|refine aU ?_|refine aS ?_|refine aR fun _=>?_|refine bH fun _=>?_|refine bx ?_|refine aJ ?_|refine QU ?_|refine QV ?_|apply QT|apply QS|apply cw_ret|apply cw_exit|refine sy_beql (h:=?_)|refine br ?_|refine bc ?_|refine aZ ?_|(refine ab (hc:=c0) (hX:=fun _ _=>trivial) ?_)|(refine ab (hc:=c1) (hX:=fun _ _=>trivial) ?_)|(refine ab (hc:=c2) (hX:=fun _ _=>trivial) ?_)|(refine ab (hc:=c3) (hX:=fun _ _=>trivial) ?_)|(refine ab (hc:=c4) (hX:=fun _ _=>trivial) ?_)|(refine ab (hc:=c5) (hX:=fun w h=>h) ?_)|(refine ab (hc:=c6) (hX:=fun _ _=>trivial) ?_)|(refine ab (hc:=c7) (hX:=fun _ _=>trivial) ?_)|(refine ab (hc:=c8) (hX:=fun w h=>h.1) ?_)|(refine ab (hc:=c9) (hX:=fun _ _=>trivial) ?_)|(refine ab (hc:=c10) (hX:=fun w h=>h) ?_)|((fail_if_success (refine bI ?_));refine aW (ht:=?_) (hf:=?_);all_goals (intro hx_;first|have:=aG hx_|have:=aQ hx_|skip))|(refine cw_cond (ht:=?_) (hf:=?_);all_goals (intro hx_;first|have:=aG hx_|have:=aQ hx_|skip)))
     all_goals refine ad (ag rfl rfl) ?_
     all_goals first
      | rfl
      | (simp only [*,Zt,Zr,Zf,Ze,Zh,Zg,Zk,Zj,Zn,Zl,Zs,Zm,Zq,Zi];done)
      | (simp_all;done)
      | (simp_all;intros;omega)
      | skip
   · rw [h,Fg,v8]
     have c0:=bJ ({ a with object:=⟨#[]⟩ }:ActD)
     repeat' (first|refine aP (hab:=by omega) ?_|refine aL (hab:=by omega) ?_|apply bq|apply QQ|apply QR|refine aX ?_|refine aD ?_|refine bC ?_|refine bU ?_|refine aE ?_|refine aH ?_|refine aI ?_|refine bF ?_|refine bN ?_|refine bA ?_|refine cP ?_|refine bM ?_|refine cg ?_|refine bj ?_|refine bw ?_|refine be ?_|refine bE ?_|refine aT ?_|refine aU ?_|refine aS ?_|refine aR fun _=>?_|refine bH fun _=>?_|refine bx ?_|refine aJ ?_|refine QU ?_|refine QV ?_|apply QT|apply QS|apply cw_ret|apply cw_exit|refine sy_beql (h:=?_)|refine br ?_|refine bc ?_|refine aZ ?_|(refine ab (hc:=c0) (hX:=fun _ _=>trivial) ?_)|(refine ab (hc:=c1) (hX:=fun _ _=>trivial) ?_)|(refine ab (hc:=c2) (hX:=fun _ _=>trivial) ?_)|(refine ab (hc:=c3) (hX:=fun _ _=>trivial) ?_)|(refine ab (hc:=c4) (hX:=fun _ _=>trivial) ?_)|(refine ab (hc:=c5) (hX:=fun w h=>h) ?_)|(refine ab (hc:=c6) (hX:=fun _ _=>trivial) ?_)|(refine ab (hc:=c7) (hX:=fun _ _=>trivial) ?_)|(refine ab (hc:=c8) (hX:=fun w h=>h.1) ?_)|(refine ab (hc:=c9) (hX:=fun _ _=>trivial) ?_)|(refine ab (hc:=c10) (hX:=fun w h=>h) ?_)|((fail_if_success (refine bI ?_));refine aW (ht:=?_) (hf:=?_);all_goals (intro hx_;first|have:=aG hx_|have:=aQ hx_|skip))|(refine cw_cond (ht:=?_) (hf:=?_);all_goals (intro hx_;first|have:=aG hx_|have:=aQ hx_|skip)))
     all_goals refine ad (ag rfl rfl) ?_
     all_goals first
      | rfl
      | (simp only [*,Zt,Zr,Zf,Ze,Zh,Zg,Zk,Zj,Zn,Zl,Zs,Zm,Zq,Zi];done)
      | (simp_all;done)
      | (simp_all;intros;omega)
      | skip
   · rw [h,Ff,vZ]
     have c0:=bJ ({ a with object:=⟨#[]⟩ }:ActD)
     repeat' (first|refine aP (hab:=by omega) ?_|refine aL (hab:=by omega) ?_|apply bq|apply QQ|apply QR|refine aX ?_|refine aD ?_|refine bC ?_|refine bU ?_|refine aE ?_|refine aH ?_|refine aI ?_|refine bF ?_|refine bN ?_|refine bA ?_|refine cP ?_|refine bM ?_|refine cg ?_|refine bj ?_|refine bw ?_|refine be ?_|refine bE ?_|refine aT ?_|refine aU ?_|refine aS ?_|refine aR fun _=>?_|refine bH fun _=>?_|refine bx ?_|refine aJ ?_|refine QU ?_|refine QV ?_|apply QT|apply QS|apply cw_ret|apply cw_exit|refine sy_beql (h:=?_)|refine br ?_|refine bc ?_|refine aZ ?_|(refine ab (hc:=c0) (hX:=fun _ _=>trivial) ?_)|(refine ab (hc:=c1) (hX:=fun _ _=>trivial) ?_)|(refine ab (hc:=c2) (hX:=fun _ _=>trivial) ?_)|(refine ab (hc:=c3) (hX:=fun _ _=>trivial) ?_)|(refine ab (hc:=c4) (hX:=fun _ _=>trivial) ?_)|(refine ab (hc:=c5) (hX:=fun w h=>h) ?_)|(refine ab (hc:=c6) (hX:=fun _ _=>trivial) ?_)|(refine ab (hc:=c7) (hX:=fun _ _=>trivial) ?_)|(refine ab (hc:=c8) (hX:=fun w h=>h.1) ?_)|(refine ab (hc:=c9) (hX:=fun _ _=>trivial) ?_)|(refine ab (hc:=c10) (hX:=fun w h=>h) ?_)|((fail_if_success (refine bI ?_));refine aW (ht:=?_) (hf:=?_);all_goals (intro hx_;first|have:=aG hx_|have:=aQ hx_|skip))|(refine cw_cond (ht:=?_) (hf:=?_);all_goals (intro hx_;first|have:=aG hx_|have:=aQ hx_|skip)))
     all_goals refine ad (ag rfl rfl) ?_
     all_goals first
      | rfl
      | (simp only [*,Zt,Zr,Zf,Ze,Zh,Zg,Zk,Zj,Zn,Zl,Zs,Zm,Zq,Zi];done)
      | (simp_all;done)
      | (simp_all;intros;omega)
      | skip
   · rw [h,Fe,vY]
     have c0:=bJ ({ a with object:=⟨#[]⟩ }:ActD)
     repeat' (first|refine aP (hab:=by omega) ?_|refine aL (hab:=by omega) ?_|apply bq|apply QQ|apply QR|refine aX ?_|refine aD ?_|refine bC ?_|refine bU ?_|refine aE ?_|refine aH ?_|refine aI ?_|refine bF ?_|refine bN ?_|refine bA ?_|refine cP ?_|refine bM ?_|refine cg ?_|refine bj ?_|refine bw ?_|refine be ?_|refine bE ?_|refine aT ?_|refine aU ?_|refine aS ?_|refine aR fun _=>?_|refine bH fun _=>?_|refine bx ?_|refine aJ ?_|refine QU ?_|refine QV ?_|apply QT|apply QS|apply cw_ret|apply cw_exit|refine sy_beql (h:=?_)|refine br ?_|refine bc ?_|refine aZ ?_|(refine ab (hc:=c0) (hX:=fun _ _=>trivial) ?_)|(refine ab (hc:=c1) (hX:=fun _ _=>trivial) ?_)|(refine ab (hc:=c2) (hX:=fun _ _=>trivial) ?_)|(refine ab (hc:=c3) (hX:=fun _ _=>trivial) ?_)|(refine ab (hc:=c4) (hX:=fun _ _=>trivial) ?_)|(refine ab (hc:=c5) (hX:=fun w h=>h) ?_)|(refine ab (hc:=c6) (hX:=fun _ _=>trivial) ?_)|(refine ab (hc:=c7) (hX:=fun _ _=>trivial) ?_)|(refine ab (hc:=c8) (hX:=fun w h=>h.1) ?_)|(refine ab (hc:=c9) (hX:=fun _ _=>trivial) ?_)|(refine ab (hc:=c10) (hX:=fun w h=>h) ?_)|((fail_if_success (refine bI ?_));refine aW (ht:=?_) (hf:=?_);all_goals (intro hx_;first|have:=aG hx_|have:=aQ hx_|skip))|(refine cw_cond (ht:=?_) (hf:=?_);all_goals (intro hx_;first|have:=aG hx_|have:=aQ hx_|skip)))
     all_goals refine ad (ag rfl rfl) ?_
     all_goals first
      | rfl
      | (simp only [*,Zt,Zr,Zf,Ze,Zh,Zg,Zk,Zj,Zn,Zl,Zs,Zm,Zq,Zi];done)
      | (simp_all;done)
      | (simp_all;intros;omega)
      | skip
   · rw [h,Fc,vX]
     have c0:=bJ ({ a with target:=⟨#[]⟩ }:ActD)
     repeat' (first|refine aP (hab:=by omega) ?_|refine aL (hab:=by omega) ?_|apply bq|apply QQ|apply QR|refine aX ?_|refine aD ?_|refine bC ?_|refine bU ?_|refine aE ?_|refine aH ?_|refine aI ?_|refine bF ?_|refine bN ?_|refine bA ?_|refine cP ?_|refine bM ?_|refine cg ?_|refine bj ?_|refine bw ?_|refine be ?_|refine bE ?_|refine aT ?_|refine aU ?_|refine aS ?_|refine aR fun _=>?_|refine bH fun _=>?_|refine bx ?_|refine aJ ?_|refine QU ?_|refine QV ?_|apply QT|apply QS|apply cw_ret|apply cw_exit|refine sy_beql (h:=?_)|refine br ?_|refine bc ?_|refine aZ ?_|(refine ab (hc:=c0) (hX:=fun _ _=>trivial) ?_)|(refine ab (hc:=c1) (hX:=fun _ _=>trivial) ?_)|(refine ab (hc:=c2) (hX:=fun _ _=>trivial) ?_)|(refine ab (hc:=c3) (hX:=fun _ _=>trivial) ?_)|(refine ab (hc:=c4) (hX:=fun _ _=>trivial) ?_)|(refine ab (hc:=c5) (hX:=fun w h=>h) ?_)|(refine ab (hc:=c6) (hX:=fun _ _=>trivial) ?_)|(refine ab (hc:=c7) (hX:=fun _ _=>trivial) ?_)|(refine ab (hc:=c8) (hX:=fun w h=>h.1) ?_)|(refine ab (hc:=c9) (hX:=fun _ _=>trivial) ?_)|(refine ab (hc:=c10) (hX:=fun w h=>h) ?_)|((fail_if_success (refine bI ?_));refine aW (ht:=?_) (hf:=?_);all_goals (intro hx_;first|have:=aG hx_|have:=aQ hx_|skip))|(refine cw_cond (ht:=?_) (hf:=?_);all_goals (intro hx_;first|have:=aG hx_|have:=aQ hx_|skip)))
     all_goals refine ad (ag rfl rfl) ?_
     all_goals first
      | rfl
      | (simp only [*,Zt,Zr,Zf,Ze,Zh,Zg,Zk,Zj,Zn,Zl,Zs,Zm,Zq,Zi];done)
      | (simp_all;done)
      | (simp_all;intros;omega)
      | skip
   · rw [h,Fb,vW]
     have c0:=bJ ({ a with target:=⟨#[]⟩ }:ActD)
     repeat' (first|refine aP (hab:=by omega) ?_|refine aL (hab:=by omega) ?_|apply bq|apply QQ|apply QR|refine aX ?_|refine aD ?_|refine bC ?_|refine bU ?_|refine aE ?_|refine aH ?_|refine aI ?_|refine bF ?_|refine bN ?_|refine bA ?_|refine cP ?_|refine bM ?_|refine cg ?_|refine bj ?_|refine bw ?_|refine be ?_|refine bE ?_|refine aT ?_|refine aU ?_|refine aS ?_|refine aR fun _=>?_|refine bH fun _=>?_|refine bx ?_|refine aJ ?_|refine QU ?_|refine QV ?_|apply QT|apply QS|apply cw_ret|apply cw_exit|refine sy_beql (h:=?_)|refine br ?_|refine bc ?_|refine aZ ?_|(refine ab (hc:=c0) (hX:=fun _ _=>trivial) ?_)|(refine ab (hc:=c1) (hX:=fun _ _=>trivial) ?_)|(refine ab (hc:=c2) (hX:=fun _ _=>trivial) ?_)|(refine ab (hc:=c3) (hX:=fun _ _=>trivial) ?_)|(refine ab (hc:=c4) (hX:=fun _ _=>trivial) ?_)|(refine ab (hc:=c5) (hX:=fun w h=>h) ?_)|(refine ab (hc:=c6) (hX:=fun _ _=>trivial) ?_)|(refine ab (hc:=c7) (hX:=fun _ _=>trivial) ?_)|(refine ab (hc:=c8) (hX:=fun w h=>h.1) ?_)|(refine ab (hc:=c9) (hX:=fun _ _=>trivial) ?_)|(refine ab (hc:=c10) (hX:=fun w h=>h) ?_)|((fail_if_success (refine bI ?_));refine aW (ht:=?_) (hf:=?_);all_goals (intro hx_;first|have:=aG hx_|have:=aQ hx_|skip))|(refine cw_cond (ht:=?_) (hf:=?_);all_goals (intro hx_;first|have:=aG hx_|have:=aQ hx_|skip)))
     all_goals refine ad (ag rfl rfl) ?_
     all_goals first
      | rfl
      | (simp only [*,Zt,Zr,Zf,Ze,Zh,Zg,Zk,Zj,Zn,Zl,Zs,Zm,Zq,Zi];done)
      | (simp_all;done)
      | (simp_all;intros;omega)
      | skip
   · rw [h,Fa,vV]
     have c0:=bJ ({ a with target:=⟨#[]⟩ }:ActD)
     repeat' (first|refine aP (hab:=by omega) ?_|refine aL (hab:=by omega) ?_|apply bq|apply QQ|apply QR|refine aX ?_|refine aD ?_|refine bC ?_|refine bU ?_|refine aE ?_|refine aH ?_|refine aI ?_|refine bF ?_|refine bN ?_|refine bA ?_|refine cP ?_|refine bM ?_|refine cg ?_|refine bj ?_|refine bw ?_|refine be ?_|refine bE ?_|refine aT ?_|refine aU ?_|refine aS ?_|refine aR fun _=>?_|refine bH fun _=>?_|refine bx ?_|refine aJ ?_|refine QU ?_|refine QV ?_|apply QT|apply QS|apply cw_ret|apply cw_exit|refine sy_beql (h:=?_)|refine br ?_|refine bc ?_|refine aZ ?_|(refine ab (hc:=c0) (hX:=fun _ _=>trivial) ?_)|(refine ab (hc:=c1) (hX:=fun _ _=>trivial) ?_)|(refine ab (hc:=c2) (hX:=fun _ _=>trivial) ?_)|(refine ab (hc:=c3) (hX:=fun _ _=>trivial) ?_)|(refine ab (hc:=c4) (hX:=fun _ _=>trivial) ?_)|(refine ab (hc:=c5) (hX:=fun w h=>h) ?_)|(refine ab (hc:=c6) (hX:=fun _ _=>trivial) ?_)|(refine ab (hc:=c7) (hX:=fun _ _=>trivial) ?_)|(refine ab (hc:=c8) (hX:=fun w h=>h.1) ?_)|(refine ab (hc:=c9) (hX:=fun _ _=>trivial) ?_)|(refine ab (hc:=c10) (hX:=fun w h=>h) ?_)|((fail_if_success (refine bI ?_));refine aW (ht:=?_) (hf:=?_);all_goals (intro hx_;first|have:=aG hx_|have:=aQ hx_|skip))|(refine cw_cond (ht:=?_) (hf:=?_);all_goals (intro hx_;first|have:=aG hx_|have:=aQ hx_|skip)))
     all_goals refine ad (ag rfl rfl) ?_
     all_goals first
      | rfl
      | (simp only [*,Zt,Zr,Zf,Ze,Zh,Zg,Zk,Zj,Zn,Zl,Zs,Zm,Zq,Zi];done)
      | (simp_all;done)
      | (simp_all;intros;omega)
      | skip
   · rw [h,BK,sA]
     have c0:=bJ ({ a with target:=⟨#[]⟩ }:ActD)
     repeat' (first|refine aP (hab:=by omega) ?_|refine aL (hab:=by omega) ?_|apply bq|apply QQ|apply QR|refine aX ?_|refine aD ?_|refine bC ?_|refine bU ?_|refine aE ?_|refine aH ?_|refine aI ?_|refine bF ?_|refine bN ?_|refine bA ?_|refine cP ?_|refine bM ?_|refine cg ?_|refine bj ?_|refine bw ?_|refine be ?_|refine bE ?_|refine aT ?_|refine aU ?_|refine aS ?_|refine aR fun _=>?_|refine bH fun _=>?_|refine bx ?_|refine aJ ?_|refine QU ?_|refine QV ?_|apply QT|apply QS|apply cw_ret|apply cw_exit|refine sy_beql (h:=?_)|refine br ?_|refine bc ?_|refine aZ ?_|(refine ab (hc:=c0) (hX:=fun _ _=>trivial) ?_)|(refine ab (hc:=c1) (hX:=fun _ _=>trivial) ?_)|(refine ab (hc:=c2) (hX:=fun _ _=>trivial) ?_)|(refine ab (hc:=c3) (hX:=fun _ _=>trivial) ?_)|(refine ab (hc:=c4) (hX:=fun _ _=>trivial) ?_)|(refine ab (hc:=c5) (hX:=fun w h=>h) ?_)|(refine ab (hc:=c6) (hX:=fun _ _=>trivial) ?_)|(refine ab (hc:=c7) (hX:=fun _ _=>trivial) ?_)|(refine ab (hc:=c8) (hX:=fun w h=>h.1) ?_)|(refine ab (hc:=c9) (hX:=fun _ _=>trivial) ?_)|(refine ab (hc:=c10) (hX:=fun w h=>h) ?_)|((fail_if_success (refine bI ?_));refine aW (ht:=?_) (hf:=?_);all_goals (intro hx_;first|have:=aG hx_|have:=aQ hx_|skip))|(refine cw_cond (ht:=?_) (hf:=?_);all_goals (intro hx_;first|have:=aG hx_|have:=aQ hx_|skip)))
     all_goals refine ad (ag rfl rfl) ?_
     all_goals first
      | rfl
      | (simp only [*,Zt,Zr,Zf,Ze,Zh,Zg,Zk,Zj,Zn,Zl,Zs,Zm,Zq,Zi];done)
      | (simp_all;done)
      | (simp_all;intros;omega)
      | skip
   · rw [h,BJ,sz]
     have c0:=bJ ({ a with target:=⟨#[]⟩ }:ActD)
     repeat' (first|refine aP (hab:=by omega) ?_|refine aL (hab:=by omega) ?_|apply bq|apply QQ|apply QR|refine aX ?_|refine aD ?_|refine bC ?_|refine bU ?_|refine aE ?_|refine aH ?_|refine aI ?_|refine bF ?_|refine bN ?_|refine bA ?_|refine cP ?_|refine bM ?_|refine cg ?_|refine bj ?_|refine bw ?_|refine be ?_|refine bE ?_|refine aT ?_|refine aU ?_|refine aS ?_|refine aR fun _=>?_|refine bH fun _=>?_|refine bx ?_|refine aJ ?_|refine QU ?_|refine QV ?_|apply QT|apply QS|apply cw_ret|apply cw_exit|refine sy_beql (h:=?_)|refine br ?_|refine bc ?_|refine aZ ?_|(refine ab (hc:=c0) (hX:=fun _ _=>trivial) ?_)|(refine ab (hc:=c1) (hX:=fun _ _=>trivial) ?_)|(refine ab (hc:=c2) (hX:=fun _ _=>trivial) ?_)|(refine ab (hc:=c3) (hX:=fun _ _=>trivial) ?_)|(refine ab (hc:=c4) (hX:=fun _ _=>trivial) ?_)|(refine ab (hc:=c5) (hX:=fun w h=>h) ?_)|(refine ab (hc:=c6) (hX:=fun _ _=>trivial) ?_)|(refine ab (hc:=c7) (hX:=fun _ _=>trivial) ?_)|(refine ab (hc:=c8) (hX:=fun w h=>h.1) ?_)|(refine ab (hc:=c9) (hX:=fun _ _=>trivial) ?_)|(refine ab (hc:=c10) (hX:=fun w h=>h) ?_)|((fail_if_success (refine bI ?_));refine aW (ht:=?_) (hf:=?_);all_goals (intro hx_;first|have:=aG hx_|have:=aQ hx_|skip))|(refine cw_cond (ht:=?_) (hf:=?_);all_goals (intro hx_;first|have:=aG hx_|have:=aQ hx_|skip)))
     all_goals refine ad (ag rfl rfl) ?_
     all_goals first
      | rfl
      | (simp only [*,Zt,Zr,Zf,Ze,Zh,Zg,Zk,Zj,Zn,Zl,Zs,Zm,Zq,Zi];done)
      | (simp_all;done)
      | (simp_all;intros;omega)
      | skip
   · rw [h,BI,sy]
     have c0:=bJ ({ a with object:=⟨#[]⟩,text:=⟨#[]⟩ }:ActD)
     repeat' (first|refine aP (hab:=by omega) ?_|refine aL (hab:=by omega) ?_|apply bq|apply QQ|apply QR|refine aX ?_|refine aD ?_|refine bC ?_|refine bU ?_|refine aE ?_|refine aH ?_|refine aI ?_|refine bF ?_|refine bN ?_|refine bA ?_|refine cP ?_|refine bM ?_|refine cg ?_|refine bj ?_|refine bw ?_|refine be ?_|refine bE ?_|refine aT ?_|refine aU ?_|refine aS ?_|refine aR fun _=>?_|refine bH fun _=>?_|refine bx ?_|refine aJ ?_|refine QU ?_|refine QV ?_|apply QT|apply QS|apply cw_ret|apply cw_exit|refine sy_beql (h:=?_)|refine br ?_|refine bc ?_|refine aZ ?_|(refine ab (hc:=c0) (hX:=fun _ _=>trivial) ?_)|(refine ab (hc:=c1) (hX:=fun _ _=>trivial) ?_)|(refine ab (hc:=c2) (hX:=fun _ _=>trivial) ?_)|(refine ab (hc:=c3) (hX:=fun _ _=>trivial) ?_)|(refine ab (hc:=c4) (hX:=fun _ _=>trivial) ?_)|(refine ab (hc:=c5) (hX:=fun w h=>h) ?_)|(refine ab (hc:=c6) (hX:=fun _ _=>trivial) ?_)|(refine ab (hc:=c7) (hX:=fun _ _=>trivial) ?_)|(refine ab (hc:=c8) (hX:=fun w h=>h.1) ?_)|(refine ab (hc:=c9) (hX:=fun _ _=>trivial) ?_)|(refine ab (hc:=c10) (hX:=fun w h=>h) ?_)|((fail_if_success (refine bI ?_));refine aW (ht:=?_) (hf:=?_);all_goals (intro hx_;first|have:=aG hx_|have:=aQ hx_|skip))|(refine cw_cond (ht:=?_) (hf:=?_);all_goals (intro hx_;first|have:=aG hx_|have:=aQ hx_|skip)))
     all_goals refine ad (ag rfl rfl) ?_
     all_goals first
      | rfl
      | (simp only [*,Zt,Zr,Zf,Ze,Zh,Zg,Zk,Zj,Zn,Zl,Zs,Zm,Zq,Zi];done)
      | (simp_all;done)
      | (simp_all;intros;omega)
      | skip
   · rw [h,BH,sx]
     have c0:=bJ ({ a with object:=⟨#[]⟩ }:ActD)
     repeat' (first|refine aP (hab:=by omega) ?_|refine aL (hab:=by omega) ?_|apply bq|apply QQ|apply QR|refine aX ?_|refine aD ?_|refine bC ?_|refine bU ?_|refine aE ?_|refine aH ?_|refine aI ?_|refine bF ?_|refine bN ?_|refine bA ?_|refine cP ?_|refine bM ?_|refine cg ?_|refine bj ?_|refine bw ?_|refine be ?_|refine bE ?_|refine aT ?_|refine aU ?_|refine aS ?_|refine aR fun _=>?_|refine bH fun _=>?_|refine bx ?_|refine aJ ?_|refine QU ?_|refine QV ?_|apply QT|apply QS|apply cw_ret|apply cw_exit|refine sy_beql (h:=?_)|refine br ?_|refine bc ?_|refine aZ ?_|(refine ab (hc:=c0) (hX:=fun _ _=>trivial) ?_)|(refine ab (hc:=c1) (hX:=fun _ _=>trivial) ?_)|(refine ab (hc:=c2) (hX:=fun _ _=>trivial) ?_)|(refine ab (hc:=c3) (hX:=fun _ _=>trivial) ?_)|(refine ab (hc:=c4) (hX:=fun _ _=>trivial) ?_)|(refine ab (hc:=c5) (hX:=fun w h=>h) ?_)|(refine ab (hc:=c6) (hX:=fun _ _=>trivial) ?_)|(refine ab (hc:=c7) (hX:=fun _ _=>trivial) ?_)|(refine ab (hc:=c8) (hX:=fun w h=>h.1) ?_)|(refine ab (hc:=c9) (hX:=fun _ _=>trivial) ?_)|(refine ab (hc:=c10) (hX:=fun w h=>h) ?_)|((fail_if_success (refine bI ?_));refine aW (ht:=?_) (hf:=?_);all_goals (intro hx_;first|have:=aG hx_|have:=aQ hx_|skip))|(refine cw_cond (ht:=?_) (hf:=?_);all_goals (intro hx_;first|have:=aG hx_|have:=aQ hx_|skip)))
     all_goals refine ad (ag rfl rfl) ?_
     all_goals first
      | rfl
      | (simp only [*,Zt,Zr,Zf,Ze,Zh,Zg,Zk,Zj,Zn,Zl,Zs,Zm,Zq,Zi];done)
      | (simp_all;done)
      | (simp_all;intros;omega)
      | skip
   · rw [h,BG,su]
     have c0:=bJ ({ bareA a with object:=⟨#[]⟩ }:ActD)
     repeat' (first|refine aP (hab:=by omega) ?_|refine aL (hab:=by omega) ?_|apply bq|apply QQ|apply QR|refine aX ?_|refine aD ?_|refine bC ?_|refine bU ?_|refine aE ?_|refine aH ?_|refine aI ?_|refine bF ?_|refine bN ?_|refine bA ?_|refine cP ?_|refine bM ?_|refine cg ?_|refine bj ?_|refine bw ?_|refine be ?_|refine bE ?_|refine aT ?_|refine aU ?_|refine aS ?_|refine aR fun _=>?_|refine bH fun _=>?_|refine bx ?_|refine aJ ?_|refine QU ?_|refine QV ?_|apply QT|apply QS|apply cw_ret|apply cw_exit|refine sy_beql (h:=?_)|refine br ?_|refine bc ?_|refine aZ ?_|(refine ab (hc:=c0) (hX:=fun _ _=>trivial) ?_)|(refine ab (hc:=c1) (hX:=fun _ _=>trivial) ?_)|(refine ab (hc:=c2) (hX:=fun _ _=>trivial) ?_)|(refine ab (hc:=c3) (hX:=fun _ _=>trivial) ?_)|(refine ab (hc:=c4) (hX:=fun _ _=>trivial) ?_)|(refine ab (hc:=c5) (hX:=fun w h=>h) ?_)|(refine ab (hc:=c6) (hX:=fun _ _=>trivial) ?_)|(refine ab (hc:=c7) (hX:=fun _ _=>trivial) ?_)|(refine ab (hc:=c8) (hX:=fun w h=>h.1) ?_)|(refine ab (hc:=c9) (hX:=fun _ _=>trivial) ?_)|(refine ab (hc:=c10) (hX:=fun w h=>h) ?_)|((fail_if_success (refine bI ?_));refine aW (ht:=?_) (hf:=?_);all_goals (intro hx_;first|have:=aG hx_|have:=aQ hx_|skip))|(refine cw_cond (ht:=?_) (hf:=?_);all_goals (intro hx_;first|have:=aG hx_|have:=aQ hx_|skip)))
     all_goals refine ad (ag rfl rfl) ?_
     all_goals first
      | rfl
      | (simp only [*,Zt,Zr,Zf,Ze,Zh,Zg,Zk,Zj,Zn,Zl,Zs,Zm,Zq,Zi];done)
      | (simp_all;done)
      | (simp_all;intros;omega)
      | skip
   · rw [h,BF,sr]
     have c0:=bJ ({ a with group:=⟨#[]⟩,to:=⟨none,0,0⟩,toL:=[] }:ActD)
     repeat' (first|refine aP (hab:=by omega) ?_|refine aL (hab:=by omega) ?_|apply bq|apply QQ|apply QR|refine aX ?_|refine aD ?_|refine bC ?_|refine bU ?_|refine aE ?_|refine aH ?_|refine aI ?_|refine bF ?_|refine bN ?_|refine bA ?_|refine cP ?_|refine bM ?_|refine cg ?_|refine bj ?_|refine bw ?_|refine be ?_|refine bE ?_|refine aT ?_|refine aU ?_|refine aS ?_|refine aR fun _=>?_|refine bH fun _=>?_|refine bx ?_|refine aJ ?_|refine QU ?_|refine QV ?_|apply QT|apply QS|apply cw_ret|apply cw_exit|refine sy_beql (h:=?_)|refine br ?_|refine bc ?_|refine aZ ?_|(refine ab (hc:=c0) (hX:=fun _ _=>trivial) ?_)|(refine ab (hc:=c1) (hX:=fun _ _=>trivial) ?_)|(refine ab (hc:=c2) (hX:=fun _ _=>trivial) ?_)|(refine ab (hc:=c3) (hX:=fun _ _=>trivial) ?_)|(refine ab (hc:=c4) (hX:=fun _ _=>trivial) ?_)|(refine ab (hc:=c5) (hX:=fun w h=>h) ?_)|(refine ab (hc:=c6) (hX:=fun _ _=>trivial) ?_)|(refine ab (hc:=c7) (hX:=fun _ _=>trivial) ?_)|(refine ab (hc:=c8) (hX:=fun w h=>h.1) ?_)|(refine ab (hc:=c9) (hX:=fun _ _=>trivial) ?_)|(refine ab (hc:=c10) (hX:=fun w h=>h) ?_)|((fail_if_success (refine bI ?_));refine aW (ht:=?_) (hf:=?_);all_goals (intro hx_;first|have:=aG hx_|have:=aQ hx_|skip))|(refine cw_cond (ht:=?_) (hf:=?_);all_goals (intro hx_;first|have:=aG hx_|have:=aQ hx_|skip)))
     all_goals refine ad (ag rfl rfl) ?_
     all_goals first
      | rfl
      | (simp only [*,Zt,Zr,Zf,Ze,Zh,Zg,Zk,Zj,Zn,Zl,Zs,Zm,Zq,Zi];done)
      | (simp_all;done)
      | (simp_all;intros;omega)
      | skip
   · rw [h,BE,sj]
     have c0:=bJ ({ a with scope:=0,group:=⟨#[]⟩,to:=⟨none,0,0⟩,toL:=[],epoch:=0,wraps:=⟨none,0,0⟩,wrapsL:=[] }:ActD)
     repeat' (first|refine aP (hab:=by omega) ?_|refine aL (hab:=by omega) ?_|apply bq|apply QQ|apply QR|refine aX ?_|refine aD ?_|refine bC ?_|refine bU ?_|refine aE ?_|refine aH ?_|refine aI ?_|refine bF ?_|refine bN ?_|refine bA ?_|refine cP ?_|refine bM ?_|refine cg ?_|refine bj ?_|refine bw ?_|refine be ?_|refine bE ?_|refine aT ?_|refine aU ?_|refine aS ?_|refine aR fun _=>?_|refine bH fun _=>?_|refine bx ?_|refine aJ ?_|refine QU ?_|refine QV ?_|apply QT|apply QS|apply cw_ret|apply cw_exit|refine sy_beql (h:=?_)|refine br ?_|refine bc ?_|refine aZ ?_|(refine ab (hc:=c0) (hX:=fun _ _=>trivial) ?_)|(refine ab (hc:=c1) (hX:=fun _ _=>trivial) ?_)|(refine ab (hc:=c2) (hX:=fun _ _=>trivial) ?_)|(refine ab (hc:=c3) (hX:=fun _ _=>trivial) ?_)|(refine ab (hc:=c4) (hX:=fun _ _=>trivial) ?_)|(refine ab (hc:=c5) (hX:=fun w h=>h) ?_)|(refine ab (hc:=c6) (hX:=fun _ _=>trivial) ?_)|(refine ab (hc:=c7) (hX:=fun _ _=>trivial) ?_)|(refine ab (hc:=c8) (hX:=fun w h=>h.1) ?_)|(refine ab (hc:=c9) (hX:=fun _ _=>trivial) ?_)|(refine ab (hc:=c10) (hX:=fun w h=>h) ?_)|((fail_if_success (refine bI ?_));refine aW (ht:=?_) (hf:=?_);all_goals (intro hx_;first|have:=aG hx_|have:=aQ hx_|skip))|(refine cw_cond (ht:=?_) (hf:=?_);all_goals (intro hx_;first|have:=aG hx_|have:=aQ hx_|skip)))
     all_goals refine ad (ag rfl rfl) ?_
     all_goals first
      | rfl
      | (simp only [*,Zt,Zr,Zf,Ze,Zh,Zg,Zk,Zj,Zn,Zl,Zs,Zm,Zq,Zi];done)
      | (simp_all;done)
      | (simp_all;intros;omega)
      | skip
   · rw [h,BD,si]
     have c0:=bJ ({ a with text:=⟨#[]⟩,object:=⟨#[]⟩,target:=⟨#[]⟩ }:ActD)
     repeat' (first|refine aP (hab:=by omega) ?_|refine aL (hab:=by omega) ?_|apply bq|apply QQ|apply QR|refine aX ?_|refine aD ?_|refine bC ?_|refine bU ?_|refine aE ?_|refine aH ?_|refine aI ?_|refine bF ?_|refine bN ?_|refine bA ?_|refine cP ?_|refine bM ?_|refine cg ?_|refine bj ?_|refine bw ?_|refine be ?_|refine bE ?_|refine aT ?_|refine aU ?_|refine aS ?_|refine aR fun _=>?_|refine bH fun _=>?_|refine bx ?_|refine aJ ?_|refine QU ?_|refine QV ?_|apply QT|apply QS|apply cw_ret|apply cw_exit|refine sy_beql (h:=?_)|refine br ?_|refine bc ?_|refine aZ ?_|(refine ab (hc:=c0) (hX:=fun _ _=>trivial) ?_)|(refine ab (hc:=c1) (hX:=fun _ _=>trivial) ?_)|(refine ab (hc:=c2) (hX:=fun _ _=>trivial) ?_)|(refine ab (hc:=c3) (hX:=fun _ _=>trivial) ?_)|(refine ab (hc:=c4) (hX:=fun _ _=>trivial) ?_)|(refine ab (hc:=c5) (hX:=fun w h=>h) ?_)|(refine ab (hc:=c6) (hX:=fun _ _=>trivial) ?_)|(refine ab (hc:=c7) (hX:=fun _ _=>trivial) ?_)|(refine ab (hc:=c8) (hX:=fun w h=>h.1) ?_)|(refine ab (hc:=c9) (hX:=fun _ _=>trivial) ?_)|(refine ab (hc:=c10) (hX:=fun w h=>h) ?_)|((fail_if_success (refine bI ?_));refine aW (ht:=?_) (hf:=?_);all_goals (intro hx_;first|have:=aG hx_|have:=aQ hx_|skip))|(refine cw_cond (ht:=?_) (hf:=?_);all_goals (intro hx_;first|have:=aG hx_|have:=aQ hx_|skip)))
     all_goals refine ad (ag rfl rfl) ?_
     all_goals first
      | rfl
      | (simp only [*,Zt,Zr,Zf,Ze,Zh,Zg,Zk,Zj,Zn,Zl,Zs,Zm,Zq,Zi];done)
      | (simp_all;done)
      | (simp_all;intros;omega)
      | skip
   · rw [h,BC,sf]
     have c0:=bJ ({ a with n:=0,m:=0 }:ActD)
     repeat' (first|refine aP (hab:=by omega) ?_|refine aL (hab:=by omega) ?_|apply bq|apply QQ|apply QR|refine aX ?_|refine aD ?_|refine bC ?_|refine bU ?_|refine aE ?_|refine aH ?_|refine aI ?_|refine bF ?_|refine bN ?_|refine bA ?_|refine cP ?_|refine bM ?_|refine cg ?_|refine bj ?_|refine bw ?_|refine be ?_|refine bE ?_|refine aT ?_|refine aU ?_|refine aS ?_|refine aR fun _=>?_|refine bH fun _=>?_|refine bx ?_|refine aJ ?_|refine QU ?_|refine QV ?_|apply QT|apply QS|apply cw_ret|apply cw_exit|refine sy_beql (h:=?_)|refine br ?_|refine bc ?_|refine aZ ?_|(refine ab (hc:=c0) (hX:=fun _ _=>trivial) ?_)|(refine ab (hc:=c1) (hX:=fun _ _=>trivial) ?_)|(refine ab (hc:=c2) (hX:=fun _ _=>trivial) ?_)|(refine ab (hc:=c3) (hX:=fun _ _=>trivial) ?_)|(refine ab (hc:=c4) (hX:=fun _ _=>trivial) ?_)|(refine ab (hc:=c5) (hX:=fun w h=>h) ?_)|(refine ab (hc:=c6) (hX:=fun _ _=>trivial) ?_)|(refine ab (hc:=c7) (hX:=fun _ _=>trivial) ?_)|(refine ab (hc:=c8) (hX:=fun w h=>h.1) ?_)|(refine ab (hc:=c9) (hX:=fun _ _=>trivial) ?_)|(refine ab (hc:=c10) (hX:=fun w h=>h) ?_)|((fail_if_success (refine bI ?_));refine aW (ht:=?_) (hf:=?_);all_goals (intro hx_;first|have:=aG hx_|have:=aQ hx_|skip))|(refine cw_cond (ht:=?_) (hf:=?_);all_goals (intro hx_;first|have:=aG hx_|have:=aQ hx_|skip)))
     all_goals refine ad (ag rfl rfl) ?_
     all_goals first
      | rfl
      | (simp only [*,Zt,Zr,Zf,Ze,Zh,Zg,Zk,Zj,Zn,Zl,Zs,Zm,Zq,Zi];done)
      | (simp_all;done)
      | (simp_all;intros;omega)
      | skip
   · rw [h,BB,se]
     have c0:=bJ ({ a with to:=⟨none,0,0⟩,toL:=[],wraps:=⟨none,0,0⟩,wrapsL:=[],n:=0,m:=0 }:ActD)
     repeat' (first|refine aP (hab:=by omega) ?_|refine aL (hab:=by omega) ?_|apply bq|apply QQ|apply QR|refine aX ?_|refine aD ?_|refine bC ?_|refine bU ?_|refine aE ?_|refine aH ?_|refine aI ?_|refine bF ?_|refine bN ?_|refine bA ?_|refine cP ?_|refine bM ?_|refine cg ?_|refine bj ?_|refine bw ?_|refine be ?_|refine bE ?_|refine aT ?_|refine aU ?_|refine aS ?_|refine aR fun _=>?_|refine bH fun _=>?_|refine bx ?_|refine aJ ?_|refine QU ?_|refine QV ?_|apply QT|apply QS|apply cw_ret|apply cw_exit|refine sy_beql (h:=?_)|refine br ?_|refine bc ?_|refine aZ ?_|(refine ab (hc:=c0) (hX:=fun _ _=>trivial) ?_)|(refine ab (hc:=c1) (hX:=fun _ _=>trivial) ?_)|(refine ab (hc:=c2) (hX:=fun _ _=>trivial) ?_)|(refine ab (hc:=c3) (hX:=fun _ _=>trivial) ?_)|(refine ab (hc:=c4) (hX:=fun _ _=>trivial) ?_)|(refine ab (hc:=c5) (hX:=fun w h=>h) ?_)|(refine ab (hc:=c6) (hX:=fun _ _=>trivial) ?_)|(refine ab (hc:=c7) (hX:=fun _ _=>trivial) ?_)|(refine ab (hc:=c8) (hX:=fun w h=>h.1) ?_)|(refine ab (hc:=c9) (hX:=fun _ _=>trivial) ?_)|(refine ab (hc:=c10) (hX:=fun w h=>h) ?_)|((fail_if_success (refine bI ?_));refine aW (ht:=?_) (hf:=?_);all_goals (intro hx_;first|have:=aG hx_|have:=aQ hx_|skip))|(refine cw_cond (ht:=?_) (hf:=?_);all_goals (intro hx_;first|have:=aG hx_|have:=aQ hx_|skip)))
     all_goals refine ad (ag rfl rfl) ?_
     all_goals first
      | rfl
      | (simp only [*,Zt,Zr,Zf,Ze,Zh,Zg,Zk,Zj,Zn,Zl,Zs,Zm,Zq,Zi];done)
      | (simp_all;done)
      | (simp_all;intros;omega)
      | skip
   · rw [h,BA,sd]
     have c0:=bJ ({ a with object:=⟨#[]⟩ }:ActD)
     repeat' (first|refine aP (hab:=by omega) ?_|refine aL (hab:=by omega) ?_|apply bq|apply QQ|apply QR|refine aX ?_|refine aD ?_|refine bC ?_|refine bU ?_|refine aE ?_|refine aH ?_|refine aI ?_|refine bF ?_|refine bN ?_|refine bA ?_|refine cP ?_|refine bM ?_|refine cg ?_|refine bj ?_|refine bw ?_|refine be ?_|refine bE ?_|refine aT ?_|refine aU ?_|refine aS ?_|refine aR fun _=>?_|refine bH fun _=>?_|refine bx ?_|refine aJ ?_|refine QU ?_|refine QV ?_|apply QT|apply QS|apply cw_ret|apply cw_exit|refine sy_beql (h:=?_)|refine br ?_|refine bc ?_|refine aZ ?_|(refine ab (hc:=c0) (hX:=fun _ _=>trivial) ?_)|(refine ab (hc:=c1) (hX:=fun _ _=>trivial) ?_)|(refine ab (hc:=c2) (hX:=fun _ _=>trivial) ?_)|(refine ab (hc:=c3) (hX:=fun _ _=>trivial) ?_)|(refine ab (hc:=c4) (hX:=fun _ _=>trivial) ?_)|(refine ab (hc:=c5) (hX:=fun w h=>h) ?_)|(refine ab (hc:=c6) (hX:=fun _ _=>trivial) ?_)|(refine ab (hc:=c7) (hX:=fun _ _=>trivial) ?_)|(refine ab (hc:=c8) (hX:=fun w h=>h.1) ?_)|(refine ab (hc:=c9) (hX:=fun _ _=>trivial) ?_)|(refine ab (hc:=c10) (hX:=fun w h=>h) ?_)|((fail_if_success (refine bI ?_));refine aW (ht:=?_) (hf:=?_);all_goals (intro hx_;first|have:=aG hx_|have:=aQ hx_|skip))|(refine cw_cond (ht:=?_) (hf:=?_);all_goals (intro hx_;first|have:=aG hx_|have:=aQ hx_|skip)))
     all_goals refine ad (ag rfl rfl) ?_
     all_goals first
      | rfl
      | (simp only [*,Zt,Zr,Zf,Ze,Zh,Zg,Zk,Zj,Zn,Zl,Zs,Zm,Zq,Zi];done)
      | (simp_all;done)
      | (simp_all;intros;omega)
      | skip
   · rw [h,Bz,r8]
     have c0:=bJ ({ a with object:=⟨#[]⟩,text:=⟨#[]⟩ }:ActD)
     repeat' (first|refine aP (hab:=by omega) ?_|refine aL (hab:=by omega) ?_|apply bq|apply QQ|apply QR|refine aX ?_|refine aD ?_|refine bC ?_|refine bU ?_|refine aE ?_|refine aH ?_|refine aI ?_|refine bF ?_|refine bN ?_|refine bA ?_|refine cP ?_|refine bM ?_|refine cg ?_|refine bj ?_|refine bw ?_|refine be ?_|refine bE ?_|refine aT ?_|refine aU ?_|refine aS ?_|refine aR fun _=>?_|refine bH fun _=>?_|refine bx ?_|refine aJ ?_|refine QU ?_|refine QV ?_|apply QT|apply QS|apply cw_ret|apply cw_exit|refine sy_beql (h:=?_)|refine br ?_|refine bc ?_|refine aZ ?_|(refine ab (hc:=c0) (hX:=fun _ _=>trivial) ?_)|(refine ab (hc:=c1) (hX:=fun _ _=>trivial) ?_)|(refine ab (hc:=c2) (hX:=fun _ _=>trivial) ?_)|(refine ab (hc:=c3) (hX:=fun _ _=>trivial) ?_)|(refine ab (hc:=c4) (hX:=fun _ _=>trivial) ?_)|(refine ab (hc:=c5) (hX:=fun w h=>h) ?_)|(refine ab (hc:=c6) (hX:=fun _ _=>trivial) ?_)|(refine ab (hc:=c7) (hX:=fun _ _=>trivial) ?_)|(refine ab (hc:=c8) (hX:=fun w h=>h.1) ?_)|(refine ab (hc:=c9) (hX:=fun _ _=>trivial) ?_)|(refine ab (hc:=c10) (hX:=fun w h=>h) ?_)|((fail_if_success (refine bI ?_));refine aW (ht:=?_) (hf:=?_);all_goals (intro hx_;first|have:=aG hx_|have:=aQ hx_|skip))|(refine cw_cond (ht:=?_) (hf:=?_);all_goals (intro hx_;first|have:=aG hx_|have:=aQ hx_|skip)))
     all_goals refine ad (ag rfl rfl) ?_
     all_goals first
      | rfl
      | (simp only [*,Zt,Zr,Zf,Ze,Zh,Zg,Zk,Zj,Zn,Zl,Zs,Zm,Zq,Zi];done)
      | (simp_all;done)
      | (simp_all;intros;omega)
      | skip
   · rw [h,By,r5]
     have c0:=bJ ({ a with object:=⟨#[]⟩,n:=0 }:ActD)
     repeat' (first|refine aP (hab:=by omega) ?_|refine aL (hab:=by omega) ?_|apply bq|apply QQ|apply QR|refine aX ?_|refine aD ?_|refine bC ?_|refine bU ?_|refine aE ?_|refine aH ?_|refine aI ?_|refine bF ?_|refine bN ?_|refine bA ?_|refine cP ?_|refine bM ?_|refine cg ?_|refine bj ?_|refine bw ?_|refine be ?_|refine bE ?_|refine aT ?_|refine aU ?_|refine aS ?_|refine aR fun _=>?_|refine bH fun _=>?_|refine bx ?_|refine aJ ?_|refine QU ?_|refine QV ?_|apply QT|apply QS|apply cw_ret|apply cw_exit|refine sy_beql (h:=?_)|refine br ?_|refine bc ?_|refine aZ ?_|(refine ab (hc:=c0) (hX:=fun _ _=>trivial) ?_)|(refine ab (hc:=c1) (hX:=fun _ _=>trivial) ?_)|(refine ab (hc:=c2) (hX:=fun _ _=>trivial) ?_)|(refine ab (hc:=c3) (hX:=fun _ _=>trivial) ?_)|(refine ab (hc:=c4) (hX:=fun _ _=>trivial) ?_)|(refine ab (hc:=c5) (hX:=fun w h=>h) ?_)|(refine ab (hc:=c6) (hX:=fun _ _=>trivial) ?_)|(refine ab (hc:=c7) (hX:=fun _ _=>trivial) ?_)|(refine ab (hc:=c8) (hX:=fun w h=>h.1) ?_)|(refine ab (hc:=c9) (hX:=fun _ _=>trivial) ?_)|(refine ab (hc:=c10) (hX:=fun w h=>h) ?_)|((fail_if_success (refine bI ?_));refine aW (ht:=?_) (hf:=?_);all_goals (intro hx_;first|have:=aG hx_|have:=aQ hx_|skip))|(refine cw_cond (ht:=?_) (hf:=?_);all_goals (intro hx_;first|have:=aG hx_|have:=aQ hx_|skip)))
     all_goals refine ad (ag rfl rfl) ?_
     all_goals first
      | rfl
      | (simp only [*,Zt,Zr,Zf,Ze,Zh,Zg,Zk,Zj,Zn,Zl,Zs,Zm,Zq,Zi];done)
      | (simp_all;done)
      | (simp_all;intros;omega)
      | skip
   · rw [h,Bx,r4]
     have c0:=bJ ({ a with target:=⟨#[]⟩,text:=⟨#[]⟩,n:=0 }:ActD)
     repeat' (first|refine aP (hab:=by omega) ?_|refine aL (hab:=by omega) ?_|apply bq|apply QQ|apply QR|refine aX ?_|refine aD ?_|refine bC ?_|refine bU ?_|refine aE ?_|refine aH ?_|refine aI ?_|refine bF ?_|refine bN ?_|refine bA ?_|refine cP ?_|refine bM ?_|refine cg ?_|refine bj ?_|refine bw ?_|refine be ?_|refine bE ?_|refine aT ?_|refine aU ?_|refine aS ?_|refine aR fun _=>?_|refine bH fun _=>?_|refine bx ?_|refine aJ ?_|refine QU ?_|refine QV ?_|apply QT|apply QS|apply cw_ret|apply cw_exit|refine sy_beql (h:=?_)|refine br ?_|refine bc ?_|refine aZ ?_|(refine ab (hc:=c0) (hX:=fun _ _=>trivial) ?_)|(refine ab (hc:=c1) (hX:=fun _ _=>trivial) ?_)|(refine ab (hc:=c2) (hX:=fun _ _=>trivial) ?_)|(refine ab (hc:=c3) (hX:=fun _ _=>trivial) ?_)|(refine ab (hc:=c4) (hX:=fun _ _=>trivial) ?_)|(refine ab (hc:=c5) (hX:=fun w h=>h) ?_)|(refine ab (hc:=c6) (hX:=fun _ _=>trivial) ?_)|(refine ab (hc:=c7) (hX:=fun _ _=>trivial) ?_)|(refine ab (hc:=c8) (hX:=fun w h=>h.1) ?_)|(refine ab (hc:=c9) (hX:=fun _ _=>trivial) ?_)|(refine ab (hc:=c10) (hX:=fun w h=>h) ?_)|((fail_if_success (refine bI ?_));refine aW (ht:=?_) (hf:=?_);all_goals (intro hx_;first|have:=aG hx_|have:=aQ hx_|skip))|(refine cw_cond (ht:=?_) (hf:=?_);all_goals (intro hx_;first|have:=aG hx_|have:=aQ hx_|skip)))
     all_goals refine ad (ag rfl rfl) ?_
     all_goals first
      | rfl
      | (simp only [*,Zt,Zr,Zf,Ze,Zh,Zg,Zk,Zj,Zn,Zl,Zs,Zm,Zq,Zi];done)
      | (simp_all;done)
      | (simp_all;intros;omega)
      | skip
 · rw [fitsR,sO hk,Zj]
   repeat' (first|refine aL (hab:=by omega) ?_|apply bq|apply QQ|apply QR|refine aX ?_|refine aD ?_|refine bC ?_|refine bU ?_|refine aE ?_|refine aH ?_|refine aI ?_|refine bF ?_|refine bN ?_|refine bA ?_|refine cP ?_|refine bM ?_|refine cg ?_|refine bj ?_|refine bw ?_|refine be ?_|refine bE ?_|refine aT ?_|refine aU ?_|refine aS ?_|refine aR fun _=>?_|refine bH fun _=>?_|refine bx ?_|refine aJ ?_|refine QU ?_|refine QV ?_|apply QT|apply QS|apply cw_ret|apply cw_exit|refine sy_beql (h:=?_)|refine br ?_|refine bc ?_|refine aZ ?_|((fail_if_success (refine bI ?_));refine aW (ht:=?_) (hf:=?_);all_goals (intro hx_;first|have:=aG hx_|have:=aQ hx_|skip))|(refine cw_cond (ht:=?_) (hf:=?_);all_goals (intro hx_;first|have:=aG hx_|have:=aQ hx_|skip)))
   exact ad (ag rfl rfl) rfl
def maskB (fs:Nat) (z0 z1 z2 z3 z4 z5 z6 z7 z8 z9 z10:Bool):Bool:=(fs.testBit 0||z0)&&(fs.testBit 1||z1)&&(fs.testBit 2||z2)&&(fs.testBit 3||z3)&&(fs.testBit 4||z4)&&(fs.testBit 5||z5)&&(fs.testBit 6||z6)&&(fs.testBit 7||z7)&&(fs.testBit 8||z8)&&(fs.testBit 9||z9)&&(fs.testBit 10||z10)
def maskOk (fs:Nat) (z0 z1 z2 z3 z4 z5 z6 z7 z8 z9 z10:Bool):Bool:=decide (bitsV .andNot .i64 (useU z0 z1 z2 z3 z4 z5 z6 z7 z8 z9 z10) fs=0)==maskB fs z0 z1 z2 z3 z4 z5 z6 z7 z8 z9 z10
def maskAll (fs:Nat):Bool:=bools fun z0=>bools fun z1=>bools fun z2=>bools fun z3=>bools fun z4=>bools fun z5=>bools fun z6=>bools fun z7=>bools fun z8=>bools fun z9=>bools fun z10=>maskOk fs z0 z1 z2 z3 z4 z5 z6 z7 z8 z9 z10
theorem te:([1568,252,253,1,2,33,24,412,35,1536,1808,513,546].all maskAll)=true:=by decide +kernel
theorem cE {fs:Nat} (hfs:fs∈[1568,252,253,1,2,33,24,412,35,1536,1808,513,546]) (z0 z1 z2 z3 z4 z5 z6 z7 z8 z9 z10:Bool):decide (bitsV .andNot .i64 (useU z0 z1 z2 z3 z4 z5 z6 z7 z8 z9 z10) fs=0)=maskB fs z0 z1 z2 z3 z4 z5 z6 z7 z8 z9 z10:=by
 have h:=List.all_eq_true.1 te fs hfs
 have h1:=cd (cd (cd (cd (cd (cd (cd (cd (cd (cd (cd h z0) z1) z2) z3) z4) z5) z6) z7) z8) z9) z10
 exact eq_of_beq h1
theorem bT (a:ActD):usedV a=useU (seqB a.object ⟨#[]⟩) (seqB a.target ⟨#[]⟩) (decide (a.scope=0)) (seqB a.group ⟨#[]⟩) (decide ((a.to.n:Int)=0)) (seqB a.text ⟨#[]⟩) (boxEq a.body BoxD.zero) (decide (a.epoch=0)) (decide ((a.wraps.n:Int)=0)) (decide (a.n=0)) (decide (a.m=0)):=rfl
theorem lt20 (m:Int):decide (m<20)=decide (m≤19):=decide_eq_decide.2 aa
theorem bn (a:ActD):sealedScopeB a.scope a.group=(decide (1≤a.scope)&&decide (a.scope≤3)&&groupR a):=by
 rw [sealedScopeB,groupR]
 by_cases h2:a.scope=2
 · rw [h2];rfl
 by_cases h1:a.scope=1
 · rw [h1];rfl
 by_cases h3:a.scope=3
 · rw [h3];rfl
 rw [Zc h1,Zc h2,Zc h3]
 by_cases hl:1≤a.scope
 · rw [Zc (show ¬ a.scope≤3 by omega),Zk]
   rfl
 · rw [Zc hl]
   rfl
theorem u9 (s:ByteArray) (h:seqB s ⟨#[]⟩=true):decide ((s.size:Int)=32)=false:=by
 rw [dD,Zw] at h
 exact Zc aa
theorem F3 {a:ActD} (h:a.kind=0):ruleB a=(maskB 1568 (seqB a.object ⟨#[]⟩) (seqB a.target ⟨#[]⟩) (decide (a.scope=0)) (seqB a.group ⟨#[]⟩) (decide ((a.to.n:Int)=0)) (seqB a.text ⟨#[]⟩) (boxEq a.body BoxD.zero) (decide (a.epoch=0)) (decide ((a.wraps.n:Int)=0)) (decide (a.n=0)) (decide (a.m=0))&&rule3B a):=by
 have hm:mget (ruleL a) a.kind=some (1568,rule3B a):=by rw [h];rfl
 rw [ruleB,hm]
 simp only
 rw [bT]
 exact congrArg (·&&_) (cE (fs:=1568) (by decide) _ _ _ _ _ _ _ _ _ _ _)
theorem F1 {a:ActD} (h:a.kind=1):ruleB a=(maskB 252 (seqB a.object ⟨#[]⟩) (seqB a.target ⟨#[]⟩) (decide (a.scope=0)) (seqB a.group ⟨#[]⟩) (decide ((a.to.n:Int)=0)) (seqB a.text ⟨#[]⟩) (boxEq a.body BoxD.zero) (decide (a.epoch=0)) (decide ((a.wraps.n:Int)=0)) (decide (a.n=0)) (decide (a.m=0))&&audienceB a):=by
 have hm:mget (ruleL a) a.kind=some (252,audienceB a):=by rw [h];rfl
 rw [ruleB,hm]
 simp only
 rw [bT]
 exact congrArg (·&&_) (cE (fs:=252) (by decide) _ _ _ _ _ _ _ _ _ _ _)
theorem F0 {a:ActD} (h:a.kind=2):ruleB a=(maskB 253 (seqB a.object ⟨#[]⟩) (seqB a.target ⟨#[]⟩) (decide (a.scope=0)) (seqB a.group ⟨#[]⟩) (decide ((a.to.n:Int)=0)) (seqB a.text ⟨#[]⟩) (boxEq a.body BoxD.zero) (decide (a.epoch=0)) (decide ((a.wraps.n:Int)=0)) (decide (a.n=0)) (decide (a.m=0))&&rule1B a):=by
 have hm:mget (ruleL a) a.kind=some (253,rule1B a):=by rw [h];rfl
 rw [ruleB,hm]
 simp only
 rw [bT]
 exact congrArg (·&&_) (cE (fs:=253) (by decide) _ _ _ _ _ _ _ _ _ _ _)
theorem FZ {a:ActD} (h:a.kind=3):ruleB a=(maskB 253 (seqB a.object ⟨#[]⟩) (seqB a.target ⟨#[]⟩) (decide (a.scope=0)) (seqB a.group ⟨#[]⟩) (decide ((a.to.n:Int)=0)) (seqB a.text ⟨#[]⟩) (boxEq a.body BoxD.zero) (decide (a.epoch=0)) (decide ((a.wraps.n:Int)=0)) (decide (a.n=0)) (decide (a.m=0))&&rule1B a):=by
 have hm:mget (ruleL a) a.kind=some (253,rule1B a):=by rw [h];rfl
 rw [ruleB,hm]
 simp only
 rw [bT]
 exact congrArg (·&&_) (cE (fs:=253) (by decide) _ _ _ _ _ _ _ _ _ _ _)
theorem FY {a:ActD} (h:a.kind=4):ruleB a=(maskB 1 (seqB a.object ⟨#[]⟩) (seqB a.target ⟨#[]⟩) (decide (a.scope=0)) (seqB a.group ⟨#[]⟩) (decide ((a.to.n:Int)=0)) (seqB a.text ⟨#[]⟩) (boxEq a.body BoxD.zero) (decide (a.epoch=0)) (decide ((a.wraps.n:Int)=0)) (decide (a.n=0)) (decide (a.m=0))&&objectB a):=by
 have hm:mget (ruleL a) a.kind=some (1,objectB a):=by rw [h];rfl
 rw [ruleB,hm]
 simp only
 rw [bT]
 exact congrArg (·&&_) (cE (fs:=1) (by decide) _ _ _ _ _ _ _ _ _ _ _)
theorem FX {a:ActD} (h:a.kind=5):ruleB a=(maskB 1 (seqB a.object ⟨#[]⟩) (seqB a.target ⟨#[]⟩) (decide (a.scope=0)) (seqB a.group ⟨#[]⟩) (decide ((a.to.n:Int)=0)) (seqB a.text ⟨#[]⟩) (boxEq a.body BoxD.zero) (decide (a.epoch=0)) (decide ((a.wraps.n:Int)=0)) (decide (a.n=0)) (decide (a.m=0))&&objectB a):=by
 have hm:mget (ruleL a) a.kind=some (1,objectB a):=by rw [h];rfl
 rw [ruleB,hm]
 simp only
 rw [bT]
 exact congrArg (·&&_) (cE (fs:=1) (by decide) _ _ _ _ _ _ _ _ _ _ _)
theorem FW {a:ActD} (h:a.kind=6):ruleB a=(maskB 1 (seqB a.object ⟨#[]⟩) (seqB a.target ⟨#[]⟩) (decide (a.scope=0)) (seqB a.group ⟨#[]⟩) (decide ((a.to.n:Int)=0)) (seqB a.text ⟨#[]⟩) (boxEq a.body BoxD.zero) (decide (a.epoch=0)) (decide ((a.wraps.n:Int)=0)) (decide (a.n=0)) (decide (a.m=0))&&objectB a):=by
 have hm:mget (ruleL a) a.kind=some (1,objectB a):=by rw [h];rfl
 rw [ruleB,hm]
 simp only
 rw [bT]
 exact congrArg (·&&_) (cE (fs:=1) (by decide) _ _ _ _ _ _ _ _ _ _ _)
theorem FV {a:ActD} (h:a.kind=7):ruleB a=(maskB 2 (seqB a.object ⟨#[]⟩) (seqB a.target ⟨#[]⟩) (decide (a.scope=0)) (seqB a.group ⟨#[]⟩) (decide ((a.to.n:Int)=0)) (seqB a.text ⟨#[]⟩) (boxEq a.body BoxD.zero) (decide (a.epoch=0)) (decide ((a.wraps.n:Int)=0)) (decide (a.n=0)) (decide (a.m=0))&&targetB a):=by
 have hm:mget (ruleL a) a.kind=some (2,targetB a):=by rw [h];rfl
 rw [ruleB,hm]
 simp only
 rw [bT]
 exact congrArg (·&&_) (cE (fs:=2) (by decide) _ _ _ _ _ _ _ _ _ _ _)
theorem FU {a:ActD} (h:a.kind=8):ruleB a=(maskB 2 (seqB a.object ⟨#[]⟩) (seqB a.target ⟨#[]⟩) (decide (a.scope=0)) (seqB a.group ⟨#[]⟩) (decide ((a.to.n:Int)=0)) (seqB a.text ⟨#[]⟩) (boxEq a.body BoxD.zero) (decide (a.epoch=0)) (decide ((a.wraps.n:Int)=0)) (decide (a.n=0)) (decide (a.m=0))&&targetB a):=by
 have hm:mget (ruleL a) a.kind=some (2,targetB a):=by rw [h];rfl
 rw [ruleB,hm]
 simp only
 rw [bT]
 exact congrArg (·&&_) (cE (fs:=2) (by decide) _ _ _ _ _ _ _ _ _ _ _)
theorem FT {a:ActD} (h:a.kind=9):ruleB a=(maskB 2 (seqB a.object ⟨#[]⟩) (seqB a.target ⟨#[]⟩) (decide (a.scope=0)) (seqB a.group ⟨#[]⟩) (decide ((a.to.n:Int)=0)) (seqB a.text ⟨#[]⟩) (boxEq a.body BoxD.zero) (decide (a.epoch=0)) (decide ((a.wraps.n:Int)=0)) (decide (a.n=0)) (decide (a.m=0))&&targetB a):=by
 have hm:mget (ruleL a) a.kind=some (2,targetB a):=by rw [h];rfl
 rw [ruleB,hm]
 simp only
 rw [bT]
 exact congrArg (·&&_) (cE (fs:=2) (by decide) _ _ _ _ _ _ _ _ _ _ _)
theorem D3 {a:ActD} (h:a.kind=10):ruleB a=(maskB 2 (seqB a.object ⟨#[]⟩) (seqB a.target ⟨#[]⟩) (decide (a.scope=0)) (seqB a.group ⟨#[]⟩) (decide ((a.to.n:Int)=0)) (seqB a.text ⟨#[]⟩) (boxEq a.body BoxD.zero) (decide (a.epoch=0)) (decide ((a.wraps.n:Int)=0)) (decide (a.n=0)) (decide (a.m=0))&&targetB a):=by
 have hm:mget (ruleL a) a.kind=some (2,targetB a):=by rw [h];rfl
 rw [ruleB,hm]
 simp only
 rw [bT]
 exact congrArg (·&&_) (cE (fs:=2) (by decide) _ _ _ _ _ _ _ _ _ _ _)
theorem D1 {a:ActD} (h:a.kind=11):ruleB a=(maskB 2 (seqB a.object ⟨#[]⟩) (seqB a.target ⟨#[]⟩) (decide (a.scope=0)) (seqB a.group ⟨#[]⟩) (decide ((a.to.n:Int)=0)) (seqB a.text ⟨#[]⟩) (boxEq a.body BoxD.zero) (decide (a.epoch=0)) (decide ((a.wraps.n:Int)=0)) (decide (a.n=0)) (decide (a.m=0))&&targetB a):=by
 have hm:mget (ruleL a) a.kind=some (2,targetB a):=by rw [h];rfl
 rw [ruleB,hm]
 simp only
 rw [bT]
 exact congrArg (·&&_) (cE (fs:=2) (by decide) _ _ _ _ _ _ _ _ _ _ _)
theorem DZ {a:ActD} (h:a.kind=12):ruleB a=(maskB 33 (seqB a.object ⟨#[]⟩) (seqB a.target ⟨#[]⟩) (decide (a.scope=0)) (seqB a.group ⟨#[]⟩) (decide ((a.to.n:Int)=0)) (seqB a.text ⟨#[]⟩) (boxEq a.body BoxD.zero) (decide (a.epoch=0)) (decide ((a.wraps.n:Int)=0)) (decide (a.n=0)) (decide (a.m=0))&&rule2B a):=by
 have hm:mget (ruleL a) a.kind=some (33,rule2B a):=by rw [h];rfl
 rw [ruleB,hm]
 simp only
 rw [bT]
 exact congrArg (·&&_) (cE (fs:=33) (by decide) _ _ _ _ _ _ _ _ _ _ _)
theorem DY {a:ActD} (h:a.kind=13):ruleB a=(maskB 1 (seqB a.object ⟨#[]⟩) (seqB a.target ⟨#[]⟩) (decide (a.scope=0)) (seqB a.group ⟨#[]⟩) (decide ((a.to.n:Int)=0)) (seqB a.text ⟨#[]⟩) (boxEq a.body BoxD.zero) (decide (a.epoch=0)) (decide ((a.wraps.n:Int)=0)) (decide (a.n=0)) (decide (a.m=0))&&objectB a):=by
 have hm:mget (ruleL a) a.kind=some (1,objectB a):=by rw [h];rfl
 rw [ruleB,hm]
 simp only
 rw [bT]
 exact congrArg (·&&_) (cE (fs:=1) (by decide) _ _ _ _ _ _ _ _ _ _ _)
theorem DX {a:ActD} (h:a.kind=14):ruleB a=(maskB 253 (seqB a.object ⟨#[]⟩) (seqB a.target ⟨#[]⟩) (decide (a.scope=0)) (seqB a.group ⟨#[]⟩) (decide ((a.to.n:Int)=0)) (seqB a.text ⟨#[]⟩) (boxEq a.body BoxD.zero) (decide (a.epoch=0)) (decide ((a.wraps.n:Int)=0)) (decide (a.n=0)) (decide (a.m=0))&&rule1B a):=by
 have hm:mget (ruleL a) a.kind=some (253,rule1B a):=by rw [h];rfl
 rw [ruleB,hm]
 simp only
 rw [bT]
 exact congrArg (·&&_) (cE (fs:=253) (by decide) _ _ _ _ _ _ _ _ _ _ _)
theorem DW {a:ActD} (h:a.kind=15):ruleB a=(maskB 24 (seqB a.object ⟨#[]⟩) (seqB a.target ⟨#[]⟩) (decide (a.scope=0)) (seqB a.group ⟨#[]⟩) (decide ((a.to.n:Int)=0)) (seqB a.text ⟨#[]⟩) (boxEq a.body BoxD.zero) (decide (a.epoch=0)) (decide ((a.wraps.n:Int)=0)) (decide (a.n=0)) (decide (a.m=0))&&rule4B a):=by
 have hm:mget (ruleL a) a.kind=some (24,rule4B a):=by rw [h];rfl
 rw [ruleB,hm]
 simp only
 rw [bT]
 exact congrArg (·&&_) (cE (fs:=24) (by decide) _ _ _ _ _ _ _ _ _ _ _)
theorem DV {a:ActD} (h:a.kind=16):ruleB a=(maskB 412 (seqB a.object ⟨#[]⟩) (seqB a.target ⟨#[]⟩) (decide (a.scope=0)) (seqB a.group ⟨#[]⟩) (decide ((a.to.n:Int)=0)) (seqB a.text ⟨#[]⟩) (boxEq a.body BoxD.zero) (decide (a.epoch=0)) (decide ((a.wraps.n:Int)=0)) (decide (a.n=0)) (decide (a.m=0))&&grantB a):=by
 have hm:mget (ruleL a) a.kind=some (412,grantB a):=by rw [h];rfl
 rw [ruleB,hm]
 simp only
 rw [bT]
 exact congrArg (·&&_) (cE (fs:=412) (by decide) _ _ _ _ _ _ _ _ _ _ _)
theorem DU {a:ActD} (h:a.kind=17):ruleB a=(maskB 35 (seqB a.object ⟨#[]⟩) (seqB a.target ⟨#[]⟩) (decide (a.scope=0)) (seqB a.group ⟨#[]⟩) (decide ((a.to.n:Int)=0)) (seqB a.text ⟨#[]⟩) (boxEq a.body BoxD.zero) (decide (a.epoch=0)) (decide ((a.wraps.n:Int)=0)) (decide (a.n=0)) (decide (a.m=0))&&labelB a):=by
 have hm:mget (ruleL a) a.kind=some (35,labelB a):=by rw [h];rfl
 rw [ruleB,hm]
 simp only
 rw [bT]
 exact congrArg (·&&_) (cE (fs:=35) (by decide) _ _ _ _ _ _ _ _ _ _ _)
theorem DT {a:ActD} (h:a.kind=18):ruleB a=(maskB 1536 (seqB a.object ⟨#[]⟩) (seqB a.target ⟨#[]⟩) (decide (a.scope=0)) (seqB a.group ⟨#[]⟩) (decide ((a.to.n:Int)=0)) (seqB a.text ⟨#[]⟩) (boxEq a.body BoxD.zero) (decide (a.epoch=0)) (decide ((a.wraps.n:Int)=0)) (decide (a.n=0)) (decide (a.m=0))&&homeB a):=by
 have hm:mget (ruleL a) a.kind=some (1536,homeB a):=by rw [h];rfl
 rw [ruleB,hm]
 simp only
 rw [bT]
 exact congrArg (·&&_) (cE (fs:=1536) (by decide) _ _ _ _ _ _ _ _ _ _ _)
theorem DS {a:ActD} (h:a.kind=19):ruleB a=(maskB 1808 (seqB a.object ⟨#[]⟩) (seqB a.target ⟨#[]⟩) (decide (a.scope=0)) (seqB a.group ⟨#[]⟩) (decide ((a.to.n:Int)=0)) (seqB a.text ⟨#[]⟩) (boxEq a.body BoxD.zero) (decide (a.epoch=0)) (decide ((a.wraps.n:Int)=0)) (decide (a.n=0)) (decide (a.m=0))&&setupB a):=by
 have hm:mget (ruleL a) a.kind=some (1808,setupB a):=by rw [h];rfl
 rw [ruleB,hm]
 simp only
 rw [bT]
 exact congrArg (·&&_) (cE (fs:=1808) (by decide) _ _ _ _ _ _ _ _ _ _ _)
theorem DR {a:ActD} (h:a.kind=20):ruleB a=(maskB 1 (seqB a.object ⟨#[]⟩) (seqB a.target ⟨#[]⟩) (decide (a.scope=0)) (seqB a.group ⟨#[]⟩) (decide ((a.to.n:Int)=0)) (seqB a.text ⟨#[]⟩) (boxEq a.body BoxD.zero) (decide (a.epoch=0)) (decide ((a.wraps.n:Int)=0)) (decide (a.n=0)) (decide (a.m=0))&&objectB a):=by
 have hm:mget (ruleL a) a.kind=some (1,objectB a):=by rw [h];rfl
 rw [ruleB,hm]
 simp only
 rw [bT]
 exact congrArg (·&&_) (cE (fs:=1) (by decide) _ _ _ _ _ _ _ _ _ _ _)
theorem DQ {a:ActD} (h:a.kind=21):ruleB a=(maskB 33 (seqB a.object ⟨#[]⟩) (seqB a.target ⟨#[]⟩) (decide (a.scope=0)) (seqB a.group ⟨#[]⟩) (decide ((a.to.n:Int)=0)) (seqB a.text ⟨#[]⟩) (boxEq a.body BoxD.zero) (decide (a.epoch=0)) (decide ((a.wraps.n:Int)=0)) (decide (a.n=0)) (decide (a.m=0))&&rule2B a):=by
 have hm:mget (ruleL a) a.kind=some (33,rule2B a):=by rw [h];rfl
 rw [ruleB,hm]
 simp only
 rw [bT]
 exact congrArg (·&&_) (cE (fs:=33) (by decide) _ _ _ _ _ _ _ _ _ _ _)
theorem DP {a:ActD} (h:a.kind=22):ruleB a=(maskB 513 (seqB a.object ⟨#[]⟩) (seqB a.target ⟨#[]⟩) (decide (a.scope=0)) (seqB a.group ⟨#[]⟩) (decide ((a.to.n:Int)=0)) (seqB a.text ⟨#[]⟩) (boxEq a.body BoxD.zero) (decide (a.epoch=0)) (decide ((a.wraps.n:Int)=0)) (decide (a.n=0)) (decide (a.m=0))&&rule5B a):=by
 have hm:mget (ruleL a) a.kind=some (513,rule5B a):=by rw [h];rfl
 rw [ruleB,hm]
 simp only
 rw [bT]
 exact congrArg (·&&_) (cE (fs:=513) (by decide) _ _ _ _ _ _ _ _ _ _ _)
theorem DO {a:ActD} (h:a.kind=23):ruleB a=(maskB 546 (seqB a.object ⟨#[]⟩) (seqB a.target ⟨#[]⟩) (decide (a.scope=0)) (seqB a.group ⟨#[]⟩) (decide ((a.to.n:Int)=0)) (seqB a.text ⟨#[]⟩) (boxEq a.body BoxD.zero) (decide (a.epoch=0)) (decide ((a.wraps.n:Int)=0)) (decide (a.n=0)) (decide (a.m=0))&&rule6B a):=by
 have hm:mget (ruleL a) a.kind=some (546,rule6B a):=by rw [h];rfl
 rw [ruleB,hm]
 simp only
 rw [bT]
 exact congrArg (·&&_) (cE (fs:=546) (by decide) _ _ _ _ _ _ _ _ _ _ _)
theorem ye {a:ActD} (h:¬ (0≤a.kind∧a.kind≤23)):ruleB a=false:=by
 have hm:mget (ruleL a) a.kind=none:=by
  rw [ruleL]
  rw [mget,show KeyT.eqb a.kind 0=false from Zc aa,Ze]
  rw [mget,show KeyT.eqb a.kind 1=false from Zc aa,Ze]
  rw [mget,show KeyT.eqb a.kind 2=false from Zc aa,Ze]
  rw [mget,show KeyT.eqb a.kind 3=false from Zc aa,Ze]
  rw [mget,show KeyT.eqb a.kind 14=false from Zc aa,Ze]
  rw [mget,show KeyT.eqb a.kind 4=false from Zc aa,Ze]
  rw [mget,show KeyT.eqb a.kind 5=false from Zc aa,Ze]
  rw [mget,show KeyT.eqb a.kind 6=false from Zc aa,Ze]
  rw [mget,show KeyT.eqb a.kind 13=false from Zc aa,Ze]
  rw [mget,show KeyT.eqb a.kind 20=false from Zc aa,Ze]
  rw [mget,show KeyT.eqb a.kind 7=false from Zc aa,Ze]
  rw [mget,show KeyT.eqb a.kind 8=false from Zc aa,Ze]
  rw [mget,show KeyT.eqb a.kind 9=false from Zc aa,Ze]
  rw [mget,show KeyT.eqb a.kind 10=false from Zc aa,Ze]
  rw [mget,show KeyT.eqb a.kind 11=false from Zc aa,Ze]
  rw [mget,show KeyT.eqb a.kind 12=false from Zc aa,Ze]
  rw [mget,show KeyT.eqb a.kind 21=false from Zc aa,Ze]
  rw [mget,show KeyT.eqb a.kind 15=false from Zc aa,Ze]
  rw [mget,show KeyT.eqb a.kind 16=false from Zc aa,Ze]
  rw [mget,show KeyT.eqb a.kind 17=false from Zc aa,Ze]
  rw [mget,show KeyT.eqb a.kind 18=false from Zc aa,Ze]
  rw [mget,show KeyT.eqb a.kind 19=false from Zc aa,Ze]
  rw [mget,show KeyT.eqb a.kind 22=false from Zc aa,Ze]
  rw [mget,show KeyT.eqb a.kind 23=false from Zc aa,Ze]
  rfl
 rw [ruleB,hm]
theorem zS:seqB (⟨#[]⟩:ByteArray) ⟨#[]⟩=true:=by kernel_rfl
theorem zB:boxEq BoxD.zero BoxD.zero=true:=by kernel_rfl
theorem zI:decide ((0:Int)=0)=true:=rfl
theorem zN:decide (((0:Nat):Int)=0)=true:=rfl
theorem nc:Nat.testBit 1 0=true:=by decide +kernel
theorem nb:Nat.testBit 1 1=false:=by decide +kernel
theorem na:Nat.testBit 1 2=false:=by decide +kernel
theorem m9:Nat.testBit 1 3=false:=by decide +kernel
theorem m8:Nat.testBit 1 4=false:=by decide +kernel
theorem m7:Nat.testBit 1 5=false:=by decide +kernel
theorem m6:Nat.testBit 1 6=false:=by decide +kernel
theorem mZ:Nat.testBit 1 7=false:=by decide +kernel
theorem mY:Nat.testBit 1 8=false:=by decide +kernel
theorem mX:Nat.testBit 1 9=false:=by decide +kernel
theorem jA:Nat.testBit 1 10=false:=by decide +kernel
theorem mM:Nat.testBit 2 0=false:=by decide +kernel
theorem mL:Nat.testBit 2 1=true:=by decide +kernel
theorem mK:Nat.testBit 2 2=false:=by decide +kernel
theorem mJ:Nat.testBit 2 3=false:=by decide +kernel
theorem mI:Nat.testBit 2 4=false:=by decide +kernel
theorem mH:Nat.testBit 2 5=false:=by decide +kernel
theorem mG:Nat.testBit 2 6=false:=by decide +kernel
theorem mF:Nat.testBit 2 7=false:=by decide +kernel
theorem mE:Nat.testBit 2 8=false:=by decide +kernel
theorem mD:Nat.testBit 2 9=false:=by decide +kernel
theorem jz:Nat.testBit 2 10=false:=by decide +kernel
theorem Dp:Nat.testBit 24 0=false:=by decide +kernel
theorem Do:Nat.testBit 24 1=false:=by decide +kernel
theorem Dn:Nat.testBit 24 2=false:=by decide +kernel
theorem Dm:Nat.testBit 24 3=true:=by decide +kernel
theorem Dl:Nat.testBit 24 4=true:=by decide +kernel
theorem Dk:Nat.testBit 24 5=false:=by decide +kernel
theorem Dj:Nat.testBit 24 6=false:=by decide +kernel
theorem Di:Nat.testBit 24 7=false:=by decide +kernel
theorem Dg:Nat.testBit 24 8=false:=by decide +kernel
theorem De:Nat.testBit 24 9=false:=by decide +kernel
theorem AK:Nat.testBit 24 10=false:=by decide +kernel
theorem vK:Nat.testBit 33 0=true:=by decide +kernel
theorem vJ:Nat.testBit 33 1=false:=by decide +kernel
theorem vI:Nat.testBit 33 2=false:=by decide +kernel
theorem vH:Nat.testBit 33 3=false:=by decide +kernel
theorem vG:Nat.testBit 33 4=false:=by decide +kernel
theorem vF:Nat.testBit 33 5=true:=by decide +kernel
theorem vE:Nat.testBit 33 6=false:=by decide +kernel
theorem vD:Nat.testBit 33 7=false:=by decide +kernel
theorem vC:Nat.testBit 33 8=false:=by decide +kernel
theorem vB:Nat.testBit 33 9=false:=by decide +kernel
theorem rD:Nat.testBit 33 10=false:=by decide +kernel
theorem Dd:Nat.testBit 35 0=true:=by decide +kernel
theorem Dc:Nat.testBit 35 1=true:=by decide +kernel
theorem Db:Nat.testBit 35 2=false:=by decide +kernel
theorem Da:Nat.testBit 35 3=false:=by decide +kernel
theorem C9:Nat.testBit 35 4=false:=by decide +kernel
theorem C8:Nat.testBit 35 5=true:=by decide +kernel
theorem C7:Nat.testBit 35 6=false:=by decide +kernel
theorem C6:Nat.testBit 35 7=false:=by decide +kernel
theorem C5:Nat.testBit 35 8=false:=by decide +kernel
theorem C4:Nat.testBit 35 9=false:=by decide +kernel
theorem Az:Nat.testBit 35 10=false:=by decide +kernel
theorem AJ:Nat.testBit 252 0=false:=by decide +kernel
theorem AI:Nat.testBit 252 1=false:=by decide +kernel
theorem AH:Nat.testBit 252 2=true:=by decide +kernel
theorem AG:Nat.testBit 252 3=true:=by decide +kernel
theorem AF:Nat.testBit 252 4=true:=by decide +kernel
theorem AE:Nat.testBit 252 5=true:=by decide +kernel
theorem AD:Nat.testBit 252 6=true:=by decide +kernel
theorem AC:Nat.testBit 252 7=true:=by decide +kernel
theorem AB:Nat.testBit 252 8=false:=by decide +kernel
theorem AA:Nat.testBit 252 9=false:=by decide +kernel
theorem wX:Nat.testBit 252 10=false:=by decide +kernel
theorem mW:Nat.testBit 253 0=true:=by decide +kernel
theorem mV:Nat.testBit 253 1=false:=by decide +kernel
theorem mU:Nat.testBit 253 2=true:=by decide +kernel
theorem mT:Nat.testBit 253 3=true:=by decide +kernel
theorem mS:Nat.testBit 253 4=true:=by decide +kernel
theorem mR:Nat.testBit 253 5=true:=by decide +kernel
theorem mQ:Nat.testBit 253 6=true:=by decide +kernel
theorem mP:Nat.testBit 253 7=true:=by decide +kernel
theorem mO:Nat.testBit 253 8=false:=by decide +kernel
theorem mN:Nat.testBit 253 9=false:=by decide +kernel
theorem kw:Nat.testBit 253 10=false:=by decide +kernel
theorem Ay:Nat.testBit 412 0=false:=by decide +kernel
theorem Ax:Nat.testBit 412 1=false:=by decide +kernel
theorem Av:Nat.testBit 412 2=true:=by decide +kernel
theorem Au:Nat.testBit 412 3=true:=by decide +kernel
theorem As:Nat.testBit 412 4=true:=by decide +kernel
theorem Ar:Nat.testBit 412 5=false:=by decide +kernel
theorem Aq:Nat.testBit 412 6=false:=by decide +kernel
theorem Ap:Nat.testBit 412 7=true:=by decide +kernel
theorem Ao:Nat.testBit 412 8=true:=by decide +kernel
theorem An:Nat.testBit 412 9=false:=by decide +kernel
theorem wW:Nat.testBit 412 10=false:=by decide +kernel
theorem Am:Nat.testBit 513 0=true:=by decide +kernel
theorem Al:Nat.testBit 513 1=false:=by decide +kernel
theorem Ak:Nat.testBit 513 2=false:=by decide +kernel
theorem Aj:Nat.testBit 513 3=false:=by decide +kernel
theorem Ai:Nat.testBit 513 4=false:=by decide +kernel
theorem Ag:Nat.testBit 513 5=false:=by decide +kernel
theorem Af:Nat.testBit 513 6=false:=by decide +kernel
theorem Ae:Nat.testBit 513 7=false:=by decide +kernel
theorem Ad:Nat.testBit 513 8=false:=by decide +kernel
theorem Ac:Nat.testBit 513 9=true:=by decide +kernel
theorem wV:Nat.testBit 513 10=false:=by decide +kernel
theorem Ab:Nat.testBit 546 0=false:=by decide +kernel
theorem Aa:Nat.testBit 546 1=true:=by decide +kernel
theorem zZ:Nat.testBit 546 2=false:=by decide +kernel
theorem zY:Nat.testBit 546 3=false:=by decide +kernel
theorem zX:Nat.testBit 546 4=false:=by decide +kernel
theorem zW:Nat.testBit 546 5=true:=by decide +kernel
theorem zV:Nat.testBit 546 6=false:=by decide +kernel
theorem zU:Nat.testBit 546 7=false:=by decide +kernel
theorem zT:Nat.testBit 546 8=false:=by decide +kernel
theorem zR:Nat.testBit 546 9=true:=by decide +kernel
theorem wU:Nat.testBit 546 10=false:=by decide +kernel
theorem xD:Nat.testBit 1536 0=false:=by decide +kernel
theorem xC:Nat.testBit 1536 1=false:=by decide +kernel
theorem xB:Nat.testBit 1536 2=false:=by decide +kernel
theorem xA:Nat.testBit 1536 3=false:=by decide +kernel
theorem xz:Nat.testBit 1536 4=false:=by decide +kernel
theorem xy:Nat.testBit 1536 5=false:=by decide +kernel
theorem xx:Nat.testBit 1536 6=false:=by decide +kernel
theorem xw:Nat.testBit 1536 7=false:=by decide +kernel
theorem xv:Nat.testBit 1536 8=false:=by decide +kernel
theorem xu:Nat.testBit 1536 9=true:=by decide +kernel
theorem ug:Nat.testBit 1536 10=true:=by decide +kernel
theorem xt:Nat.testBit 1568 0=false:=by decide +kernel
theorem xr:Nat.testBit 1568 1=false:=by decide +kernel
theorem xq:Nat.testBit 1568 2=false:=by decide +kernel
theorem xp:Nat.testBit 1568 3=false:=by decide +kernel
theorem xo:Nat.testBit 1568 4=false:=by decide +kernel
theorem xn:Nat.testBit 1568 5=true:=by decide +kernel
theorem xm:Nat.testBit 1568 6=false:=by decide +kernel
theorem xl:Nat.testBit 1568 7=false:=by decide +kernel
theorem xk:Nat.testBit 1568 8=false:=by decide +kernel
theorem xj:Nat.testBit 1568 9=true:=by decide +kernel
theorem uf:Nat.testBit 1568 10=true:=by decide +kernel
theorem xi:Nat.testBit 1808 0=false:=by decide +kernel
theorem xg:Nat.testBit 1808 1=false:=by decide +kernel
theorem xf:Nat.testBit 1808 2=false:=by decide +kernel
theorem xe:Nat.testBit 1808 3=false:=by decide +kernel
theorem xd:Nat.testBit 1808 4=true:=by decide +kernel
theorem xc:Nat.testBit 1808 5=false:=by decide +kernel
theorem xb:Nat.testBit 1808 6=false:=by decide +kernel
theorem xa:Nat.testBit 1808 7=false:=by decide +kernel
theorem wZ:Nat.testBit 1808 8=true:=by decide +kernel
theorem wY:Nat.testBit 1808 9=true:=by decide +kernel
theorem ue:Nat.testBit 1808 10=true:=by decide +kernel
theorem Gy {a:ActD} (h:a.kind=0):fitsR a=ruleB a:=by
 rw [F3 h,fitsR,h,Fl,wd]
 simp only [zeroR,bareA,maskB,zS,zB,zI,zN,xt,xr,xq,xp,xo,xn,xm,xl,xk,xj,uf,Zg,Zh,Zm,Zi,rule1B,rule2B,rule3B,rule4B,rule5B,rule6B,objectB,targetB,homeB,isDigestB,isShortB,withinB,lt20,grantB,setupB,bn]
 ac_rfl
theorem Gx {a:ActD} (h:a.kind=1):fitsR a=ruleB a:=by
 rw [F1 h,fitsR,h,Fk,wc]
 simp only [zeroR,bareA,maskB,zS,zB,zI,zN,AJ,AI,AH,AG,AF,AE,AD,AC,AB,AA,wX,Zg,Zh,Zm,Zi,rule1B,rule2B,rule3B,rule4B,rule5B,rule6B,objectB,targetB,homeB,isDigestB,isShortB,withinB,lt20,grantB,setupB,bn]
 ac_rfl
theorem Gw {a:ActD} (h:a.kind=2):fitsR a=ruleB a:=by
 rw [F0 h,fitsR,h,Fj,wb]
 simp only [zeroR,bareA,maskB,zS,zB,zI,zN,mW,mV,mU,mT,mS,mR,mQ,mP,mO,mN,kw,Zg,Zh,Zm,Zi,rule1B,rule2B,rule3B,rule4B,rule5B,rule6B,objectB,targetB,homeB,isDigestB,isShortB,withinB,lt20,grantB,setupB,bn]
 ac_rfl
theorem Gv {a:ActD} (h:a.kind=3):fitsR a=ruleB a:=by
 rw [FZ h,fitsR,h,Fi,wa]
 simp only [zeroR,bareA,maskB,zS,zB,zI,zN,mW,mV,mU,mT,mS,mR,mQ,mP,mO,mN,kw,Zg,Zh,Zm,Zi,rule1B,rule2B,rule3B,rule4B,rule5B,rule6B,objectB,targetB,homeB,isDigestB,isShortB,withinB,lt20,grantB,setupB,bn]
 ac_rfl
theorem Gu {a:ActD} (h:a.kind=4):fitsR a=ruleB a:=by
 rw [FY h,fitsR,h,Fg,v8]
 simp only [zeroR,bareA,maskB,zS,zB,zI,zN,nc,nb,na,m9,m8,m7,m6,mZ,mY,mX,jA,Zg,Zh,Zm,Zi,rule1B,rule2B,rule3B,rule4B,rule5B,rule6B,objectB,targetB,homeB,isDigestB,isShortB,withinB,lt20,grantB,setupB,bn]
 ac_rfl
theorem Gt {a:ActD} (h:a.kind=5):fitsR a=ruleB a:=by
 rw [FX h,fitsR,h,Ff,vZ]
 simp only [zeroR,bareA,maskB,zS,zB,zI,zN,nc,nb,na,m9,m8,m7,m6,mZ,mY,mX,jA,Zg,Zh,Zm,Zi,rule1B,rule2B,rule3B,rule4B,rule5B,rule6B,objectB,targetB,homeB,isDigestB,isShortB,withinB,lt20,grantB,setupB,bn]
 ac_rfl
theorem Gs {a:ActD} (h:a.kind=6):fitsR a=ruleB a:=by
 rw [FW h,fitsR,h,Fe,vY]
 simp only [zeroR,bareA,maskB,zS,zB,zI,zN,nc,nb,na,m9,m8,m7,m6,mZ,mY,mX,jA,Zg,Zh,Zm,Zi,rule1B,rule2B,rule3B,rule4B,rule5B,rule6B,objectB,targetB,homeB,isDigestB,isShortB,withinB,lt20,grantB,setupB,bn]
 ac_rfl
theorem Gr {a:ActD} (h:a.kind=7):fitsR a=ruleB a:=by
 rw [FV h,fitsR,h,Fc,vX]
 simp only [zeroR,bareA,maskB,zS,zB,zI,zN,mM,mL,mK,mJ,mI,mH,mG,mF,mE,mD,jz,Zg,Zh,Zm,Zi,rule1B,rule2B,rule3B,rule4B,rule5B,rule6B,objectB,targetB,homeB,isDigestB,isShortB,withinB,lt20,grantB,setupB,bn]
 ac_rfl
theorem Gq {a:ActD} (h:a.kind=8):fitsR a=ruleB a:=by
 rw [FU h,fitsR,h,Fb,vW]
 simp only [zeroR,bareA,maskB,zS,zB,zI,zN,mM,mL,mK,mJ,mI,mH,mG,mF,mE,mD,jz,Zg,Zh,Zm,Zi,rule1B,rule2B,rule3B,rule4B,rule5B,rule6B,objectB,targetB,homeB,isDigestB,isShortB,withinB,lt20,grantB,setupB,bn]
 ac_rfl
theorem Gp {a:ActD} (h:a.kind=9):fitsR a=ruleB a:=by
 rw [FT h,fitsR,h,Fa,vV]
 simp only [zeroR,bareA,maskB,zS,zB,zI,zN,mM,mL,mK,mJ,mI,mH,mG,mF,mE,mD,jz,Zg,Zh,Zm,Zi,rule1B,rule2B,rule3B,rule4B,rule5B,rule6B,objectB,targetB,homeB,isDigestB,isShortB,withinB,lt20,grantB,setupB,bn]
 ac_rfl
theorem EJ {a:ActD} (h:a.kind=10):fitsR a=ruleB a:=by
 rw [D3 h,fitsR,h,BK,sA]
 simp only [zeroR,bareA,maskB,zS,zB,zI,zN,mM,mL,mK,mJ,mI,mH,mG,mF,mE,mD,jz,Zg,Zh,Zm,Zi,rule1B,rule2B,rule3B,rule4B,rule5B,rule6B,objectB,targetB,homeB,isDigestB,isShortB,withinB,lt20,grantB,setupB,bn]
 ac_rfl
theorem EI {a:ActD} (h:a.kind=11):fitsR a=ruleB a:=by
 rw [D1 h,fitsR,h,BJ,sz]
 simp only [zeroR,bareA,maskB,zS,zB,zI,zN,mM,mL,mK,mJ,mI,mH,mG,mF,mE,mD,jz,Zg,Zh,Zm,Zi,rule1B,rule2B,rule3B,rule4B,rule5B,rule6B,objectB,targetB,homeB,isDigestB,isShortB,withinB,lt20,grantB,setupB,bn]
 ac_rfl
theorem EH {a:ActD} (h:a.kind=12):fitsR a=ruleB a:=by
 rw [DZ h,fitsR,h,BI,sy]
 simp only [zeroR,bareA,maskB,zS,zB,zI,zN,vK,vJ,vI,vH,vG,vF,vE,vD,vC,vB,rD,Zg,Zh,Zm,Zi,rule1B,rule2B,rule3B,rule4B,rule5B,rule6B,objectB,targetB,homeB,isDigestB,isShortB,withinB,lt20,grantB,setupB,bn]
 ac_rfl
theorem EG {a:ActD} (h:a.kind=13):fitsR a=ruleB a:=by
 rw [DY h,fitsR,h,BH,sx]
 simp only [zeroR,bareA,maskB,zS,zB,zI,zN,nc,nb,na,m9,m8,m7,m6,mZ,mY,mX,jA,Zg,Zh,Zm,Zi,rule1B,rule2B,rule3B,rule4B,rule5B,rule6B,objectB,targetB,homeB,isDigestB,isShortB,withinB,lt20,grantB,setupB,bn]
 ac_rfl
theorem EF {a:ActD} (h:a.kind=14):fitsR a=ruleB a:=by
 rw [DX h,fitsR,h,BG,su]
 simp only [zeroR,bareA,maskB,zS,zB,zI,zN,mW,mV,mU,mT,mS,mR,mQ,mP,mO,mN,kw,Zg,Zh,Zm,Zi,rule1B,rule2B,rule3B,rule4B,rule5B,rule6B,objectB,targetB,homeB,isDigestB,isShortB,withinB,lt20,grantB,setupB,bn]
 ac_rfl
theorem EE {a:ActD} (h:a.kind=15):fitsR a=ruleB a:=by
 rw [DW h,fitsR,h,BF,sr]
 simp only [zeroR,bareA,maskB,zS,zB,zI,zN,Dp,Do,Dn,Dm,Dl,Dk,Dj,Di,Dg,De,AK,Zg,Zh,Zm,Zi,rule1B,rule2B,rule3B,rule4B,rule5B,rule6B,objectB,targetB,homeB,isDigestB,isShortB,withinB,lt20,grantB,setupB,bn]
 ac_rfl
theorem ED {a:ActD} (h:a.kind=16):fitsR a=ruleB a:=by
 rw [DV h,fitsR,h,BE,sj]
 simp only [zeroR,bareA,maskB,zS,zB,zI,zN,Ay,Ax,Av,Au,As,Ar,Aq,Ap,Ao,An,wW,Zg,Zh,Zm,Zi,rule1B,rule2B,rule3B,rule4B,rule5B,rule6B,objectB,targetB,homeB,isDigestB,isShortB,withinB,lt20,grantB,setupB,bn]
 ac_rfl
theorem EC {a:ActD} (h:a.kind=17):fitsR a=ruleB a:=by
 rw [DU h,fitsR,h,BD,si]
 simp only [zeroR,bareA,maskB,zS,zB,zI,zN,Dd,Dc,Db,Da,C9,C8,C7,C6,C5,C4,Az,Zg,Zh,Zm,Zi,rule1B,rule2B,rule3B,rule4B,rule5B,rule6B,objectB,targetB,homeB,isDigestB,isShortB,withinB,lt20,grantB,setupB,bn]
 rw [labelB,objectB,targetB,isDigestB]
 cases hz:seqB a.object ⟨#[]⟩ with
 | true =>
  rw [u9 _ hz]
  cases isName a.text<;>simp [Bool.and_comm,Bool.and_assoc]
 | false=>cases isName a.text<;>cases decide ((a.object.size:Int)=32)<;>cases seqB a.target ⟨#[]⟩<;>simp [Bool.and_comm,Bool.and_assoc]
theorem EB {a:ActD} (h:a.kind=18):fitsR a=ruleB a:=by
 rw [DT h,fitsR,h,BC,sf]
 simp only [zeroR,bareA,maskB,zS,zB,zI,zN,xD,xC,xB,xA,xz,xy,xx,xw,xv,xu,ug,Zg,Zh,Zm,Zi,rule1B,rule2B,rule3B,rule4B,rule5B,rule6B,objectB,targetB,homeB,isDigestB,isShortB,withinB,lt20,grantB,setupB,bn]
 ac_rfl
theorem EA {a:ActD} (h:a.kind=19):fitsR a=ruleB a:=by
 rw [DS h,fitsR,h,BB,se]
 simp only [zeroR,bareA,maskB,zS,zB,zI,zN,xi,xg,xf,xe,xd,xc,xb,xa,wZ,wY,ue,Zg,Zh,Zm,Zi,rule1B,rule2B,rule3B,rule4B,rule5B,rule6B,objectB,targetB,homeB,isDigestB,isShortB,withinB,lt20,grantB,setupB,bn]
 ac_rfl
theorem Ez {a:ActD} (h:a.kind=20):fitsR a=ruleB a:=by
 rw [DR h,fitsR,h,BA,sd]
 simp only [zeroR,bareA,maskB,zS,zB,zI,zN,nc,nb,na,m9,m8,m7,m6,mZ,mY,mX,jA,Zg,Zh,Zm,Zi,rule1B,rule2B,rule3B,rule4B,rule5B,rule6B,objectB,targetB,homeB,isDigestB,isShortB,withinB,lt20,grantB,setupB,bn]
 ac_rfl
theorem Ey {a:ActD} (h:a.kind=21):fitsR a=ruleB a:=by
 rw [DQ h,fitsR,h,Bz,r8]
 simp only [zeroR,bareA,maskB,zS,zB,zI,zN,vK,vJ,vI,vH,vG,vF,vE,vD,vC,vB,rD,Zg,Zh,Zm,Zi,rule1B,rule2B,rule3B,rule4B,rule5B,rule6B,objectB,targetB,homeB,isDigestB,isShortB,withinB,lt20,grantB,setupB,bn]
 ac_rfl
theorem Ex {a:ActD} (h:a.kind=22):fitsR a=ruleB a:=by
 rw [DP h,fitsR,h,By,r5]
 simp only [zeroR,bareA,maskB,zS,zB,zI,zN,Am,Al,Ak,Aj,Ai,Ag,Af,Ae,Ad,Ac,wV,Zg,Zh,Zm,Zi,rule1B,rule2B,rule3B,rule4B,rule5B,rule6B,objectB,targetB,homeB,isDigestB,isShortB,withinB,lt20,grantB,setupB,bn]
 ac_rfl
theorem Ew {a:ActD} (h:a.kind=23):fitsR a=ruleB a:=by
 rw [DO h,fitsR,h,Bx,r4]
 simp only [zeroR,bareA,maskB,zS,zB,zI,zN,Ab,Aa,zZ,zY,zX,zW,zV,zU,zT,zR,wU,Zg,Zh,Zm,Zi,rule1B,rule2B,rule3B,rule4B,rule5B,rule6B,objectB,targetB,homeB,isDigestB,isShortB,withinB,lt20,grantB,setupB,bn]
 ac_rfl
theorem Ev (a:ActD):fitsR a=ruleB a:=by
 by_cases hk:0≤a.kind∧a.kind≤23
 · rcases pH hk with h|h|h|h|h|h|h|h|h|h|h|h|h|h|h|h|h|h|h|h|h|h|h|h
   · exact Gy h
   · exact Gx h
   · exact Gw h
   · exact Gv h
   · exact Gu h
   · exact Gt h
   · exact Gs h
   · exact Gr h
   · exact Gq h
   · exact Gp h
   · exact EJ h
   · exact EI h
   · exact EH h
   · exact EG h
   · exact EF h
   · exact EE h
   · exact ED h
   · exact EC h
   · exact EB h
   · exact EA h
   · exact Ez h
   · exact Ey h
   · exact Ex h
   · exact Ew h
 · rw [ye hk,fitsR,sO hk,Zj]
def numsR (a:ActD):Bool:=!isId a.author||(decide (a.seq<0)||(decide (1073741824<a.seq)||(decide (a.time<0)||(decide (1099511627776<a.time)||(decide (a.e<0)||(decide (2305843009213693950≤a.e)||(decide (a.s<0)||decide (2305843009213693950≤a.s))))))))
def seqR (a:ActD):Bool:=decide (a.seq=0)&&(!seqB a.prev ⟨#[]⟩||!decide (a.kind=0))||decide (0<a.seq)&&(!decide ((a.prev.size:Int)=32)||decide (a.kind=0))
theorem dnot {p q:Prop} [Decidable p] [Decidable q] (h:p↔¬ q):decide p=!decide q:=by rw [←decide_not];exact decide_eq_decide.2 h
theorem Bn (a:ActD):(bif numsR a then false else bif seqR a then false else fitsR a)=rightB a:=by
 rw [Ev,rightB,numsR,seqR,placedB,withinB,withinB,withinB,withinB,isDigestB]
 rw [dnot (p:=a.seq<0) (q:=0≤a.seq) aa,dnot (p:=1073741824<a.seq) (q:=a.seq≤1073741824) aa,dnot (p:=a.time<0) (q:=0≤a.time) aa,dnot (p:=1099511627776<a.time) (q:=a.time≤1099511627776) aa,
  dnot (p:=a.e<0) (q:=0≤a.e) aa,dnot (p:=2305843009213693950≤a.e) (q:=a.e≤2305843009213693949) aa,dnot (p:=a.s<0) (q:=0≤a.s) aa,dnot (p:=2305843009213693950≤a.s) (q:=a.s≤2305843009213693949) (by omega)]
 cases isId a.author
 · rfl
 cases decide (0≤a.time)
 · cases decide (0≤a.seq)<;>cases decide (a.seq≤1073741824)<;>simp
 cases decide (a.time≤1099511627776)
 · cases decide (0≤a.seq)<;>cases decide (a.seq≤1073741824)<;>simp
 cases decide (0≤a.e)
 · cases decide (0≤a.seq)<;>cases decide (a.seq≤1073741824)<;>simp
 cases decide (a.e≤2305843009213693949)
 · cases decide (0≤a.seq)<;>cases decide (a.seq≤1073741824)<;>simp
 cases decide (0≤a.s)
 · cases decide (0≤a.seq)<;>cases decide (a.seq≤1073741824)<;>simp
 cases decide (a.s≤2305843009213693949)
 · cases decide (0≤a.seq)<;>cases decide (a.seq≤1073741824)<;>simp
 by_cases h0:a.seq=0
 · rw [h0]
   cases seqB a.prev ⟨#[]⟩<;>cases decide (a.kind=0)<;>simp
 by_cases h1:0<a.seq
 · rw [Zc h0,Zd h1,Zd (show 0≤a.seq by omega),Zd (show 1≤a.seq by omega)]
   cases decide (a.seq≤1073741824)<;>cases decide ((a.prev.size:Int)=32)<;>cases decide (a.kind=0)<;>simp
 · rw [Zc h0,Zc (show ¬ 0≤a.seq by omega),Zc (show ¬ 1≤a.seq by omega)]
   simp
set_option maxRecDepth 8000 in
theorem lu (a:ActD) (hs:a.Str):Pu Tryz.prog 146 #[a.v] (ActD.at_ · a) (.bool (rightB a)):=by
 refine ak (args:=[_]) _ Tryz.func146 rfl Tryz.ntmps146 rfl fun av bor w0=>?_
 rw [←Bn]
 have c1:=gB a.author hs.author
 have c2:=uC a hs
 repeat' (first|(refine ab (hc:=c1) (hX:=fun _ _=>trivial) ?_)|(refine ab (hc:=c2) (hX:=fun w h=>h) ?_)|refine gs ?_|refine gs1 fun _=>?_|(refine gp ?_ ?_<;>intro hx_ this)|fail)
 all_goals refine ad (ag rfl rfl) ?_
 all_goals first
  | rfl
  | (simp only [numsR,seqR, *,Zt,Zr,Zf,Ze,Zh,Zg,Zk,Zj,Zn,Zl,Zs,Zm,Zq,Zi];done)
  | (simp_all [numsR,seqR];done)
  | (simp_all [numsR,seqR];intros;omega)
  | skip
end Go.Proofs.YtaolfiikahlmkaaGreatDoor
