/- Joined. -/
import Derived.Test.YtgffbiobmamobaaGreatDoorI0
import Derived.Test.YtgffbiobmamobaaGreatDoorI21
import Derived.Test.YtgffbiobmamobaaGreatDoorI41
import Derived.Test.YtgffbiobmamobaaGreatDoorI36
import Derived.Test.YtgffbiobmamobaaGreatDoorI14
set_option linter.unusedVariables false
set_option linter.unusedSimpArgs false
set_option maxHeartbeats 16000000
namespace Go.Proofs.YtgffbiobmamobaaGreatDoor
open Go Go.Proofs Sy
def lastG (I:List Xb):Nat→ByteArray
 | 0=>⟨#[]⟩
 | k+1=>digIt (I.getD k Xb.zero)
theorem tF {d:ByteArray} (h:d.size≠0):ltB ⟨#[]⟩ d=true:=by
 cases h1:ltB ⟨#[]⟩ d with
 | true=>rfl
 | false =>
  have h2:ltB d ⟨#[]⟩=false:=by
   rw [ltB]
   show Op.bytesLess d.toList (⟨#[]⟩:ByteArray).toList=false
   rw [show (⟨#[]⟩:ByteArray).toList=[] from by decide +kernel]
   cases d.toList<;>rfl
  exact absurd (congrArg ByteArray.size (l5 h1 h2)) (fun e=>h e.symm)
theorem zd {i:Xb} (h:rightIt i=true):(digIt i).size≠0:=by
 have hb:(bytesIt i).size≠0:=by
  have h1:(numV i.kind).size=1:=by
   rcases du h with ⟨e,_⟩|⟨e,_⟩|⟨e,_⟩|⟨e,_⟩<;>rw [e]<;>decide +kernel
  rw [bytesIt,h,cond_true,ByteArray.size_append]
  omega
 rw [digIt,cE,decide_eq_false hb,cond_false,eN]
 decide
theorem yU {I:List Xb} (hr:∀ i∈I,rightIt i=true) (ha:Asc (I.map digIt)) {k:Nat} {x:Xb} (hx:I[k]?=some x):ltB (lastG I k) (digIt x)=true:=by
 cases k with
 | zero=>exact tF (zd (hr x (List.mem_of_getElem? hx)))
 | succ k =>
  obtain ⟨hk,_⟩:=List.getElem?_eq_some_iff.1 hx
  have h1:I[k]?=some I[k]:=List.getElem?_eq_getElem ac
  have e:lastG I (k+1)=digIt I[k]:=by rw [lastG,List.getD_eq_getElem?_getD,h1,Option.getD_some]
  rw [e]
  exact sD ha (Nat.lt_succ_self k) (by rw [List.getElem?_map,h1];rfl) (by rw [List.getElem?_map,hx];rfl)
structure KriI (n:Nat) where
 k:Nat
 hk:k≤n
theorem lD (ks ki:Xi) (L:List Int) (I:List Xb) (hL:L.length≤20) (hp:∀ p∈L,1≤p∧p≤2305843009213693950) (hr:∀ i∈I,i.act.Rng) (hd:∀ i∈I,i.dec.to.n=i.dec.toL.length) (hs:∀ i∈I,signedIt L i=true) (ha:Asc (I.map digIt)) (hI:I.length≤1000) :
  Pu Tryz.prog 9 #[.agg #[ks.v,ki.v]] (fun w=>(Ints w ks L∧Items w ki I)∧Xg w) (.bool true):=by
 refine aq Tryz.func9 Tryz.ntmps9 fun av bor w0=>?_
 refine aD (p:=(ks.n=L.length∧ks.n≤maxLen∧(0<L.length→ks.p.isSome=true))∧ki.n=I.length∧ki.n≤maxLen∧(0<I.length→ki.p.isSome=true)) (fun w h=>⟨⟨h.1.1.len_,Nat.le_trans (Xe.cap h.1.1) (Xe.max h.1.1),h.1.1.some_⟩,h.1.2.len_,h.1.2.max_,h.1.2.some_⟩) fun ⟨⟨hsn,hsm,hsp⟩,hin,him,hip⟩=>?_
 simp only [maxLen] at hsm him
 have hrt:∀ i∈I,rightIt i=true:=fun i hi=>by
  have:=hs i hi
  rw [signedIt,Bool.and_eq_true] at this
  exact this.1
 have hgt:decide ((20:Int)<(ks.n:Nat))=false:=decide_eq_false ac
 repeat' (first|refine aw ?_ (eQ false rfl rfl hgt)|refine gs ?_|refine gs1 fun _=>?_|(refine gp ?_ ?_<;>intro hx_ this)|fail)
 rename_i b1
 refine az (ι:=KriI L.length) (fun i=>⟨[(1,.pointer (some ⟨b1,0,none⟩)),(14,ks.v),(15,.int .i64 (ks.n:Nat)),(16,.int .i64 (i.k:Nat))],[cel b1 32 [ks.v,ki.v]],fun w=>(Ints w ks L∧Items w ki I)∧Xg w⟩) (fun i=>L.length-i.k) ⟨0,Nat.zero_le _⟩ (ak an (al _) fun _ h=>h) fun i=>?_
 obtain ⟨k,hk⟩:=i
 simp only
 by_cases hlt:k<L.length
 · have hsp':=hsp ac
   have hpr:=hp (L.getD k 0) (by rw [List.getD_eq_getElem?_getD,List.getElem?_eq_getElem hlt];exact List.getElem_mem hlt)
   have hget:∀ w,(Ints w ks L∧Items w ki I)∧Xg w→CellAt w ks.p k (.int .i64 (L.getD k 0)):=fun w h=>Ints.get h.1.1 hlt
   generalize L.getD k 0=pk at *
   repeat' (first|refine aw ?_ (be true rfl rfl (decide_eq_true (show (k:Int)<(ks.n:Nat) by omega)))|refine aw ?_ (be false rfl rfl (decide_eq_false (show ¬ pk<1 by omega)))|refine aw ?_ (eQ false rfl rfl (decide_eq_false (show ¬ (2305843009213693950:Int)<pk by omega)))|refine gs ?_|refine gs1 fun _=>?_|(refine aA (q:=k) ?_)|(refine bE (q:=k) (u:=.int .i64 pk) (hF:=hget) ?_)|(refine gp ?_ ?_<;>intro hx_ this)|fail)
   all_goals first
    | exact ⟨(⟨k+1,hlt⟩:KriI L.length),(by show L.length-(k+1)<L.length-k;omega),ak an (al _) fun _ h=>h⟩
 · repeat' (first|refine aw ?_ (be false rfl rfl (decide_eq_false (show ¬ (k:Int)<(ks.n:Nat) by omega)))|refine gs ?_|refine gs1 fun _=>?_|(refine gp ?_ ?_<;>intro hx_ this)|fail)
   refine az (ι:=KriI I.length) (fun i=>⟨[(1,.pointer (some ⟨b1,0,none⟩)),(5,.string (lastG I i.k)),(28,ki.v),(29,.int .i64 (ki.n:Nat)),(30,.int .i64 (i.k:Nat))],[cel b1 32 [ks.v,ki.v]],fun w=>(Ints w ks L∧Items w ki I)∧Xg w⟩) (fun i=>I.length-i.k) ⟨0,Nat.zero_le _⟩ (ak an (al _) fun _ h=>h) fun i=>?_
   obtain ⟨j,hj⟩:=i
   simp only
   by_cases hjl:j<I.length
   · have hip':=hip ac
     obtain ⟨x,hx⟩:∃ x,I[j]?=some x:=⟨_,List.getElem?_eq_getElem hjl⟩
     have hxm:=List.mem_of_getElem? hx
     have hR:=cL x
     rw [hrt x hxm] at hR
     have hS:=em ks L x (hd x hxm)
     rw [hs x hxm] at hS
     have hD:=bw x (hr x hxm) (hd x hxm)
     have hlast:=yU hrt ha hx
     have hnx:lastG I (j+1)=digIt x:=by rw [lastG,List.getD_eq_getElem?_getD,hx,Option.getD_some]
     generalize lastG I j=la at *
     generalize digIt x=dx at *
     repeat' (first|refine aw ?_ (be true rfl rfl (decide_eq_true (show (j:Int)<(ki.n:Nat) by omega)))|refine aw ?_ (xY rfl rfl hlast)|(refine ag (hc:=hR) (hX:=fun w h=>h.1.2.2 x hxm) ?_)|(refine ag (hc:=hS) (hX:=fun w h=>⟨⟨h.1.1,h.1.2.2 x hxm⟩,h.2⟩) ?_)|(refine ag (hc:=hD) (hX:=fun w h=>⟨h.1.2.2 x hxm,h.2⟩) ?_)|refine gs ?_|refine gs1 fun _=>?_|(refine aA (q:=j*49) ?_)|(refine aY (cs:=x.cells) (hF:=fun w h=>h.1.2.get hx) ?_)|(refine gp ?_ ?_<;>intro hx_ this)|fail)
     all_goals first
      | exact ⟨(⟨j+1,hjl⟩:KriI I.length),(by show I.length-(j+1)<I.length-j;omega),ak ⟨rfl,by rw [hnx];rfl,rfl,rfl,rfl,trivial⟩ (.cons _ (al _)) fun _ h=>h⟩
   · repeat' (first|refine aw ?_ (be false rfl rfl (decide_eq_false (show ¬ (j:Int)<(ki.n:Nat) by omega)))|refine gs ?_|refine gs1 fun _=>?_|(refine gp ?_ ?_<;>intro hx_ this)|fail)
     all_goals first
      | exact ae (aj rfl rfl) rfl
end Go.Proofs.YtgffbiobmamobaaGreatDoor
