/- Joined. -/
import Derived.Test.YtggionfjlgfihaaGreatDoorI0
import Derived.Test.YtggionfjlgfihaaGreatDoorI25
import Derived.Test.YtggionfjlgfihaaGreatDoorI30
import Derived.Test.YtggionfjlgfihaaGreatDoorI29
set_option linter.unusedVariables false
set_option linter.unusedSimpArgs false
set_option maxHeartbeats 16000000
namespace Go.Proofs.YtggionfjlgfihaaGreatDoor
open Go Go.Proofs Sy
theorem bJ {n l h:Int} (w:withinB n l h=true):l≤n∧n≤h:=by
 simpa only [withinB,Bool.and_eq_true,decide_eq_true_eq] using w
theorem qM {e s:Int} (w:sigB e s=true):(0≤e∧e≤2305843009213693949)∧0≤s∧s≤2305843009213693949:=by
 rw [sigB,Bool.and_eq_true] at w
 exact ⟨bJ w.1,bJ w.2⟩
theorem gU {s:ByteArray} (h:isId s=true):s.size=16:=by
 rw [isId,Bool.and_eq_true,decide_eq_true_eq] at h
 exact_mod_cast h.1
theorem ij {s:ByteArray} (h:isDigestB s=true):s.size=32:=by
 rw [isDigestB,decide_eq_true_eq] at h
 exact_mod_cast h
theorem cV {s:ByteArray} (h:seqB s ⟨#[]⟩=true):s.size=0:=by
 rw [seqB_iff.1 h];rfl
theorem jw {c:Xg} (h:claimR c=true):c.Lt∧c.Sm:=by
 simp only [claimR,Bool.and_eq_true] at h
 obtain ⟨h1,h2,h3,h4,h5,h6,h7,h8⟩:=h
 have e1:=gU h1
 have e2:=bJ h2
 have e3:=ij h3
 have e4:=bJ h4
 have e5:=bJ h5
 have e6:=bJ h6
 have e7:=bJ h7
 have e8:=qM h8
 exact ⟨⟨by omega,by omega,by omega,by omega,by omega,by omega,by omega⟩,⟨by omega,by omega⟩⟩
theorem ik {c:Xi} (h:ballotR c=true):c.Lt∧c.Sm:=by
 simp only [ballotR,Bool.and_eq_true] at h
 obtain ⟨h2,h1,h4,h3,h7,h8⟩:=h
 have e1:=gU h1
 have e2:=bJ h2
 have e3:=ij h3
 have e4:=bJ h4
 have e7:=bJ h7
 have e8:=qM h8
 exact ⟨⟨by omega,by omega,by omega,by omega,by omega⟩,⟨by omega,by omega⟩⟩
theorem jx {m:Nat}:∀ {l:List ByteArray},(∀ x∈l,x.size≤m)→(cats l).size≤l.length*m
 | [],_=>by simp [cats]
 | a::l,h=>by
  have h1:=h a ap
  have h2:=jx (m:=m) (l:=l) fun x hx=>h x (List.mem_cons_of_mem _ hx)
  rw [cats,ByteArray.size_append,List.length_cons,Nat.add_mul]
  omega
theorem rn {l:List ByteArray} (h:isIds l=true):(listV l).size≤2000:=by
 rw [isIds,Bool.and_eq_true,Bool.not_eq_true',decide_eq_false_iff_not] at h
 have hl:l.length≤64:=by omega
 have he:∀ x∈l,x.size=16:=fun x hx=>by
  obtain ⟨k,hk,rfl⟩:=List.getElem_of_mem hx
  have h2:=h.2
  rw [allB,List.all_eq_true] at h2
  have h3:=h2 k (List.mem_range.2 hk)
  rw [Bool.not_eq_true',badIds,Bool.or_eq_false_iff,Bool.not_eq_false'] at h3
  have h4:=h3.1
  rw [List.getD_eq_getElem?_getD,List.getElem?_eq_getElem hk,Option.getD_some] at h4
  exact gU h4
 have h1:=aw (l.length:Int)
 have h2:=jx (m:=26) (l:=l.map textV) fun x hx=>by
  obtain ⟨y,hy,rfl⟩:=List.mem_map.1 hx
  have:=aw (y.size:Int)
  rw [textV,ByteArray.size_append,he y hy]
  have:=aw ((16:Nat):Int)
  omega
 rw [List.length_map] at h2
 rw [listV,ByteArray.size_append]
 omega
theorem uA:(listV []).size≤2000:=by
 have h1:=aw ((0:Nat):Int)
 rw [listV,ByteArray.size_append]
 simp only [List.map_nil,cats,ByteArray.size_empty,List.length_nil]
 omega
theorem ic {d:Xr} (hn:d.to.n=d.toL.length) (h:plainD d=true):(listV d.toL).size≤2000∧d.n=0:=by
 rw [plainD,Bool.and_eq_true,decide_eq_true_eq,decide_eq_true_eq] at h
 have:d.toL=[]:=List.length_eq_zero_iff.1 aa
 rw [this]
 exact ⟨uA,h.2⟩
theorem gm {d:Xr} (h:reasonD d=true):d.text.size≤500:=by
 rw [reasonD,decide_eq_true_eq] at h
 omega
theorem qz {d:Xr} (hn:d.to.n=d.toL.length) (h:termsB d=true):d.Sm∧0≤d.n∧d.n≤64∧d.kind<10:=by
 rw [termsB] at h
 cases hA:kindA d.kind with
 | true =>
  rw [hA,cond_true] at h
  simp only [Bool.and_eq_true] at h
  have e1:=gU h.1
  have e2:=cV h.2.1
  have e3:=gm h.2.2.1
  have e4:=ic hn h.2.2.2
  simp only [kindA,Bool.or_eq_true,decide_eq_true_eq] at hA
  exact ⟨⟨by omega,by omega,by omega,by omega⟩,by omega,by omega,by omega⟩
 | false =>
  rw [hA,cond_false] at h
  cases hO:kindO d.kind with
  | true =>
   rw [hO,cond_true] at h
   simp only [Bool.and_eq_true] at h
   have e1:=cV h.1
   have e2:=ij h.2.1
   have e3:=gm h.2.2.1
   have e4:=ic hn h.2.2.2
   simp only [kindO,Bool.or_eq_true,decide_eq_true_eq] at hO
   exact ⟨⟨by omega,by omega,by omega,by omega⟩,by omega,by omega,by omega⟩
  | false =>
   rw [hO,cond_false] at h
   cases h8:decide (d.kind=8) with
   | true =>
    rw [h8,cond_true] at h
    simp only [Bool.and_eq_true] at h
    have e1:=cV h.1
    have e2:=cV h.2.1
    have e3:=gm h.2.2.1
    have e4:=rn h.2.2.2.1
    have e5:=bJ h.2.2.2.2
    have e6:=cI h8
    have e7:d.toL.length≤64:=by
     have:=h.2.2.2.1
     rw [isIds,Bool.and_eq_true,Bool.not_eq_true',decide_eq_false_iff_not] at this
     omega
    exact ⟨⟨by omega,by omega,by omega,by omega⟩,by omega,by omega,by omega⟩
   | false =>
    rw [h8,cond_false] at h
    cases h9:decide (d.kind=9) with
    | true =>
     rw [h9,cond_true] at h
     simp only [Bool.and_eq_true] at h
     have e1:=cV h.1
     have e2:=cV h.2.1
     have e3:=cI h.2.2.1
     have e4:=ic hn h.2.2.2
     have e6:=cI h9
     exact ⟨⟨by omega,by omega,by omega,by omega⟩,by omega,by omega,by omega⟩
    | false=>rw [h9] at h;cases h
theorem oe {d:Xr} (hn:d.to.n=d.toL.length) (h:decR d=true):d.Lt∧d.Sm:=by
 simp only [decR,Bool.and_eq_true] at h
 obtain ⟨h1,h2,h3,h4,h5,h6,h7⟩:=h
 have e1:=bJ h1
 have e2:=bJ h2
 have e3:=bJ h3
 have e4:=bJ h4
 obtain ⟨e6,e7,e8,e9⟩:=qz hn h6
 have e10:=qM h7
 exact ⟨⟨by omega,by omega,by omega,by omega,by omega,by omega,by omega,by omega⟩,e6⟩
end Go.Proofs.YtggionfjlgfihaaGreatDoor
