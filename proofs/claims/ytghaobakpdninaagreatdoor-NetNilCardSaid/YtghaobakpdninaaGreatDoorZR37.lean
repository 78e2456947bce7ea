/- ZR37 -/
import Derived.Test.YtghaobakpdninaaGreatDoorZR36
set_option linter.unusedVariables false
set_option linter.unusedSimpArgs false
set_option maxRecDepth 100000
set_option maxHeartbeats 16000000
namespace Go.Proofs.YtghaobakpdninaaGreatDoor
open Go.RowKit
def DK (m a0 a1 b0 b1 k:Nat):Prop:=k=m+1∨k=m∨InR a0 a1 k∨InR b0 b1 k
structure NG (w1 W:World)(g1 c1 a0 a1 b0 b1:Nat)(P0 P1:BP)(TA TB:TM)(ls:Value)(k:Nat)(D:DataW Unit):Prop where
 bel:Below w1.heap.size w1 W
 net:GB 97 W (w1.heap.size+1) #[.slice (some ⟨g1,0,none⟩) 2 c1,ls,.map (some w1.heap.size),.int .u64 0]
 rb:W.rangeAt g1 0 [.pointer (some ⟨P0.b,0,none⟩),.pointer (some ⟨P1.b,0,none⟩)]
 sm:W.ownsMap Tryz.prog 142 sEl w1.heap.size k D
 A:BN W a0 a1 P0 TA [0,0,0,0,0,0,0,0] [] (.slice none 0 0)
 B:BN W b0 b1 P1 TB [0,0,0,0,0,0,0,0] [] (.slice none 0 0)
 ord:w1.heap.size+3≤a0∧a1≤b0∧b1≤W.heap.size∧(a1≤g1∧(g1<b0∨b1≤g1))∧g1<W.heap.size
section
variable {w1 W W':World} {g1 c1 a0 a1 b0 b1 k k':Nat} {P0 P1:BP} {TA TB TA' TB':TM} {ls ls':Value} {D D':DataW Unit}
theorem own_blk {W W':World}{m n:Nat}{D:DataW Unit}(h:W.ownsMap Tryz.prog 142 sEl m n D)(e:W'.heap[m]?=W.heap[m]?):W'.ownsMap Tryz.prog 142 sEl m n D:=by
 obtain⟨es,clock,hb,F,hs,hD⟩:=h
 exact⟨es,clock,e.trans hb,F,hs,hD⟩
theorem NG.le (h:NG w1 W g1 c1 a0 a1 b0 b1 P0 P1 TA TB ls k D):a0≤a1∧b0≤b1:=by
 have a:=h.A.bi.b
 have b:=h.B.bi.b
 exact⟨Nat.le_of_lt (Nat.lt_of_le_of_lt a.1 a.2),Nat.le_of_lt (Nat.lt_of_le_of_lt b.1 b.2)⟩
theorem NG.later (h:NG w1 W g1 c1 a0 a1 b0 b1 P0 P1 TA TB ls k D)(hb:Below W.heap.size W W'):NG w1 W' g1 c1 a0 a1 b0 b1 P0 P1 TA TB ls k D :=
 ⟨h.bel.trans (hb.mono h.bel.size),h.net.later hb,range_later h.rb hb,own_blk h.sm (hb.block _ (World.ownsMap.lt h.sm)),h.A.later hb,h.B.later hb,h.ord.1,h.ord.2.1,Nat.le_trans h.ord.2.2.1 hb.size,h.ord.2.2.2.1,Nat.lt_of_lt_of_le h.ord.2.2.2.2 hb.size⟩
theorem NG.in {E:Nat→Prop}(h:NG w1 W g1 c1 a0 a1 b0 b1 P0 P1 TA TB ls k D)(hf:Fr E W W')(hE:∀ x,E x→w1.heap.size≤x∧x≠g1)(net:GB 97 W' (w1.heap.size+1) #[.slice (some ⟨g1,0,none⟩) 2 c1,ls',.map (some w1.heap.size),.int .u64 0])(sm:W'.ownsMap Tryz.prog 142 sEl w1.heap.size k' D')
  (A:BN W' a0 a1 P0 TA' [0,0,0,0,0,0,0,0] [] (.slice none 0 0)) (B:BN W' b0 b1 P1 TB' [0,0,0,0,0,0,0,0] [] (.slice none 0 0)):NG w1 W' g1 c1 a0 a1 b0 b1 P0 P1 TA' TB' ls' k' D':=by
 have hs:=h.bel.size
 refine⟨⟨hf.os.trans h.bel.os,hf.tape.trans h.bel.tape,hf.output.trans h.bel.output,Nat.le_trans hs hf.size,fun i hi=>(hf.block i (by omega) (fun hE'=>by have:=(hE i hE').1;omega)).trans (h.bel.block i hi)⟩,net,range_fr h.rb hf (fun hx=>(hE _ hx).2 rfl),sm,A,B,h.ord.1,h.ord.2.1,Nat.le_trans h.ord.2.2.1 hf.size,h.ord.2.2.2.1,Nat.lt_of_lt_of_le h.ord.2.2.2.2 hf.size⟩
theorem NG.setNet (h:NG w1 W g1 c1 a0 a1 b0 b1 P0 P1 TA TB ls k D)(v:Value):NG w1 (W.setCell ⟨w1.heap.size+1,1,none⟩ v) g1 c1 a0 a1 b0 b1 P0 P1 TA TB v k D:=by
 have hl:=h.le
 have ho:=h.ord
 have hf:Fr (fun x=>x=w1.heap.size+1) W (W.setCell ⟨w1.heap.size+1,1,none⟩ v):=Fr.of_only (Only.set _ _ _ _) rfl
 exact h.in hf (fun x hx=>by subst hx;omega) (h.net.set 1 v) (own_blk h.sm (hf.block _ (World.ownsMap.lt h.sm) (by omega))) (h.A.fr hf fun x hx hi=>by subst hx;have:=hi.1;omega) (h.B.fr hf fun x hx hi=>by subst hx;have:=hi.1;omega)
theorem NG.setMap (h:NG w1 W g1 c1 a0 a1 b0 b1 P0 P1 TA TB ls k D)(hm:W'.ownsMap Tryz.prog 142 sEl w1.heap.size k' D')(hg:W.grownBy W' (some w1.heap.size)):NG w1 W' g1 c1 a0 a1 b0 b1 P0 P1 TA TB ls k' D':=by
 have hl:=h.le
 have ho:=h.ord
 have hf:Fr (fun x=>x=w1.heap.size) W W':=⟨hg.os,hg.tape,hg.output,hg.size,fun i hi hx=>hg.block i hi (by simpa using hx)⟩
 exact h.in hf (fun x hx=>by subst hx;omega) (h.net.fr' hf (by omega)) hm (h.A.fr hf fun x hx hi=>by subst hx;have:=hi.1;omega) (h.B.fr hf fun x hx hi=>by subst hx;have:=hi.1;omega)
theorem NG.setA (h:NG w1 W g1 c1 a0 a1 b0 b1 P0 P1 TA TB ls k D)(hA:BN W' a0 a1 P0 TA' [0,0,0,0,0,0,0,0] [] (.slice none 0 0))(hf:Fr (InR a0 a1) W W'):NG w1 W' g1 c1 a0 a1 b0 b1 P0 P1 TA' TB ls k D:=by
 have hl:=h.le
 have ho:=h.ord
 exact h.in hf (fun x hx=>by have:=hx.1;have:=hx.2;omega) (h.net.fr' hf (fun hx=>by have:=hx.1;omega)) (own_blk h.sm (hf.block _ (World.ownsMap.lt h.sm) (fun hx=>by have:=hx.1;omega))) hA (h.B.fr hf fun x hx hi=>by have:=hx.2;have:=hi.1;omega)
theorem NG.setB (h:NG w1 W g1 c1 a0 a1 b0 b1 P0 P1 TA TB ls k D)(hB:BN W' b0 b1 P1 TB' [0,0,0,0,0,0,0,0] [] (.slice none 0 0))(hf:Fr (InR b0 b1) W W'):NG w1 W' g1 c1 a0 a1 b0 b1 P0 P1 TA TB' ls k D:=by
 have hl:=h.le
 have ho:=h.ord
 exact h.in hf (fun x hx=>by have:=hx.1;have:=hx.2;omega) (h.net.fr' hf (fun hx=>by have:=hx.1;omega)) (own_blk h.sm (hf.block _ (World.ownsMap.lt h.sm) (fun hx=>by have:=hx.1;omega))) (h.A.fr hf fun x hx hi=>by have:=hx.1;have:=hi.2;omega) hB
theorem NG.nz {l q0 d0 q1 d1 g2 c2:Nat}(h:NG w1 W g1 c1 a0 a1 b0 b1 P0 P1 TA TB (.slice (some ⟨g2,0,none⟩) 1 c2) 2 sD)(rl:W.rangeAt g2 0 (jtC l))(lk:LK W l q0 d0 q1 d1 true [] [])(hx:b1≤g2∧b1≤l∧b1≤q0∧b1≤d0∧b1≤q1∧b1≤d1):NZ W ⟨w1.heap.size+1,g1,c1,g2,c2,w1.heap.size,l,q0,d0,q1,d1,a0,a1,b0,b1,P0,P1⟩ (sw TA TB [0,0,0,0,0,0,0,0] [] [] []):=by
 have hl:=h.le
 have ho:=h.ord
 refine⟨_,_,fun _=>rfl,fun _=>rfl,h.net,h.rb,rl,h.sm,lk,h.A,h.B,ho.2.1,?_,by show a1≤_;omega,ho.2.2.1⟩
 have k:∀ x,(x<a0∨b1≤x∨(a1≤x∧x<b0))→¬ InR a0 a1 x∧¬ InR b0 b1 x:=fun x hx=>⟨fun hi=>by have:=hi.1;have:=hi.2;omega,fun hi=>by have:=hi.1;have:=hi.2;omega⟩
 exact⟨k _ (by show w1.heap.size+1<a0∨_;omega),k g1 (by omega),k g2 (by omega),k _ (by show w1.heap.size<a0∨_;omega),k l (by omega),k q0 (by omega),k d0 (by omega),k q1 (by omega),k d1 (by omega)⟩
end
end Go.Proofs.YtghaobakpdninaaGreatDoor
