/- ZR29 -/
import Derived.Test.YtghaobakpdninaaGreatDoorZR28
set_option linter.unusedVariables false
set_option linter.unusedSimpArgs false
set_option maxRecDepth 100000
set_option maxHeartbeats 16000000
namespace Go.Proofs.YtghaobakpdninaaGreatDoor
open Go.RowKit
structure NPos where
 n:Nat
 bs:Nat
 bc:Nat
 ls:Nat
 lc:Nat
 sm:Nat
 l:Nat
 q0:Nat
 c0:Nat
 q1:Nat
 c1:Nat
 a0:Nat
 a1:Nat
 b0:Nat
 b1:Nat
 A:BP
 B:BP
def NPos.out (N:NPos)(k:Nat):Prop:=¬ InR N.a0 N.a1 k∧¬ InR N.b0 N.b1 k
structure NS (W:World)(N:NPos)(TA TB:TM)(oA oB:List Int)(VA VB:List Vn)(vA vB:Value)(B0 B1:List Value):Prop where
 gn:GB 97 W N.n #[.slice (some ⟨N.bs,0,none⟩) 2 N.bc,.slice (some ⟨N.ls,0,none⟩) 1 N.lc,.map (some N.sm),.int .u64 0]
 rb:W.rangeAt N.bs 0 [.pointer (some ⟨N.A.b,0,none⟩),.pointer (some ⟨N.B.b,0,none⟩)]
 rl:W.rangeAt N.ls 0 [.pointer (some ⟨N.l,0,none⟩),.int .i64 0,.int .u8 1,.int .u32 5,.int .i64 1,.int .u8 1,.int .u32 5]
 sm:SM W N.sm
 lk:LK W N.l N.q0 N.c0 N.q1 N.c1 true B0 B1
 A:BN W N.a0 N.a1 N.A TA oA VA vA
 B:BN W N.b0 N.b1 N.B TB oB VB vB
 ab:N.a1≤N.b0
 sep:N.out N.n∧N.out N.bs∧N.out N.ls∧N.out N.sm∧N.out N.l∧N.out N.q0∧N.out N.c0∧N.out N.q1∧N.out N.c1
 tops:N.a1≤W.heap.size∧N.b1≤W.heap.size
theorem range_blk {W W':World}{g o:Nat}{l:List Value}(r:W.rangeAt g o l)(e:g<W.heap.size→W'.heap[g]?=W.heap[g]?):W'.rangeAt g o l:=fun j v hv=>by
 have h:=r j v hv
 have hlt:=World.block_lt_of_cell? _ _ h
 unfold World.cell? at h ⊢
 rw[e hlt];exact h
theorem range_chan {W:World}{g o c:Nat}{l:List Value}{B:Array Value}{s r cap:Nat}(hl:0<l.length)(h:W.rangeAt g o l)(k:W.heap[c]?=some (.chan cap B false s r false)):g≠c:=by
 rintro rfl
 have:=h 0 l[0] (by simp[hl])
 unfold World.cell? at this
 simp only[Nat.add_zero] at this
 rw[k] at this
 cases this
theorem sm_chan {W:World}{m c:Nat}{B:Array Value}{s r cap:Nat}(h:SM W m)(k:W.heap[c]?=some (.chan cap B false s r false)):m≠c:=by
 rintro rfl
 obtain⟨es,clock,hb,-⟩:=h
 rw[hb] at k;cases k
section
variable {W W':World} {N:NPos} {TA TB TA' TB':TM} {oA oB oA' oB':List Int} {VA VB VA' VB':List Vn} {vA vB vA' vB':Value} {B0 B1 B0' B1':List Value}
theorem NS.later (h:NS W N TA TB oA oB VA VB vA vB B0 B1)(hb:Below W.heap.size W W'):NS W' N TA TB oA oB VA VB vA vB B0 B1 :=
 ⟨h.gn.later hb,range_later h.rb hb,range_later h.rl hb,h.sm.blk (hb.block _ h.sm.lt),h.lk.later hb,h.A.later hb,h.B.later hb,h.ab,h.sep,⟨Nat.le_trans h.tops.1 hb.size,Nat.le_trans h.tops.2 hb.size⟩⟩
theorem NS.setA (h:NS W N TA TB oA oB VA VB vA vB B0 B1)(hA:BN W' N.a0 N.a1 N.A TA' oA' VA' vA')(hf:Fr (InR N.a0 N.a1) W W'):NS W' N TA' TB oA' oB VA' VB vA' vB B0 B1:=by
 have e:∀ k,k<W.heap.size→N.out k→W'.heap[k]?=W.heap[k]?:=fun k hk ho=>hf.block k hk ho.1
 obtain⟨s1,s2,s3,s4,s5,s6,s7,s8,s9⟩:=h.sep
 refine⟨(e _ h.gn.lt s1).trans h.gn,range_blk h.rb fun hk=>e _ hk s2,range_blk h.rl fun hk=>e _ hk s3,h.sm.blk (e _ h.sm.lt s4),h.lk.blk fun k hk hh=>?_,hA,h.B.fr hf fun k hk hi=>?_,h.ab,h.sep,⟨Nat.le_trans h.tops.1 hf.size,Nat.le_trans h.tops.2 hf.size⟩⟩
 ·rcases hh with rfl|rfl|rfl|rfl|rfl
  ·exact e _ hk s5
  ·exact e _ hk s6
  ·exact e _ hk s8
  ·exact e _ hk s7
  ·exact e _ hk s9
 ·have:=h.ab;have:=hk.2;have:=hi.1;omega
theorem NS.setB (h:NS W N TA TB oA oB VA VB vA vB B0 B1)(hB:BN W' N.b0 N.b1 N.B TB' oB' VB' vB')(hf:Fr (InR N.b0 N.b1) W W'):NS W' N TA TB' oA oB' VA VB' vA vB' B0 B1:=by
 have e:∀ k,k<W.heap.size→N.out k→W'.heap[k]?=W.heap[k]?:=fun k hk ho=>hf.block k hk ho.2
 obtain⟨s1,s2,s3,s4,s5,s6,s7,s8,s9⟩:=h.sep
 refine⟨(e _ h.gn.lt s1).trans h.gn,range_blk h.rb fun hk=>e _ hk s2,range_blk h.rl fun hk=>e _ hk s3,h.sm.blk (e _ h.sm.lt s4),h.lk.blk fun k hk hh=>?_,h.A.fr hf fun k hk hi=>?_,hB,h.ab,h.sep,⟨Nat.le_trans h.tops.1 hf.size,Nat.le_trans h.tops.2 hf.size⟩⟩
 ·rcases hh with rfl|rfl|rfl|rfl|rfl
  ·exact e _ hk s5
  ·exact e _ hk s6
  ·exact e _ hk s8
  ·exact e _ hk s7
  ·exact e _ hk s9
 ·have:=h.ab;have:=hk.1;have:=hi.2;omega
theorem NS.setL (h:NS W N TA TB oA oB VA VB vA vB B0 B1){c:Nat}(hL:LK W' N.l N.q0 N.c0 N.q1 N.c1 true B0' B1')(hf:Fr (fun k=>k=c) W W')(hc:c=N.c0∨c=N.c1):NS W' N TA TB oA oB VA VB vA vB B0' B1':=by
 have hch:∃ B s r,W.heap[c]?=some (.chan 64 B false s r false):=by
  rcases hc with rfl|rfl
  ·obtain⟨s,r,k⟩:=h.lk.h0;exact⟨_,s,r,k⟩
  ·obtain⟨s,r,k⟩:=h.lk.h1;exact⟨_,s,r,k⟩
 obtain⟨B,s,r,k⟩:=hch
 obtain⟨s1,s2,s3,s4,s5,s6,s7,s8,s9⟩:=h.sep
 have oc:N.out c:=by rcases hc with rfl|rfl <;> assumption
 refine⟨(hf.block _ h.gn.lt (chan_ne h.gn k)).trans h.gn,range_blk h.rb fun hk=>hf.block _ hk (range_chan (by simp) h.rb k),range_blk h.rl fun hk=>hf.block _ hk (range_chan (by simp) h.rl k),h.sm.blk (hf.block _ h.sm.lt (sm_chan h.sm k)),hL,h.A.fr hf fun k hk hi=>?_,h.B.fr hf fun k hk hi=>?_,h.ab,h.sep,⟨Nat.le_trans h.tops.1 hf.size,Nat.le_trans h.tops.2 hf.size⟩⟩
 ·subst hk;exact oc.1 hi
 ·subst hk;exact oc.2 hi
end
end Go.Proofs.YtghaobakpdninaaGreatDoor
