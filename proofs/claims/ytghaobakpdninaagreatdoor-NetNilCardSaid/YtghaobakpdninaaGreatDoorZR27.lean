/- ZR27 -/
import Derived.Test.YtghaobakpdninaaGreatDoorZR26
set_option linter.unusedVariables false
set_option linter.unusedSimpArgs false
set_option maxRecDepth 100000
set_option maxHeartbeats 16000000
namespace Go.Proofs.YtghaobakpdninaaGreatDoor
open Go.RowKit
open Go.RowKit Go.Conc
structure LK (W:World)(l q0 c0 q1 c1:Nat)(u:Bool)(B0 B1:List Value):Prop where
 gl:GB 150 W l #[.bool u,.pointer (some ⟨q0,0,none⟩),.int .u64 0,.int .u64 0,.pointer (some ⟨q1,0,none⟩),.int .u64 0,.int .u64 0]
 g0:GB 208 W q0 #[.chan (some c0)]
 g1:GB 208 W q1 #[.chan (some c1)]
 h0:∃ s r,W.heap[c0]?=some (.chan 64 B0.toArray false s r false)
 h1:∃ s r,W.heap[c1]?=some (.chan 64 B1.toArray false s r false)
 ne:c0≠c1
section
variable {W W':World} {l q0 c0 q1 c1:Nat} {u:Bool} {B0 B1:List Value}
theorem LK.lt0 (h:LK W l q0 c0 q1 c1 u B0 B1):c0<W.heap.size:=by obtain⟨s,r,h⟩:=h.h0;exact(Array.getElem?_eq_some_iff.1 h).1
theorem LK.lt1 (h:LK W l q0 c0 q1 c1 u B0 B1):c1<W.heap.size:=by obtain⟨s,r,h⟩:=h.h1;exact(Array.getElem?_eq_some_iff.1 h).1
theorem LK.blk (h:LK W l q0 c0 q1 c1 u B0 B1)(e:∀ k,k<W.heap.size→k=l∨k=q0∨k=q1∨k=c0∨k=c1→W'.heap[k]?=W.heap[k]?):LK W' l q0 c0 q1 c1 u B0 B1 :=
 ⟨(e _ h.gl.lt (by simp)).trans h.gl,(e _ h.g0.lt (by simp)).trans h.g0,(e _ h.g1.lt (by simp)).trans h.g1,by obtain⟨s,r,k⟩:=h.h0;exact⟨s,r,(e _ h.lt0 (by simp)).trans k⟩,by obtain⟨s,r,k⟩:=h.h1;exact⟨s,r,(e _ h.lt1 (by simp)).trans k⟩,h.ne⟩
theorem LK.later (h:LK W l q0 c0 q1 c1 u B0 B1)(hb:Below W.heap.size W W'):LK W' l q0 c0 q1 c1 u B0 B1:=h.blk fun k hk _=>hb.block k hk
theorem chan_ne {W:World}{a c:Nat}{T:TypeId}{A B:Array Value}{s r cap:Nat}(h:GB T W a A)(k:W.heap[c]?=some (.chan cap B false s r false)):a≠c:=by
 rintro rfl
 unfold GB at h
 rw[h] at k;cases k
theorem setChan_ne (w:World)(c k:Nat)(cap:Nat)(buf:Array Value)(cl:Bool)(s r:Nat)(tm:Bool)(h:c≠k):(w.setChan c cap buf cl s r tm).heap[k]?=w.heap[k]?:=by
 simp[World.setChan,Array.getElem?_setIfInBounds_ne h]
theorem fr_setChan {D:Nat→Prop}(w:World)(c:Nat)(hc:D c)(cap:Nat)(buf:Array Value)(cl:Bool)(s r:Nat)(tm:Bool):Fr D w (w.setChan c cap buf cl s r tm) :=
 ⟨rfl,rfl,rfl,by simp[World.setChan],fun k _ hk=>setChan_ne w c k cap buf cl s r tm (fun e=>hk (e ▸ hc))⟩
theorem LK.set0 (h:LK W l q0 c0 q1 c1 u B0 B1)(B:List Value)(s r:Nat):LK (W.setChan c0 64 B.toArray false s r false) l q0 c0 q1 c1 u B B1:=by
 obtain⟨s0,r0,k0⟩:=h.h0
 refine⟨(setChan_ne _ _ _ _ _ _ _ _ _ (chan_ne h.gl k0).symm).trans h.gl,(setChan_ne _ _ _ _ _ _ _ _ _ (chan_ne h.g0 k0).symm).trans h.g0,(setChan_ne _ _ _ _ _ _ _ _ _ (chan_ne h.g1 k0).symm).trans h.g1,⟨s,r,heap_setChan _ _ _ _ _ _ _ _ h.lt0⟩,?_,h.ne⟩
 obtain⟨s1,r1,k1⟩:=h.h1
 exact⟨s1,r1,(setChan_ne _ _ _ _ _ _ _ _ _ h.ne).trans k1⟩
theorem LK.set1 (h:LK W l q0 c0 q1 c1 u B0 B1)(B:List Value)(s r:Nat):LK (W.setChan c1 64 B.toArray false s r false) l q0 c0 q1 c1 u B0 B:=by
 obtain⟨s0,r0,k0⟩:=h.h1
 refine⟨(setChan_ne _ _ _ _ _ _ _ _ _ (chan_ne h.gl k0).symm).trans h.gl,(setChan_ne _ _ _ _ _ _ _ _ _ (chan_ne h.g0 k0).symm).trans h.g0,(setChan_ne _ _ _ _ _ _ _ _ _ (chan_ne h.g1 k0).symm).trans h.g1,?_,⟨s,r,heap_setChan _ _ _ _ _ _ _ _ h.lt1⟩,h.ne⟩
 obtain⟨s1,r1,k1⟩:=h.h0
 exact⟨s1,r1,(setChan_ne _ _ _ _ _ _ _ _ _ h.ne.symm).trans k1⟩
end
theorem lwith_Send_10 (l:Nat)(a b:Value)(Q:Value→World→Prop)(w:World)(HC:Calls Tryz.prog 139 #[.pointer (some ⟨l,1,none⟩),a,b] w fun en w'=>∃ v,en=.returned v∧Q v w'):Calls Tryz.prog 49 #[.pointer (some ⟨l,0,none⟩),.int .i64 0,.func (.func 139) #[] #[a,b]] w fun en w'=>∃ v,en=.returned v∧Q v w':=by
 go_enter Tryz.func49,Tryz.ntmps49
 go_wp2_with (go_at_call 139;with_reducible refine HC.mono ?_;rintro en w' ⟨v,rfl,hq⟩)
 go_ret
 exact⟨_,rfl,hq⟩
theorem lwith_Send_11 (l:Nat)(a b:Value)(Q:Value→World→Prop)(w:World)(HC:Calls Tryz.prog 139 #[.pointer (some ⟨l,4,none⟩),a,b] w fun en w'=>∃ v,en=.returned v∧Q v w'):Calls Tryz.prog 49 #[.pointer (some ⟨l,0,none⟩),.int .i64 1,.func (.func 139) #[] #[a,b]] w fun en w'=>∃ v,en=.returned v∧Q v w':=by
 go_enter Tryz.func49,Tryz.ntmps49
 go_wp2_with (go_at_call 139;with_reducible refine HC.mono ?_;rintro en w' ⟨v,rfl,hq⟩)
 go_ret
 exact⟨_,rfl,hq⟩
theorem lwith_Come_10 (l:Nat)(a:Value)(Q:Value→World→Prop)(w:World)(HC:Calls Tryz.prog 141 #[.pointer (some ⟨l,1,none⟩),a] w fun en w'=>∃ v,en=.returned v∧Q v w'):Calls Tryz.prog 49 #[.pointer (some ⟨l,0,none⟩),.int .i64 0,.func (.func 141) #[] #[a]] w fun en w'=>∃ v,en=.returned v∧Q v w':=by
 go_enter Tryz.func49,Tryz.ntmps49
 go_wp2_with (go_at_call 141;with_reducible refine HC.mono ?_;rintro en w' ⟨v,rfl,hq⟩)
 go_ret
 exact⟨_,rfl,hq⟩
theorem lwith_Come_11 (l:Nat)(a:Value)(Q:Value→World→Prop)(w:World)(HC:Calls Tryz.prog 141 #[.pointer (some ⟨l,4,none⟩),a] w fun en w'=>∃ v,en=.returned v∧Q v w'):Calls Tryz.prog 49 #[.pointer (some ⟨l,0,none⟩),.int .i64 1,.func (.func 141) #[] #[a]] w fun en w'=>∃ v,en=.returned v∧Q v w':=by
 go_enter Tryz.func49,Tryz.ntmps49
 go_wp2_with (go_at_call 141;with_reducible refine HC.mono ?_;rintro en w' ⟨v,rfl,hq⟩)
 go_ret
 exact⟨_,rfl,hq⟩
theorem lwith_Len_10 (l:Nat)(a:Value)(Q:Value→World→Prop)(w:World)(HC:Calls Tryz.prog 50 #[.pointer (some ⟨l,1,none⟩),a] w fun en w'=>∃ v,en=.returned v∧Q v w'):Calls Tryz.prog 49 #[.pointer (some ⟨l,0,none⟩),.int .i64 0,.func (.func 50) #[] #[a]] w fun en w'=>∃ v,en=.returned v∧Q v w':=by
 go_enter Tryz.func49,Tryz.ntmps49
 go_wp2_with (go_at_call 50;with_reducible refine HC.mono ?_;rintro en w' ⟨v,rfl,hq⟩)
 go_ret
 exact⟨_,rfl,hq⟩
theorem lwith_Len_11 (l:Nat)(a:Value)(Q:Value→World→Prop)(w:World)(HC:Calls Tryz.prog 50 #[.pointer (some ⟨l,4,none⟩),a] w fun en w'=>∃ v,en=.returned v∧Q v w'):Calls Tryz.prog 49 #[.pointer (some ⟨l,0,none⟩),.int .i64 1,.func (.func 50) #[] #[a]] w fun en w'=>∃ v,en=.returned v∧Q v w':=by
 go_enter Tryz.func49,Tryz.ntmps49
 go_wp2_with (go_at_call 50;with_reducible refine HC.mono ?_;rintro en w' ⟨v,rfl,hq⟩)
 go_ret
 exact⟨_,rfl,hq⟩
theorem lwith_count_10 (l:Nat)(a b:Value)(Q:Value→World→Prop)(w:World)(HC:Calls Tryz.prog 79 #[.pointer (some ⟨l,1,none⟩),a,b] w fun en w'=>∃ v,en=.returned v∧Q v w'):Calls Tryz.prog 49 #[.pointer (some ⟨l,0,none⟩),.int .i64 0,.func (.func 79) #[] #[a,b]] w fun en w'=>∃ v,en=.returned v∧Q v w':=by
 go_enter Tryz.func49,Tryz.ntmps49
 go_wp2_with (go_at_call 79;with_reducible refine HC.mono ?_;rintro en w' ⟨v,rfl,hq⟩)
 go_ret
 exact⟨_,rfl,hq⟩
theorem lwith_count_11 (l:Nat)(a b:Value)(Q:Value→World→Prop)(w:World)(HC:Calls Tryz.prog 79 #[.pointer (some ⟨l,4,none⟩),a,b] w fun en w'=>∃ v,en=.returned v∧Q v w'):Calls Tryz.prog 49 #[.pointer (some ⟨l,0,none⟩),.int .i64 1,.func (.func 79) #[] #[a,b]] w fun en w'=>∃ v,en=.returned v∧Q v w':=by
 go_enter Tryz.func49,Tryz.ntmps49
 go_wp2_with (go_at_call 79;with_reducible refine HC.mono ?_;rintro en w' ⟨v,rfl,hq⟩)
 go_ret
 exact⟨_,rfl,hq⟩
end Go.Proofs.YtghaobakpdninaaGreatDoor
