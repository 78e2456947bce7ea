/- ZQ15 -/
import Derived.Test.YtlkdfofpnmpidaaGreatZQ08
set_option linter.unusedVariables false
set_option linter.unusedSimpArgs false
set_option maxRecDepth 100000
set_option maxHeartbeats 16000000
namespace Go.Proofs.YtlkdfofpnmpidaaGreat
open Go.RowKit
def flR (r:Rp):Int:=(if r.st=true then 64 else 0)+(if r.en=true then 32 else 0)
def fxR (r:Rp):List UInt8:=be 4 r.nm++[byt r.tl,if r.en=true then 1 else 2]
def putRp (r:Rp):Int × Int × Int × List UInt8 × List Th × Int:=if 7<r.lv then(0,0,0,[],[],2) else(r.lv,4,flR r,fxR r,prtL 5 r.mi++prtL 6 r.mo,0)
structure RS (w W:World)(A:Array Value):Prop where
 g:GB 81 W w.heap.size A
 z:PB 103 W (w.heap.size+1) 0 0 0 [] (.slice none 0 0)
 bel:Below w.heap.size w W
section
variable {w W W':World} {A:Array Value}
theorem RS.later (h:RS w W A)(hb:Below W.heap.size W W'):RS w W' A:=⟨h.g.later hb,h.z.later hb,h.bel.trans (hb.mono h.bel.size)⟩
theorem RS.alloc (h:RS w W A)(o:Obj):RS w (W.alloc o) A:=h.later (bA o)
theorem RS.lt (h:RS w W A):w.heap.size+1<W.heap.size:=h.z.lt
theorem RS.below {B:Nat}(h:RS w W A)(hB:w.heap.size+1<B)(hb:Below B W W'):RS w W' A:=⟨h.g.below (by omega) hb,h.z.below hB hb,h.bel.trans (hb.mono (by omega))⟩
end
structure QS (w w0 W:World)(A:Array Value)(B:Nat):Prop where
 rs:RS w W A
 lo:Below B w0 W
 hB:B≤W.heap.size
section
variable {w w0 W W':World} {A:Array Value} {B:Nat}
theorem QS.later (h:QS w w0 W A B)(hb:Below W.heap.size W W'):QS w w0 W' A B:=⟨h.rs.later hb,h.lo.trans (hb.mono h.hB),Nat.le_trans h.hB hb.size⟩
theorem QS.alloc (h:QS w w0 W A B)(o:Obj):QS w w0 (W.alloc o) A B:=h.later (bA o)
theorem QS.drew (h:QS w w0 W A B):QS w w0 W.drew A B:=h.later (Below.refl _ _).drew
theorem QS.below (h:QS w w0 W A B)(hB:w.heap.size+1<B)(hb:Below B W W'):QS w w0 W' A B:=⟨h.rs.below hB hb,h.lo.trans hb,Nat.le_trans h.hB hb.size⟩
theorem Src.allocN {v:Value}{l:List UInt8}(h:Src W v l)(o:Obj):Src (W.alloc o) v l:=h.later (bA o)
theorem PB.kept {q:Nat}{a b c:Int}{f:List UInt8}{v:Value}(h:PB 103 W q a b c f v)(hk:Kp W W'):PB 103 W' q a b c f v:=hk q _ h (fun cs fr h=>by simp at h)
end
structure PG (W:World)(B g:Nat):Prop where
 pb:PB 103 W g 0 0 0 [] (.slice none 0 0)
 ge:B≤g
section
variable {w w0 W W':World} {A:Array Value} {B g:Nat}
theorem PB.set2N {T:TypeId}{W:World}{q:Nat}{a b c:Int}{f:List UInt8}{v:Value}(h:PB T W q a b c f v)(d:Int):PB T (W.setCell ⟨q,2,none⟩ (.int .u8 d)) q a b d f v:=by
 unfold PB at *;simp[World.setCell,Array.getElem?_modify,h]
theorem RS.setQ {w W:World}{A:Array Value}(h:RS w W A){q o:Nat}(hq:w.heap.size+1<q)(v:Value):RS w (W.setCell ⟨q,o,none⟩ v) A :=
 ⟨h.g.other (by omega) v,h.z.other (by omega) v,below_set h.bel (by omega) v⟩
theorem PG.zero (W:World)(h:B≤W.heap.size):PG (W.alloc (.cells yU 103)) B W.heap.size:=⟨PB.new _ _ _ _ _ _ _,h⟩
theorem PG.later (h:PG W B g)(hb:Below W.heap.size W W'):PG W' B g:=⟨h.pb.later hb,h.ge⟩
theorem PG.alloc (h:PG W B g)(o:Obj):PG (W.alloc o) B g:=h.later (bA o)
theorem PG.drew (h:PG W B g):PG W.drew B g:=h.later (Below.refl _ _).drew
theorem PG.kept (h:PG W B g)(hk:Kp W W'):PG W' B g:=⟨h.pb.kept hk,h.ge⟩
theorem QS.set (h:QS w w0 W A B){q o:Nat}(hq:B≤q)(hw:w.heap.size+1<B)(v:Value):QS w w0 (W.setCell ⟨q,o,none⟩ v) A B :=
 h.below hw (below_set (Below.refl _ _) hq v)
end
theorem RS.all {w W:World}{A:Array Value}{r:Rp}(hA:A=#[.int .u8 r.lv,.int .u32 r.nm,.int .u8 r.tl,.bool r.st,.bool r.en,.int .u8 r.mi.a,.int .u8 r.mi.b,.int .u8 r.mi.c,.int .u8 r.mi.d,.int .u8 r.mi.e,.int .u8 r.mi.f,.int .u8 r.mo.a,.int .u8 r.mo.b,.int .u8 r.mo.c,.int .u8 r.mo.d,.int .u8 r.mo.e,.int .u8 r.mo.f])(h:RS w W A):W.cell? ⟨w.heap.size,0,none⟩=some (.int .u8 r.lv)∧W.cell? ⟨w.heap.size,1,none⟩=some (.int .u32 r.nm)∧W.cell? ⟨w.heap.size,2,none⟩=some (.int .u8 r.tl)∧W.cell? ⟨w.heap.size,3,none⟩=some (.bool r.st)∧W.cell? ⟨w.heap.size,4,none⟩=some (.bool r.en)∧W.cell? ⟨w.heap.size,5,none⟩=some (.int .u8 r.mi.a)∧W.cell? ⟨w.heap.size,6,none⟩=some (.int .u8 r.mi.b)∧W.cell? ⟨w.heap.size,7,none⟩=some (.int .u8 r.mi.c)∧W.cell? ⟨w.heap.size,8,none⟩=some (.int .u8 r.mi.d)∧W.cell? ⟨w.heap.size,9,none⟩=some (.int .u8 r.mi.e)∧W.cell? ⟨w.heap.size,10,none⟩=some (.int .u8 r.mi.f)∧W.cell? ⟨w.heap.size,11,none⟩=some (.int .u8 r.mo.a)∧W.cell? ⟨w.heap.size,12,none⟩=some (.int .u8 r.mo.b)∧W.cell? ⟨w.heap.size,13,none⟩=some (.int .u8 r.mo.c)∧W.cell? ⟨w.heap.size,14,none⟩=some (.int .u8 r.mo.d)∧W.cell? ⟨w.heap.size,15,none⟩=some (.int .u8 r.mo.e)∧W.cell? ⟨w.heap.size,16,none⟩=some (.int .u8 r.mo.f) :=
 ⟨h.g.c 0 _ (by rw[hA];rfl),h.g.c 1 _ (by rw[hA];rfl),h.g.c 2 _ (by rw[hA];rfl),h.g.c 3 _ (by rw[hA];rfl),h.g.c 4 _ (by rw[hA];rfl),h.g.c 5 _ (by rw[hA];rfl),h.g.c 6 _ (by rw[hA];rfl),h.g.c 7 _ (by rw[hA];rfl),h.g.c 8 _ (by rw[hA];rfl),h.g.c 9 _ (by rw[hA];rfl),h.g.c 10 _ (by rw[hA];rfl),h.g.c 11 _ (by rw[hA];rfl),h.g.c 12 _ (by rw[hA];rfl),h.g.c 13 _ (by rw[hA];rfl),h.g.c 14 _ (by rw[hA];rfl),h.g.c 15 _ (by rw[hA];rfl),h.g.c 16 _ (by rw[hA];rfl)⟩
theorem ltputR_any (r:Rp)(w:World)(hr:r.Ok):Calls Tryz.prog 128 #[.agg #[.int .u8 r.lv,.int .u32 r.nm,.int .u8 r.tl,.bool r.st,.bool r.en,.int .u8 r.mi.a,.int .u8 r.mi.b,.int .u8 r.mi.c,.int .u8 r.mi.d,.int .u8 r.mi.e,.int .u8 r.mi.f,.int .u8 r.mo.a,.int .u8 r.mo.b,.int .u8 r.mo.c,.int .u8 r.mo.d,.int .u8 r.mo.e,.int .u8 r.mo.f]] w fun en w' =>
  ∃ v',en=.returned (.tuple #[.agg #[.int .u8 (putRp r).1,.int .u8 (putRp r).2.1,.int .u8 (putRp r).2.2.1,.string (bs (putRp r).2.2.2.1),v'],.int .i64 (putRp r).2.2.2.2.2])∧TlT w' w.heap.size v' (putRp r).2.2.2.2.1∧Below w.heap.size w w':=by
 obtain⟨R,hR⟩:∃ R,putRp r=R:=⟨_,rfl⟩
 rw[hR]
 have HR:=hd0 hR
 have HO:=hd0 hr
 clear hR hr
 go_enter Tryz.func128,Tryz.ntmps128
 go_upto_region 1 with fail
 have g0:=(GB.new 81 w #[.int .u8 r.lv,.int .u32 r.nm,.int .u8 r.tl,.bool r.st,.bool r.en,.int .u8 r.mi.a,.int .u8 r.mi.b,.int .u8 r.mi.c,.int .u8 r.mi.d,.int .u8 r.mi.e,.int .u8 r.mi.f,.int .u8 r.mo.a,.int .u8 r.mo.b,.int .u8 r.mo.c,.int .u8 r.mo.d,.int .u8 r.mo.e,.int .u8 r.mo.f]).later (bA (.cells yU 103))
 have pz:PB 103 ((w.alloc (.cells #[.int .u8 r.lv,.int .u32 r.nm,.int .u8 r.tl,.bool r.st,.bool r.en,.int .u8 r.mi.a,.int .u8 r.mi.b,.int .u8 r.mi.c,.int .u8 r.mi.d,.int .u8 r.mi.e,.int .u8 r.mi.f,.int .u8 r.mo.a,.int .u8 r.mo.b,.int .u8 r.mo.c,.int .u8 r.mo.d,.int .u8 r.mo.e,.int .u8 r.mo.f] 81)).alloc (.cells yU 103)) (w.heap.size+1) 0 0 0 [] (.slice none 0 0):=by
  have:=PB.new 103 (w.alloc (.cells #[.int .u8 r.lv,.int .u32 r.nm,.int .u8 r.tl,.bool r.st,.bool r.en,.int .u8 r.mi.a,.int .u8 r.mi.b,.int .u8 r.mi.c,.int .u8 r.mi.d,.int .u8 r.mi.e,.int .u8 r.mi.f,.int .u8 r.mo.a,.int .u8 r.mo.b,.int .u8 r.mo.c,.int .u8 r.mo.d,.int .u8 r.mo.e,.int .u8 r.mo.f] 81)) 0 0 0 [] (.slice none 0 0)
  rw[show(w.alloc (.cells #[.int .u8 r.lv,.int .u32 r.nm,.int .u8 r.tl,.bool r.st,.bool r.en,.int .u8 r.mi.a,.int .u8 r.mi.b,.int .u8 r.mi.c,.int .u8 r.mi.d,.int .u8 r.mi.e,.int .u8 r.mi.f,.int .u8 r.mo.a,.int .u8 r.mo.b,.int .u8 r.mo.c,.int .u8 r.mo.d,.int .u8 r.mo.e,.int .u8 r.mo.f] 81)).heap.size=w.heap.size+1 by simp] at this
  exact this
 have hb0:Below w.heap.size w ((w.alloc (.cells #[.int .u8 r.lv,.int .u32 r.nm,.int .u8 r.tl,.bool r.st,.bool r.en,.int .u8 r.mi.a,.int .u8 r.mi.b,.int .u8 r.mi.c,.int .u8 r.mi.d,.int .u8 r.mi.e,.int .u8 r.mi.f,.int .u8 r.mo.a,.int .u8 r.mo.b,.int .u8 r.mo.c,.int .u8 r.mo.d,.int .u8 r.mo.e,.int .u8 r.mo.f] 81)).alloc (.cells yU 103)):=(bA _).alloc (by simp) _
 obtain⟨w0,hw0⟩:∃ k,(w.alloc (.cells #[.int .u8 r.lv,.int .u32 r.nm,.int .u8 r.tl,.bool r.st,.bool r.en,.int .u8 r.mi.a,.int .u8 r.mi.b,.int .u8 r.mi.c,.int .u8 r.mi.d,.int .u8 r.mi.e,.int .u8 r.mi.f,.int .u8 r.mo.a,.int .u8 r.mo.b,.int .u8 r.mo.c,.int .u8 r.mo.d,.int .u8 r.mo.e,.int .u8 r.mo.f] 81)).alloc (.cells yU 103)=k:=⟨_,rfl⟩
 obtain⟨A,hA⟩:∃ A:Array Value,A=#[.int .u8 r.lv,.int .u32 r.nm,.int .u8 r.tl,.bool r.st,.bool r.en,.int .u8 r.mi.a,.int .u8 r.mi.b,.int .u8 r.mi.c,.int .u8 r.mi.d,.int .u8 r.mi.e,.int .u8 r.mi.f,.int .u8 r.mo.a,.int .u8 r.mo.b,.int .u8 r.mo.c,.int .u8 r.mo.d,.int .u8 r.mo.e,.int .u8 r.mo.f]:=⟨_,rfl⟩
 rw[hw0,← hA] at g0
 rw[hw0] at pz hb0
 rw[hw0,← hA]
 have c0:w0.cell? ⟨w.heap.size,0,none⟩=some (.int .u8 r.lv):=g0.c 0 _ (by rw[hA];rfl)
 have RS0:=hd0 (RS.mk g0 pz hb0)
 have HA:=hd0 hA
 clear hw0 g0 pz hb0 hA
 by_cases h7:7<r.lv
 ·have d7:decide ((7:Int)<r.lv)=true:=decide_eq_true h7
  have hRR:R=(0,0,0,[],[],2):=by rw[←HR.out];unfold putRp;rw[if_pos h7]
  have HRR:=hd0 hRR
  clear hRR h7
  have z0:=RS0.out.z.c0
  have z1:=RS0.out.z.c1
  have z2:=RS0.out.z.c2
  have z3:=RS0.out.z.c3
  have z4:=RS0.out.z.c4
  have y0:=RS0.out.z.fr 0
  have y1:=RS0.out.z.fr 1
  have y2:=RS0.out.z.fr 2
  have y3:=RS0.out.z.fr 3
  have y4:=RS0.out.z.fr 4
  go_wp2_with fail
  refine bodyPost_ret (v:=.tuple #[.agg #[.int .u8 0,.int .u8 0,.int .u8 0,.string (bs []),.slice none 0 0],.int .i64 2]) (by simp[results,Tryz.results128,go_sem,z0,z1,z2,z3,z4];rfl) rfl ⟨_,by rw[HRR.out],by rw[HRR.out];exact TlT.none _ _,below_set (below_set (below_set (below_set (below_set RS0.out.bel (by omega) _) (by omega) _) (by omega) _) (by omega) _) (by omega) _⟩
 have d7:decide ((7:Int)<r.lv)=false:=decide_eq_false h7
 have hRR:R=(r.lv,4,flR r,fxR r,prtL 5 r.mi++prtL 6 r.mo,0):=by rw[←HR.out];unfold putRp;rw[if_neg h7]
 have HRR:=hd0 hRR
 clear hRR h7
 go_upto_region 3 with fail
 obtain⟨B,hB⟩:∃ B,w0.heap.size=B:=⟨_,rfl⟩
 obtain⟨X,hX⟩:∃ X,be 4 r.nm=X:=⟨_,rfl⟩
 obtain⟨k,hk⟩:∃ k:Int,(if r.en=true then(1:Int) else 2)=k:=⟨_,rfl⟩
 have hk2:0≤k∧k<256:=by rw[←hk];split <;> omega
 have lX:X.length=4:=by rw[←hX];exact be_length _ _
 have P1:Hid (∀ W,B≤W.heap.size→Calls Tryz.prog 79 #[.slice none 0 0,.int .u32 r.nm] W fun e w'=>∃ v',e=.returned v'∧Bys w' B v' X∧Below W.heap.size W w'):=fun W hW=>by
  rw[←hX]
  refine(put_uint32 W.heap.size _ [] r.nm W (Nat.le_refl _) (Bys.none _ _) HO.out.nm.1 HO.out.nm.2 (by decide)).mono ?_
  rintro en w' ⟨v',h1,h2,h3⟩
  rw[List.nil_append] at h2
  exact⟨v',h1,World.ownsRow.mono h2 hW,h3⟩
 have K1:Hid (∀ W,Calls Tryz.prog 144 #[.agg #[.int .u8 r.lv,.int .u32 r.nm,.int .u8 r.tl,.bool r.st,.bool r.en,.int .u8 r.mi.a,.int .u8 r.mi.b,.int .u8 r.mi.c,.int .u8 r.mi.d,.int .u8 r.mi.e,.int .u8 r.mi.f,.int .u8 r.mo.a,.int .u8 r.mo.b,.int .u8 r.mo.c,.int .u8 r.mo.d,.int .u8 r.mo.e,.int .u8 r.mo.f]] W fun en w'=>en=.returned (.int .u8 k)∧Below W.heap.size W w'):=by
  rw[←hk];exact fun W=>kind_any r W
 have SR:Hid (∀ W:World,Src (W.alloc (.cells #[.int .u8 r.tl,.int .u8 k] 5)) (.slice (some ⟨W.heap.size,0,none⟩) 2 2) [byt r.tl,byt k]):=fun W=>(Bys.lit W 0 #[.int .u8 r.tl,.int .u8 k] [byt r.tl,byt k] (Nat.zero_le _) (by simp[byteV_byt _ HO.out.tl,byteV_byt _ hk2]) (by simp)).src
 have HBB:=hd0 hB
 clear hB
 obtain⟨Z,hZ⟩:∃ Z,X++[byt r.tl,byt k]=Z:=⟨_,rfl⟩
 have HZ:=hd0 hZ
 have HZE:=hd0 hZ
 have HXE:=hd0 hX
 have HKE:=hd0 hk
 have hu:Tryz.prog.underlying 81=some _:=Tryz.underlying81
 have hi:(Tryz.prog.info? 81).map (·.size)=some A.toList.length:=by rw[HA.out];kernel_rfl
 have Rn:Hid (QS w w0 w0 A B):=hd0 ⟨RS0.out,Below.refl _ _,Nat.le_of_eq HBB.out.symm⟩
 have HWB:=hd0 (show w.heap.size+1<B by have:=RS0.out.lt;have:=HBB.out;omega)
 clear hX hk hZ c0
 go_cut [4] (fun s4 wx=>∃ q:Nat,s4=.pointer (some ⟨q,0,none⟩)∧Hid (PB 103 wx q r.lv 4 0 Z (.slice none 0 0))∧Hid (B≤q)∧Hid (RS w wx A))
 case first =>
  refine wp_region_held_drew (S:=(fun W=>W.cell? ⟨w.heap.size,0,none⟩=some (.int .u8 r.lv)∧W.cell? ⟨w.heap.size,1,none⟩=some (.int .u32 r.nm)∧W.cell? ⟨w.heap.size,2,none⟩=some (.int .u8 r.tl)∧W.cell? ⟨w.heap.size,3,none⟩=some (.bool r.st)∧W.cell? ⟨w.heap.size,4,none⟩=some (.bool r.en)∧W.cell? ⟨w.heap.size,5,none⟩=some (.int .u8 r.mi.a)∧W.cell? ⟨w.heap.size,6,none⟩=some (.int .u8 r.mi.b)∧W.cell? ⟨w.heap.size,7,none⟩=some (.int .u8 r.mi.c)∧W.cell? ⟨w.heap.size,8,none⟩=some (.int .u8 r.mi.d)∧W.cell? ⟨w.heap.size,9,none⟩=some (.int .u8 r.mi.e)∧W.cell? ⟨w.heap.size,10,none⟩=some (.int .u8 r.mi.f)∧W.cell? ⟨w.heap.size,11,none⟩=some (.int .u8 r.mo.a)∧W.cell? ⟨w.heap.size,12,none⟩=some (.int .u8 r.mo.b)∧W.cell? ⟨w.heap.size,13,none⟩=some (.int .u8 r.mo.c)∧W.cell? ⟨w.heap.size,14,none⟩=some (.int .u8 r.mo.d)∧W.cell? ⟨w.heap.size,15,none⟩=some (.int .u8 r.mo.e)∧W.cell? ⟨w.heap.size,16,none⟩=some (.int .u8 r.mo.f))) (by kernel_rfl) (by refine RS.all HA.out (QS.rs (w0:=w0) (B:=B) ?_);repeat (first|(with_reducible exact Rn.out)|(with_reducible refine QS.alloc ?_ _)|(with_reducible refine QS.drew ?_))) (fun hHeld=>?_)
  refine wpAnyH_take (i:=0) (v:=?_) rfl (by kernel_rfl) (by kernel_rfl) (by kernel_rfl) (fun _ _ _ h=>h) (Or.inl ⟨by rfl,?hy⟩) (by assumption) ?_
  case hy=>(intro w hSw;(try dsimp only at hSw);go_simp;try with_reducible rfl)
  try simp only[Act.put,List.setIfInBounds_toArray,List.set_cons_zero,List.set_cons_succ,List.getElem_toArray,List.getElem_cons_zero]
  refine wpAnyH_take (i:=1) (v:=?_) rfl (by kernel_rfl) (by kernel_rfl) (by kernel_rfl) (fun _ _ _ h=>h) (Or.inl ⟨by rfl,?hy⟩) (by assumption) ?_
  case hy=>(intro w hSw;(try dsimp only at hSw);go_simp;try with_reducible rfl)
  try simp only[Act.put,zz]
  refine wpAnyH_take (i:=2) (v:=?_) rfl (by kernel_rfl) (by kernel_rfl) (by kernel_rfl) (fun _ _ _ h=>h) (Or.inl ⟨by rfl,?hy⟩) (by assumption) ?_
  case hy=>(intro w hSw;(try dsimp only at hSw);go_simp;try with_reducible rfl)
  try simp only[Act.put,zz]
  refine wpAnyH_take (i:=3) (v:=?_) rfl (by kernel_rfl) (by kernel_rfl) (by kernel_rfl) (fun _ _ _ h=>h) (Or.inl ⟨by rfl,?hy⟩) (by assumption) ?_
  case hy=>(intro w hSw;(try dsimp only at hSw);go_simp;try with_reducible rfl)
  try simp only[Act.put,zz]
  refine wpAnyH_take (i:=5) (v:=?_) rfl (by kernel_rfl) (by kernel_rfl) (by kernel_rfl) (fun _ _ _ h=>h) (Or.inl ⟨by rfl,?hy⟩) (by assumption) ?_
  case hy=>(intro w hSw;(try dsimp only at hSw);go_simp;try with_reducible rfl)
  try simp only[Act.put,zz]
  refine wpAnyH_take (i:=6) (v:=?_) rfl (by kernel_rfl) (by kernel_rfl) (by kernel_rfl) (fun _ _ _ h=>h) (Or.inl ⟨by rfl,?hy⟩) (by assumption) ?_
  case hy=>(intro w hSw;(try dsimp only at hSw);go_simp;try with_reducible rfl)
  try simp only[Act.put,zz]
  refine wpAnyH_take (i:=7) (v:=?_) rfl (by kernel_rfl) (by kernel_rfl) (by kernel_rfl) (fun _ _ _ h=>h) (Or.inl ⟨by rfl,?hy⟩) (by assumption) ?_
  case hy=>(intro w hSw;(try dsimp only at hSw);go_simp;try with_reducible rfl)
  try simp only[Act.put,zz]
  refine wpAnyH_ready (rs:=[4,13]) (by kernel_rfl) (by simp) (AllReadyH.cons rfl (fun K hK=>?main0) (AllReadyH.cons rfl (fun K hK=>?side0) AllReadyH.nil))
  case side0 =>
   (go_simp;refine hK.out _ _ (by refine RS.all HA.out (QS.rs (w0:=w0) (B:=B) ?_);repeat (first|(with_reducible exact Rn.out)|(with_reducible refine QS.alloc ?_ _)|(with_reducible refine QS.drew ?_))) (fun hHeld=>?_);clear hK K;try simp only[Act.put,zz])
   have Pn:=hd0 ((PG.zero w0 (QS.hB Rn.out)).drew)
   refine rdH 4 fun K hK=>?_
   (go_simp;go_at_call 79;(with_reducible refine(P1.out _ (QS.hB (w:=w) (w0:=w0) (A:=A) (by repeat (first|(with_reducible exact Rn.out)|(with_reducible refine QS.alloc ?_ _)|(with_reducible refine QS.drew ?_))))).mono ?_);rintro en wx ⟨vx,rfl,hox,hbx⟩;have Pn:=hd0 (PG.later (show PG _ B w0.heap.size from(by repeat (first|(with_reducible exact Pn.out)|(with_reducible refine PG.alloc ?_ _)|(with_reducible refine PG.drew ?_)))) hbx);have Rn:=hd0 (QS.later (show QS w w0 _ A B from(by repeat (first|(with_reducible exact Rn.out)|(with_reducible refine QS.alloc ?_ _)|(with_reducible refine QS.drew ?_)))) hbx);have Bn:=hd0 hox;clear hox hbx;refine hK.out _ _ (by refine RS.all HA.out (QS.rs (w0:=w0) (B:=B) ?_);repeat (first|(with_reducible exact Rn.out)|(with_reducible refine QS.alloc ?_ _)|(with_reducible refine QS.drew ?_))) (fun hHeld=>?_);clear hK K;try simp only[Act.put,zz])
   refine rdH 8 fun K hK=>?_
   (go_simp;go_at_call 144;(with_reducible refine(K1.out _).mono ?_);rintro en wk ⟨rfl,hbk⟩;have Pn:=hd0 (PG.later (show PG _ B w0.heap.size from(by repeat (first|(with_reducible exact Pn.out)|(with_reducible refine PG.alloc ?_ _)|(with_reducible refine PG.drew ?_)))) hbk);have Bn:=hd0 (Bys.later (show Bys _ B vx X from(by repeat (first|(with_reducible exact Bn.out)|(with_reducible refine Bys.alloc ?_ _)|(with_reducible refine Bys.drewN ?_)))) hbk);have Rn:=hd0 (QS.later (show QS w w0 _ A B from(by repeat (first|(with_reducible exact Rn.out)|(with_reducible refine QS.alloc ?_ _)|(with_reducible refine QS.drew ?_)))) hbk);clear hbk;refine hK.out _ _ (by refine RS.all HA.out (QS.rs (w0:=w0) (B:=B) ?_);repeat (first|(with_reducible exact Rn.out)|(with_reducible refine QS.alloc ?_ _)|(with_reducible refine QS.drew ?_))) (fun hHeld=>?_);clear hK K;try simp only[Act.put,zz])
   refine rdH 9 fun K hK=>?_
   (go_simp;refine hK.out _ _ (by refine RS.all HA.out (QS.rs (w0:=w0) (B:=B) ?_);repeat (first|(with_reducible exact Rn.out)|(with_reducible refine QS.alloc ?_ _)|(with_reducible refine QS.drew ?_))) (fun hHeld=>?_);clear hK K;try simp only[Act.put,zz])
   refine rdH 10 fun K hK=>?_
   ((refine step_append_srcK rfl (.tmp 14) (.tmp 19) rfl B vx X (by rfl) (by repeat (first|(with_reducible exact Bn.out)|(with_reducible refine Bys.alloc ?_ _)|(with_reducible refine Bys.drewN ?_))) (.slice (some ⟨_,0,none⟩) 2 2) [byt r.tl,byt k] (by rfl) (by repeat (first|(with_reducible exact SR.out _)|(with_reducible exact Sn.out)|(with_reducible refine Src.allocN ?_ _)|(with_reducible refine Src.drewN ?_))) (by simp[lX]) (QS.hB (w:=w) (w0:=w0) (A:=A) (by repeat (first|(with_reducible exact Rn.out)|(with_reducible refine QS.alloc ?_ _)|(with_reducible refine QS.drew ?_)))) ?_);intro v1 w5 hown1 hb5 hk5;have Pn:=hd0 (PG.kept (show PG _ B w0.heap.size from(by repeat (first|(with_reducible exact Pn.out)|(with_reducible refine PG.alloc ?_ _)|(with_reducible refine PG.drew ?_)))) hk5);have k0:=Pn.out.pb.c0;have k1:=Pn.out.pb.c1;have k2:=Pn.out.pb.c2;have k3:=Pn.out.pb.c3;have k4:=Pn.out.pb.c4;have r0:=Pn.out.pb.fr 0;have r1:=Pn.out.pb.fr 1;have r2:=Pn.out.pb.fr 2;have r3:=Pn.out.pb.fr 3;have r4:=Pn.out.pb.fr 4;have Rn:=hd0 (QS.below (show QS w w0 _ A B from(by repeat (first|(with_reducible exact Rn.out)|(with_reducible refine QS.alloc ?_ _)|(with_reducible refine QS.drew ?_)))) HWB.out hb5);rw[HZ.out] at hown1;have hcv:=run_string_bys hown1;have hcw:=run_string_bys (hown1.alloc (.cells yU 103));clear hb5 hk5 hown1;refine hK.out _ _ (by refine RS.all HA.out (QS.rs (w0:=w0) (B:=B) ?_);repeat (first|(with_reducible exact Rn.out)|(with_reducible refine QS.alloc ?_ _)|(with_reducible refine QS.drew ?_))) (fun hHeld=>?_);clear hK K;try simp only[Act.put,zz])
   refine rdH 11 fun K hK=>?_
   (go_simp;refine hK.out _ _ (by refine RS.all HA.out (QS.rs (w0:=w0) (B:=B) ?_);repeat (first|(with_reducible exact Rn.out)|(with_reducible refine QS.alloc ?_ _)|(with_reducible refine QS.drew ?_))) (fun hHeld=>?_);clear hK K;try simp only[Act.put,zz])
   refine wpAnyH_take (i:=12) (v:=?_) rfl (by kernel_rfl) (by kernel_rfl) (by kernel_rfl) (fun _ _ _ h=>h) (Or.inl ⟨by rfl,?hy⟩) (by assumption) ?_
   case hy=>(intro w hSw;(try dsimp only at hSw);go_simp;try with_reducible rfl)
   try simp only[Act.put,zz]
   refine rdH 14 fun K hK=>?_
   (go_simp;refine hK.out _ _ (by refine RS.all HA.out (QS.rs (w0:=w0) (B:=B) ?_);repeat (first|(with_reducible exact Rn.out)|(with_reducible refine QS.set ?_ (by first|exact Pn.out.ge|exact QS.hB Rn.out) HWB.out _)|(with_reducible refine QS.alloc ?_ _)|(with_reducible refine QS.drew ?_))) (fun hHeld=>?_);clear hK K;try simp only[Act.put,List.setIfInBounds_toArray,List.set_cons_zero,List.set_cons_succ])
   refine wpAnyH_done (by kernel_rfl) ?_ _
   go_wp2_with fail
   go_meet
   exact⟨_,rfl,hd0 (PB.sets5G Pn.out.pb),hd0 Pn.out.ge,hd0 (QS.rs (w0:=w0) (B:=B) (show QS w w0 _ A B from(by repeat (first|(with_reducible exact Rn.out)|(with_reducible refine QS.set ?_ (by first|exact Pn.out.ge|exact QS.hB Rn.out) HWB.out _)|(with_reducible refine QS.alloc ?_ _)|(with_reducible refine QS.drew ?_)))))⟩
  (go_simp;go_at_call 79;(with_reducible refine(P1.out _ (QS.hB (w:=w) (w0:=w0) (A:=A) (by repeat (first|(with_reducible exact Rn.out)|(with_reducible refine QS.alloc ?_ _)|(with_reducible refine QS.drew ?_))))).mono ?_);rintro en wx ⟨vx,rfl,hox,hbx⟩;have Rn:=hd0 (QS.later (show QS w w0 _ A B from(by repeat (first|(with_reducible exact Rn.out)|(with_reducible refine QS.alloc ?_ _)|(with_reducible refine QS.drew ?_)))) hbx);have Bn:=hd0 hox;clear hox hbx;refine hK.out _ _ (by refine RS.all HA.out (QS.rs (w0:=w0) (B:=B) ?_);repeat (first|(with_reducible exact Rn.out)|(with_reducible refine QS.alloc ?_ _)|(with_reducible refine QS.drew ?_))) (fun hHeld=>?_);clear hK K;try simp only[Act.put,zz])
  refine wpAnyH_ready (rs:=[8,13]) (by kernel_rfl) (by simp) (AllReadyH.cons rfl (fun K hK=>?main1) (AllReadyH.cons rfl (fun K hK=>?side1) AllReadyH.nil))
  case side1 =>
   (go_simp;refine hK.out _ _ (by refine RS.all HA.out (QS.rs (w0:=w0) (B:=B) ?_);repeat (first|(with_reducible exact Rn.out)|(with_reducible refine QS.alloc ?_ _)|(with_reducible refine QS.drew ?_))) (fun hHeld=>?_);clear hK K;try simp only[Act.put,zz])
   have Pn:=hd0 (PG.zero wx (QS.hB Rn.out))
   refine rdH 8 fun K hK=>?_
   (go_simp;go_at_call 144;(with_reducible refine(K1.out _).mono ?_);rintro en wk ⟨rfl,hbk⟩;have Pn:=hd0 (PG.later (show PG _ B wx.heap.size from(by repeat (first|(with_reducible exact Pn.out)|(with_reducible refine PG.alloc ?_ _)|(with_reducible refine PG.drew ?_)))) hbk);have Bn:=hd0 (Bys.later (show Bys _ B vx X from(by repeat (first|(with_reducible exact Bn.out)|(with_reducible refine Bys.alloc ?_ _)|(with_reducible refine Bys.drewN ?_)))) hbk);have Rn:=hd0 (QS.later (show QS w w0 _ A B from(by repeat (first|(with_reducible exact Rn.out)|(with_reducible refine QS.alloc ?_ _)|(with_reducible refine QS.drew ?_)))) hbk);clear hbk;refine hK.out _ _ (by refine RS.all HA.out (QS.rs (w0:=w0) (B:=B) ?_);repeat (first|(with_reducible exact Rn.out)|(with_reducible refine QS.alloc ?_ _)|(with_reducible refine QS.drew ?_))) (fun hHeld=>?_);clear hK K;try simp only[Act.put,zz])
   refine rdH 9 fun K hK=>?_
   (go_simp;refine hK.out _ _ (by refine RS.all HA.out (QS.rs (w0:=w0) (B:=B) ?_);repeat (first|(with_reducible exact Rn.out)|(with_reducible refine QS.alloc ?_ _)|(with_reducible refine QS.drew ?_))) (fun hHeld=>?_);clear hK K;try simp only[Act.put,zz])
   refine rdH 10 fun K hK=>?_
   ((refine step_append_srcK rfl (.tmp 14) (.tmp 19) rfl B vx X (by rfl) (by repeat (first|(with_reducible exact Bn.out)|(with_reducible refine Bys.alloc ?_ _)|(with_reducible refine Bys.drewN ?_))) (.slice (some ⟨_,0,none⟩) 2 2) [byt r.tl,byt k] (by rfl) (by repeat (first|(with_reducible exact SR.out _)|(with_reducible exact Sn.out)|(with_reducible refine Src.allocN ?_ _)|(with_reducible refine Src.drewN ?_))) (by simp[lX]) (QS.hB (w:=w) (w0:=w0) (A:=A) (by repeat (first|(with_reducible exact Rn.out)|(with_reducible refine QS.alloc ?_ _)|(with_reducible refine QS.drew ?_)))) ?_);intro v1 w5 hown1 hb5 hk5;have Pn:=hd0 (PG.kept (show PG _ B wx.heap.size from(by repeat (first|(with_reducible exact Pn.out)|(with_reducible refine PG.alloc ?_ _)|(with_reducible refine PG.drew ?_)))) hk5);have k0:=Pn.out.pb.c0;have k1:=Pn.out.pb.c1;have k2:=Pn.out.pb.c2;have k3:=Pn.out.pb.c3;have k4:=Pn.out.pb.c4;have r0:=Pn.out.pb.fr 0;have r1:=Pn.out.pb.fr 1;have r2:=Pn.out.pb.fr 2;have r3:=Pn.out.pb.fr 3;have r4:=Pn.out.pb.fr 4;have Rn:=hd0 (QS.below (show QS w w0 _ A B from(by repeat (first|(with_reducible exact Rn.out)|(with_reducible refine QS.alloc ?_ _)|(with_reducible refine QS.drew ?_)))) HWB.out hb5);rw[HZ.out] at hown1;have hcv:=run_string_bys hown1;have hcw:=run_string_bys (hown1.alloc (.cells yU 103));clear hb5 hk5 hown1;refine hK.out _ _ (by refine RS.all HA.out (QS.rs (w0:=w0) (B:=B) ?_);repeat (first|(with_reducible exact Rn.out)|(with_reducible refine QS.alloc ?_ _)|(with_reducible refine QS.drew ?_))) (fun hHeld=>?_);clear hK K;try simp only[Act.put,zz])
   refine rdH 11 fun K hK=>?_
   (go_simp;refine hK.out _ _ (by refine RS.all HA.out (QS.rs (w0:=w0) (B:=B) ?_);repeat (first|(with_reducible exact Rn.out)|(with_reducible refine QS.alloc ?_ _)|(with_reducible refine QS.drew ?_))) (fun hHeld=>?_);clear hK K;try simp only[Act.put,zz])
   refine wpAnyH_take (i:=12) (v:=?_) rfl (by kernel_rfl) (by kernel_rfl) (by kernel_rfl) (fun _ _ _ h=>h) (Or.inl ⟨by rfl,?hy⟩) (by assumption) ?_
   case hy=>(intro w hSw;(try dsimp only at hSw);go_simp;try with_reducible rfl)
   try simp only[Act.put,zz]
   refine rdH 14 fun K hK=>?_
   (go_simp;refine hK.out _ _ (by refine RS.all HA.out (QS.rs (w0:=w0) (B:=B) ?_);repeat (first|(with_reducible exact Rn.out)|(with_reducible refine QS.set ?_ (by first|exact Pn.out.ge|exact QS.hB Rn.out) HWB.out _)|(with_reducible refine QS.alloc ?_ _)|(with_reducible refine QS.drew ?_))) (fun hHeld=>?_);clear hK K;try simp only[Act.put,List.setIfInBounds_toArray,List.set_cons_zero,List.set_cons_succ])
   refine wpAnyH_done (by kernel_rfl) ?_ _
   go_wp2_with fail
   go_meet
   exact⟨_,rfl,hd0 (PB.sets5G Pn.out.pb),hd0 Pn.out.ge,hd0 (QS.rs (w0:=w0) (B:=B) (show QS w w0 _ A B from(by repeat (first|(with_reducible exact Rn.out)|(with_reducible refine QS.set ?_ (by first|exact Pn.out.ge|exact QS.hB Rn.out) HWB.out _)|(with_reducible refine QS.alloc ?_ _)|(with_reducible refine QS.drew ?_)))))⟩
  (go_simp;go_at_call 144;(with_reducible refine(K1.out _).mono ?_);rintro en wk ⟨rfl,hbk⟩;have Bn:=hd0 (Bys.later (show Bys _ B vx X from(by repeat (first|(with_reducible exact Bn.out)|(with_reducible refine Bys.alloc ?_ _)|(with_reducible refine Bys.drewN ?_)))) hbk);have Rn:=hd0 (QS.later (show QS w w0 _ A B from(by repeat (first|(with_reducible exact Rn.out)|(with_reducible refine QS.alloc ?_ _)|(with_reducible refine QS.drew ?_)))) hbk);clear hbk;refine hK.out _ _ (by refine RS.all HA.out (QS.rs (w0:=w0) (B:=B) ?_);repeat (first|(with_reducible exact Rn.out)|(with_reducible refine QS.alloc ?_ _)|(with_reducible refine QS.drew ?_))) (fun hHeld=>?_);clear hK K;try simp only[Act.put,zz])
  refine wpAnyH_ready (rs:=[9,13]) (by kernel_rfl) (by simp) (AllReadyH.cons rfl (fun K hK=>?main2) (AllReadyH.cons rfl (fun K hK=>?side2) AllReadyH.nil))
  case side2 =>
   (go_simp;refine hK.out _ _ (by refine RS.all HA.out (QS.rs (w0:=w0) (B:=B) ?_);repeat (first|(with_reducible exact Rn.out)|(with_reducible refine QS.alloc ?_ _)|(with_reducible refine QS.drew ?_))) (fun hHeld=>?_);clear hK K;try simp only[Act.put,zz])
   have Pn:=hd0 (PG.zero wk (QS.hB Rn.out))
   refine rdH 9 fun K hK=>?_
   (go_simp;refine hK.out _ _ (by refine RS.all HA.out (QS.rs (w0:=w0) (B:=B) ?_);repeat (first|(with_reducible exact Rn.out)|(with_reducible refine QS.alloc ?_ _)|(with_reducible refine QS.drew ?_))) (fun hHeld=>?_);clear hK K;try simp only[Act.put,zz])
   have Sn:Hid (Src ((wk.alloc (.cells yU 103)).alloc (.cells #[.int .u8 r.tl,.int .u8 k] 5)) (.slice (some ⟨wk.heap.size+1,0,none⟩) 2 2) [byt r.tl,byt k]):=hd0 (by have h:=SR.out (wk.alloc (.cells yU 103));rw[show(wk.alloc (.cells yU 103)).heap.size=wk.heap.size+1 by simp] at h;exact h)
   refine rdH 10 fun K hK=>?_
   ((refine step_append_srcK rfl (.tmp 14) (.tmp 19) rfl B vx X (by rfl) (by repeat (first|(with_reducible exact Bn.out)|(with_reducible refine Bys.alloc ?_ _)|(with_reducible refine Bys.drewN ?_))) (.slice (some ⟨_,0,none⟩) 2 2) [byt r.tl,byt k] (by rfl) (by repeat (first|(with_reducible exact SR.out _)|(with_reducible exact Sn.out)|(with_reducible refine Src.allocN ?_ _)|(with_reducible refine Src.drewN ?_))) (by simp[lX]) (QS.hB (w:=w) (w0:=w0) (A:=A) (by repeat (first|(with_reducible exact Rn.out)|(with_reducible refine QS.alloc ?_ _)|(with_reducible refine QS.drew ?_)))) ?_);intro v1 w5 hown1 hb5 hk5;have Pn:=hd0 (PG.kept (show PG _ B wk.heap.size from(by repeat (first|(with_reducible exact Pn.out)|(with_reducible refine PG.alloc ?_ _)|(with_reducible refine PG.drew ?_)))) hk5);have k0:=Pn.out.pb.c0;have k1:=Pn.out.pb.c1;have k2:=Pn.out.pb.c2;have k3:=Pn.out.pb.c3;have k4:=Pn.out.pb.c4;have r0:=Pn.out.pb.fr 0;have r1:=Pn.out.pb.fr 1;have r2:=Pn.out.pb.fr 2;have r3:=Pn.out.pb.fr 3;have r4:=Pn.out.pb.fr 4;have Rn:=hd0 (QS.below (show QS w w0 _ A B from(by repeat (first|(with_reducible exact Rn.out)|(with_reducible refine QS.alloc ?_ _)|(with_reducible refine QS.drew ?_)))) HWB.out hb5);rw[HZ.out] at hown1;have hcv:=run_string_bys hown1;have hcw:=run_string_bys (hown1.alloc (.cells yU 103));clear hb5 hk5 hown1;refine hK.out _ _ (by refine RS.all HA.out (QS.rs (w0:=w0) (B:=B) ?_);repeat (first|(with_reducible exact Rn.out)|(with_reducible refine QS.alloc ?_ _)|(with_reducible refine QS.drew ?_))) (fun hHeld=>?_);clear hK K;try simp only[Act.put,zz])
   refine rdH 11 fun K hK=>?_
   (go_simp;refine hK.out _ _ (by refine RS.all HA.out (QS.rs (w0:=w0) (B:=B) ?_);repeat (first|(with_reducible exact Rn.out)|(with_reducible refine QS.alloc ?_ _)|(with_reducible refine QS.drew ?_))) (fun hHeld=>?_);clear hK K;try simp only[Act.put,zz])
   refine wpAnyH_take (i:=12) (v:=?_) rfl (by kernel_rfl) (by kernel_rfl) (by kernel_rfl) (fun _ _ _ h=>h) (Or.inl ⟨by rfl,?hy⟩) (by assumption) ?_
   case hy=>(intro w hSw;(try dsimp only at hSw);go_simp;try with_reducible rfl)
   try simp only[Act.put,zz]
   refine rdH 14 fun K hK=>?_
   (go_simp;refine hK.out _ _ (by refine RS.all HA.out (QS.rs (w0:=w0) (B:=B) ?_);repeat (first|(with_reducible exact Rn.out)|(with_reducible refine QS.set ?_ (by first|exact Pn.out.ge|exact QS.hB Rn.out) HWB.out _)|(with_reducible refine QS.alloc ?_ _)|(with_reducible refine QS.drew ?_))) (fun hHeld=>?_);clear hK K;try simp only[Act.put,List.setIfInBounds_toArray,List.set_cons_zero,List.set_cons_succ])
   refine wpAnyH_done (by kernel_rfl) ?_ _
   go_wp2_with fail
   go_meet
   exact⟨_,rfl,hd0 (PB.sets5G Pn.out.pb),hd0 Pn.out.ge,hd0 (QS.rs (w0:=w0) (B:=B) (show QS w w0 _ A B from(by repeat (first|(with_reducible exact Rn.out)|(with_reducible refine QS.set ?_ (by first|exact Pn.out.ge|exact QS.hB Rn.out) HWB.out _)|(with_reducible refine QS.alloc ?_ _)|(with_reducible refine QS.drew ?_)))))⟩
  (go_simp;refine hK.out _ _ (by refine RS.all HA.out (QS.rs (w0:=w0) (B:=B) ?_);repeat (first|(with_reducible exact Rn.out)|(with_reducible refine QS.alloc ?_ _)|(with_reducible refine QS.drew ?_))) (fun hHeld=>?_);clear hK K;try simp only[Act.put,zz])
  refine wpAnyH_ready (rs:=[10,13]) (by kernel_rfl) (by simp) (AllReadyH.cons rfl (fun K hK=>?main3) (AllReadyH.cons rfl (fun K hK=>?side3) AllReadyH.nil))
  case side3 =>
   (go_simp;refine hK.out _ _ (by refine RS.all HA.out (QS.rs (w0:=w0) (B:=B) ?_);repeat (first|(with_reducible exact Rn.out)|(with_reducible refine QS.alloc ?_ _)|(with_reducible refine QS.drew ?_))) (fun hHeld=>?_);clear hK K;try simp only[Act.put,zz])
   have Pn:Hid (PG ((wk.alloc (.cells #[.int .u8 r.tl,.int .u8 k] 5)).alloc (.cells yU 103)) B (wk.heap.size+1)):=hd0 (by have h:=PG.zero (wk.alloc (.cells #[.int .u8 r.tl,.int .u8 k] 5)) (QS.hB (Rn.out.alloc _));rw[show(wk.alloc (.cells #[.int .u8 r.tl,.int .u8 k] 5)).heap.size=wk.heap.size+1 by simp] at h;exact h)
   refine rdH 10 fun K hK=>?_
   ((refine step_append_srcK rfl (.tmp 14) (.tmp 19) rfl B vx X (by rfl) (by repeat (first|(with_reducible exact Bn.out)|(with_reducible refine Bys.alloc ?_ _)|(with_reducible refine Bys.drewN ?_))) (.slice (some ⟨_,0,none⟩) 2 2) [byt r.tl,byt k] (by rfl) (by repeat (first|(with_reducible exact SR.out _)|(with_reducible exact Sn.out)|(with_reducible refine Src.allocN ?_ _)|(with_reducible refine Src.drewN ?_))) (by simp[lX]) (QS.hB (w:=w) (w0:=w0) (A:=A) (by repeat (first|(with_reducible exact Rn.out)|(with_reducible refine QS.alloc ?_ _)|(with_reducible refine QS.drew ?_)))) ?_);intro v1 w5 hown1 hb5 hk5;have Pn:=hd0 (PG.kept (show PG _ B (wk.heap.size+1) from(by repeat (first|(with_reducible exact Pn.out)|(with_reducible refine PG.alloc ?_ _)|(with_reducible refine PG.drew ?_)))) hk5);have k0:=Pn.out.pb.c0;have k1:=Pn.out.pb.c1;have k2:=Pn.out.pb.c2;have k3:=Pn.out.pb.c3;have k4:=Pn.out.pb.c4;have r0:=Pn.out.pb.fr 0;have r1:=Pn.out.pb.fr 1;have r2:=Pn.out.pb.fr 2;have r3:=Pn.out.pb.fr 3;have r4:=Pn.out.pb.fr 4;have Rn:=hd0 (QS.below (show QS w w0 _ A B from(by repeat (first|(with_reducible exact Rn.out)|(with_reducible refine QS.alloc ?_ _)|(with_reducible refine QS.drew ?_)))) HWB.out hb5);rw[HZ.out] at hown1;have hcv:=run_string_bys hown1;have hcw:=run_string_bys (hown1.alloc (.cells yU 103));clear hb5 hk5 hown1;refine hK.out _ _ (by refine RS.all HA.out (QS.rs (w0:=w0) (B:=B) ?_);repeat (first|(with_reducible exact Rn.out)|(with_reducible refine QS.alloc ?_ _)|(with_reducible refine QS.drew ?_))) (fun hHeld=>?_);clear hK K;try simp only[Act.put,zz])
   refine rdH 11 fun K hK=>?_
   (go_simp;refine hK.out _ _ (by refine RS.all HA.out (QS.rs (w0:=w0) (B:=B) ?_);repeat (first|(with_reducible exact Rn.out)|(with_reducible refine QS.alloc ?_ _)|(with_reducible refine QS.drew ?_))) (fun hHeld=>?_);clear hK K;try simp only[Act.put,zz])
   refine wpAnyH_take (i:=12) (v:=?_) rfl (by kernel_rfl) (by kernel_rfl) (by kernel_rfl) (fun _ _ _ h=>h) (Or.inl ⟨by rfl,?hy⟩) (by assumption) ?_
   case hy=>(intro w hSw;(try dsimp only at hSw);go_simp;try with_reducible rfl)
   try simp only[Act.put,zz]
   refine rdH 14 fun K hK=>?_
   (go_simp;refine hK.out _ _ (by refine RS.all HA.out (QS.rs (w0:=w0) (B:=B) ?_);repeat (first|(with_reducible exact Rn.out)|(with_reducible refine QS.set ?_ (by first|exact Pn.out.ge|exact QS.hB Rn.out) HWB.out _)|(with_reducible refine QS.alloc ?_ _)|(with_reducible refine QS.drew ?_))) (fun hHeld=>?_);clear hK K;try simp only[Act.put,List.setIfInBounds_toArray,List.set_cons_zero,List.set_cons_succ])
   refine wpAnyH_done (by kernel_rfl) ?_ _
   go_wp2_with fail
   go_meet
   exact⟨_,rfl,hd0 (PB.sets5G Pn.out.pb),hd0 Pn.out.ge,hd0 (QS.rs (w0:=w0) (B:=B) (show QS w w0 _ A B from(by repeat (first|(with_reducible exact Rn.out)|(with_reducible refine QS.set ?_ (by first|exact Pn.out.ge|exact QS.hB Rn.out) HWB.out _)|(with_reducible refine QS.alloc ?_ _)|(with_reducible refine QS.drew ?_)))))⟩
  ((refine step_append_srcK rfl (.tmp 14) (.tmp 19) rfl B vx X (by rfl) (by repeat (first|(with_reducible exact Bn.out)|(with_reducible refine Bys.alloc ?_ _)|(with_reducible refine Bys.drewN ?_))) (.slice (some ⟨_,0,none⟩) 2 2) [byt r.tl,byt k] (by rfl) (by repeat (first|(with_reducible exact SR.out _)|(with_reducible exact Sn.out)|(with_reducible refine Src.allocN ?_ _)|(with_reducible refine Src.drewN ?_))) (by simp[lX]) (QS.hB (w:=w) (w0:=w0) (A:=A) (by repeat (first|(with_reducible exact Rn.out)|(with_reducible refine QS.alloc ?_ _)|(with_reducible refine QS.drew ?_)))) ?_);intro v1 w5 hown1 hb5 hk5;have Rn:=hd0 (QS.below (show QS w w0 _ A B from(by repeat (first|(with_reducible exact Rn.out)|(with_reducible refine QS.alloc ?_ _)|(with_reducible refine QS.drew ?_)))) HWB.out hb5);rw[HZ.out] at hown1;have hcv:=run_string_bys hown1;have hcw:=run_string_bys (hown1.alloc (.cells yU 103));clear hb5 hk5 hown1;refine hK.out _ _ (by refine RS.all HA.out (QS.rs (w0:=w0) (B:=B) ?_);repeat (first|(with_reducible exact Rn.out)|(with_reducible refine QS.alloc ?_ _)|(with_reducible refine QS.drew ?_))) (fun hHeld=>?_);clear hK K;try simp only[Act.put,zz])
  refine wpAnyH_ready (rs:=[11,13]) (by kernel_rfl) (by simp) (AllReadyH.cons rfl (fun K hK=>?main4) (AllReadyH.cons rfl (fun K hK=>?side4) AllReadyH.nil))
  case side4 =>
   (go_simp;refine hK.out _ _ (by refine RS.all HA.out (QS.rs (w0:=w0) (B:=B) ?_);repeat (first|(with_reducible exact Rn.out)|(with_reducible refine QS.alloc ?_ _)|(with_reducible refine QS.drew ?_))) (fun hHeld=>?_);clear hK K;try simp only[Act.put,zz])
   have Pn:=hd0 (PG.zero w5 (QS.hB Rn.out))
   have k0:=Pn.out.pb.c0
   have k1:=Pn.out.pb.c1
   have k2:=Pn.out.pb.c2
   have k3:=Pn.out.pb.c3
   have k4:=Pn.out.pb.c4
   have r0:=Pn.out.pb.fr 0
   have r1:=Pn.out.pb.fr 1
   have r2:=Pn.out.pb.fr 2
   have r3:=Pn.out.pb.fr 3
   have r4:=Pn.out.pb.fr 4
   refine rdH 11 fun K hK=>?_
   (go_simp;refine hK.out _ _ (by refine RS.all HA.out (QS.rs (w0:=w0) (B:=B) ?_);repeat (first|(with_reducible exact Rn.out)|(with_reducible refine QS.alloc ?_ _)|(with_reducible refine QS.drew ?_))) (fun hHeld=>?_);clear hK K;try simp only[Act.put,zz])
   refine wpAnyH_take (i:=12) (v:=?_) rfl (by kernel_rfl) (by kernel_rfl) (by kernel_rfl) (fun _ _ _ h=>h) (Or.inl ⟨by rfl,?hy⟩) (by assumption) ?_
   case hy=>(intro w hSw;(try dsimp only at hSw);go_simp;try with_reducible rfl)
   try simp only[Act.put,zz]
   refine rdH 14 fun K hK=>?_
   (go_simp;refine hK.out _ _ (by refine RS.all HA.out (QS.rs (w0:=w0) (B:=B) ?_);repeat (first|(with_reducible exact Rn.out)|(with_reducible refine QS.set ?_ (by first|exact Pn.out.ge|exact QS.hB Rn.out) HWB.out _)|(with_reducible refine QS.alloc ?_ _)|(with_reducible refine QS.drew ?_))) (fun hHeld=>?_);clear hK K;try simp only[Act.put,List.setIfInBounds_toArray,List.set_cons_zero,List.set_cons_succ])
   refine wpAnyH_done (by kernel_rfl) ?_ _
   go_wp2_with fail
   go_meet
   exact⟨_,rfl,hd0 (PB.new 103 w5 r.lv 4 0 Z (.slice none 0 0)),hd0 (QS.hB Rn.out),hd0 (RS.alloc Rn.out.rs _)⟩
  (go_simp;refine hK.out _ _ (by refine RS.all HA.out (QS.rs (w0:=w0) (B:=B) ?_);repeat (first|(with_reducible exact Rn.out)|(with_reducible refine QS.alloc ?_ _)|(with_reducible refine QS.drew ?_))) (fun hHeld=>?_);clear hK K;try simp only[Act.put,zz])
  refine wpAnyH_take (i:=12) (v:=?_) rfl (by kernel_rfl) (by kernel_rfl) (by kernel_rfl) (fun _ _ _ h=>h) (Or.inl ⟨by rfl,?hy⟩) (by assumption) ?_
  case hy=>(intro w hSw;(try dsimp only at hSw);go_simp;try with_reducible rfl)
  try simp only[Act.put,zz]
  refine rdH 13 fun K hK=>?_
  (go_simp;refine hK.out _ _ (by refine RS.all HA.out (QS.rs (w0:=w0) (B:=B) ?_);repeat (first|(with_reducible exact Rn.out)|(with_reducible refine QS.alloc ?_ _)|(with_reducible refine QS.drew ?_))) (fun hHeld=>?_);clear hK K;try simp only[Act.put,zz])
  have Pn:=hd0 (PG.zero w5 (QS.hB Rn.out))
  have k0:=Pn.out.pb.c0
  have k1:=Pn.out.pb.c1
  have k2:=Pn.out.pb.c2
  have k3:=Pn.out.pb.c3
  have k4:=Pn.out.pb.c4
  have r0:=Pn.out.pb.fr 0
  have r1:=Pn.out.pb.fr 1
  have r2:=Pn.out.pb.fr 2
  have r3:=Pn.out.pb.fr 3
  have r4:=Pn.out.pb.fr 4
  refine rdH 14 fun K hK=>?_
  (go_simp;refine hK.out _ _ (by refine RS.all HA.out (QS.rs (w0:=w0) (B:=B) ?_);repeat (first|(with_reducible exact Rn.out)|(with_reducible refine QS.set ?_ (by first|exact Pn.out.ge|exact QS.hB Rn.out) HWB.out _)|(with_reducible refine QS.alloc ?_ _)|(with_reducible refine QS.drew ?_))) (fun hHeld=>?_);clear hK K;try simp only[Act.put,List.setIfInBounds_toArray,List.set_cons_zero,List.set_cons_succ])
  refine wpAnyH_done (by kernel_rfl) ?_ _
  go_wp2_with fail
  go_meet
  exact⟨_,rfl,hd0 (PB.new 103 w5 r.lv 4 0 Z (.slice none 0 0)),hd0 (QS.hB Rn.out),hd0 (RS.alloc Rn.out.rs _)⟩
 case rest =>
  obtain⟨q,rfl,PQ0,HQ,RS1⟩:=hcut
  have HQW:=hd0 (show w.heap.size+1<q by have:=HQ.out;have:=HWB.out;omega)
  clear Rn SR P1 K1 HZ HBB hu hi
  obtain⟨J,hJ⟩:∃ J:Int,(if r.st=true then(64:Int) else 0)=J:=⟨_,rfl⟩
  have HJ:=hd0 hJ
  clear hJ
  go_upto_region 4 with fail
  have k3:wc.cell? ⟨w.heap.size,3,none⟩=some (.bool r.st):=RS1.out.g.c 3 _ (by rw[HA.out];rfl)
  have k2:=PQ0.out.c2
  have r2:=PQ0.out.fr 2
  go_upto_if 24 with fail
  go_cut [4] (fun s4 wx=>s4=.pointer (some ⟨q,0,none⟩)∧Hid (PB 103 wx q r.lv 4 J Z (.slice none 0 0))∧Hid (RS w wx A))
  case first =>
   cases hst:r.st with
   | true =>
    have hj:J=64:=by rw[←HJ.out,hst];rfl
    rw[hst] at k3
    have ho:bits .or .u8 0 64=64:=by decide
    go_wp2_with fail
    go_meet
    exact⟨rfl,hd0 (by rw[hj];exact PQ0.out.set2N 64),hd0 (RS1.out.setQ HQW.out _)⟩
   | false =>
    have hj:J=0:=by rw[←HJ.out,hst];rfl
    rw[hst] at k3
    go_wp2_with fail
    go_meet
    exact⟨rfl,hd0 (by rw[hj];exact PQ0.out),RS1⟩
  clear k3 k2 r2 PQ0 RS1
  obtain⟨rfl,PQ1,RS2⟩:=hcut
  obtain⟨F,hF⟩:∃ F:Int,flR r=F:=⟨_,rfl⟩
  have HF:=hd0 hF
  clear hF
  go_upto_region 6 with fail
  have k4:wc.cell? ⟨w.heap.size,4,none⟩=some (.bool r.en):=RS2.out.g.c 4 _ (by rw[HA.out];rfl)
  have k2:=PQ1.out.c2
  have r2:=PQ1.out.fr 2
  go_upto_if 30 with fail
  go_cut [4] (fun s4 wx=>s4=.pointer (some ⟨q,0,none⟩)∧Hid (PB 103 wx q r.lv 4 F Z (.slice none 0 0))∧Hid (RS w wx A))
  case first =>
   cases hen:r.en with
   | true =>
    have hf:F=J+32:=by rw[←HF.out,← HJ.out];simp[flR,hen]
    rw[hen] at k4
    have ho:bits .or .u8 J 32=J+32:=by rw[←HJ.out];split <;> decide
    go_wp2_with fail
    go_meet
    exact⟨rfl,hd0 (by rw[hf];exact PQ1.out.set2N (J+32)),hd0 (RS2.out.setQ HQW.out _)⟩
   | false =>
    have hf:F=J:=by rw[←HF.out,← HJ.out];simp[flR,hen]
    rw[hen] at k4
    go_wp2_with fail
    go_meet
    exact⟨rfl,hd0 (by rw[hf];exact PQ1.out),RS2⟩
  clear k4 k2 r2 PQ1 RS2
  obtain⟨rfl,PQ2,RS3⟩:=hcut
  have m0:wc.cell? ⟨w.heap.size,5,none⟩=some (.int .u8 r.mi.a):=RS3.out.g.c 5 _ (by rw[HA.out];rfl)
  have m1:wc.cell? ⟨w.heap.size,6,none⟩=some (.int .u8 r.mi.b):=RS3.out.g.c 6 _ (by rw[HA.out];rfl)
  have m2:wc.cell? ⟨w.heap.size,7,none⟩=some (.int .u8 r.mi.c):=RS3.out.g.c 7 _ (by rw[HA.out];rfl)
  have m3:wc.cell? ⟨w.heap.size,8,none⟩=some (.int .u8 r.mi.d):=RS3.out.g.c 8 _ (by rw[HA.out];rfl)
  have m4:wc.cell? ⟨w.heap.size,9,none⟩=some (.int .u8 r.mi.e):=RS3.out.g.c 9 _ (by rw[HA.out];rfl)
  have m5:wc.cell? ⟨w.heap.size,10,none⟩=some (.int .u8 r.mi.f):=RS3.out.g.c 10 _ (by rw[HA.out];rfl)
  go_wp2_with fail
  with_reducible refine(port_any 5 5 rfl r.mi HO.out.mi q r.lv 4 F Z _ [] wc PQ2.out (TlT.none _ _) (by simp)).mono ?_
  rintro en w1 ⟨rfl,v1,pq1,ht1,hb1⟩
  have RS4:=hd0 (RS3.out.below HQW.out hb1)
  have PQ3:=hd0 pq1
  have HT3:=hd0 ht1
  clear m0 m1 m2 m3 m4 m5 PQ2 RS3 hb1 pq1 ht1
  have m0:w1.cell? ⟨w.heap.size,11,none⟩=some (.int .u8 r.mo.a):=RS4.out.g.c 11 _ (by rw[HA.out];rfl)
  have m1:w1.cell? ⟨w.heap.size,12,none⟩=some (.int .u8 r.mo.b):=RS4.out.g.c 12 _ (by rw[HA.out];rfl)
  have m2:w1.cell? ⟨w.heap.size,13,none⟩=some (.int .u8 r.mo.c):=RS4.out.g.c 13 _ (by rw[HA.out];rfl)
  have m3:w1.cell? ⟨w.heap.size,14,none⟩=some (.int .u8 r.mo.d):=RS4.out.g.c 14 _ (by rw[HA.out];rfl)
  have m4:w1.cell? ⟨w.heap.size,15,none⟩=some (.int .u8 r.mo.e):=RS4.out.g.c 15 _ (by rw[HA.out];rfl)
  have m5:w1.cell? ⟨w.heap.size,16,none⟩=some (.int .u8 r.mo.f):=RS4.out.g.c 16 _ (by rw[HA.out];rfl)
  go_wp2_with fail
  have hl1:([]++prtL 5 r.mi).length≤100:=by unfold prtL;split <;> simp
  with_reducible refine(port_any 6 6 rfl r.mo HO.out.mo q r.lv 4 F Z _ _ w1 PQ3.out HT3.out hl1).mono ?_
  rintro en w2 ⟨rfl,v2,pq2,ht2,hb2⟩
  have RS5:=hd0 (RS4.out.below HQW.out hb2)
  have HT4:=hd0 ht2
  obtain⟨s2,c2,hv2,_⟩:=ht2.tls.shape
  obtain⟨n2,hn2⟩:∃ n,([]++prtL 5 r.mi++prtL 6 r.mo).length=n:=⟨_,rfl⟩
  rw[hn2] at hv2
  subst hv2
  have k0:=pq2.c0
  have k1:=pq2.c1
  have k2:=pq2.c2
  have k3:=pq2.c3
  have k4:=pq2.c4
  have z0:=RS5.out.z.c0
  have z1:=RS5.out.z.c1
  have z2:=RS5.out.z.c2
  have z3:=RS5.out.z.c3
  have z4:=RS5.out.z.c4
  have y0:=RS5.out.z.fr 0
  have y1:=RS5.out.z.fr 1
  have y2:=RS5.out.z.fr 2
  have y3:=RS5.out.z.fr 3
  have y4:=RS5.out.z.fr 4
  have HZF:=hd0 (show fxR r=Z by rw[←HZE.out,← HXE.out,← HKE.out];unfold fxR byt;split <;> rfl)
  clear m0 m1 m2 m3 m4 m5 PQ3 HT3 RS4 hb2 pq2 ht2 hn2 hl1
  go_wp2_with fail
  refine bodyPost_ret (v:=.tuple #[.agg #[.int .u8 r.lv,.int .u8 4,.int .u8 F,.string (bs Z),.slice s2 n2 c2],.int .i64 0]) (by simp[results,Tryz.results128,go_sem,z0,z1,z2,z3,z4]) rfl ⟨_,by rw[HRR.out,HF.out,HZF.out],by rw[HRR.out];exact((((((HT4.out.set (by have:=HQW.out;omega) _).set (by have:=HQW.out;omega) _).set (by have:=HQW.out;omega) _).set (by have:=HQW.out;omega) _).set (by have:=HQW.out;omega) _).mono (by have:=HQW.out;omega)),below_set (below_set (below_set (below_set (below_set RS5.out.bel (by omega) _) (by omega) _) (by omega) _) (by omega) _) (by omega) _⟩
def adI (t:List UInt8)(j:Nat):Int:=((t.getD j 0).toNat:Int)
theorem rd_six (l:List UInt8)(e:Int):(rdText l e 6).1=[]∨∃ a b c d f g,(rdText l e 6).1=[a,b,c,d,f,g]:=by
 unfold rdText
 split
 ·exact .inl rfl
 ·split
  ·exact .inl rfl
  ·rename_i h
   right
   match l,h with
   | a::b::c::d::f::g::r,_=>exact⟨a,b,c,d,f,g,rfl⟩
   |[],h=>simp at h
   |[_],h=>simp at h
   |[_,_],h=>simp at h
   |[_,_,_],h=>simp at h
   |[_,_,_,_],h=>simp at h
   |[_,_,_,_,_],h=>simp at h
theorem address_any (p:Nat)(l:List UInt8)(e:Int)(w:World)(hr:Rd w p l e)(hl:l.length≤9223372036854775807) :
  Calls Tryz.prog 143 #[.pointer (some ⟨p,0,none⟩)] w fun en w'=>en=.returned (.agg #[.int .u8 (adI (rdText l e 6).1 0),.int .u8 (adI (rdText l e 6).1 1),.int .u8 (adI (rdText l e 6).1 2),.int .u8 (adI (rdText l e 6).1 3),.int .u8 (adI (rdText l e 6).1 4),.int .u8 (adI (rdText l e 6).1 5)])∧Rd w' p (rdText l e 6).2.1 (rdText l e 6).2.2∧Only p w w':=by
 have HX:Hid (∀ w,Rd w p l e→Calls Tryz.prog 91 #[.pointer (some ⟨p,0,none⟩),.int .i64 6] w fun en w'=>en=.returned (.string (bs (rdText l e 6).1))∧Rd w' p (rdText l e 6).2.1 (rdText l e 6).2.2∧Only p w w'):=fun w hr=>text_any p l e 6 w hr hl
 have hsix:=rd_six l e
 obtain⟨t,ht⟩:∃ t,(rdText l e 6).1=t:=⟨_,rfl⟩
 rw[ht] at HX hsix ⊢
 have hz:∀ w,(Go.sizeOf 5).run Tryz.prog w=.ok 1 w:=fun w=>by kernel_rfl
 have hpl:=hr.lt
 have HR0:=hd0 hr
 have HSX:=hd0 hsix
 clear ht hr hsix
 go_enter Tryz.func143,Tryz.ntmps143
 go_upto_region 2 with fail
 refine forget (fun W=>Rd W p l e∧MB W w.heap.size 0 0 0 0 0 0∧MB W (w.heap.size+1) 0 0 0 0 0 0∧Only p w W)
  ⟨(HR0.out.later (bA _)).later (bA _),(MB.new w 0 0 0 0 0 0).later (bA _),MB.new' (by simp) 0 0 0 0 0 0,(World.grownBy_alloc w _ _).trans (World.grownBy_alloc _ _ _)⟩ ?_
 rintro W ⟨hr,hm1,hm2,ho⟩
 obtain⟨u,hu⟩:∃ u,w.heap.size=u:=⟨_,rfl⟩
 rw[hu] at hm1 hm2 ⊢
 have HU:Hid (w.heap.size≤u):=Nat.le_of_eq hu
 have HU1:Hid (w.heap.size≤u+1):=Nat.le_succ_of_le HU.out
 have hup:u≠p:=by omega
 have hup1:u+1≠p:=by omega
 have HR:=hd0 hr
 have HM1:=hd0 hm1
 have HM2:=hd0 hm2
 have HO:=hd0 ho
 clear hr hm1 hm2 ho hu HR0
 rcases HSX.out with rfl|⟨a,b,c,d,f,g,rfl⟩
 ·clear HSX
  go_region_law (first
   |(go_simp;go_at_call 91;(with_reducible refine(HX.out _ ?_).mono ?_);exact HR.out;rintro en w1 ⟨rfl,hr1,ho1⟩;have k1:=HM1.out.only (Only.undrew ho1) hup;have k2:=HM2.out.only (Only.undrew ho1) hup1)
   |(refine step_copy_string rfl _ _ 39 9 rfl 5 Tryz.underlying39 hz (u+1) 0 6 6 (by rfl) (bs []) (by rfl) (by rw[bs_size];decide) (by intro j hj;rw[bs_size] at hj;exact k2.some (by decide) j hj) (by intro j hj;rw[bs_size] at hj;exact k2.free (by decide) j hj) ?_))
  all_goals rw[show w1.setCells (u+1) 0 (List.map (fun x=>Value.int IntKind.u8 (x.toNat:Int)) (bs []).data.toList)=w1 from rfl]
  all_goals
   have r0:=k2.c0;have r1:=k2.c1;have r2:=k2.c2;have r3:=k2.c3;have r4:=k2.c4;have r5:=k2.c5
   have b0:=k1.c0;have b1:=k1.c1;have b2:=k1.c2;have b3:=k1.c3;have b4:=k1.c4;have b5:=k1.c5
   have f0:=k1.f0;have f1:=k1.f1;have f2:=k1.f2;have f3:=k1.f3;have f4:=k1.f4;have f5:=k1.f5
   have HRZ:=hd0 hr1
   have HOZ:=hd0 (HO.out.trans (Only.undrew ho1))
   go_wp2
   refine bodyPost_ret (v:=.agg #[.int .u8 0,.int .u8 0,.int .u8 0,.int .u8 0,.int .u8 0,.int .u8 0]) (by simp[results,Tryz.results143,go_sem,b0,b1,b2,b3,b4,b5]) rfl ⟨rfl,?_,?_⟩
   ·exact(((((HRZ.out.setOther hup _).setOther hup _).setOther hup _).setOther hup _).setOther hup _).setOther hup _
   ·exact(((((HOZ.out.setNew HU.out _).setNew HU.out _).setNew HU.out _).setNew HU.out _).setNew HU.out _).setNew HU.out _
 ·clear HSX
  go_region_law (first
   |(go_simp;go_at_call 91;(with_reducible refine(HX.out _ ?_).mono ?_);exact HR.out;rintro en w1 ⟨rfl,hr1,ho1⟩;have k1:=HM1.out.only (Only.undrew ho1) hup;have k2:=HM2.out.only (Only.undrew ho1) hup1)
   |(refine step_copy_string rfl _ _ 39 9 rfl 5 Tryz.underlying39 hz (u+1) 0 6 6 (by rfl) (bs [a,b,c,d,f,g]) (by rfl) (by rw[bs_size];exact Nat.le_refl 6) (by intro j hj;rw[bs_size] at hj;exact k2.some (Nat.le_refl 6) j hj) (by intro j hj;rw[bs_size] at hj;exact k2.free (Nat.le_refl 6) j hj) ?_))
  all_goals
   have e:w1.setCells (u+1) 0 (List.map (fun x=>Value.int IntKind.u8 (x.toNat:Int)) (bs [a,b,c,d,f,g]).data.toList)=w1.setCells (u+1) 0 [.int .u8 (a.toNat:Int),.int .u8 (b.toNat:Int),.int .u8 (c.toNat:Int),.int .u8 (d.toNat:Int),.int .u8 (f.toNat:Int),.int .u8 (g.toNat:Int)]:=rfl
   rw[e]
   clear e
   have m2:=k2.cells (a.toNat:Int) (b.toNat:Int) (c.toNat:Int) (d.toNat:Int) (f.toNat:Int) (g.toNat:Int)
   have m1:=MB.cellsOther (show u+1≠u by omega) [.int .u8 (a.toNat:Int),.int .u8 (b.toNat:Int),.int .u8 (c.toNat:Int),.int .u8 (d.toNat:Int),.int .u8 (f.toNat:Int),.int .u8 (g.toNat:Int)] 0 _ k1
   have m3:=Rd.cellsOther hup1 [.int .u8 (a.toNat:Int),.int .u8 (b.toNat:Int),.int .u8 (c.toNat:Int),.int .u8 (d.toNat:Int),.int .u8 (f.toNat:Int),.int .u8 (g.toNat:Int)] 0 _ hr1
   have m4:=Only.cells (p:=p) HU1.out [.int .u8 (a.toNat:Int),.int .u8 (b.toNat:Int),.int .u8 (c.toNat:Int),.int .u8 (d.toNat:Int),.int .u8 (f.toNat:Int),.int .u8 (g.toNat:Int)] 0 _ (HO.out.trans (Only.undrew ho1))
   generalize w1.setCells (u+1) 0 [.int .u8 (a.toNat:Int),.int .u8 (b.toNat:Int),.int .u8 (c.toNat:Int),.int .u8 (d.toNat:Int),.int .u8 (f.toNat:Int),.int .u8 (g.toNat:Int)]=w3 at *
   have r0:=m2.c0;have r1:=m2.c1;have r2:=m2.c2;have r3:=m2.c3;have r4:=m2.c4;have r5:=m2.c5
   have b0:=m1.c0;have b1:=m1.c1;have b2:=m1.c2;have b3:=m1.c3;have b4:=m1.c4;have b5:=m1.c5
   have f0:=m1.f0;have f1:=m1.f1;have f2:=m1.f2;have f3:=m1.f3;have f4:=m1.f4;have f5:=m1.f5
   have HRZ:=hd0 m3
   have HOZ:=hd0 m4
   go_wp2
   refine bodyPost_ret (v:=.agg #[.int .u8 (a.toNat:Int),.int .u8 (b.toNat:Int),.int .u8 (c.toNat:Int),.int .u8 (d.toNat:Int),.int .u8 (f.toNat:Int),.int .u8 (g.toNat:Int)]) (by simp[results,Tryz.results143,go_sem,b0,b1,b2,b3,b4,b5]) rfl ⟨rfl,?_,?_⟩
   ·exact(((((HRZ.out.setOther hup _).setOther hup _).setOther hup _).setOther hup _).setOther hup _).setOther hup _
   ·exact(((((HOZ.out.setNew HU.out _).setNew HU.out _).setNew HU.out _).setNew HU.out _).setNew HU.out _).setNew HU.out _
def mcOf (t:List UInt8):Mc:=⟨adI t 0,adI t 1,adI t 2,adI t 3,adI t 4,adI t 5⟩
theorem addressM_any (p:Nat)(l:List UInt8)(e:Int)(w:World)(hr:Rd w p l e)(hl:l.length≤9223372036854775807) :
  Calls Tryz.prog 143 #[.pointer (some ⟨p,0,none⟩)] w fun en w'=>en=.returned (.agg #[.int .u8 (mcOf (rdText l e 6).1).a,.int .u8 (mcOf (rdText l e 6).1).b,.int .u8 (mcOf (rdText l e 6).1).c,.int .u8 (mcOf (rdText l e 6).1).d,.int .u8 (mcOf (rdText l e 6).1).e,.int .u8 (mcOf (rdText l e 6).1).f])∧Rd w' p (rdText l e 6).2.1 (rdText l e 6).2.2∧Only p w w':=address_any p l e w hr hl
end Go.Proofs.YtlkdfofpnmpidaaGreat
