/- ZQ27 -/
import Derived.Test.YtlkdfofpnmpidaaGreatZQ26
set_option linter.unusedVariables false
set_option linter.unusedSimpArgs false
set_option maxRecDepth 100000
set_option maxHeartbeats 16000000
namespace Go.Proofs.YtlkdfofpnmpidaaGreat
open Go.RowKit
structure ZQ (w W:World)(o:Ow20)(ov:Value)(x:Mp)(s:Ms)(wv:Value)(vw:Value):Prop where
 mm:MM W o ov x s wv
 zb:GB 69 W w.heap.size #[.slice none 0 0,.slice none 0 0,.int .u8 0,.int .u8 0,.int .u64 0,.int .u32 0,.int .i64 0,.int .i64 0,.int .u32 0,.slice none 0 0]
 wy:Rw 17 rqC W vw s.way
 bel:Below w.heap.size w W
section
variable {w W W':World} {o:Ow20} {ov:Value} {x:Mp} {s s0:Ms} {wv vw:Value}
theorem ZQ.later (h:ZQ w W o ov x s wv vw)(hb:Below W.heap.size W W'):ZQ w W' o ov x s wv vw:=⟨h.mm.later hb,h.zb.later hb,h.wy.later rqC_len hb,h.bel.trans (hb.mono h.bel.size)⟩
theorem ZQ.drew (h:ZQ w W o ov x s wv vw):ZQ w W.drew o ov x s wv vw:=h.later (Below.refl _ _).drew
theorem ZQ.seven (h:ZQ w W o ov x s wv vw):W.cell? ⟨x.p,12,none⟩=some (.pointer (some ⟨x.q,0,none⟩))∧W.cell? ⟨x.p,13,none⟩=some (.pointer (some ⟨x.r,0,none⟩))∧W.cell? ⟨x.p,16,none⟩=some (.int .u64 s.bad)∧W.cell? ⟨x.p,17,none⟩=some (.int .u32 s.lp)∧W.cell? ⟨x.p,19,none⟩=some (.int .i64 s.rep)∧W.cell? ⟨x.p,20,none⟩=some (.int .i64 s.ali)∧W.cell? ⟨x.p,21,none⟩=some (.int .u32 s.tr):=⟨h.mm.cq,h.mm.cr',h.mm.cbad,h.mm.clpx,h.mm.crep,h.mm.cali,h.mm.ctr⟩
theorem below_ten {B t:Nat}(h:Below B w W)(ht:B≤t){v0 v1 v2 v3 v4 v5 v6 v7 v8 v9:Value} : Below B w ((((((((((W.setCell ⟨t,0,none⟩ v0).setCell ⟨t,1,none⟩ v1).setCell ⟨t,2,none⟩ v2).setCell ⟨t,3,none⟩ v3).setCell ⟨t,4,none⟩ v4).setCell ⟨t,5,none⟩ v5).setCell ⟨t,6,none⟩ v6).setCell ⟨t,7,none⟩ v7).setCell ⟨t,8,none⟩ v8).setCell ⟨t,9,none⟩ v9) :=
 below_set (below_set (below_set (below_set (below_set (below_set (below_set (below_set (below_set (below_set h ht _) ht _) ht _) ht _) ht _) ht _) ht _) ht _) ht _) ht _
theorem MM.ten (h0:MM w o ov x s0 wv)(h:MM W o ov x s wv){t:Nat}(ht:w.heap.size≤t)(v0 v1 v2 v3 v4 v5 v6 v7 v8 v9:Value):MM ((((((((((W.setCell ⟨t,0,none⟩ v0).setCell ⟨t,1,none⟩ v1).setCell ⟨t,2,none⟩ v2).setCell ⟨t,3,none⟩ v3).setCell ⟨t,4,none⟩ v4).setCell ⟨t,5,none⟩ v5).setCell ⟨t,6,none⟩ v6).setCell ⟨t,7,none⟩ v7).setCell ⟨t,8,none⟩ v8).setCell ⟨t,9,none⟩ v9) o ov x s wv :=
 (((((h.five h0 ht v0 v1 v2 v3 v4).new h0 ht 5 v5).new h0 ht 6 v6).new h0 ht 7 v7).new h0 ht 8 v8).new h0 ht 9 v9
theorem ZQ.stored (h0:MM w o ov x s wv)(h:ZQ w W o ov x s wv vw)(v0 v1 v2 v3 v4 v5 v6 v7 v8 v9:Value):((((((((((W.setCell ⟨w.heap.size,0,none⟩ v0).setCell ⟨w.heap.size,1,none⟩ v1).setCell ⟨w.heap.size,2,none⟩ v2).setCell ⟨w.heap.size,3,none⟩ v3).setCell ⟨w.heap.size,4,none⟩ v4).setCell ⟨w.heap.size,5,none⟩ v5).setCell ⟨w.heap.size,6,none⟩ v6).setCell ⟨w.heap.size,7,none⟩ v7).setCell ⟨w.heap.size,8,none⟩ v8).setCell ⟨w.heap.size,9,none⟩ v9).cell? ⟨x.p,12,none⟩=some (.pointer (some ⟨x.q,0,none⟩))∧((((((((((W.setCell ⟨w.heap.size,0,none⟩ v0).setCell ⟨w.heap.size,1,none⟩ v1).setCell ⟨w.heap.size,2,none⟩ v2).setCell ⟨w.heap.size,3,none⟩ v3).setCell ⟨w.heap.size,4,none⟩ v4).setCell ⟨w.heap.size,5,none⟩ v5).setCell ⟨w.heap.size,6,none⟩ v6).setCell ⟨w.heap.size,7,none⟩ v7).setCell ⟨w.heap.size,8,none⟩ v8).setCell ⟨w.heap.size,9,none⟩ v9).cell? ⟨x.p,13,none⟩=some (.pointer (some ⟨x.r,0,none⟩))∧((((((((((W.setCell ⟨w.heap.size,0,none⟩ v0).setCell ⟨w.heap.size,1,none⟩ v1).setCell ⟨w.heap.size,2,none⟩ v2).setCell ⟨w.heap.size,3,none⟩ v3).setCell ⟨w.heap.size,4,none⟩ v4).setCell ⟨w.heap.size,5,none⟩ v5).setCell ⟨w.heap.size,6,none⟩ v6).setCell ⟨w.heap.size,7,none⟩ v7).setCell ⟨w.heap.size,8,none⟩ v8).setCell ⟨w.heap.size,9,none⟩ v9).cell? ⟨x.p,16,none⟩=some (.int .u64 s.bad)∧((((((((((W.setCell ⟨w.heap.size,0,none⟩ v0).setCell ⟨w.heap.size,1,none⟩ v1).setCell ⟨w.heap.size,2,none⟩ v2).setCell ⟨w.heap.size,3,none⟩ v3).setCell ⟨w.heap.size,4,none⟩ v4).setCell ⟨w.heap.size,5,none⟩ v5).setCell ⟨w.heap.size,6,none⟩ v6).setCell ⟨w.heap.size,7,none⟩ v7).setCell ⟨w.heap.size,8,none⟩ v8).setCell ⟨w.heap.size,9,none⟩ v9).cell? ⟨x.p,17,none⟩=some (.int .u32 s.lp)∧((((((((((W.setCell ⟨w.heap.size,0,none⟩ v0).setCell ⟨w.heap.size,1,none⟩ v1).setCell ⟨w.heap.size,2,none⟩ v2).setCell ⟨w.heap.size,3,none⟩ v3).setCell ⟨w.heap.size,4,none⟩ v4).setCell ⟨w.heap.size,5,none⟩ v5).setCell ⟨w.heap.size,6,none⟩ v6).setCell ⟨w.heap.size,7,none⟩ v7).setCell ⟨w.heap.size,8,none⟩ v8).setCell ⟨w.heap.size,9,none⟩ v9).cell? ⟨x.p,19,none⟩=some (.int .i64 s.rep)∧((((((((((W.setCell ⟨w.heap.size,0,none⟩ v0).setCell ⟨w.heap.size,1,none⟩ v1).setCell ⟨w.heap.size,2,none⟩ v2).setCell ⟨w.heap.size,3,none⟩ v3).setCell ⟨w.heap.size,4,none⟩ v4).setCell ⟨w.heap.size,5,none⟩ v5).setCell ⟨w.heap.size,6,none⟩ v6).setCell ⟨w.heap.size,7,none⟩ v7).setCell ⟨w.heap.size,8,none⟩ v8).setCell ⟨w.heap.size,9,none⟩ v9).cell? ⟨x.p,20,none⟩=some (.int .i64 s.ali)∧((((((((((W.setCell ⟨w.heap.size,0,none⟩ v0).setCell ⟨w.heap.size,1,none⟩ v1).setCell ⟨w.heap.size,2,none⟩ v2).setCell ⟨w.heap.size,3,none⟩ v3).setCell ⟨w.heap.size,4,none⟩ v4).setCell ⟨w.heap.size,5,none⟩ v5).setCell ⟨w.heap.size,6,none⟩ v6).setCell ⟨w.heap.size,7,none⟩ v7).setCell ⟨w.heap.size,8,none⟩ v8).setCell ⟨w.heap.size,9,none⟩ v9).cell? ⟨x.p,21,none⟩=some (.int .u32 s.tr):=by
 have m:=MM.ten h0 h.mm (t:=w.heap.size) (Nat.le_refl _) v0 v1 v2 v3 v4 v5 v6 v7 v8 v9
 exact⟨m.cq,m.cr',m.cbad,m.clpx,m.crep,m.cali,m.ctr⟩
theorem Fr.ten {t:Nat}(v0 v1 v2 v3 v4 v5 v6 v7 v8 v9:Value):Fr (fun k=>k=t) W ((((((((((W.setCell ⟨t,0,none⟩ v0).setCell ⟨t,1,none⟩ v1).setCell ⟨t,2,none⟩ v2).setCell ⟨t,3,none⟩ v3).setCell ⟨t,4,none⟩ v4).setCell ⟨t,5,none⟩ v5).setCell ⟨t,6,none⟩ v6).setCell ⟨t,7,none⟩ v7).setCell ⟨t,8,none⟩ v8).setCell ⟨t,9,none⟩ v9) :=
 have f:∀ (W:World) (o:Nat) (v:Value),Fr (fun k=>k=t) W (W.setCell ⟨t,o,none⟩ v):=fun W o v=>Fr.set (D:=fun k=>k=t) (show(fun k=>k=t) t from rfl) o v
 (((((((((f _ _ _).trans (f _ _ _)).trans (f _ _ _)).trans (f _ _ _)).trans (f _ _ _)).trans (f _ _ _)).trans (f _ _ _)).trans (f _ _ _)).trans (f _ _ _)).trans (f _ _ _)
def Aft (t:Nat)(v:Value):Prop:=∀ g,v.ownBlock=some g→t<g
theorem Rw.ten {α:Type}{k:Nat}{f:α→List Value}{v:Value}{l:List α}{t:Nat}(hf:∀ x,(f x).length=k)(h:Rw k f W v l)(ha:Aft t v)(v0 v1 v2 v3 v4 v5 v6 v7 v8 v9:Value):Rw k f ((((((((((W.setCell ⟨t,0,none⟩ v0).setCell ⟨t,1,none⟩ v1).setCell ⟨t,2,none⟩ v2).setCell ⟨t,3,none⟩ v3).setCell ⟨t,4,none⟩ v4).setCell ⟨t,5,none⟩ v5).setCell ⟨t,6,none⟩ v6).setCell ⟨t,7,none⟩ v7).setCell ⟨t,8,none⟩ v8).setCell ⟨t,9,none⟩ v9) v l :=
 h.fr hf (Fr.ten v0 v1 v2 v3 v4 v5 v6 v7 v8 v9) (fun g hg e=>Nat.lt_irrefl _ (e ▸ ha g hg))
theorem GB.ten {T:TypeId}{A:Array Value}{t:Nat}(h:GB T W t A)(hA:A.size=10)(v0 v1 v2 v3 v4 v5 v6 v7 v8 v9:Value):GB T ((((((((((W.setCell ⟨t,0,none⟩ v0).setCell ⟨t,1,none⟩ v1).setCell ⟨t,2,none⟩ v2).setCell ⟨t,3,none⟩ v3).setCell ⟨t,4,none⟩ v4).setCell ⟨t,5,none⟩ v5).setCell ⟨t,6,none⟩ v6).setCell ⟨t,7,none⟩ v7).setCell ⟨t,8,none⟩ v8).setCell ⟨t,9,none⟩ v9) t #[v0,v1,v2,v3,v4,v5,v6,v7,v8,v9]:=by
 obtain⟨l⟩:=A
 match l,hA with
 |[a0,a1,a2,a3,a4,a5,a6,a7,a8,a9],_ =>
  have h9:=(((((((((h.set 0 v0).set 1 v1).set 2 v2).set 3 v3).set 4 v4).set 5 v5).set 6 v6).set 7 v7).set 8 v8).set 9 v9
  simp only[List.setIfInBounds_toArray,List.set_cons_succ,List.set_cons_zero] at h9
  exact h9
end
theorem mstate_any (o:Ow20)(ov:Value)(x:Mp)(s:Ms)(wv:Value)(hwl:s.way.length≤1000)(w:World)(h:MM w o ov x s wv) :
  Calls Tryz.prog 21 #[.pointer (some ⟨x.p,0,none⟩)] w fun en w'=>∃ vl vr vw,
  en=.returned (.agg #[vl,vr,.int .u8 (wstM s),.int .u8 s.al.td,.int .u64 s.bad,.int .u32 s.lp,.int .i64 s.rep,.int .i64 s.ali,.int .u32 s.tr,vw]) ∧
  Rw 1 u1 w' vl (thoseV isL s.V)∧Rw 1 u1 w' vr (thoseV isR s.V)∧Rw 17 rqC w' vw s.way∧MM w' o ov x s wv∧Below w.heap.size w w':=by
 have H0:=hd0 h
 obtain⟨wa,wc0,hwv,-⟩:=(h.wy.rw rqC_len).shape
 obtain⟨wn,hwn⟩:∃ n,s.way.length=n:=⟨_,rfl⟩
 rw[hwn] at hwv hwl
 subst hwv
 have IT:=hd0 (show(Tryz.prog.info? 69).map (·.size)=some 10 by kernel_rfl)
 have HWN:=hd0 (And.intro hwn hwl)
 have hmk:∀ W:World,(Instr.makeSlice 67 (.int .i64 (wn:Int)) (.int .i64 (wn:Int))).run Tryz.prog W=.ok (.slice (some ⟨W.heap.size,0,none⟩) wn wn) (W.alloc (.cells (zR wn) 81)):=fun W=>make_rq wn hwl W
 have hb0:Below w.heap.size w (w.alloc (.cells #[.slice none 0 0,.slice none 0 0,.int .u8 0,.int .u8 0,.int .u64 0,.int .u32 0,.int .i64 0,.int .i64 0,.int .u32 0,.slice none 0 0] 69)):=bA _
 have M0:=hd0 (And.intro (h.later hb0) (And.intro (show GB 69 (w.alloc (.cells #[.slice none 0 0,.slice none 0 0,.int .u8 0,.int .u8 0,.int .u64 0,.int .u32 0,.int .i64 0,.int .i64 0,.int .u32 0,.slice none 0 0] 69)) w.heap.size #[.slice none 0 0,.slice none 0 0,.int .u8 0,.int .u8 0,.int .u64 0,.int .u32 0,.int .i64 0,.int .i64 0,.int .u32 0,.slice none 0 0] from heap_alloc_new _ _) hb0))
 clear hwn h hb0
 go_enter Tryz.func21,Tryz.ntmps21
 go_upto_region 1 with fail
 obtain⟨w0,hw0⟩:∃ z,w.alloc (.cells #[.slice none 0 0,.slice none 0 0,.int .u8 0,.int .u8 0,.int .u64 0,.int .u32 0,.int .i64 0,.int .i64 0,.int .u32 0,.slice none 0 0] 69)=z:=⟨_,rfl⟩
 rw[hw0] at M0 ⊢
 clear hw0
 have c22:w0.cell? ⟨x.p,22,none⟩=some (.slice wa wn wc0):=M0.out.1.cway
 go_upto_region 4 with fail
 have hal:=(Below.refl w0.heap.size w0).alloc (Nat.le_refl _) (.cells (zR wn) 81)
 have M1:=hd0 (And.intro (M0.out.1.later hal) (And.intro (M0.out.2.1.later hal) (M0.out.2.2.trans (hal.mono M0.out.2.2.size))))
 obtain⟨w2,hcp,hoy,hb2⟩:=copy_rq (w0.alloc (.cells (zR wn) 81)) w0.heap.size wn w0.heap.size (zR wn) (by simp[zR,madeCells]) hwl (heap_alloc_new _ _) (Nat.le_refl _) (.slice wa wn wc0) s.way (M1.out.1.wy.rw rqC_len) HWN.out.1 3
 have Z2:Hid (ZQ w w2 o ov x s (.slice wa wn wc0) (.slice (some ⟨w0.heap.size,0,none⟩) wn wn)):=hd0
  ⟨M1.out.1.fr (D:=fun k=>w0.heap.size≤k) ⟨hb2.os,hb2.tape,hb2.output,hb2.size,fun k hk hd=>hb2.block k (by omega)⟩ (fun k hk e=>by have:=M0.out.1.ltD hk;omega),M1.out.2.1.below M0.out.2.1.lt hb2,hoy.rw rqC_len,M1.out.2.2.trans (hb2.mono M0.out.2.2.size)⟩
 have c22':(w0.alloc (.cells (zR wn) 81)).cell? ⟨x.p,22,none⟩=some (.slice wa wn wc0):=M1.out.1.cway
 have HGG:=hd0 (show w.heap.size<w0.heap.size from M0.out.2.1.lt)
 obtain⟨g,hg⟩:∃ k,w0.heap.size=k:=⟨_,rfl⟩
 rw[hg] at HGG
 have HGA:Hid (Aft w.heap.size (.slice (some ⟨g,0,none⟩) wn wn)):=hd0 fun k hk=>by cases hk;exact HGG.out
 obtain⟨w1,hw1⟩:∃ k,w0.alloc (.cells (zR wn) 81)=k:=⟨_,rfl⟩
 rw[hg,hw1] at hcp
 rw[hg] at Z2
 rw[hw1] at c22'
 rw[hg,hw1]
 clear hal hoy hb2 M0 M1 hw1 hg hmk c22
 go_upto_region 5 with fail
 clear hcp c22'
 obtain⟨nl,hnl⟩:∃ k,(thoseV isL s.V).length=k:=⟨_,rfl⟩
 obtain⟨nr,hnr⟩:∃ k,(thoseV isR s.V).length=k:=⟨_,rfl⟩
 have ML:Hid (∀ W,ZQ w W o ov x s (.slice wa wn wc0) (.slice (some ⟨g,0,none⟩) wn wn)→Calls Tryz.prog 67 #[.pointer (some ⟨x.q,0,none⟩)] W fun en w'=>∃ sa sc,en=.returned (.slice sa nl sc)∧Rw 1 u1 w' (.slice sa nl sc) (thoseV isL s.V)∧Aft w.heap.size (.slice sa nl sc)∧Below W.heap.size W w'):=hd0 fun W h=>(mL_any x.q x.m o.a s.V s.bd s.cr W h.mm.mc).mono fun en w' ⟨v,e,hu,hb⟩=>by
  obtain⟨sa,sc,hv,-⟩:=hu.cells
  rw[hnl] at hv
  exact⟨sa,sc,by rw[e,hv],hv ▸ Us.ru hu,by
   rcases hu.shape with⟨e1,-⟩|⟨g1,cap,t1,e1,hB,-⟩
   ·rw[hv] at e1;rw[e1];intro g hg;cases hg
   ·rw[hv] at e1;rw[e1];intro g hg;cases hg;exact Nat.lt_of_lt_of_le h.zb.lt hB,hb⟩
 have MR:Hid (∀ W,ZQ w W o ov x s (.slice wa wn wc0) (.slice (some ⟨g,0,none⟩) wn wn)→Calls Tryz.prog 68 #[.pointer (some ⟨x.q,0,none⟩)] W fun en w'=>∃ sa sc,en=.returned (.slice sa nr sc)∧Rw 1 u1 w' (.slice sa nr sc) (thoseV isR s.V)∧Aft w.heap.size (.slice sa nr sc)∧Below W.heap.size W w'):=hd0 fun W h=>(mR_any x.q x.m o.a s.V s.bd s.cr W h.mm.mc).mono fun en w' ⟨v,e,hu,hb⟩=>by
  obtain⟨sa,sc,hv,-⟩:=hu.cells
  rw[hnr] at hv
  exact⟨sa,sc,by rw[e,hv],hv ▸ Us.ru hu,by
   rcases hu.shape with⟨e1,-⟩|⟨g1,cap,t1,e1,hB,-⟩
   ·rw[hv] at e1;rw[e1];intro g hg;cases hg
   ·rw[hv] at e1;rw[e1];intro g hg;cases hg;exact Nat.lt_of_lt_of_le h.zb.lt hB,hb⟩
 obtain⟨kw,hkw⟩:∃ k,wstM s=k:=⟨_,rfl⟩
 have WO:Hid (∀ W,ZQ w W o ov x s (.slice wa wn wc0) (.slice (some ⟨g,0,none⟩) wn wn)→Calls Tryz.prog 35 #[.pointer (some ⟨x.q,0,none⟩)] W fun en w'=>en=.returned (.int .u8 kw)∧Below W.heap.size W w'):=hd0 fun W h=>(worst_any x.q x.m o.a s.V s.bd s.cr W h.mm.mc).mono fun en w' ⟨e,hb⟩=>⟨by rw[e,← hkw];rfl,hb⟩
 have TO:Hid (∀ W,ZQ w W o ov x s (.slice wa wn wc0) (.slice (some ⟨g,0,none⟩) wn wn)→Calls Tryz.prog 69 #[.pointer (some ⟨x.r,0,none⟩)] W fun en w'=>en=.returned (.int .u8 s.al.td)∧w'=W):=hd0 fun W h=>told_any x.r o.lw s.al W h.mm.al
 have hx0:ZQ w w2.drew o ov x s (.slice wa wn wc0) (.slice (some ⟨g,0,none⟩) wn wn):=Z2.out.drew
 go_cut [] (fun wx=>∃ la lc ra rc,Hid (GB 69 wx w.heap.size #[.slice la nl lc,.slice ra nr rc,.int .u8 kw,.int .u8 s.al.td,.int .u64 s.bad,.int .u32 s.lp,.int .i64 s.rep,.int .i64 s.ali,.int .u32 s.tr,.slice (some ⟨g,0,none⟩) wn wn]∧Rw 1 u1 wx (.slice la nl lc) (thoseV isL s.V)∧Rw 1 u1 wx (.slice ra nr rc) (thoseV isR s.V)∧Rw 17 rqC wx (.slice (some ⟨g,0,none⟩) wn wn) s.way∧MM wx o ov x s (.slice wa wn wc0)∧Below w.heap.size w wx))
 case first =>
  go_region_held3 (fun W=>W.cell? ⟨x.p,12,none⟩=some (.pointer (some ⟨x.q,0,none⟩))∧W.cell? ⟨x.p,13,none⟩=some (.pointer (some ⟨x.r,0,none⟩))∧W.cell? ⟨x.p,16,none⟩=some (.int .u64 s.bad)∧W.cell? ⟨x.p,17,none⟩=some (.int .u32 s.lp)∧W.cell? ⟨x.p,19,none⟩=some (.int .i64 s.rep)∧W.cell? ⟨x.p,20,none⟩=some (.int .i64 s.ali)∧W.cell? ⟨x.p,21,none⟩=some (.int .u32 s.tr))
   (first|with_reducible exact hx0.seven|with_reducible exact hx1.seven|with_reducible exact ZQ.stored H0.out hx1 _ _ _ _ _ _ _ _ _ _)
   (first
    | (go_at_call 67; (with_reducible refine (ML.out _ ‹_›).mono ?_); rintro en wx ⟨la, lc, rfl, rl, al, hbx⟩
       have hx1:=ZQ.later ‹_› hbx;(try have rr:=rr.later u1_len hbx))
    | (go_at_call 68; (with_reducible refine (MR.out _ ‹_›).mono ?_); rintro en wx ⟨ra, rc, rfl, rr, ar, hbx⟩
       have hx1:=ZQ.later ‹_› hbx;(try have rl:=rl.later u1_len hbx))
    | (go_at_call 35; (with_reducible refine (WO.out _ ‹_›).mono ?_); rintro en wx ⟨rfl, hbx⟩
       have hx1:=ZQ.later ‹_› hbx;(try have rl:=rl.later u1_len hbx);(try have rr:=rr.later u1_len hbx))
    |(go_at_call 69;(with_reducible refine(TO.out _ ‹_›).mono ?_);rintro en wx ⟨rfl,rfl⟩;have q0:=hx1.zb.c 0 _ rfl;have q1:=hx1.zb.c 1 _ rfl;have q2:=hx1.zb.c 2 _ rfl;have q3:=hx1.zb.c 3 _ rfl;have q4:=hx1.zb.c 4 _ rfl;have q5:=hx1.zb.c 5 _ rfl;have q6:=hx1.zb.c 6 _ rfl;have q7:=hx1.zb.c 7 _ rfl;have q8:=hx1.zb.c 8 _ rfl;have q9:=hx1.zb.c 9 _ rfl;have f0:=hx1.zb.fr 0;have f1:=hx1.zb.fr 1;have f2:=hx1.zb.fr 2;have f3:=hx1.zb.fr 3;have f4:=hx1.zb.fr 4;have f5:=hx1.zb.fr 5;have f6:=hx1.zb.fr 6;have f7:=hx1.zb.fr 7;have f8:=hx1.zb.fr 8;have f9:=hx1.zb.fr 9))
  all_goals
   go_wp2
   go_meet
   refine⟨la,lc,ra,rc,hd0 ⟨?ca,?cb,?cc,?cd,?ce,?cf⟩⟩
   case ca=>with_reducible exact hx1.zb.ten rfl _ _ _ _ _ _ _ _ _ _
   case cb=>with_reducible exact rl.ten u1_len al _ _ _ _ _ _ _ _ _ _
   case cc=>with_reducible exact rr.ten u1_len ar _ _ _ _ _ _ _ _ _ _
   case cd=>with_reducible exact hx1.wy.ten rqC_len HGA.out _ _ _ _ _ _ _ _ _ _
   case ce=>with_reducible exact MM.ten H0.out hx1.mm (Nat.le_refl _) _ _ _ _ _ _ _ _ _ _
   case cf=>with_reducible exact below_ten hx1.bel (Nat.le_refl _)
 case rest =>
  obtain⟨la,lc,ra,rc,HC⟩:=hcut
  obtain⟨h1,h2,h3,h4,h5,h6⟩:=HC.out
  go_wp2_with fail
  exact bodyPost_ret (v:=.agg #[.slice la nl lc,.slice ra nr rc,.int .u8 kw,.int .u8 s.al.td,.int .u64 s.bad,.int .u32 s.lp,.int .i64 s.rep,.int .i64 s.ali,.int .u32 s.tr,.slice (some ⟨g,0,none⟩) wn wn]) (res_one (p:=2) (d:=_) rfl rfl Tryz.underlying69 _ _ w.heap.size _ rfl h1 IT.out) rfl ⟨_,_,_,by rw[hkw],h2,h3,h4,h5,h6⟩
theorem Fr.cells {D:Nat→Prop}{t:Nat}(ht:D t):∀ (vs:List Value) (o:Nat) (W:World),Fr D W (W.setCells t o vs)
 |[],_,_=>Fr.refl _ _
 | u::r,o,W=>(Fr.set ht o u).trans (Fr.cells ht r (o+1) _)
structure PM (w W:World)(R:Nat)(A:Array Value)(o:Ow20)(ov:Value)(x:Mp)(s:Ms)(wv:Value)(v:Rv)(r:Rf):Prop where
 mm:MM W o ov x s wv
 gb:GB 44 W R A
 oh:Ow 7 hdC 147 W (R+1) v.hv r.hd
 os:Ow 1 u8C 5 W (R+1) v.sv r.ws
 oy:Ow 17 rqC 153 W (R+1) v.yv r.way
 vo:v.ov=ov
 bel:Below w.heap.size w W
 lo:∀ k,x.D wv k→w.heap.size≤k
 br:w.heap.size≤R
 nr:∀ k,x.D wv k→k≠R
 nh:∀ g,(v.hv.ownBlock=some g∨v.sv.ownBlock=some g∨v.yv.ownBlock=some g)→¬ x.D wv g
 asz:A.size=22
section
variable {w W W':World} {R:Nat} {A:Array Value} {o:Ow20} {ov:Value} {x:Mp} {s s':Ms} {wv wv':Value} {v v':Rv} {r r':Rf} {ks:List Int}
theorem PM.rx (h:PM w W R A o ov x s wv v r)(hk:Rw 1 u1 w ov ks):RX W ks v r:=⟨by rw[h.vo];exact hk.later u1_len h.bel,h.oh.rw hdC_len,h.os.rw u8C_len,h.oy.rw rqC_len⟩
theorem PM.later (h:PM w W R A o ov x s wv v r)(hb:Below W.heap.size W W'):PM w W' R A o ov x s wv v r :=
 ⟨h.mm.later hb,h.gb.later hb,h.oh.later hb,h.os.later hb,h.oy.later hb,h.vo,h.bel.trans (hb.mono h.bel.size),h.lo,h.br,h.nr,h.nh,h.asz⟩
theorem PM.drew (h:PM w W R A o ov x s wv v r):PM w W.drew R A o ov x s wv v r:=h.later (Below.refl _ _).drew
theorem PM.mach (h:PM w W R A o ov x s wv v r)(hm:MM W' o ov x s' wv')(hf:Fr (x.D wv) W W')(hw:∀ g,wv'.ownBlock=some g→wv.ownBlock=some g∨W.heap.size≤g):PM w W' R A o ov x s' wv' v r:=by
 have hd:∀ k,x.D wv' k→x.D wv k∨W.heap.size≤k:=fun k hk=>by
  rcases hk with e|e|e|e|e
  ·exact .inl (.inl e)
  ·exact .inl (.inr (.inl e))
  ·exact .inl (.inr (.inr (.inl e)))
  ·exact .inl (.inr (.inr (.inr (.inl e))))
  ·rcases hw k e with e|e
   ·exact .inl (.inr (.inr (.inr (.inr e))))
   ·exact .inr e
 refine⟨hm,h.gb.fr' hf (fun e=>h.nr _ e rfl),h.oh.fr hf (fun g hg=>h.nh g (.inl hg)),h.os.fr hf (fun g hg=>h.nh g (.inr (.inl hg))),h.oy.fr hf (fun g hg=>h.nh g (.inr (.inr hg))),h.vo,h.bel.trans (hf.below h.bel.size (fun k hk hdk=>by have:=h.lo k hdk;omega)),?_,h.br,?_,?_,h.asz⟩
 ·intro k hk
  have:=h.bel.size
  rcases hd k hk with e|e
  ·exact h.lo k e
  ·omega
 ·intro k hk
  have:=h.gb.lt
  rcases hd k hk with e|e
  ·exact h.nr k e
  ·omega
 ·intro g hg hk
  rcases hd g hk with e|e
  ·exact h.nh g hg e
  ·rcases hg with hg|hg|hg
   ·have:=(h.oh.lt hg).2;omega
   ·have:=(h.os.lt hg).2;omega
   ·have:=(h.oy.lt hg).2;omega
theorem PM.ref (h:PM w W R A o ov x s wv v r)(hb:Below W.heap.size W W')(e0:v'.ov=v.ov)(e1:(v'.hv=v.hv∧r'.hd=r.hd)∨Ow 7 hdC 147 W' W.heap.size v'.hv r'.hd)(e2:(v'.sv=v.sv∧r'.ws=r.ws)∨Ow 1 u8C 5 W' W.heap.size v'.sv r'.ws)(e3:(v'.yv=v.yv∧r'.way=r.way)∨Ow 17 rqC 153 W' W.heap.size v'.yv r'.way):PM w W' R A o ov x s wv v' r':=by
 have hR:=h.gb.lt
 have hD:∀ k,x.D wv k→k<W.heap.size:=fun k hk=>h.mm.ltD hk
 refine⟨h.mm.later hb,h.gb.later hb,?_,?_,?_,e0.trans h.vo,h.bel.trans (hb.mono h.bel.size),h.lo,h.br,h.nr,?_,h.asz⟩
 ·rcases e1 with⟨a,b⟩|e
  ·rw[a,b];exact h.oh.later hb
  ·exact e.mono (by omega)
 ·rcases e2 with⟨a,b⟩|e
  ·rw[a,b];exact h.os.later hb
  ·exact e.mono (by omega)
 ·rcases e3 with⟨a,b⟩|e
  ·rw[a,b];exact h.oy.later hb
  ·exact e.mono (by omega)
 ·intro g hg hk
  have hl:=hD g hk
  rcases hg with hg|hg|hg
  ·rcases e1 with⟨a,b⟩|e
   ·exact h.nh g (.inl (by rw[←a];exact hg)) hk
   ·have:=(e.lt hg).1;omega
  ·rcases e2 with⟨a,b⟩|e
   ·exact h.nh g (.inr (.inl (by rw[←a];exact hg))) hk
   ·have:=(e.lt hg).1;omega
  ·rcases e3 with⟨a,b⟩|e
   ·exact h.nh g (.inr (.inr (by rw[←a];exact hg))) hk
   ·have:=(e.lt hg).1;omega
theorem PM.one (h:PM w W R A o ov x s wv v r)(hk:Rw 1 u1 w ov ks):(rfA o v r).all (·.oneCell')=true:=(h.rx hk).one o r
theorem PM.put (h:PM w W R A o ov x s wv v r)(h1:(rfA o v r).all (·.oneCell')=true):PM w (W.setCells R 0 (rfA o v r).toList) R (rfA o v r) o ov x s wv v r:=by
 have hf:Fr (fun k=>k=R) W (W.setCells R 0 (rfA o v r).toList):=Fr.cells (D:=fun k=>k=R) rfl _ _ _
 exact⟨h.mm.fr hf (fun k hk e=>h.nr k hk e),h.gb.store (h.asz.trans (rfA_size o v r).symm) h1,h.oh.cellsLow (by omega) _ _ _,h.os.cellsLow (by omega) _ _ _,h.oy.cellsLow (by omega) _ _ _,h.vo,below_cellsG h.br _ _ _ h.bel,h.lo,h.br,h.nr,h.nh,rfA_size o v r⟩
theorem PM.state {j:Nat}(h:PM w W R A o ov x s wv v r)(hk:Rw 1 u1 w ov ks)(hkl:ks.length≤1000)(hkb:∀ x∈ks,1≤x∧x≤8191)(hlw:0≤o.lw∧o.lw<256)(hr:RJ j r)(hj:j≤900)(hl:Rel o ks s r) :
  Calls Tryz.prog 21 #[.pointer (some ⟨x.p,0,none⟩)] W fun en w'=>∃ z,en=.returned z∧(PM w w' R A o ov x s wv v r∧Calls Tryz.prog 20 #[z,.agg (rfA o v r)] w' fun en w''=>en=.returned (.bool true)∧Below w'.heap.size w' w''):=by
 have hwl:s.way.length≤1000:=by rw[hl.way];have:=hr.wy;omega
 refine(mstate_any o ov x s wv hwl W h.mm).mono fun en w' ⟨vl,vr,vw,he,h1,h2,h3,hm,hb⟩=>⟨_,he,h.later hb,?_⟩
 have e1:wstM s=worst20 o ks r:=Rel.worst hkb hl.inv r rfl rfl
 have e2:s.al.td=told20 o r:=hl.ar.td
 rw[e1,e2,hl.bad,hl.lp,hl.rep,hl.ali,hl.tr]
 rw[hl.inv.lost,← lost_all hkb] at h1
 rw[hl.inv.rdis,← rdis_all hkb] at h2
 rw[hl.way] at h3
 exact same20_any o hlw ks hkl hkb v r (hr.rk hj).ok h.os.cap (Nat.le_trans (pickN_le _ _ _) hkl) (Nat.le_trans (pickN_le _ _ _) hkl) vl vr vw w' ((h.later hb).rx hk) h1 h2 h3
end
theorem sentR_len (m:Mc)(a b c:Int)(f:List UInt8)(l:List Th):(sentR m a b c f l).length≤1:=by unfold sentR;split <;> simp
theorem tick20_len (o:Ow20)(ks:List Int)(r:Rf):(tick20 o ks r).2.1.length≤1000:=by
 unfold tick20 ckS
 show(ite _ _ _:List Sn).length≤1000
 split
 ·exact Nat.le_trans (sentR_len _ _ _ _ _ _) (by decide)
 ·simp
theorem op20_len (o:Ow20)(r:Rf)(sr ds:Mc)(a b c:Int)(f:List UInt8)(l:List Th):(op20 o r sr ds a b c f l).2.1.length≤1000:=by
 unfold op20
 split
 ·simp
 ·split
  ·show(an20 o sr ds a b c f l).1.length≤1000
   unfold an20
   (repeat' split) <;> first|exact Nat.le_trans (sentR_len _ _ _ _ _ _) (by decide)|simp
  ·split
   ·simp
   ·split
    ·show(sk20 o ds a b f).1.length≤1000
     unfold sk20
     split
     ·show(ite _ _ _:List Sn).length≤1000
      split
      ·exact Nat.le_trans (sentR_len _ _ _ _ _ _) (by decide)
      ·simp
     ·simp
    ·split <;> simp
theorem take20_len (o:Ow20)(r:Rf)(sr ds:Mc)(d:List UInt8):(take20 o r sr ds d).2.length≤1000:=by
 unfold take20
 split
 ·simp
 ·split
  ·simp
  ·exact op20_len ..
theorem rowStay {E:TypeId}{wb wd:World}{N R:Nat}{u:Value}{l:List Sn}(h:Ow 7 snC E wb N u l)(hR:R<N)(hb:Below wb.heap.size wb wd)(L:List Value):Rw 7 snC (wd.setCells R 0 L) u l:=((h.later hb).cellsLow hR _ _ _).rw snC_len
theorem take20_b1 (o:Ow20)(ho:o.Ok)(hlv:o.a.lv<8)(ks:List Int)(v:Rv)(r:Rf)(hr:Rk r)(sr ds:Mc)(hsr:sr.Ok)(hds:ds.Ok)(d:List UInt8)(hd:d.length≤1600)(he:(tkP d).2.2.2.2.2=0)(hl:(tkP d).1=o.a.lv)(hb:(tkP d).2.1=1)(w:World)(h:RX w ks v r) :
  Calls Tryz.prog 19 #[.agg (rfA o v r),.agg #[.int .u8 sr.a,.int .u8 sr.b,.int .u8 sr.c,.int .u8 sr.d,.int .u8 sr.e,.int .u8 sr.f],.agg #[.int .u8 ds.a,.int .u8 ds.b,.int .u8 ds.c,.int .u8 ds.d,.int .u8 ds.e,.int .u8 ds.f],.string (bs d)] w fun en w'=>∃ v' u,en=.returned (.tuple #[.agg (rfA o v' (take20 o r sr ds d).1),u])∧VN w.heap.size w' v v' r (take20 o r sr ds d).1∧Ow 7 snC 58 w' w.heap.size u (take20 o r sr ds d).2∧Below w.heap.size w w':=by
 have hpb:=tkP_b d hd
 have hbad:(op20 o r sr ds (tkP d).1 (tkP d).2.1 (tkP d).2.2.1 (tkP d).2.2.2.1 (tkP d).2.2.2.2.1).1.bad=r.bad:=op20_bad _ _ _ _ _ _ _ _ _
 have HT20:take20 o r sr ds d=(bad20 (op20 o r sr ds (tkP d).1 (tkP d).2.1 (tkP d).2.2.1 (tkP d).2.2.2.1 (tkP d).2.2.2.2.1).1 (op20 o r sr ds (tkP d).1 (tkP d).2.1 (tkP d).2.2.1 (tkP d).2.2.2.1 (tkP d).2.2.2.2.1).2.2,(op20 o r sr ds (tkP d).1 (tkP d).2.1 (tkP d).2.2.1 (tkP d).2.2.2.1 (tkP d).2.2.2.2.1).2.1):=by
  unfold take20;rw[if_neg (fun k=>k he),if_neg (fun k=>k hl)]
 have T12:∀ W:World,_:=fun W=>refTake12_any d W (by omega)
 rw[HT20]
 obtain⟨⟨a,b,c,f,l,e⟩,ht⟩:∃ z,tkP d=z:=⟨_,rfl⟩
 rw[ht] at hpb he hl hb hbad ⊢
 simp only[ht] at T12
 simp only at hpb he hl hb hbad ⊢
 subst he hl hb
 obtain⟨⟨r1,out,g⟩,hop⟩:∃ z,op20 o r sr ds o.a.lv 1 c f l=z:=⟨_,rfl⟩
 rw[hop] at hbad ⊢
 simp only at hbad ⊢
 have HOP:=hd0 hop
 have T12:=hd0 T12
 have HX:=hd0 h
 have HO:=hd0 ho
 have HR:=hd0 hr
 have HMC:=hd0 (And.intro hsr hds)
 have HPB:=hd0 hpb
 have hb1:0≤r1.bad∧r1.bad≤900:=by rw[hbad];exact⟨hr.ok.bad.1,hr.bad⟩
 have wb1:IntKind.u64.wrap (r1.bad+1)=r1.bad+1:=IntWalk.u64_in _ (by omega)
 have hpc:0≤c∧c<256:=hpb.pc
 have wl:IntKind.i64.wrap o.a.lv=o.a.lv:=IntWalk.i64_in _ (by have:=ho.a.lv;omega)
 have dll:(o.a.lv != o.a.lv)=false:=by simp
 have LV:Hid (∀ W,Calls Tryz.prog 44 #[.int .i64 o.a.lv] W fun en w'=>en=.returned (.tuple #[.agg #[.int .u8 1,.int .u8 128,.int .u8 194,.int .u8 0,.int .u8 0,.int .u8 (48+o.a.lv)],.agg #[.int .u8 1,.int .u8 128,.int .u8 194,.int .u8 0,.int .u8 0,.int .u8 (56+o.a.lv)]])∧Below W.heap.size W w'):=hd0 fun W=>refLevels_any o.a.lv W HO.out.a.lv.1 hlv
 obtain⟨MI,hMI⟩:∃ D,decide (ds=o.mc)=D:=⟨_,rfl⟩
 have EQ:∀ W:World,(binOp .eql 25 (.agg #[.int .u8 ds.a,.int .u8 ds.b,.int .u8 ds.c,.int .u8 ds.d,.int .u8 ds.e,.int .u8 ds.f]) (.agg #[.int .u8 o.mc.a,.int .u8 o.mc.b,.int .u8 o.mc.c,.int .u8 o.mc.d,.int .u8 o.mc.e,.int .u8 o.mc.f])).run Tryz.prog W=.ok (.bool MI) W:=fun W=>by rw[←hMI];exact eql_macG ds o.mc W
 have HMI:=hd0 hMI
 have T0:=hd0 (TKr.begin w o v r sr ds)
 clear hop h ho hr hsr hds hd hpb ht HT20 hMI hlv hbad
 go_enter Tryz.func19,Tryz.ntmps19
 go_upto_region 1 with fail
 obtain⟨w0,hw0⟩:∃ z,(((w.alloc (.cells (rfA o v r) 44)).alloc (.cells #[.int .u8 sr.a,.int .u8 sr.b,.int .u8 sr.c,.int .u8 sr.d,.int .u8 sr.e,.int .u8 sr.f] 25)).alloc (.cells #[.int .u8 ds.a,.int .u8 ds.b,.int .u8 ds.c,.int .u8 ds.d,.int .u8 ds.e,.int .u8 ds.f] 25)).alloc (.cells yP 44)=z:=⟨_,rfl⟩
 rw[hw0] at T0 ⊢
 clear hw0
 go_wp2_with fail
 with_reducible refine(T12.out _).mono ?_
 rintro en w1 ⟨vl,rfl,htl,hb1'⟩
 have T1:=hd0 (T0.out.later hb1')
 obtain⟨ax,cx,hvx,-⟩:=htl.tls.shape
 obtain⟨n1,hn1⟩:∃ n,l.length=n:=⟨_,rfl⟩
 rw[hn1] at hvx
 subst hvx
 have V1:=hd0 htl.tls
 clear htl hb1' T0 hn1 T12
 go_upto_region 2 with fail
 have g2:=PB.new 115 w1 o.a.lv 1 c f (.slice ax n1 cx)
 have hal:=(Below.refl w1.heap.size w1).alloc (Nat.le_refl _) (.cells #[.int .u8 o.a.lv,.int .u8 1,.int .u8 c,.string (bs f),.slice ax n1 cx] 115)
 have T2:=hd0 (T1.out.later hal)
 have V2:=hd0 (V1.out.later hal)
 have hq2:w.heap.size+4≤w1.heap.size:=T1.out.sz
 obtain⟨w2,hw2⟩:∃ z,w1.alloc (.cells #[.int .u8 o.a.lv,.int .u8 1,.int .u8 c,.string (bs f),.slice ax n1 cx] 115)=z:=⟨_,rfl⟩
 obtain⟨q,hq⟩:∃ z,w1.heap.size=z:=⟨_,rfl⟩
 rw[hw2] at T2 V2 g2 hal ⊢
 have VB0:∀ W,Below w1.heap.size w1 W→Tls W (.slice ax n1 cx) l:=fun W hb=>V1.out.later hb
 rw[hq] at g2 hq2 hal VB0 ⊢
 have VB:=hd0 VB0
 have B2:=hd0 hal
 have HQE:=hd0 hq
 have P2:=hd0 g2
 have HQ:=hd0 hq2
 have c0:w2.cell? ⟨w.heap.size,0,none⟩=some (.int .u8 o.a.lv):=T2.out.c 0 _ rfl
 clear hw2 hq g2 hal T1 V1 hq2 VB0
 go_upto_region 6 with(go_at_call 44;(with_reducible refine(LV.out _).mono ?_);rintro en w3 ⟨rfl,hb3⟩;have T3:=hd0 (T2.out.later hb3);have V3:=hd0 (V2.out.later hb3);have P3:=hd0 (P2.out.later hb3);have B3:Hid (Below q w1 w3):=hd0 (B2.out.trans (hb3.mono (by rw[←HQE.out];exact B2.out.size)));clear hb3)
 have A4:Below w3.heap.size w3 ((w3.alloc (.cells #[.int .u8 1,.int .u8 128,.int .u8 194,.int .u8 0,.int .u8 0,.int .u8 (48+o.a.lv)] 25)).alloc (.cells #[.int .u8 1,.int .u8 128,.int .u8 194,.int .u8 0,.int .u8 0,.int .u8 (56+o.a.lv)] 25)):=(bA _).alloc (by simp) _
 have GM:=GB.new 25 (w3.alloc (.cells #[.int .u8 1,.int .u8 128,.int .u8 194,.int .u8 0,.int .u8 0,.int .u8 (48+o.a.lv)] 25)) #[.int .u8 1,.int .u8 128,.int .u8 194,.int .u8 0,.int .u8 0,.int .u8 (56+o.a.lv)]
 rw[show(w3.alloc (.cells #[.int .u8 1,.int .u8 128,.int .u8 194,.int .u8 0,.int .u8 0,.int .u8 (48+o.a.lv)] 25)).heap.size=w3.heap.size+1 by simp] at GM
 obtain⟨w4,hw4⟩:∃ k,(w3.alloc (.cells #[.int .u8 1,.int .u8 128,.int .u8 194,.int .u8 0,.int .u8 0,.int .u8 (48+o.a.lv)] 25)).alloc (.cells #[.int .u8 1,.int .u8 128,.int .u8 194,.int .u8 0,.int .u8 0,.int .u8 (56+o.a.lv)] 25)=k:=⟨_,rfl⟩
 obtain⟨q3,hq3⟩:∃ k,w3.heap.size=k:=⟨_,rfl⟩
 have hq3s:w.heap.size+4≤w3.heap.size:=T3.out.sz
 rw[hw4] at A4 GM ⊢
 have T4:=hd0 (T3.out.later A4)
 have V4:=hd0 (V3.out.later A4)
 have P4:=hd0 (P3.out.later A4)
 have B4:Hid (Below q w1 w4):=hd0 (B3.out.trans (A4.mono (by rw[←HQE.out];exact B3.out.size)))
 rw[hq3] at GM hq3s ⊢
 have GM4:=hd0 GM
 have HQ3:=hd0 hq3s
 have d0:=T4.out.g6.c 0 _ rfl
 have d1:=T4.out.g6.c 1 _ rfl
 have d2:=T4.out.g6.c 2 _ rfl
 have d3:=T4.out.g6.c 3 _ rfl
 have d4:=T4.out.g6.c 4 _ rfl
 have d5:=T4.out.g6.c 5 _ rfl
 have m0:w4.cell? ⟨w.heap.size,5,none⟩=some (.int .u8 o.mc.a):=T4.out.c 5 _ rfl
 have m1:w4.cell? ⟨w.heap.size,6,none⟩=some (.int .u8 o.mc.b):=T4.out.c 6 _ rfl
 have m2:w4.cell? ⟨w.heap.size,7,none⟩=some (.int .u8 o.mc.c):=T4.out.c 7 _ rfl
 have m3:w4.cell? ⟨w.heap.size,8,none⟩=some (.int .u8 o.mc.d):=T4.out.c 8 _ rfl
 have m4:w4.cell? ⟨w.heap.size,9,none⟩=some (.int .u8 o.mc.e):=T4.out.c 9 _ rfl
 have m5:w4.cell? ⟨w.heap.size,10,none⟩=some (.int .u8 o.mc.f):=T4.out.c 10 _ rfl
 have k0:w4.cell? ⟨w.heap.size,0,none⟩=some (.int .u8 o.a.lv):=T4.out.c 0 _ rfl
 have p0:=P4.out.c0
 have p1:=P4.out.c1
 clear A4 GM hw4 hq3 hq3s T2 T3 V2 V3 P2 P3 B2 B3 c0 wl LV
 go_upto_block 0 with fail
 clear d0 d1 d2 d3 d4 d5 m0 m1 m2 m3 m4 m5 k0 p0 p1 EQ dll
 go_cut [15,16] (fun s15 s16 wx=>∃ (v':Rv) (F:Int),s16=.int .i64 F∧(F != 0)=(!g)∧Hid (TKr w wx o v' r1 sr ds)∧Hid (VN (w.heap.size+4) wx v v' r r1)∧Hid (Ow 7 snC 58 wx (w.heap.size+4) s15 out))
 case first =>
  obtain⟨⟨lv2,rd,iv,sq,me,md,e2⟩,htk⟩:∃ z,tkC o.a.lv 1 c f=z:=⟨_,rfl⟩
  have CK:Hid (∀ W,Calls Tryz.prog 57 #[.agg #[.int .u8 o.a.lv,.int .u8 1,.int .u8 c,.string (bs f),.slice ax n1 cx]] W fun en w'=>en=.returned (.tuple #[.agg #[.int .u8 lv2,.bool rd,.int .u8 iv,.int .u32 sq,.int .u16 me,.string (bs md)],.int .i64 e2])∧Below W.heap.size W w'):=hd0 fun W=>by
   have h:=refTake13_any (.slice ax n1 cx) o.a.lv 1 c f W HPB.out.pf HO.out.a.lv hpc ⟨_,_,_,rfl⟩
   rw[htk] at h;exact h
  have hop2:(if e2=0 then(({ r with hd:=r.hd++[(⟨r.nw,⟨lv2,rd,iv,sq,me,md⟩⟩:Hd)] } : Rf),([]:List Sn),true) else(r,[],false))=(r1,out,g):=by
   rw[←HOP.out];unfold op20 ck20;rw[if_pos rfl,htk];simp only[];split <;> rfl
  have p0:=P4.out.c0
  have p1:=P4.out.c1
  have p2:=P4.out.c2
  have p3:=P4.out.c3
  have p4:=P4.out.c4
  by_cases he2:e2=0
  rotate_left
  ·rw[if_neg he2] at hop2
   simp only[Prod.mk.injEq] at hop2
   obtain⟨rfl,rfl,rfl⟩:=hop2
   have de:(e2==0)=false:=by rw[beq_eq_false_iff_ne];exact he2
   have HE:=hd0 (show(e2 != 0)=(!false) by rw[Bool.not_false,bne_iff_ne];exact he2)
   clear he2 htk
   go_wp2_with (go_at_call 57;(with_reducible refine(CK.out _).mono ?_);rintro en w5 ⟨rfl,hb5⟩;have T5:=hd0 (T4.out.later (hb5.alloc hb5.size (.cells #[.int .u8 lv2,.bool rd,.int .u8 iv,.int .u32 sq,.int .u16 me,.string (bs md)] 118))))
   go_meet
   exact⟨v,e2,rfl,HE.out,T5,hd0 (VN.refl _ _ _ _),hd0 (Ow.none _ _)⟩
  subst he2
  rw[if_pos rfl] at hop2
  simp only[Prod.mk.injEq] at hop2
  obtain⟨hr1,rfl,rfl⟩:=hop2
  have HR1:=hd0 hr1.symm
  clear htk hr1
  go_upto_region 16 with(go_at_call 57;(with_reducible refine(CK.out _).mono ?_);rintro en w5 ⟨rfl,hb5⟩;have T5:=hd0 (T4.out.later hb5);clear hb5)
  have GX:=GB.new 118 w5 #[.int .u8 lv2,.bool rd,.int .u8 iv,.int .u32 sq,.int .u16 me,.string (bs md)]
  have T6:=hd0 (T5.out.later (bA (.cells #[.int .u8 lv2,.bool rd,.int .u8 iv,.int .u32 sq,.int .u16 me,.string (bs md)] 118)))
  have hqx:w.heap.size+4≤w5.heap.size:=T5.out.sz
  obtain⟨w6,hw6⟩:∃ k,w5.alloc (.cells #[.int .u8 lv2,.bool rd,.int .u8 iv,.int .u32 sq,.int .u16 me,.string (bs md)] 118)=k:=⟨_,rfl⟩
  obtain⟨q17,hq17⟩:∃ k,w5.heap.size=k:=⟨_,rfl⟩
  rw[hw6] at GX T6 ⊢
  rw[hq17] at GX hqx ⊢
  have GX6:=hd0 GX
  have HQX:=hd0 hqx
  have RH:Hid (Rw 7 hdC w6 v.hv r.hd):=hd0 (HX.out.hd.later hdC_len T6.out.bel)
  have HLEN:=hd0 HR.out.hd
  clear GX hw6 hq17 hqx T4 T5 p0 p1 p2 p3 p4
  have SX:Hid (∀ W,TKr w W o v r sr ds→GB 118 W q17 #[.int .u8 lv2,.bool rd,.int .u8 iv,.int .u32 sq,.int .u16 me,.string (bs md)]→W.cell? ⟨w.heap.size,13,none⟩=some (.int .i64 r.nw)∧W.cell? ⟨q17,0,none⟩=some (.int .u8 lv2)∧W.cell? ⟨q17,1,none⟩=some (.bool rd)∧W.cell? ⟨q17,2,none⟩=some (.int .u8 iv)∧W.cell? ⟨q17,3,none⟩=some (.int .u32 sq)∧W.cell? ⟨q17,4,none⟩=some (.int .u16 me)∧W.cell? ⟨q17,5,none⟩=some (.string (bs md))):=hd0 fun W h1 h2=>⟨h1.c 13 _ rfl,h2.c 0 _ rfl,h2.c 1 _ rfl,h2.c 2 _ rfl,h2.c 3 _ rfl,h2.c 4 _ rfl,h2.c 5 _ rfl⟩
  have SY:Hid (∀ W v' r',TKr w W o v' r' sr ds→GB 118 W q17 #[.int .u8 lv2,.bool rd,.int .u8 iv,.int .u32 sq,.int .u16 me,.string (bs md)]→r'.nw=r.nw→W.cell? ⟨w.heap.size,13,none⟩=some (.int .i64 r.nw)∧W.cell? ⟨q17,0,none⟩=some (.int .u8 lv2)∧W.cell? ⟨q17,1,none⟩=some (.bool rd)∧W.cell? ⟨q17,2,none⟩=some (.int .u8 iv)∧W.cell? ⟨q17,3,none⟩=some (.int .u32 sq)∧W.cell? ⟨q17,4,none⟩=some (.int .u16 me)∧W.cell? ⟨q17,5,none⟩=some (.string (bs md))):=hd0 fun W v' r' h1 h2 h3=>⟨by rw[←h3];exact h1.c 13 _ rfl,h2.c 0 _ rfl,h2.c 1 _ rfl,h2.c 2 _ rfl,h2.c 3 _ rfl,h2.c 4 _ rfl,h2.c 5 _ rfl⟩
  have N6:w.heap.size+4≤w6.heap.size:=T6.out.sz
  have k12:w6.drew.cell? ⟨w.heap.size,12,none⟩=some v.hv:=T6.out.drew.c 12 _ rfl
  refine wp_region_held_drew (S:=fun W=>W.cell? ⟨w.heap.size,13,none⟩=some (.int .i64 r.nw)∧W.cell? ⟨q17,0,none⟩=some (.int .u8 lv2)∧W.cell? ⟨q17,1,none⟩=some (.bool rd)∧W.cell? ⟨q17,2,none⟩=some (.int .u8 iv)∧W.cell? ⟨q17,3,none⟩=some (.int .u32 sq)∧W.cell? ⟨q17,4,none⟩=some (.int .u16 me)∧W.cell? ⟨q17,5,none⟩=some (.string (bs md))) (by kernel_rfl) (SX.out _ T6.out.drew (GX6.out.later (Below.refl _ _).drew)) (fun hHeld=>?_)
  refine tkH 0 ?_ ?h ?_
  case h=>(intro w hSw;go_simp;try with_reducible rfl)
  try simp only[Act.put,zz]
  refine tkH 3 ?_ ?h ?_
  case h=>(intro w hSw;go_simp;try with_reducible rfl)
  try simp only[Act.put,zz]
  refine tkH 4 ?_ ?h ?_
  case h=>(intro w hSw;go_simp;try with_reducible rfl)
  try simp only[Act.put,zz]
  refine tkH 5 ?_ ?h ?_
  case h=>(intro w hSw;go_simp;try with_reducible rfl)
  try simp only[Act.put,zz]
  refine tkH 6 ?_ ?h ?_
  case h=>(intro w hSw;go_simp;try with_reducible rfl)
  try simp only[Act.put,zz]
  refine wpAnyH_ready (rs:=[1,7]) (by kernel_rfl) (by simp) (AllReadyH.cons rfl (fun K hK=>?_) (AllReadyH.cons rfl (fun K hK=>?_) AllReadyH.nil))
  ·(go_simp;refine hK.out _ _ (SX.out _ T6.out.drew (GX6.out.later (Below.refl _ _).drew)) (fun hHeld=>?_);clear hK K;try simp only[Act.put,zz])
   refine wpAnyH_ready (rs:=[2,7]) (by kernel_rfl) (by simp) (AllReadyH.cons rfl (fun K hK=>?_) (AllReadyH.cons rfl (fun K hK=>?_) AllReadyH.nil))
   ·clear k12
    (rw[if_pos (by rfl)];refine wp_append_rw hdC_len hdC_one 147 38 _ 40 Tryz.underlying38 info_hd rfl (by decide) (by decide) (.const (.slice none 0 0)) (.tmp 72) rfl w6.heap.size (.slice none 0 0) [] rfl (Ow.none _ _) v.hv r.hd rfl (RH.out.later hdC_len (Below.refl _ _).drew) (by have:=HLEN.out;simp;omega) (Nat.le_refl _) ?_;intro v1 w7 ho7 hb7;have hb7':Below w6.heap.size w6 w7:=((Below.refl _ _).drew).trans hb7;refine hK.out _ _ (SX.out _ (T6.out.later hb7') (GX6.out.later hb7')) (fun hHeld=>?_);clear hK K;try simp only[Act.put,zz])
    have HO7:=hd0 ho7
    have HB7:=hd0 hb7'
    clear ho7 hb7 hb7'
    have B8:Below w6.heap.size w6 (w7.alloc (.cells #[.int .i64 r.nw,.int .u8 lv2,.bool rd,.int .u8 iv,.int .u32 sq,.int .u16 me,.string (bs md)] 147)):=HB7.out.alloc HB7.out.size _
    refine rdH 7 fun K hK=>?_
    (go_simp;refine hK.out _ _ (SX.out _ (T6.out.later B8) (GX6.out.later B8)) (fun hHeld=>?_);clear hK K;try simp only[Act.put,zz])
    refine rdH 8 fun K hK=>?_
    (rw[if_pos (by rfl)];refine wp_append_rw hdC_len hdC_one 147 38 _ 40 Tryz.underlying38 info_hd rfl (by decide) (by decide) (.tmp 73) (.tmp 78) rfl w6.heap.size _ ([]++r.hd) rfl (HO7.out.later (bA _)) _ [(⟨r.nw,⟨lv2,rd,iv,sq,me,md⟩⟩:Hd)] rfl ((Ow.lit (E:=147) hdC_len _ 0 (⟨r.nw,⟨lv2,rd,iv,sq,me,md⟩⟩:Hd) #[.int .i64 r.nw,.int .u8 lv2,.bool rd,.int .u8 iv,.int .u32 sq,.int .u16 me,.string (bs md)] rfl (Nat.zero_le _)).rw hdC_len) (by have:=HLEN.out;simp;omega) B8.size ?_;intro v2 w9 ho9 hb9;rw[List.nil_append] at ho9;have hb9':Below w6.heap.size w6 w9:=B8.trans hb9;obtain⟨s2,c2,rfl,-⟩:=ho9.cap;obtain⟨LN,hLN⟩:∃ k,(r.hd++[(⟨r.nw,⟨lv2,rd,iv,sq,me,md⟩⟩:Hd)]).length=k:=⟨_,rfl⟩;rw[hLN] at ho9 ⊢;clear hLN;refine hK.out _ _ (SX.out _ (T6.out.later hb9') (GX6.out.later hb9')) (fun hHeld=>?_);clear hK K;try simp only[Act.put,zz])
    clear HB7 HO7
    have T9:=hd0 (T6.out.later hb9')
    have G9:=hd0 (GX6.out.later hb9')
    have HO9:=hd0 ho9
    clear hb9 hb9' ho9
    have f12:=T9.out.gb.fr 12
    have c12:=T9.out.c 12 v.hv rfl
    obtain⟨vn,hvn⟩:∃ y:Rv,y={ v with hv:=.slice s2 LN c2 }:=⟨_,rfl⟩
    have T10:Hid (TKr w (w9.setCell ⟨w.heap.size,12,none⟩ (.slice s2 LN c2)) o vn r1 sr ds):=hd0 (by rw[hvn,HR1.out];exact T9.out.set 12 _ (rfA_hd o v r _ _))
    have O10:=hd0 ((HO9.out.wk N6).setLow (t:=w.heap.size) (j:=12) (by omega) (.slice s2 LN c2))
    have G10:=hd0 (G9.out.other (t:=w.heap.size) (o:=12) (by have:=HQX.out;omega) (.slice s2 LN c2))
    have S10:=hd0 (SY.out _ _ _ T10.out G10.out (by rw[HR1.out]))
    refine tkH 9 ?_ ?h ?_
    case h=>(intro w hSw;go_simp;try with_reducible rfl)
    try simp only[Act.put,zz]
    refine rdH 10 fun K hK=>?_
    (go_simp;refine hK.out _ _ S10.out (fun hHeld=>?_);clear hK K;try simp only[Act.put,zz])
    refine wpAnyH_done (by kernel_rfl) ?_ _
    clear hHeld
    go_wp2_with fail
    go_meet
    exact⟨vn,0,rfl,rfl,T10,hd0 ⟨by rw[hvn],by rw[hvn],by rw[HR1.out],by rw[HR1.out],.inr (by rw[hvn,HR1.out];exact O10.out),.inl ⟨by rw[hvn],by rw[HR1.out]⟩⟩,hd0 (Ow.none _ _)⟩
   ·clear k12
    (go_simp;have B7:Below w6.heap.size w6 (w6.drew.alloc (.cells #[.int .i64 r.nw,.int .u8 lv2,.bool rd,.int .u8 iv,.int .u32 sq,.int .u16 me,.string (bs md)] 147)):=((Below.refl _ _).drew).alloc (Nat.le_refl _) _;have L7:=Ow.lit (E:=147) hdC_len w6.drew 0 (⟨r.nw,⟨lv2,rd,iv,sq,me,md⟩⟩:Hd) #[.int .i64 r.nw,.int .u8 lv2,.bool rd,.int .u8 iv,.int .u32 sq,.int .u16 me,.string (bs md)] rfl (Nat.zero_le _);have k12:((w6.alloc (.cells #[.int .i64 r.nw,.int .u8 lv2,.bool rd,.int .u8 iv,.int .u32 sq,.int .u16 me,.string (bs md)] 147)).drew).cell? ⟨w.heap.size,12,none⟩=some v.hv:=(T6.out.later B7).c 12 _ rfl;refine hK.out _ _ (SX.out _ (T6.out.later B7) (GX6.out.later B7)) (fun hHeld=>?_);clear hK K;try simp only[Act.put,zz])
    refine rdH 2 fun K hK=>?_
    (rw[if_pos (by rfl)];refine wp_append_rw hdC_len hdC_one 147 38 _ 40 Tryz.underlying38 info_hd rfl (by decide) (by decide) (.const (.slice none 0 0)) (.tmp 72) rfl (w6.heap.size+1) (.slice none 0 0) [] rfl (Ow.none _ _) v.hv r.hd rfl (RH.out.later hdC_len B7) (by have:=HLEN.out;simp;omega) (by simp) ?_;intro v1 w8 ho8 hb8;have hb8':Below w6.heap.size w6 w8:=B7.trans (hb8.mono (Nat.le_succ _));refine hK.out _ _ (SX.out _ (T6.out.later hb8') (GX6.out.later hb8')) (fun hHeld=>?_);clear hK K;try simp only[Act.put,zz])
    have L8:=hd0 (Rw.below1 hdC_len (L7.rw hdC_len) (C:=w6.heap.size+1) (by intro g hg;cases hg;simp) hb8)
    have HO8:=hd0 ho8
    have HB8:=hd0 hb8'
    clear ho8 hb8 hb8' L7 k12
    refine rdH 8 fun K hK=>?_
    (rw[if_pos (by rfl)];refine wp_append_rw hdC_len hdC_one 147 38 _ 40 Tryz.underlying38 info_hd rfl (by decide) (by decide) (.tmp 73) (.tmp 78) rfl w6.heap.size _ ([]++r.hd) rfl (HO8.out.wk (Nat.le_succ _)) _ [(⟨r.nw,⟨lv2,rd,iv,sq,me,md⟩⟩:Hd)] rfl L8.out (by have:=HLEN.out;simp;omega) HB8.out.size ?_;intro v2 w9 ho9 hb9;rw[List.nil_append] at ho9;have hb9':Below w6.heap.size w6 w9:=HB8.out.trans hb9;obtain⟨s2,c2,rfl,-⟩:=ho9.cap;obtain⟨LN,hLN⟩:∃ k,(r.hd++[(⟨r.nw,⟨lv2,rd,iv,sq,me,md⟩⟩:Hd)]).length=k:=⟨_,rfl⟩;rw[hLN] at ho9 ⊢;clear hLN;refine hK.out _ _ (SX.out _ (T6.out.later hb9') (GX6.out.later hb9')) (fun hHeld=>?_);clear hK K;try simp only[Act.put,zz])
    clear HB8 HO8 L8
    have T9:=hd0 (T6.out.later hb9')
    have G9:=hd0 (GX6.out.later hb9')
    have HO9:=hd0 ho9
    clear hb9 hb9' ho9
    have f12:=T9.out.gb.fr 12
    have c12:=T9.out.c 12 v.hv rfl
    obtain⟨vn,hvn⟩:∃ y:Rv,y={ v with hv:=.slice s2 LN c2 }:=⟨_,rfl⟩
    have T10:Hid (TKr w (w9.setCell ⟨w.heap.size,12,none⟩ (.slice s2 LN c2)) o vn r1 sr ds):=hd0 (by rw[hvn,HR1.out];exact T9.out.set 12 _ (rfA_hd o v r _ _))
    have O10:=hd0 ((HO9.out.wk N6).setLow (t:=w.heap.size) (j:=12) (by omega) (.slice s2 LN c2))
    have G10:=hd0 (G9.out.other (t:=w.heap.size) (o:=12) (by have:=HQX.out;omega) (.slice s2 LN c2))
    have S10:=hd0 (SY.out _ _ _ T10.out G10.out (by rw[HR1.out]))
    refine tkH 9 ?_ ?h ?_
    case h=>(intro w hSw;go_simp;try with_reducible rfl)
    try simp only[Act.put,zz]
    refine rdH 10 fun K hK=>?_
    (go_simp;refine hK.out _ _ S10.out (fun hHeld=>?_);clear hK K;try simp only[Act.put,zz])
    refine wpAnyH_done (by kernel_rfl) ?_ _
    clear hHeld
    go_wp2_with fail
    go_meet
    exact⟨vn,0,rfl,rfl,T10,hd0 ⟨by rw[hvn],by rw[hvn],by rw[HR1.out],by rw[HR1.out],.inr (by rw[hvn,HR1.out];exact O10.out),.inl ⟨by rw[hvn],by rw[HR1.out]⟩⟩,hd0 (Ow.none _ _)⟩
  ·clear k12
   (go_simp;have B7:Below w6.heap.size w6 (w6.drew.alloc (.cells #[.int .i64 r.nw,.int .u8 lv2,.bool rd,.int .u8 iv,.int .u32 sq,.int .u16 me,.string (bs md)] 147)):=((Below.refl _ _).drew).alloc (Nat.le_refl _) _;have L7:=Ow.lit (E:=147) hdC_len w6.drew 0 (⟨r.nw,⟨lv2,rd,iv,sq,me,md⟩⟩:Hd) #[.int .i64 r.nw,.int .u8 lv2,.bool rd,.int .u8 iv,.int .u32 sq,.int .u16 me,.string (bs md)] rfl (Nat.zero_le _);have k12:((w6.alloc (.cells #[.int .i64 r.nw,.int .u8 lv2,.bool rd,.int .u8 iv,.int .u32 sq,.int .u16 me,.string (bs md)] 147)).drew).cell? ⟨w.heap.size,12,none⟩=some v.hv:=(T6.out.later B7).c 12 _ rfl;refine hK.out _ _ (SX.out _ (T6.out.later B7) (GX6.out.later B7)) (fun hHeld=>?_);clear hK K;try simp only[Act.put,zz])
   refine rdH 1 fun K hK=>?_
   (go_simp;refine hK.out _ _ (SX.out _ (T6.out.later B7) (GX6.out.later B7)) (fun hHeld=>?_);clear hK K;try simp only[Act.put,zz])
   refine rdH 2 fun K hK=>?_
   (rw[if_pos (by rfl)];refine wp_append_rw hdC_len hdC_one 147 38 _ 40 Tryz.underlying38 info_hd rfl (by decide) (by decide) (.const (.slice none 0 0)) (.tmp 72) rfl (w6.heap.size+1) (.slice none 0 0) [] rfl (Ow.none _ _) v.hv r.hd rfl (RH.out.later hdC_len B7) (by have:=HLEN.out;simp;omega) (by simp) ?_;intro v1 w8 ho8 hb8;have hb8':Below w6.heap.size w6 w8:=B7.trans (hb8.mono (Nat.le_succ _));refine hK.out _ _ (SX.out _ (T6.out.later hb8') (GX6.out.later hb8')) (fun hHeld=>?_);clear hK K;try simp only[Act.put,zz])
   have L8:=hd0 (Rw.below1 hdC_len (L7.rw hdC_len) (C:=w6.heap.size+1) (by intro g hg;cases hg;simp) hb8)
   have HO8:=hd0 ho8
   have HB8:=hd0 hb8'
   clear ho8 hb8 hb8' L7 k12
   refine rdH 8 fun K hK=>?_
   (rw[if_pos (by rfl)];refine wp_append_rw hdC_len hdC_one 147 38 _ 40 Tryz.underlying38 info_hd rfl (by decide) (by decide) (.tmp 73) (.tmp 78) rfl w6.heap.size _ ([]++r.hd) rfl (HO8.out.wk (Nat.le_succ _)) _ [(⟨r.nw,⟨lv2,rd,iv,sq,me,md⟩⟩:Hd)] rfl L8.out (by have:=HLEN.out;simp;omega) HB8.out.size ?_;intro v2 w9 ho9 hb9;rw[List.nil_append] at ho9;have hb9':Below w6.heap.size w6 w9:=HB8.out.trans hb9;obtain⟨s2,c2,rfl,-⟩:=ho9.cap;obtain⟨LN,hLN⟩:∃ k,(r.hd++[(⟨r.nw,⟨lv2,rd,iv,sq,me,md⟩⟩:Hd)]).length=k:=⟨_,rfl⟩;rw[hLN] at ho9 ⊢;clear hLN;refine hK.out _ _ (SX.out _ (T6.out.later hb9') (GX6.out.later hb9')) (fun hHeld=>?_);clear hK K;try simp only[Act.put,zz])
   clear HB8 HO8 L8
   have T9:=hd0 (T6.out.later hb9')
   have G9:=hd0 (GX6.out.later hb9')
   have HO9:=hd0 ho9
   clear hb9 hb9' ho9
   have f12:=T9.out.gb.fr 12
   have c12:=T9.out.c 12 v.hv rfl
   obtain⟨vn,hvn⟩:∃ y:Rv,y={ v with hv:=.slice s2 LN c2 }:=⟨_,rfl⟩
   have T10:Hid (TKr w (w9.setCell ⟨w.heap.size,12,none⟩ (.slice s2 LN c2)) o vn r1 sr ds):=hd0 (by rw[hvn,HR1.out];exact T9.out.set 12 _ (rfA_hd o v r _ _))
   have O10:=hd0 ((HO9.out.wk N6).setLow (t:=w.heap.size) (j:=12) (by omega) (.slice s2 LN c2))
   have G10:=hd0 (G9.out.other (t:=w.heap.size) (o:=12) (by have:=HQX.out;omega) (.slice s2 LN c2))
   have S10:=hd0 (SY.out _ _ _ T10.out G10.out (by rw[HR1.out]))
   refine tkH 9 ?_ ?h ?_
   case h=>(intro w hSw;go_simp;try with_reducible rfl)
   try simp only[Act.put,zz]
   refine rdH 10 fun K hK=>?_
   (go_simp;refine hK.out _ _ S10.out (fun hHeld=>?_);clear hK K;try simp only[Act.put,zz])
   refine wpAnyH_done (by kernel_rfl) ?_ _
   clear hHeld
   go_wp2_with fail
   go_meet
   exact⟨vn,0,rfl,rfl,T10,hd0 ⟨by rw[hvn],by rw[hvn],by rw[HR1.out],by rw[HR1.out],.inr (by rw[hvn,HR1.out];exact O10.out),.inl ⟨by rw[hvn],by rw[HR1.out]⟩⟩,hd0 (Ow.none _ _)⟩
 case rest =>
  obtain⟨v',F,rfl,hF,TA,VA,UA⟩:=hcut
  have ONE:=hd0 (VA.out.one HX.out o)
  have IS:∀ r':Rf,(Tryz.prog.info? 44).map (·.size)=some (rfA o v' r').size:=fun r'=>info_mep
  have IL:∀ r':Rf,(Tryz.prog.info? 44).map (·.size)=some (rfA o v' r').toList.length:=fun r'=>info_mep
  cases g with
  | true =>
   have hF0:(F != 0)=false:=hF
   have BR:bad20 r1 true=r1:=rfl
   clear hF
   go_wp2_with (first
    |((with_reducible refine wpList_load_mid rfl 44 (.tmp 4) rfl w.heap.size 0 ?hx (rfA o v' r1).toList _ TA.out.rng Tryz.underlying44 ?hu (IL r1) ?_);(case hx=>rfl);(case hu=>rfl))
    |((with_reducible refine wpList_store_mid rfl 44 (.tmp 8) (.tmp 238) rfl (w.heap.size+3) 0 (rfA o v' r1) ?hx ?hy TA.out.thr (IS r1) (ONE.out r1) ?_);(case hx=>rfl);(case hy=>rfl)))
   exact bodyPost_ret (v:=.tuple #[.agg (rfA o v' r1),_]) (res_two (p:=8) (u:=9) (d:=_) rfl rfl Tryz.underlying44 _ _ (w.heap.size+3) _ rfl (TA.out.fin (ONE.out r1)) (IS r1)) rfl ⟨v',_,rfl,(VA.out.cells (by omega) _ _).wk (by omega),(UA.out.cellsLow (by omega) _ _).wk (by omega),below_cellsG (by omega) _ _ _ TA.out.bel⟩
  | false =>
   have hF0:(F != 0)=true:=hF
   clear hF
   have b15:∀ W,TKr w W o v' r1 sr ds→W.cell? ⟨w.heap.size,15,none⟩=some (.int .u64 r1.bad):=fun W h=>h.c 15 _ rfl
   have f15:=TA.out.gb.fr 15
   have k15:=b15 _ TA.out
   go_upto_region 49 with fail
   have TB2:=hd0 (TA.out.set 15 (.int .u64 (r1.bad+1)) (rfA_bad o v' r1 (r1.bad+1)))
   have VB2:=hd0 (VA.out.set (t:=w.heap.size) (by omega) 15 (.int .u64 (r1.bad+1)))
   have UB2:=hd0 (UA.out.setLow (t:=w.heap.size) (j:=15) (by omega) (.int .u64 (r1.bad+1)))
   clear b15 f15 k15 TA VA UA
   obtain⟨wb,hwb⟩:∃ z,wc.setCell ⟨w.heap.size,15,none⟩ (.int .u64 (r1.bad+1))=z:=⟨_,rfl⟩
   rw[hwb] at TB2 VB2 UB2 ⊢
   clear hwb
   obtain⟨r2,hr2⟩:∃ x:Rf,x={ r1 with bad:=r1.bad+1 }:=⟨_,rfl⟩
   have BR:bad20 r1 false=r2:=by rw[hr2];rfl
   rw[←hr2] at TB2
   have VB3:Hid (VN (w.heap.size+4) wb v v' r r2):=hd0 (by rw[hr2];exact⟨VB2.out.ov,VB2.out.sv,VB2.out.ws,VB2.out.nw,VB2.out.hd,VB2.out.wy⟩)
   clear hr2 VB2
   go_wp2_with (first
    |((with_reducible refine wpList_load_mid rfl 44 (.tmp 4) rfl w.heap.size 0 ?hx (rfA o v' r2).toList _ TB2.out.rng Tryz.underlying44 ?hu (IL r2) ?_);(case hx=>rfl);(case hu=>rfl))
    |((with_reducible refine wpList_store_mid rfl 44 (.tmp 8) (.tmp 238) rfl (w.heap.size+3) 0 (rfA o v' r2) ?hx ?hy TB2.out.thr (IS r2) (ONE.out r2) ?_);(case hx=>rfl);(case hy=>rfl)))
   exact bodyPost_ret (v:=.tuple #[.agg (rfA o v' r2),_]) (res_two (p:=8) (u:=9) (d:=_) rfl rfl Tryz.underlying44 _ _ (w.heap.size+3) _ rfl (TB2.out.fin (ONE.out r2)) (IS r2)) rfl ⟨v',_,by rw[BR];rfl,by rw[BR];exact(VB3.out.cells (by omega) _ _).wk (by omega),(UB2.out.cellsLow (by omega) _ _).wk (by omega),below_cellsG (by omega) _ _ _ TB2.out.bel⟩
end Go.Proofs.YtlkdfofpnmpidaaGreat
