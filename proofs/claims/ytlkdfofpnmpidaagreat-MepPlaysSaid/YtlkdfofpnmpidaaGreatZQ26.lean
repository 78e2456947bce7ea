/- ZQ26 -/
import Derived.Test.YtlkdfofpnmpidaaGreatZQ25
set_option linter.unusedVariables false
set_option linter.unusedSimpArgs false
set_option maxRecDepth 100000
set_option maxHeartbeats 16000000
namespace Go.Proofs.YtlkdfofpnmpidaaGreat
open Go.RowKit
theorem wpQuiet_loadO {P:Program}{ops:Array Oper}{C:World→Prop}{Q:Act→Prop}{o:Oper}{rest:List Oper}{a:Act}(ty:TypeId)(x:Operand)(b off:Nat)(A:Array Value)(hw:Region.wanted o (yielded ops a.tmps)=true)(ho:o.op=.load ty x)
  (hx:a.eval x=.pointer (some ⟨b,off,none⟩)) (hl:∀ w,C w→(Instr.loadAt ty (.pointer (some ⟨b,off,none⟩))).run P w=.ok (.agg A) w) (h:wpQuiet P ops C Q rest (a.put o.dst (.agg A))):wpQuiet P ops C Q (o::rest) a:=by
 rw[wpQuiet,if_pos hw]
 refine⟨.agg A,fun w hc=>?_,h⟩
 unfold Oper.quietAt execOp
 simp only[ho,hx,Sem.run_bind,hl w hc,Result.andThen_ok,Sem.run_pure]
 exact⟨rfl,rfl⟩
structure SB (w W:World)(o:Ow20)(v:Rv)(r:Rf)(A:Array Value):Prop where
 g2:GB 69 W w.heap.size A
 g3:GB 44 W (w.heap.size+1) (rfA o v r)
 bel:Below w.heap.size w W
theorem SB.later {w W W':World}{o:Ow20}{v:Rv}{r:Rf}{A:Array Value}(h:SB w W o v r A)(hb:Below W.heap.size W W'):SB w W' o v r A:=⟨h.g2.later hb,h.g3.later hb,h.bel.trans (hb.mono h.bel.size)⟩
theorem same20_any (o:Ow20)(hlw:0≤o.lw∧o.lw<256)(ks:List Int)(hkl:ks.length≤1000)(hkb:∀ x∈ks,1≤x∧x≤8191)(v:Rv)(r:Rf)(hr:r.Ok)(hc:∃ a c,v.sv=.slice a r.ws.length c∧r.ws.length≤c)
  (hll:(lost20 o ks r).length≤1000) (hrl:(rdis20 o ks r).length≤1000) (vl vr vw:Value) (w:World) (hx:RX w ks v r) (h1:Rw 1 u1 w vl (lost20 o ks r)) (h2:Rw 1 u1 w vr (rdis20 o ks r)) (h3:Rw 17 rqC w vw r.way) :
  Calls Tryz.prog 20 #[.agg #[vl,vr,.int .u8 (worst20 o ks r),.int .u8 (told20 o r),.int .u64 r.bad,.int .u32 r.lp,.int .i64 r.rep,.int .i64 r.ali,.int .u32 r.tr,vw],.agg (rfA o v r)] w fun en w'=>en=.returned (.bool true)∧Below w.heap.size w w':=by
 obtain⟨la,lc,rfl,-⟩:=h1.shape
 obtain⟨ra,rc,rfl,-⟩:=h2.shape
 obtain⟨ya,yc,rfl,hs1⟩:=h3.shape
 obtain⟨oa,oc,hov,hs2⟩:=hx.wy.shape
 have HS:=hd0 (And.intro hs1 hs2)
 have HX:=hd0 hx
 have LO:Hid (∀ W,Below w.heap.size w W→Calls Tryz.prog 63 #[.agg (rfA o v r)] W fun en w'=>∃ a c,en=.returned (.slice a (lost20 o ks r).length c)∧Rw 1 u1 w' (.slice a (lost20 o ks r).length c) (lost20 o ks r)∧Below W.heap.size W w'):=hd0 fun W hb=>(lost20_any o ks hkl hkb v r hr W (hx.belowW hb)).mono fun en w' ⟨u,he,ho,hb⟩=>by
  obtain⟨a,c,rfl⟩:=ho.sh oU_len
  exact⟨a,c,he,ho.rw oU_len,hb⟩
 have RO:Hid (∀ W,Below w.heap.size w W→Calls Tryz.prog 64 #[.agg (rfA o v r)] W fun en w'=>∃ a c,en=.returned (.slice a (rdis20 o ks r).length c)∧Rw 1 u1 w' (.slice a (rdis20 o ks r).length c) (rdis20 o ks r)∧Below W.heap.size W w'):=hd0 fun W hb=>(rdis20_any o ks hkl hkb v r hr W (hx.belowW hb)).mono fun en w' ⟨u,he,ho,hb⟩=>by
  obtain⟨a,c,rfl⟩:=ho.sh oU_len
  exact⟨a,c,he,ho.rw oU_len,hb⟩
 have WO:Hid (∀ W,Below w.heap.size w W→Calls Tryz.prog 41 #[.agg (rfA o v r)] W fun en w'=>en=.returned (.int .u8 (worst20 o ks r))∧Below W.heap.size W w'):=hd0 fun W hb=>worst20_any o ks hkl hkb v r hr W (hx.belowW hb)
 have TO:Hid (∀ W,Below w.heap.size w W→Calls Tryz.prog 65 #[.agg (rfA o v r)] W fun en w'=>en=.returned (.int .u8 (told20 o r))∧Below W.heap.size W w'):=hd0 fun W hb=>told20_any o hlw ks v r hr hc W (hx.belowW hb)
 have NU:Hid (∀ v1 v2 W,Rw 1 u1 W v1 (lost20 o ks r)→Rw 1 u1 W v2 (lost20 o ks r)→Calls Tryz.prog 62 #[v1,v2] W fun en w'=>en=.returned (.bool true)∧Below W.heap.size W w'):=hd0 fun v1 v2 W a1 a2=>numbers20_any v1 v2 _ _ W a1 a2 hll rfl
 have NR:Hid (∀ v1 v2 W,Rw 1 u1 W v1 (rdis20 o ks r)→Rw 1 u1 W v2 (rdis20 o ks r)→Calls Tryz.prog 62 #[v1,v2] W fun en w'=>en=.returned (.bool true)∧Below W.heap.size W w'):=hd0 fun v1 v2 W a1 a2=>numbers20_any v1 v2 _ _ W a1 a2 hrl rfl
 have HL1:=hd0 h1
 have HL2:=hd0 h2
 obtain⟨Ls,hLs⟩:∃ x,lost20 o ks r=x:=⟨_,rfl⟩
 obtain⟨Rs,hRs⟩:∃ x,rdis20 o ks r=x:=⟨_,rfl⟩
 rw[hLs] at LO NU HL1 ⊢
 rw[hRs] at RO NR HL2 ⊢
 obtain⟨ln,hln⟩:∃ x,Ls.length=x:=⟨_,rfl⟩
 obtain⟨rn,hrn⟩:∃ x,Rs.length=x:=⟨_,rfl⟩
 obtain⟨yn,hyn⟩:∃ x,r.way.length=x:=⟨_,rfl⟩
 have HYN:=hd0 hyn
 have hyn1:yn≤1000:=by have:=hr.wy;omega
 obtain⟨wo,hwo⟩:∃ x,worst20 o ks r=x:=⟨_,rfl⟩
 obtain⟨tz,hto⟩:∃ x,told20 o r=x:=⟨_,rfl⟩
 rw[hln] at LO HL1 ⊢
 rw[hrn] at RO HL2 ⊢
 rw[hyn] at hov ⊢
 rw[hwo] at WO ⊢
 rw[hto] at TO ⊢
 have HIL:=hd0 (show(Tryz.prog.info? 44).map (·.size)=some (rfA o v r).toList.length by show _=some 22;exact info_mep)
 have SX:Hid (∀ W,SB w W o v r #[.slice la ln lc,.slice ra rn rc,.int .u8 wo,.int .u8 tz,.int .u64 r.bad,.int .u32 r.lp,.int .i64 r.rep,.int .i64 r.ali,.int .u32 r.tr,.slice ya yn yc]→W.rangeAt (w.heap.size+1) 0 (rfA o v r).toList∧W.cell? ⟨w.heap.size,0,none⟩=some (.slice la ln lc)∧W.cell? ⟨w.heap.size,1,none⟩=some (.slice ra rn rc)∧W.cell? ⟨w.heap.size,2,none⟩=some (.int .u8 wo)∧W.cell? ⟨w.heap.size,3,none⟩=some (.int .u8 tz)∧W.cell? ⟨w.heap.size,4,none⟩=some (.int .u64 r.bad)∧W.cell? ⟨w.heap.size,9,none⟩=some (.slice ya yn yc)∧W.cell? ⟨w.heap.size+1,15,none⟩=some (.int .u64 r.bad)∧W.cell? ⟨w.heap.size+1,21,none⟩=some (.slice oa yn oc)):=hd0 fun W h=>⟨h.g3.range,h.g2.c 0 _ rfl,h.g2.c 1 _ rfl,h.g2.c 2 _ rfl,h.g2.c 3 _ rfl,h.g2.c 4 _ rfl,h.g2.c 9 _ rfl,h.g3.c 15 _ rfl,h.g3.c 21 _ (by rw[←hov];rfl)⟩
 have HOV:=hd0 hov
 clear hLs hRs hln hrn hyn hwo hto hr hc hll hrl hx h1 h2 h3 hs1 hs2 hkl hkb hlw hov
 go_enter Tryz.func20,Tryz.ntmps20
 go_upto_region 1 with fail
 have B0:Hid (SB w ((w.alloc (.cells #[.slice la ln lc,.slice ra rn rc,.int .u8 wo,.int .u8 tz,.int .u64 r.bad,.int .u32 r.lp,.int .i64 r.rep,.int .i64 r.ali,.int .u32 r.tr,.slice ya yn yc] 69)).alloc (.cells (rfA o v r) 44)) o v r #[.slice la ln lc,.slice ra rn rc,.int .u8 wo,.int .u8 tz,.int .u64 r.bad,.int .u32 r.lp,.int .i64 r.rep,.int .i64 r.ali,.int .u32 r.tr,.slice ya yn yc]):=hd0 (by
  have h:=GB.new 44 (w.alloc (.cells #[.slice la ln lc,.slice ra rn rc,.int .u8 wo,.int .u8 tz,.int .u64 r.bad,.int .u32 r.lp,.int .i64 r.rep,.int .i64 r.ali,.int .u32 r.tr,.slice ya yn yc] 69)) (rfA o v r)
  rw[show(w.alloc (.cells #[.slice la ln lc,.slice ra rn rc,.int .u8 wo,.int .u8 tz,.int .u64 r.bad,.int .u32 r.lp,.int .i64 r.rep,.int .i64 r.ali,.int .u32 r.tr,.slice ya yn yc] 69)).heap.size=w.heap.size+1 by simp] at h
  exact⟨(GB.new 69 w #[.slice la ln lc,.slice ra rn rc,.int .u8 wo,.int .u8 tz,.int .u64 r.bad,.int .u32 r.lp,.int .i64 r.rep,.int .i64 r.ali,.int .u32 r.tr,.slice ya yn yc]).later (bA _),h,(bA _).alloc (by simp) _⟩)
 obtain⟨w0,hw0⟩:∃ k,(w.alloc (.cells #[.slice la ln lc,.slice ra rn rc,.int .u8 wo,.int .u8 tz,.int .u64 r.bad,.int .u32 r.lp,.int .i64 r.rep,.int .i64 r.ali,.int .u32 r.tr,.slice ya yn yc] 69)).alloc (.cells (rfA o v r) 44)=k:=⟨_,rfl⟩
 rw[hw0] at B0 ⊢
 clear hw0
 go_cut [49] (fun s49 wx=>s49=.bool false∧Hid (SB w wx o v r #[.slice la ln lc,.slice ra rn rc,.int .u8 wo,.int .u8 tz,.int .u64 r.bad,.int .u32 r.lp,.int .i64 r.rep,.int .i64 r.ali,.int .u32 r.tr,.slice ya yn yc]))
 case first =>
  have B1:=hd0 (B0.out.later (Below.refl _ _).drew)
  refine wp_region_held_drew (S:=fun W=>W.rangeAt (w.heap.size+1) 0 (rfA o v r).toList∧W.cell? ⟨w.heap.size,0,none⟩=some (.slice la ln lc)∧W.cell? ⟨w.heap.size,1,none⟩=some (.slice ra rn rc)∧W.cell? ⟨w.heap.size,2,none⟩=some (.int .u8 wo)∧W.cell? ⟨w.heap.size,3,none⟩=some (.int .u8 tz)∧W.cell? ⟨w.heap.size,4,none⟩=some (.int .u64 r.bad)∧W.cell? ⟨w.heap.size,9,none⟩=some (.slice ya yn yc)∧W.cell? ⟨w.heap.size+1,15,none⟩=some (.int .u64 r.bad)∧W.cell? ⟨w.heap.size+1,21,none⟩=some (.slice oa yn oc)) (by kernel_rfl) (SX.out _ B1.out) (fun hHeld=>?_)
  refine tkH 0 ?_ ?h ?_
  case h=>(intro w hSw;go_simp;try with_reducible rfl)
  try simp only[Act.put,zz]
  refine tkH 1 ?_ ?h ?_
  case h=>(intro w hSw;go_simp;try with_reducible rfl)
  try simp only[Act.put,zz]
  refine wpAnyH_take (i:=2) (v:=.agg (rfA o v r).toList.toArray) rfl (by kernel_rfl) (by kernel_rfl) (by kernel_rfl) (fun _ _ _ h=>h) (yieldsIf_load_mid (by rfl) 44 (.tmp 3) rfl (w.heap.size+1) 0 rfl (rfA o v r).toList _ (fun _ h=>h.1) Tryz.underlying44 rfl HIL.out) (by assumption) ?_
  try simp only[Array.toArray_toList]
  try simp only[Act.put,zz]
  refine rdH 3 fun K hK=>?_
  (go_simp;go_at_call 63;(with_reducible refine(LO.out _ B1.out.bel).mono ?_);rintro en wx ⟨ua,uc,rfl,hu,hbx⟩;have B2:=hd0 (B1.out.later hbx);have U2:=hd0 hu;clear hu hbx;refine hK.out _ _ (SX.out _ B2.out) (fun hHeld=>?_);clear hK K;try simp only[Act.put,zz])
  refine rdH 4 fun K hK=>?_
  (go_simp;go_at_call 62;(with_reducible refine(NU.out _ _ _ (HL1.out.later u1_len B2.out.bel) U2.out).mono ?_);rintro en wx ⟨rfl,hbx⟩;have B3:=hd0 (B2.out.later hbx);clear hbx;refine hK.out _ _ (SX.out _ B3.out) (fun hHeld=>?_);clear hK K;try simp only[Act.put,zz])
  clear U2
  refine tkH 5 ?_ ?h ?_
  case h=>(intro w hSw;go_simp;try with_reducible rfl)
  try simp only[Act.put,zz]
  refine tkH 6 ?_ ?h ?_
  case h=>(intro w hSw;go_simp;try with_reducible rfl)
  try simp only[Act.put,zz]
  refine tkH 7 ?_ ?h ?_
  case h=>(intro w hSw;go_simp;try with_reducible rfl)
  try simp only[Act.put,zz]
  refine tkH 8 ?_ ?h ?_
  case h=>(intro w hSw;go_simp;try with_reducible rfl)
  try simp only[Act.put,zz]
  refine wpAnyH_take (i:=9) (v:=.agg (rfA o v r).toList.toArray) rfl (by kernel_rfl) (by kernel_rfl) (by kernel_rfl) (fun _ _ _ h=>h) (yieldsIf_load_mid (by rfl) 44 (.tmp 3) rfl (w.heap.size+1) 0 rfl (rfA o v r).toList _ (fun _ h=>h.1) Tryz.underlying44 rfl HIL.out) (by assumption) ?_
  try simp only[Array.toArray_toList]
  try simp only[Act.put,zz]
  refine rdH 10 fun K hK=>?_
  (go_simp;go_at_call 64;(with_reducible refine(RO.out _ B3.out.bel).mono ?_);rintro en wx ⟨ub,uc2,rfl,hu,hbx⟩;have B4:=hd0 (B3.out.later hbx);have U4:=hd0 hu;clear hu hbx;refine hK.out _ _ (SX.out _ B4.out) (fun hHeld=>?_);clear hK K;try simp only[Act.put,zz])
  refine rdH 11 fun K hK=>?_
  (go_simp;go_at_call 62;(with_reducible refine(NR.out _ _ _ (HL2.out.later u1_len B4.out.bel) U4.out).mono ?_);rintro en wx ⟨rfl,hbx⟩;have B5:=hd0 (B4.out.later hbx);clear hbx;refine hK.out _ _ (SX.out _ B5.out) (fun hHeld=>?_);clear hK K;try simp only[Act.put,zz])
  clear U4
  refine tkH 12 ?_ ?h ?_
  case h=>(intro w hSw;go_simp;try with_reducible rfl)
  try simp only[Act.put,zz]
  refine tkH 13 ?_ ?h ?_
  case h=>(intro w hSw;go_simp;try with_reducible rfl)
  try simp only[Act.put,zz]
  refine tkH 14 ?_ ?h ?_
  case h=>(intro w hSw;go_simp;try with_reducible rfl)
  try simp only[Act.put,zz]
  refine tkH 15 ?_ ?h ?_
  case h=>(intro w hSw;go_simp;try with_reducible rfl)
  try simp only[Act.put,zz]
  refine tkH 16 ?_ ?h ?_
  case h=>(intro w hSw;go_simp;try with_reducible rfl)
  try simp only[Act.put,zz]
  refine wpAnyH_take (i:=17) (v:=.agg (rfA o v r).toList.toArray) rfl (by kernel_rfl) (by kernel_rfl) (by kernel_rfl) (fun _ _ _ h=>h) (yieldsIf_load_mid (by rfl) 44 (.tmp 3) rfl (w.heap.size+1) 0 rfl (rfA o v r).toList _ (fun _ h=>h.1) Tryz.underlying44 rfl HIL.out) (by assumption) ?_
  try simp only[Array.toArray_toList]
  try simp only[Act.put,zz]
  refine rdH 18 fun K hK=>?_
  (go_simp;go_at_call 41;(with_reducible refine(WO.out _ B5.out.bel).mono ?_);rintro en wx ⟨rfl,hbx⟩;have B6:=hd0 (B5.out.later hbx);clear hbx;refine hK.out _ _ (SX.out _ B6.out) (fun hHeld=>?_);clear hK K;try simp only[Act.put,zz])
  refine tkH 19 ?_ ?h ?_
  case h=>(intro w hSw;go_simp;try with_reducible rfl)
  try simp only[Act.put,zz]
  refine tkH 20 ?_ ?h ?_
  case h=>(intro w hSw;go_simp;try with_reducible rfl)
  try simp only[Act.put,zz]
  refine tkH 21 ?_ ?h ?_
  case h=>(intro w hSw;go_simp;try with_reducible rfl)
  try simp only[Act.put,zz]
  refine tkH 22 ?_ ?h ?_
  case h=>(intro w hSw;go_simp;try with_reducible rfl)
  try simp only[Act.put,zz]
  refine tkH 23 ?_ ?h ?_
  case h=>(intro w hSw;go_simp;try with_reducible rfl)
  try simp only[Act.put,zz]
  refine wpAnyH_take (i:=24) (v:=.agg (rfA o v r).toList.toArray) rfl (by kernel_rfl) (by kernel_rfl) (by kernel_rfl) (fun _ _ _ h=>h) (yieldsIf_load_mid (by rfl) 44 (.tmp 3) rfl (w.heap.size+1) 0 rfl (rfA o v r).toList _ (fun _ h=>h.1) Tryz.underlying44 rfl HIL.out) (by assumption) ?_
  try simp only[Array.toArray_toList]
  try simp only[Act.put,zz]
  refine rdH 25 fun K hK=>?_
  (go_simp;go_at_call 65;(with_reducible refine(TO.out _ B6.out.bel).mono ?_);rintro en wx ⟨rfl,hbx⟩;have B7:=hd0 (B6.out.later hbx);clear hbx;refine hK.out _ _ (SX.out _ B7.out) (fun hHeld=>?_);clear hK K;try simp only[Act.put,zz])
  refine tkH 26 ?_ ?h ?_
  case h=>(intro w hSw;go_simp;try with_reducible rfl)
  try simp only[Act.put,zz]
  refine tkH 27 ?_ ?h ?_
  case h=>(intro w hSw;go_simp;try with_reducible rfl)
  try simp only[Act.put,zz]
  refine tkH 28 ?_ ?h ?_
  case h=>(intro w hSw;go_simp;try with_reducible rfl)
  try simp only[Act.put,zz]
  refine tkH 29 ?_ ?h ?_
  case h=>(intro w hSw;go_simp;try with_reducible rfl)
  try simp only[Act.put,zz]
  refine tkH 30 ?_ ?h ?_
  case h=>(intro w hSw;go_simp;try with_reducible rfl)
  try simp only[Act.put,zz]
  refine tkH 31 ?_ ?h ?_
  case h=>(intro w hSw;go_simp;try with_reducible rfl)
  try simp only[Act.put,zz]
  refine tkH 32 ?_ ?h ?_
  case h=>(intro w hSw;go_simp;try with_reducible rfl)
  try simp only[Act.put,zz]
  refine tkH 33 ?_ ?h ?_
  case h=>(intro w hSw;go_simp;try with_reducible rfl)
  try simp only[Act.put,zz]
  refine tkH 34 ?_ ?h ?_
  case h=>(intro w hSw;go_simp;try with_reducible rfl)
  try simp only[Act.put,zz]
  refine tkH 35 ?_ ?h ?_
  case h=>(intro w hSw;go_simp;try with_reducible rfl)
  try simp only[Act.put,zz]
  refine tkH 36 ?_ ?h ?_
  case h=>(intro w hSw;go_simp;try with_reducible rfl)
  try simp only[Act.put,zz]
  refine tkH 37 ?_ ?h ?_
  case h=>(intro w hSw;go_simp;try with_reducible rfl)
  try simp only[Act.put,zz]
  refine tkH 38 ?_ ?h ?_
  case h=>(intro w hSw;go_simp;try with_reducible rfl)
  try simp only[Act.put,zz]
  refine tkH 39 ?_ ?h ?_
  case h=>(intro w hSw;go_simp;try with_reducible rfl)
  try simp only[Act.put,zz]
  refine tkH 40 ?_ ?h ?_
  case h=>(intro w hSw;go_simp;try with_reducible rfl)
  try simp only[Act.put,zz]
  refine tkH 41 ?_ ?h ?_
  case h=>(intro w hSw;go_simp;try with_reducible rfl)
  try simp only[Act.put,zz]
  refine tkH 42 ?_ ?h ?_
  case h=>(intro w hSw;go_simp;try with_reducible rfl)
  try simp only[Act.put,zz]
  refine tkH 43 ?_ ?h ?_
  case h=>(intro w hSw;go_simp;try with_reducible rfl)
  try simp only[Act.put,zz]
  refine wpAnyH_done (by kernel_rfl) ?_ _
  clear hHeld
  go_wp2_with fail
  go_meet
  exact⟨rfl,B7⟩
 case rest =>
  obtain⟨rfl,B1⟩:=hcut
  clear LO RO WO TO NU NR HL1 HL2
  go_wp2_with fail
  go_loopw [5] (fun i wr=>∃ j:Nat,j≤yn∧i=.int .i64 j∧Hid (SB w wr o v r #[.slice la ln lc,.slice ra rn rc,.int .u8 wo,.int .u8 tz,.int .u64 r.bad,.int .u32 r.lp,.int .i64 r.rep,.int .i64 r.ali,.int .u32 r.tr,.slice ya yn yc])) (fun i _=>yn-(intOf i).toNat)
  case atStart=>exact⟨0,Nat.zero_le _,rfl,B1⟩
  case round =>
   obtain⟨j,hj,rfl,BW⟩:=hrel
   have hjb:(j:Int)<1001:=by omega
   have c9:wr.cell? ⟨w.heap.size,9,none⟩=some (.slice ya yn yc):=BW.out.g2.c 9 _ rfl
   by_cases hlt:j<yn
   rotate_left
   ·obtain rfl:j=yn:=by omega
    have dk:decide ((j:Int)<(j:Int))=false:=decide_eq_false (by omega)
    have s5:wr.cell? ⟨w.heap.size,5,none⟩=some (.int .u32 r.lp):=BW.out.g2.c 5 _ rfl
    have s6:wr.cell? ⟨w.heap.size,6,none⟩=some (.int .i64 r.rep):=BW.out.g2.c 6 _ rfl
    have s7:wr.cell? ⟨w.heap.size,7,none⟩=some (.int .i64 r.ali):=BW.out.g2.c 7 _ rfl
    have s8:wr.cell? ⟨w.heap.size,8,none⟩=some (.int .u32 r.tr):=BW.out.g2.c 8 _ rfl
    have k16:wr.cell? ⟨w.heap.size+1,16,none⟩=some (.int .u32 r.lp):=BW.out.g3.c 16 _ rfl
    have k18:wr.cell? ⟨w.heap.size+1,18,none⟩=some (.int .i64 r.rep):=BW.out.g3.c 18 _ rfl
    have k19:wr.cell? ⟨w.heap.size+1,19,none⟩=some (.int .i64 r.ali):=BW.out.g3.c 19 _ rfl
    have k20:wr.cell? ⟨w.heap.size+1,20,none⟩=some (.int .u32 r.tr):=BW.out.g3.c 20 _ rfl
    clear hlt hj
    go_wp2
    go_ret
    exact⟨rfl,BW.out.bel⟩
   have dk:decide ((j:Int)<(yn:Int))=true:=decide_eq_true (by omega)
   have hjl:j<r.way.length:=by rw[HYN.out];exact hlt
   have hne:r.way≠[]:=by intro h;rw[h] at hjl;simp at hjl
   obtain⟨b1,o1,rfl,hc1⟩:=HS.out.1.resolve_left hne
   obtain⟨b2,o2,rfl,hc2⟩:=HS.out.2.resolve_left hne
   obtain⟨x,hx⟩:∃ x,r.way[j]=x:=⟨_,rfl⟩
   have C1:∀ i u,i<17→(rqC x)[i]?=some u→∀ kk:Later wr,kk.out.cell? ⟨b1,o1+j*17+i,none⟩=some u:=fun i u hi hv kk=>by
    have h1:w.cell? ⟨b1,o1+j*17+i,none⟩=some u:=by rw[hc1 j hjl i hi,hx];exact hv
    exact(((BW.out.bel.trans (kk.h.mono BW.out.bel.size))).cell (World.block_lt_of_cell? w _ h1)).trans h1
   have C2:∀ i u,i<17→(rqC x)[i]?=some u→∀ kk:Later wr,kk.out.cell? ⟨b2,o2+j*17+i,none⟩=some u:=fun i u hi hv kk=>by
    have h1:w.cell? ⟨b2,o2+j*17+i,none⟩=some u:=by rw[hc2 j hjl i hi,hx];exact hv
    exact(((BW.out.bel.trans (kk.h.mono BW.out.bel.size))).cell (World.block_lt_of_cell? w _ h1)).trans h1
   have LD1:∀ kk:Later wr,(Instr.loadAt 81 (.pointer (some ⟨b1,o1+j*17,none⟩))).run Tryz.prog kk.out=.ok (.agg #[.int .u8 x.lv,.int .u32 x.nm,.int .u8 x.tl,.bool x.st,.bool x.en,.int .u8 x.mi.a,.int .u8 x.mi.b,.int .u8 x.mi.c,.int .u8 x.mi.d,.int .u8 x.mi.e,.int .u8 x.mi.f,.int .u8 x.mo.a,.int .u8 x.mo.b,.int .u8 x.mo.c,.int .u8 x.mo.d,.int .u8 x.mo.e,.int .u8 x.mo.f]) kk.out:=fun kk =>
    run_loadAt_mid (P:=Tryz.prog) kk.out b1 (o1+j*17) 81 (rqC x) _ (fun i u hu=>C1 i u (by have:=(List.getElem?_eq_some_iff.1 hu).1;simpa [rqC] using this) hu kk) Tryz.underlying81 rfl (by kernel_rfl)
   have LD2:∀ kk:Later wr,(Instr.loadAt 153 (.pointer (some ⟨b2,o2+j*17,none⟩))).run Tryz.prog kk.out=.ok (.agg #[.int .u8 x.lv,.int .u32 x.nm,.int .u8 x.tl,.bool x.st,.bool x.en,.int .u8 x.mi.a,.int .u8 x.mi.b,.int .u8 x.mi.c,.int .u8 x.mi.d,.int .u8 x.mi.e,.int .u8 x.mi.f,.int .u8 x.mo.a,.int .u8 x.mo.b,.int .u8 x.mo.c,.int .u8 x.mo.d,.int .u8 x.mo.e,.int .u8 x.mo.f]) kk.out:=fun kk =>
    run_loadAt_mid (P:=Tryz.prog) kk.out b2 (o2+j*17) 153 (rqC x) _ (fun i u hu=>C2 i u (by have:=(List.getElem?_eq_some_iff.1 hu).1;simpa [rqC] using this) hu kk) Tryz.underlying153 rfl (by kernel_rfl)
   have q9:∀ kk:Later wr,kk.out.cell? ⟨w.heap.size,9,none⟩=some (.slice (some ⟨b1,o1,none⟩) yn yc):=fun kk=>(BW.out.later kk.h).g2.c 9 _ rfl
   have q21:∀ kk:Later wr,kk.out.cell? ⟨w.heap.size+1,21,none⟩=some (.slice (some ⟨b2,o2,none⟩) yn oc):=fun kk=>(BW.out.later kk.h).g3.c 21 _ (by rw[←HOV.out];rfl)
   have NE:=fun W=>run_neq_rp x W
   have RZ:∀ kk:Later wr,Calls Tryz.prog 66 #[.agg #[.int .u8 x.lv,.int .u32 x.nm,.int .u8 x.tl,.bool x.st,.bool x.en,.int .u8 x.mi.a,.int .u8 x.mi.b,.int .u8 x.mi.c,.int .u8 x.mi.d,.int .u8 x.mi.e,.int .u8 x.mi.f,.int .u8 x.mo.a,.int .u8 x.mo.b,.int .u8 x.mo.c,.int .u8 x.mo.d,.int .u8 x.mo.e,.int .u8 x.mo.f]] kk.out fun en w'=>en=.returned (.agg #[.int .u8 x.lv,.int .u32 x.nm,.int .u8 x.tl,.bool x.st,.bool x.en,.int .u8 x.mi.a,.int .u8 x.mi.b,.int .u8 x.mi.c,.int .u8 x.mi.d,.int .u8 x.mi.e,.int .u8 x.mi.f,.int .u8 x.mo.a,.int .u8 x.mo.b,.int .u8 x.mo.c,.int .u8 x.mo.d,.int .u8 x.mo.e,.int .u8 x.mo.f])∧Below kk.out.heap.size kk.out w':=fun kk=>reply20_any x _
   clear hc1 hc2 hx hjl hne C1 C2
   go_upto_region 6 with fail
   go_cut [68] (fun s68 wx=>s68=.bool false∧Hid (Below wr.heap.size wr wx))
   case first =>
    refine wp_region_later (by kernel_rfl) (by kernel_rfl) ?_
    repeat (go_big_quiet_step (first|(go_at_call 66;exact Calls.later (RZ _))))
    refine wpQuiet_loadO 81 (.tmp 60) b1 (o1+j*17) _ rfl rfl rfl (by rintro _ ⟨k,rfl⟩;exact LD1 k) ?_
    try simp only[Act.put,zz]
    repeat (go_big_quiet_step (first|(go_at_call 66;exact Calls.later (RZ _))))
    refine wpQuiet_loadO 153 (.tmp 65) b2 (o2+j*17) _ rfl rfl rfl (by rintro _ ⟨k,rfl⟩;exact LD2 k) ?_
    try simp only[Act.put,zz]
    repeat (go_big_quiet_step (first|(go_at_call 66;exact Calls.later (RZ _))))
    refine wpQuiet_nil ?_
    rintro _ ⟨kk,rfl⟩
    go_wp2_with fail
    go_meet
    exact⟨rfl,hd0 kk.h⟩
   case rest =>
    obtain⟨rfl,hbx⟩:=hcut
    have BX:=hd0 (BW.out.later hbx.out)
    go_wp2_with fail
    exact⟨⟨j+1,by omega,by go_num,BX⟩,by simp[intOf];omega⟩
structure LQr (w W:World)(xlv:Int)(xrp:Bool)(xnm:Int)(xdt:List UInt8):Prop where
 lb:LB 129 W w.heap.size xlv xrp xnm xdt
 pz:PB 115 W (w.heap.size+1) 0 0 0 [] (.slice none 0 0)
 bel:Below w.heap.size w W
section
variable {w W W':World} {xlv:Int} {xrp:Bool} {xnm:Int} {xdt:List UInt8}
theorem LQr.later (h:LQr w W xlv xrp xnm xdt)(hb:Below W.heap.size W W'):LQr w W' xlv xrp xnm xdt:=⟨h.lb.later hb,h.pz.later hb,h.bel.trans (hb.mono h.bel.size)⟩
theorem LQr.alloc (h:LQr w W xlv xrp xnm xdt)(o:Obj):LQr w (W.alloc o) xlv xrp xnm xdt:=h.later (bA o)
theorem LQr.drew (h:LQr w W xlv xrp xnm xdt):LQr w W.drew xlv xrp xnm xdt:=h.later (Below.refl _ _).drew
theorem LQr.sets (h:LQr w W xlv xrp xnm xdt){q:Nat}(hq:w.heap.size+1<q)(v0 v1 v2 v3 v4:Value):LQr w (((((W.setCell ⟨q,0,none⟩ v0).setCell ⟨q,1,none⟩ v1).setCell ⟨q,2,none⟩ v2).setCell ⟨q,3,none⟩ v3).setCell ⟨q,4,none⟩ v4) xlv xrp xnm xdt:=by
 have o:∀ (W:World) (o:Nat) (v:Value),LQr w W xlv xrp xnm xdt→LQr w (W.setCell ⟨q,o,none⟩ v) xlv xrp xnm xdt:=fun W o v h =>
  ⟨by unfold LB;rw[Below.heap_setCell _ _ _ _ (by intro e;simp at e;omega)];exact h.lb,by unfold PB;rw[Below.heap_setCell _ _ _ _ (by intro e;simp at e;omega)];exact h.pz,below_set h.bel (by omega) _⟩
 exact o _ _ _ (o _ _ _ (o _ _ _ (o _ _ _ (o _ _ _ h))))
theorem LQr.set (h:LQr w W xlv xrp xnm xdt){q o:Nat}(hq:w.heap.size+1<q)(v:Value):LQr w (W.setCell ⟨q,o,none⟩ v) xlv xrp xnm xdt :=
 ⟨by unfold LB;rw[Below.heap_setCell _ _ _ _ (by intro e;simp at e;omega)];exact h.lb,by unfold PB;rw[Below.heap_setCell _ _ _ _ (by intro e;simp at e;omega)];exact h.pz,below_set h.bel (by omega) _⟩
theorem LQr.lt (h:LQr w W xlv xrp xnm xdt):w.heap.size+1<W.heap.size:=h.pz.lt
theorem LQr.two (h:LQr w W xlv xrp xnm xdt):W.cell? ⟨w.heap.size,0,none⟩=some (.int .u8 xlv)∧W.cell? ⟨w.heap.size,2,none⟩=some (.int .u32 xnm):=⟨h.lb.c0,h.lb.c2⟩
end
theorem refPut14_any (xlv:Int)(xrp:Bool)(xnm:Int)(xdt:List UInt8)(w:World)(hm:xdt.length≤1000)(hnm:0≤xnm∧xnm<4294967296):Calls Tryz.prog 49 #[.agg #[.int .u8 xlv,.bool xrp,.int .u32 xnm,.string (bs xdt)]] w fun en w' =>
  ∃ v',en=.returned (.tuple #[.agg #[.int .u8 (putL xlv xrp xnm xdt).1,.int .u8 (putL xlv xrp xnm xdt).2.1,.int .u8 0,.string (bs (putL xlv xrp xnm xdt).2.2.1),v'],.int .i64 (putL xlv xrp xnm xdt).2.2.2.2])∧TlR w' w.heap.size v' (putL xlv xrp xnm xdt).2.2.2.1∧Below w.heap.size w w':=by
 obtain⟨R,hR⟩:∃ R,putL xlv xrp xnm xdt=R:=⟨_,rfl⟩
 rw[hR]
 have HR:=hd0 hR
 have HNM:=hd0 hnm
 have hsd:=bs_size xdt
 clear hR hnm
 go_enter Tryz.func49,Tryz.ntmps49
 go_upto_region 1 with fail
 have cb0:=(LB.new 129 w xlv xrp xnm xdt).later (bA (.cells yU 115))
 have pz:PB 115 ((w.alloc (.cells #[.int .u8 xlv,.bool xrp,.int .u32 xnm,.string (bs xdt)] 129)).alloc (.cells yU 115)) (w.heap.size+1) 0 0 0 [] (.slice none 0 0):=by
  have:=PB.new 115 (w.alloc (.cells #[.int .u8 xlv,.bool xrp,.int .u32 xnm,.string (bs xdt)] 129)) 0 0 0 [] (.slice none 0 0)
  rw[show(w.alloc (.cells #[.int .u8 xlv,.bool xrp,.int .u32 xnm,.string (bs xdt)] 129)).heap.size=w.heap.size+1 by simp] at this
  exact this
 have hb0:Below w.heap.size w ((w.alloc (.cells #[.int .u8 xlv,.bool xrp,.int .u32 xnm,.string (bs xdt)] 129)).alloc (.cells yU 115)):=(bA _).alloc (by simp) _
 obtain⟨w0,hw0⟩:∃ k,(w.alloc (.cells #[.int .u8 xlv,.bool xrp,.int .u32 xnm,.string (bs xdt)] 129)).alloc (.cells yU 115)=k:=⟨_,rfl⟩
 rw[hw0] at cb0 pz hb0 ⊢
 have c0:=cb0.c0
 have c3:=cb0.c3
 have z0:=pz.c0
 have z1:=pz.c1
 have z2:=pz.c2
 have z3:=pz.c3
 have z4:=pz.c4
 have y0:=pz.fr 0
 have y1:=pz.fr 1
 have y2:=pz.fr 2
 have y3:=pz.fr 3
 have y4:=pz.fr 4
 have LT0:=hd0 (LQr.mk cb0 pz hb0)
 clear hw0 cb0 pz hb0
 by_cases h7:7<xlv
 ·have d7:decide ((7:Int)<xlv)=true:=decide_eq_true h7
  have hRR:R=(0,0,[],[],2):=by rw[←HR.out];unfold putL;rw[if_pos h7]
  have HRR:=hd0 hRR
  clear hRR h7
  go_wp2_with fail
  refine bodyPost_ret (v:=.tuple #[.agg #[.int .u8 0,.int .u8 0,.int .u8 0,.string (bs []),.slice none 0 0],.int .i64 2]) (by simp[results,Tryz.results49,go_sem,z0,z1,z2,z3,z4];rfl) rfl ⟨_,by rw[HRR.out],by rw[HRR.out];exact TlR.none _ _,below_set (below_set (below_set (below_set (below_set LT0.out.bel (by omega) _) (by omega) _) (by omega) _) (by omega) _) (by omega) _⟩
 have d7:decide ((7:Int)<xlv)=false:=decide_eq_false h7
 by_cases h64:64<xdt.length
 ·have d64:decide ((64:Int)<(xdt.length:Int))=true:=decide_eq_true (by omega)
  have hRR:R=(0,0,[],[],5):=by rw[←HR.out];unfold putL;rw[if_neg h7,if_pos h64]
  have HRR:=hd0 hRR
  clear hRR h7
  go_wp2_with fail
  refine bodyPost_ret (v:=.tuple #[.agg #[.int .u8 0,.int .u8 0,.int .u8 0,.string (bs []),.slice none 0 0],.int .i64 5]) (by simp[results,Tryz.results49,go_sem,z0,z1,z2,z3,z4];rfl) rfl ⟨_,by rw[HRR.out],by rw[HRR.out];exact TlR.none _ _,below_set (below_set (below_set (below_set (below_set LT0.out.bel (by omega) _) (by omega) _) (by omega) _) (by omega) _) (by omega) _⟩
 have d64:decide ((64:Int)<(xdt.length:Int))=false:=decide_eq_false (by omega)
 have hRR:R=(xlv,if xrp=true then 2 else 3,be 4 xnm,thL xdt,0):=by rw[←HR.out];unfold putL;rw[if_neg h7,if_neg h64]
 have HRR:=hd0 hRR
 clear hRR h7 h64 z0 z1 z2 z3 z4 y0 y1 y2 y3 y4
 go_upto_region 5 with fail
 obtain⟨X,hX⟩:∃ X,be 4 xnm=X:=⟨_,rfl⟩
 have A1:Hid (∀ W,Calls Tryz.prog 84 #[.int .u64 xnm,.int .i64 4] W fun e w'=>e=.returned (.string (bs X))∧Below W.heap.size W w'):=fun W=>by
  have h:=num_far 4 xnm W HNM.out.1 (by have:=HNM.out.2;omega) (by decide)
  rw[numR_be,hX] at h;exact h
 have wnm:IntKind.u64.wrap xnm=xnm:=by have:=HNM.out;exact IntWalk.u64_in _ (by omega)
 have HX:=hd0 hX
 clear hX
 go_cut [4] (fun s4 wx=>∃ q:Nat,s4=.pointer (some ⟨q,0,none⟩)∧Hid (PB 115 wx q xlv 3 0 X (.slice none 0 0))∧Hid (w.heap.size+1<q)∧Hid (LQr w wx xlv xrp xnm xdt))
 case first =>
  have LTd:=hd0 LT0.out.drew
  go_region_held3 (fun W=>W.cell? ⟨w.heap.size,0,none⟩=some (.int .u8 xlv)∧W.cell? ⟨w.heap.size,2,none⟩=some (.int .u32 xnm))
   (first|(with_reducible exact LTd.out.two)|(with_reducible exact(LT0.out.alloc _).drew.two)|(with_reducible exact(LTd.out.alloc _).two)|(with_reducible exact LTx.out.two)|(with_reducible exact(LTx.out.alloc _).two)|(with_reducible exact(LTx.out.sets HQq.out _ _ _ _ _).two))
   (first
    |(go_at_call 84;(with_reducible refine(A1.out _).mono ?_);rintro en wx ⟨rfl,hbx⟩;(first
      |(have LTx:=hd0 (LTd.out.later hbx))
      |(have LTx:=hd0 ((LT0.out.alloc _).drew.later hbx);have NPq:=hd0 ((PB.new 115 w0 0 0 0 [] (.slice none 0 0)).later (Below.trans (Below.refl _ _).drew hbx));have HQq:=hd0 LT0.out.lt;have r0:=NPq.out.fr 0;have r1:=NPq.out.fr 1;have r2:=NPq.out.fr 2;have r3:=NPq.out.fr 3;have r4:=NPq.out.fr 4;have k0:=NPq.out.c0;have k1:=NPq.out.c1;have k2:=NPq.out.c2;have k3:=NPq.out.c3;have k4:=NPq.out.c4)
      |(have LTx:=hd0 ((LTd.out.alloc _).later hbx);have NPq:=hd0 ((PB.new 115 w0.drew 0 0 0 [] (.slice none 0 0)).later hbx);have HQq:=hd0 LTd.out.lt;have r0:=NPq.out.fr 0;have r1:=NPq.out.fr 1;have r2:=NPq.out.fr 2;have r3:=NPq.out.fr 3;have r4:=NPq.out.fr 4;have k0:=NPq.out.c0;have k1:=NPq.out.c1;have k2:=NPq.out.c2;have k3:=NPq.out.c3;have k4:=NPq.out.c4))))
  all_goals go_wp2_with fail
  all_goals go_meet
  all_goals first
   | exact⟨_,rfl,hd0 NPq.out.sets5,hd0 HQq.out,hd0 (LTx.out.sets HQq.out _ _ _ _ _)⟩
   | exact⟨_,rfl,hd0 (PB.new _ _ _ _ _ _ _),hd0 LTx.out.lt,hd0 (LTx.out.alloc _)⟩
 case rest =>
  clear c0 c3 LT0 A1
  obtain⟨q,rfl,PQ1,HQ,LT1⟩:=hcut
  obtain⟨J,hJ⟩:∃ J:Int,(if xrp=true then(2:Int) else 3)=J:=⟨_,rfl⟩
  have c1:=LT1.out.lb.c1
  have k1:=PQ1.out.c1
  have r1:=PQ1.out.fr 1
  have hR2:=HRR.out
  rw[hJ,HX.out] at hR2
  have HR2:=hd0 hR2
  have HJ:=hd0 hJ
  clear hJ hR2 HRR
  go_upto_if 22 with fail
  go_cut [4] (fun s4 wx=>s4=.pointer (some ⟨q,0,none⟩)∧Hid (PB 115 wx q xlv J 0 X (.slice none 0 0))∧Hid (LQr w wx xlv xrp xnm xdt))
  case first =>
   cases xrp with
   | true =>
    have hj:J=2:=HJ.out.symm
    go_wp2_with fail
    go_meet
    exact⟨rfl,hd0 (by rw[hj];exact PQ1.out.set1 2),hd0 (LT1.out.set HQ.out _)⟩
   | false =>
    have hj:J=3:=HJ.out.symm
    go_wp2_with fail
    go_meet
    exact⟨rfl,by rw[hj];exact PQ1,LT1⟩
  clear c1 k1 r1 PQ1 LT1
  obtain⟨rfl,PQ2,LT2⟩:=hcut
  have c3:=LT2.out.lb.c3
  have k0:=PQ2.out.c0
  have k1:=PQ2.out.c1
  have k2:=PQ2.out.c2
  have k3:=PQ2.out.c3
  have k4:=PQ2.out.c4
  have r4:=PQ2.out.fr 4
  have z0:=LT2.out.pz.c0
  have z1:=LT2.out.pz.c1
  have z2:=LT2.out.pz.c2
  have z3:=LT2.out.pz.c3
  have z4:=LT2.out.pz.c4
  have y0:=LT2.out.pz.fr 0
  have y1:=LT2.out.pz.fr 1
  have y2:=LT2.out.pz.fr 2
  have y3:=LT2.out.pz.fr 3
  have y4:=LT2.out.pz.fr 4
  by_cases hd:xdt=[]
  ·have dl:decide ((0:Int)<(xdt.length:Int))=false:=by rw[hd];rfl
   have dn:¬ 0<xdt.length:=by rw[hd];decide
   have dn2:decide (0<xdt.length)=false:=by rw[hd];rfl
   have HD:=hd0 hd
   clear hd
   go_wp2_with fail
   refine bodyPost_ret (v:=.tuple #[.agg #[.int .u8 xlv,.int .u8 J,.int .u8 0,.string (bs X),.slice none 0 0],.int .i64 0]) (by simp[results,Tryz.results49,go_sem,z0,z1,z2,z3,z4]) rfl ⟨_,by rw[HR2.out],by rw[HR2.out];unfold thL;rw[if_pos HD.out];exact TlR.none _ _,below_set (below_set (below_set (below_set (below_set LT2.out.bel (by omega) _) (by omega) _) (by omega) _) (by omega) _) (by omega) _⟩
  ·have dl:decide ((0:Int)<(xdt.length:Int))=true:=decide_eq_true (by have:=List.length_pos_iff.2 hd;omega)
   have dn:0<xdt.length:=List.length_pos_iff.2 hd
   have dn2:decide (0<xdt.length)=true:=decide_eq_true dn
   have HD:=hd0 hd
   clear hd
   have m4:=(PQ2.out.later (bA (.cells #[.int .u8 3,.string (bs xdt)] 187))).c4
   have f4:=(PQ2.out.later (bA (.cells #[.int .u8 3,.string (bs xdt)] 187))).fr 4
   have SRC:Hid (Tls (wc.alloc (.cells #[.int .u8 3,.string (bs xdt)] 187)) (.slice (some ⟨wc.heap.size,0,none⟩) 1 1) [(3,xdt)]):=(TlR.lit wc 0 (3,xdt) (Nat.zero_le _)).tls
   obtain⟨V,hV⟩:∃ V:Value,Value.slice none 0 0=V:=⟨_,rfl⟩
   rw[hV] at k4
   have OWN:Hid (TlR (wc.alloc (.cells #[.int .u8 3,.string (bs xdt)] 187)) wc.heap.size V []):=by rw[←hV];exact TlR.none _ _
   clear m4 f4 hV z0 z1 z2 z3 z4 y0 y1 y2 y3 y4 k0 k1 k2 k3
   go_wp2_with (at_builtin;refine wpList_append_R rfl (.tmp 29) (.tmp 33) rfl wc.heap.size _ [] rfl OWN.out _ [(3,xdt)] rfl SRC.out ?_ ?_ ?_)
   ·simp
   ·simp
   intro v5 w5 hown5 hb5
   have hb6:Below wc.heap.size wc w5:=(bA (.cells #[.int .u8 3,.string (bs xdt)] 187)).trans hb5
   have PQ5:=hd0 (PQ2.out.later hb6)
   have LT5:=hd0 (LT2.out.later hb6)
   obtain⟨ad5,cp5,rfl,_⟩:=hown5.tls.shape
   have hqB:=PQ2.out.lt
   have hlt:=LT2.out.lt
   obtain⟨B,hB⟩:∃ B,wc.heap.size=B:=⟨_,rfl⟩
   rw[hB] at hown5 hqB hlt
   have m4':=PQ5.out.c4
   have f4':=PQ5.out.fr 4
   have HO5:=hd0 hown5
   have HQB:=hd0 hqB
   have HLT:=hd0 hlt
   clear SRC OWN hb5 hb6 hown5 hqB hlt hB PQ2 LT2 k4 r4 c3
   go_upto_region 10 with fail
   have tl:=HO5.out.set (o:=4) HQB.out (.slice ad5 ([]++[((3:UInt8),xdt)]).length cp5)
   have pq:=PQ5.out.setv4 (.slice ad5 ([]++[((3:UInt8),xdt)]).length cp5)
   have lt:=LT5.out.set (o:=4) HQ.out (.slice ad5 ([]++[((3:UInt8),xdt)]).length cp5)
   simp only[List.nil_append,List.length_cons,List.length_nil,Nat.zero_add] at tl pq lt
   obtain⟨w6,hw6⟩:∃ k,w5.setCell ⟨q,4,none⟩ (.slice ad5 1 cp5)=k:=⟨_,rfl⟩
   rw[hw6] at tl pq lt ⊢
   have k0:=pq.c0
   have k1:=pq.c1
   have k2:=pq.c2
   have k3:=pq.c3
   have k4:=pq.c4
   have z0:=lt.pz.c0
   have z1:=lt.pz.c1
   have z2:=lt.pz.c2
   have z3:=lt.pz.c3
   have z4:=lt.pz.c4
   have y0:=lt.pz.fr 0
   have y1:=lt.pz.fr 1
   have y2:=lt.pz.fr 2
   have y3:=lt.pz.fr 3
   have y4:=lt.pz.fr 4
   have TL:=hd0 tl
   have LT6:=hd0 lt
   clear tl pq lt hw6 m4' f4' PQ5 LT5 HO5
   go_wp2_with fail
   refine bodyPost_ret (v:=.tuple #[.agg #[.int .u8 xlv,.int .u8 J,.int .u8 0,.string (bs X),.slice ad5 1 cp5],.int .i64 0]) (by simp[results,Tryz.results49,go_sem,z0,z1,z2,z3,z4]) rfl ⟨_,by rw[HR2.out],by rw[HR2.out];unfold thL;rw[if_neg HD.out];exact(((((TL.out.set (by have:=HLT.out;omega) _).set (by have:=HLT.out;omega) _).set (by have:=HLT.out;omega) _).set (by have:=HLT.out;omega) _).set (by have:=HLT.out;omega) _).mono (by have:=HLT.out;omega),below_set (below_set (below_set (below_set (below_set LT6.out.bel (by omega) _) (by omega) _) (by omega) _) (by omega) _) (by omega) _⟩
theorem loop_ok {lv:Int}(n:Int){d:List UInt8}(h:lv<8)(hd:d.length≤64):(loopP lv n d).2=0∧(putL lv false n d)=(lv,3,be 4 n,thL d,0):=by
 have e:putL lv false n d=(lv,3,be 4 n,thL d,0):=by unfold putL;rw[if_neg (by omega),if_neg (by omega)];rfl
 refine⟨?_,e⟩
 unfold loopP
 rw[e]
 have ht:(putT (thL d)).2=0:=by
  unfold thL
  split
  ·rfl
  ·unfold putT putT
   have:okT ((3:UInt8),d)=0:=by unfold okT;simp;omega
   rw[if_pos this];rfl
 show(putP lv 3 0 (be 4 n) (thL d)).2=0
 unfold putP
 rw[if_neg (by omega),if_neg (by simp[be_length]),if_pos ht]
theorem trac_ok {t:Tr}(h:t.lv<8):(tracP t).2=0∧putTr t=(t.lv,5,128,byTr t,0):=by
 have e:putTr t=(t.lv,5,128,byTr t,0):=by unfold putTr;rw[if_neg (by omega)]
 refine⟨?_,e⟩
 unfold tracP
 rw[e]
 show(putP t.lv 5 128 (byTr t) []).2=0
 unfold putP
 rw[if_neg (by omega),if_neg (by rw[byTr_len];decide),if_pos (show(putT []).2=0 from rfl)]
def sz7:Array Value:=#[.int .u8 0,.int .u8 0,.int .u8 0,.int .u8 0,.int .u8 0,.int .u8 0,.string { data:=#[] }]
structure AQ (w W:World)(o:Ow20)(v:Rv)(r:Rf)(m:Mc):Prop where
 gb:GB 44 W w.heap.size (rfA o v r)
 g4:GB 25 W (w.heap.size+1) #[.int .u8 m.a,.int .u8 m.b,.int .u8 m.c,.int .u8 m.d,.int .u8 m.e,.int .u8 m.f]
 gz:GB 44 W (w.heap.size+2) rzA
 gs:GB 58 W (w.heap.size+3) sz7
 bel:Below w.heap.size w W
section
variable {w W W':World} {o:Ow20} {v:Rv} {r:Rf} {m:Mc}
theorem AQ.begin (w:World)(o:Ow20)(v:Rv)(r:Rf)(m:Mc):AQ w ((((w.alloc (.cells (rfA o v r) 44)).alloc (.cells #[.int .u8 m.a,.int .u8 m.b,.int .u8 m.c,.int .u8 m.d,.int .u8 m.e,.int .u8 m.f] 25)).alloc (.cells yP 44)).alloc (.cells yS 58)) o v r m:=by
 have h5:=GB.new 25 (w.alloc (.cells (rfA o v r) 44)) #[.int .u8 m.a,.int .u8 m.b,.int .u8 m.c,.int .u8 m.d,.int .u8 m.e,.int .u8 m.f]
 have h6:=GB.new 44 ((w.alloc (.cells (rfA o v r) 44)).alloc (.cells #[.int .u8 m.a,.int .u8 m.b,.int .u8 m.c,.int .u8 m.d,.int .u8 m.e,.int .u8 m.f] 25)) #[.int .u8 0,.int .u8 0,.string { data:=#[] },.int .u16 0,.slice none 0 0,.int .u8 0,.int .u8 0,.int .u8 0,.int .u8 0,.int .u8 0,.int .u8 0,.int .u8 0,.slice none 0 0,.int .i64 0,.slice none 0 0,.int .u64 0,.int .u32 0,.string { data:=#[] },.int .i64 0,.int .i64 0,.int .u32 0,.slice none 0 0]
 have h8:=GB.new 58 (((w.alloc (.cells (rfA o v r) 44)).alloc (.cells #[.int .u8 m.a,.int .u8 m.b,.int .u8 m.c,.int .u8 m.d,.int .u8 m.e,.int .u8 m.f] 25)).alloc (.cells yP 44)) #[.int .u8 0,.int .u8 0,.int .u8 0,.int .u8 0,.int .u8 0,.int .u8 0,.string { data:=#[] }]
 rw[show(w.alloc (.cells (rfA o v r) 44)).heap.size=w.heap.size+1 by simp] at h5
 rw[show((w.alloc (.cells (rfA o v r) 44)).alloc (.cells #[.int .u8 m.a,.int .u8 m.b,.int .u8 m.c,.int .u8 m.d,.int .u8 m.e,.int .u8 m.f] 25)).heap.size=w.heap.size+2 by simp] at h6
 rw[show(((w.alloc (.cells (rfA o v r) 44)).alloc (.cells #[.int .u8 m.a,.int .u8 m.b,.int .u8 m.c,.int .u8 m.d,.int .u8 m.e,.int .u8 m.f] 25)).alloc (.cells yP 44)).heap.size=w.heap.size+3 by simp] at h8
 exact⟨(((GB.new 44 w (rfA o v r)).later (bA _)).later (bA _)).later (bA _),
  (h5.later (bA _)).later (bA _),h6.later (bA _),h8,
  (((bA _).alloc (by simp) _).alloc (by simp;omega) _).alloc (by simp;omega) _⟩
theorem AQ.low (h:AQ w W o v r m)(hb:Below (w.heap.size+4) W W'):AQ w W' o v r m:=⟨h.gb.below (by omega) hb,h.g4.below (by omega) hb,h.gz.below (by omega) hb,h.gs.below (by omega) hb,h.bel.trans (hb.mono (by omega))⟩
theorem AQ.sz (h:AQ w W o v r m):w.heap.size+4≤W.heap.size:=h.gs.lt
theorem AQ.later (h:AQ w W o v r m)(hb:Below W.heap.size W W'):AQ w W' o v r m:=h.low (hb.mono h.sz)
theorem AQ.set (h:AQ w W o v r m)(j:Nat)(x:Value){v':Rv}{r':Rf}(e:(rfA o v r).setIfInBounds j x=rfA o v' r'):AQ w (W.setCell ⟨w.heap.size,j,none⟩ x) o v' r' m :=
 ⟨by rw[←e];exact h.gb.set j x,h.g4.other (by omega) x,h.gz.other (by omega) x,h.gs.other (by omega) x,below_set h.bel (Nat.le_refl _) x⟩
theorem AQ.c (h:AQ w W o v r m)(j:Nat)(x:Value)(hx:(rfA o v r)[j]?=some x):W.cell? ⟨w.heap.size,j,none⟩=some x:=h.gb.c j x hx
theorem AQ.rng (h:AQ w W o v r m):W.rangeAt w.heap.size 0 (rfA o v r).toList:=h.gb.range
theorem AQ.thr (h:AQ w W o v r m):W.there (w.heap.size+2) 0 (rfA o v r).size:=h.gz.there (Nat.le_refl _)
theorem AQ.fin (h:AQ w W o v r m)(h1:(rfA o v r).all (·.oneCell')=true)(x:Sn):GB 44 ((W.setCells (w.heap.size+2) 0 (rfA o v r).toList).setCells (w.heap.size+3) 0 (snC x)) (w.heap.size+2) (rfA o v r)∧GB 58 ((W.setCells (w.heap.size+2) 0 (rfA o v r).toList).setCells (w.heap.size+3) 0 (snC x)) (w.heap.size+3) (snC x).toArray∧Below w.heap.size w ((W.setCells (w.heap.size+2) 0 (rfA o v r).toList).setCells (w.heap.size+3) 0 (snC x)):=by
 have a1:GB 44 (W.setCells (w.heap.size+2) 0 (rfA o v r).toList) (w.heap.size+2) (rfA o v r):=h.gz.store rfl h1
 have a2:GB 58 (W.setCells (w.heap.size+2) 0 (rfA o v r).toList) (w.heap.size+3) sz7:=GB.cellsOther (by omega) _ _ _ h.gs
 have a3:=a2.store (A:=(snC x).toArray) rfl (by simp[snC,Value.oneCell'])
 exact⟨GB.cellsOther (by omega) _ _ _ a1,by simpa using a3,below_cellsG (by omega) _ _ _ (below_cellsG (by omega) _ _ _ h.bel)⟩
end
theorem rng_other {g t:Nat}(ht:t≠g)(cs:List Value):∀ (vs:List Value) (o:Nat) (W:World),W.rangeAt g 0 cs→(W.setCells t o vs).rangeAt g 0 cs
 |[],_,_,h=>h
 | u::r,o,W,h=>rng_other ht cs r (o+1) _ (fun j v hv=>by
  have:=h j v hv
  rw[←this]
  have e:(W.setCell ⟨t,o,none⟩ u).heap[g]?=W.heap[g]?:=Below.heap_setCell _ _ _ _ (by intro e;simp at e;omega)
  simp only[World.cell?,e])
theorem Ow.one {w:World}{B:Nat}{u:Value}{x:Sn}{E:TypeId}(h:Ow 7 snC E w B u [x]):∃ g uc,u=.slice (some ⟨g,0,Option.none⟩) 1 uc∧w.rangeAt g 0 (snC x)∧B≤g:=by
 have h0:=h
 obtain⟨h1,h2⟩:=h
 rcases h2 with⟨_,h0⟩|⟨g,cap,cur,rfl,hg,hh,hr⟩
 ·cases h0
 ·refine⟨g,cap,rfl,fun j v hj=>?_,hg⟩
  obtain⟨a2,c2,e2,hc⟩:=(h0.rw snC_len).shape
  cases e2
  have hj7:j<7:=by have:=(List.getElem?_eq_some_iff.1 hj).1;simpa [snC] using this
  rcases hc with hc|⟨b,off,e,hc⟩
  ·cases hc
  ·cases e
   have:=hc 0 (by simp) j hj7
   simp only[Nat.zero_mul,Nat.add_zero,Nat.zero_add,List.getElem_cons_zero] at this ⊢
   rw[this];exact hj
theorem snA_one (x:Sn):(snC x).toArray.all (·.oneCell')=true:=by simp[snC,Value.oneCell']
theorem info_sn:(Tryz.prog.info? 58).map (·.size)=some 7:=by kernel_rfl
theorem rfA_lp (o:Ow20)(v:Rv)(r:Rf)(x:Int):(rfA o v r).setIfInBounds 16 (.int .u32 x)=rfA o v { r with lp:=x }:=rfl
theorem rfA_dat (o:Ow20)(v:Rv)(r:Rf)(d:List UInt8):(rfA o v r).setIfInBounds 17 (.string (bs d))=rfA o v { r with dat:=d }:=rfl
theorem rfA_tr (o:Ow20)(v:Rv)(r:Rf)(x:Int):(rfA o v r).setIfInBounds 20 (.int .u32 x)=rfA o v { r with tr:=x }:=rfl
def zR (n:Nat):Array Value:=madeCells #[.int .u8 0,.int .u32 0,.int .u8 0,.bool false,.bool false,.int .u8 0,.int .u8 0,.int .u8 0,.int .u8 0,.int .u8 0,.int .u8 0,.int .u8 0,.int .u8 0,.int .u8 0,.int .u8 0,.int .u8 0,.int .u8 0] (n*17)
theorem make_rq (n:Nat)(hn:n≤1000)(W:World):(Instr.makeSlice 67 (.int .i64 (n:Int)) (.int .i64 (n:Int))).run Tryz.prog W=.ok (.slice (some ⟨W.heap.size,0,none⟩) n n) (W.alloc (.cells (zR n) 81)):=by
 obtain⟨i,hi,hzz⟩:=Option.map_eq_some_iff.1 info_rq
 simp only[Prod.mk.injEq] at hzz
 obtain⟨hz,hs,hb⟩:=hzz
 have h:=run_make W 67 81 i _ Tryz.underlying67 hi hz .i64 .i64 (n:Int) (n:Int) (by omega) (by omega) (by rw[hb];omega) (by omega)
 rw[hs] at h
 exact h
theorem copy_rq (W:World)(g n B:Nat)(Z:Array Value)(hz:Z.size=n*17)(hn:n≤1000)(hg:W.heap[g]?=some (.cells Z 81 (0,0)))(hB:B≤g)(v:Value)(l:List Rp)(hv:Rw 17 rqC W v l)(hl:l.length=n)(ty:TypeId) :
  ∃ W',(Builtin.copy_ #[67,67] ty #[.slice (some ⟨g,0,none⟩) n n,v]).run Tryz.prog W=.ok (goInt n) W'∧Ow 17 rqC 81 W' B (.slice (some ⟨g,0,none⟩) n n) l∧Below g W W':=by
 obtain⟨i,hi,hzz⟩:=Option.map_eq_some_iff.1 info_rq
 simp only[Prod.mk.injEq] at hzz
 obtain⟨hzv,hs,hb⟩:=hzz
 subst hl
 obtain⟨ad,cp,rfl,hc⟩:=hv.shape
 by_cases h0:l=[]
 ·subst h0
  refine⟨W,?_,⟨rfl,.inr ⟨g,0,Z,rfl,hB,hg,Nat.le_refl _,by decide,hz,by simp⟩⟩,Below.refl _ _⟩
  have hL:∀ (x:Addr),(loadCells x 0).run Tryz.prog W=.ok #[] W:=fun x=>by simpa using run_loadCells_list (P:=Tryz.prog) W x [] (by simp)
  cases ad <;> simp[Builtin.copy_,run_underlying Tryz.underlying67,Builtin.lenOf,Builtin.firstCells,sizeOf,typeInfo,hi,storeCells,hL]
 ·obtain⟨b,off,rfl,hcell⟩:=hc.resolve_left h0
  have hlen:=flat_len (f:=rqC) rqC_len l
  have hsrc:∀ j x,(l.flatMap rqC)[j]?=some x→W.cell? ((⟨b,off,none⟩:Addr).add j)=some x:=by
   intro j x hx
   rw[Go.WideShapes.add_plain]
   have hj:j<l.length*17:=by rw[←hlen];exact(List.getElem?_eq_some_iff.1 hx).1
   have hj1:j / 17<l.length:=by omega
   have e:j=j / 17*17+j % 17:=by omega
   rw[e,flat_get (f:=rqC) rqC_len l (j / 17) hj1 (j % 17) (by omega)] at hx
   have h:=hcell (j / 17) hj1 (j % 17) (by omega)
   rw[hx] at h
   rw[show off+j=off+j / 17*17+j % 17 by omega]
   exact h
  have hL:=run_loadCells_list (P:=Tryz.prog) W ⟨b,off,none⟩ _ hsrc
  rw[hlen] at hL
  have h1:∀ x∈l.flatMap rqC,x.oneCell'=true:=by
   intro x hx
   obtain⟨t,-,ht⟩:=List.mem_flatMap.1 hx
   exact rqC_one t x ht
  obtain⟨xs,hxs⟩:∃ xs,l.flatMap rqC=xs:=⟨_,rfl⟩
  unfold Ow
  rw[hxs] at hlen hL h1 ⊢
  have hst:=run_storeCells_at Tryz.prog g 0 81 xs 0 Z W hg (by omega) h1
  have e:(Z.toList.take (0+0)++xs++Z.toList.drop (0+0+xs.length)).toArray=xs.toArray:=by
   rw[List.drop_eq_nil_of_le (by rw[hlen];simp;omega)];simp
  rw[e] at hst
  refine⟨W.setRow g xs.toArray,?_,⟨hlen,.inr ⟨g,l.length,xs.toArray,rfl,hB,setRow_heap W g Z _ 81 _ hg,Nat.le_refl _,Nat.le_trans hn (by decide),by simpa using hlen,by rw[←hlen];simp⟩⟩,⟨rfl,rfl,rfl,by simp[World.setRow],fun k hk=>setRow_other W g k xs.toArray (by omega)⟩⟩
  simp[Builtin.copy_,run_underlying Tryz.underlying67,Builtin.lenOf,Builtin.firstCells,sizeOf,typeInfo,hi,hs,hL,hst]
end Go.Proofs.YtlkdfofpnmpidaaGreat
