/- ZQ22 -/
import Derived.Test.YtlkdfofpnmpidaaGreatZQ21
set_option linter.unusedVariables false
set_option linter.unusedSimpArgs false
set_option maxRecDepth 100000
set_option maxHeartbeats 16000000
namespace Go.Proofs.YtlkdfofpnmpidaaGreat
open Go.RowKit
theorem num_far (k:Nat):∀ (n:Int) (w:World),0≤n→n<18446744073709551616→k≤100 →
  Calls Tryz.prog 84 #[.int .u64 n,.int .i64 k] w fun e w'=>e=.returned (.string (bs (numR k n)))∧Below w.heap.size w w':=by
 induction k with
 | zero =>
  intro n w h0 h1 _
  go_enter Tryz.func84,Tryz.ntmps84
  go_wp2_with fail
  go_ret
  exact⟨rfl,Below.refl _ _⟩
 | succ k ih =>
  intro n w h0 h1 hk
  have IH:=hd0 ih
  clear ih
  have hk0:(((k:Int)+1)==0)=false:=by simp;omega
  have hcast:((k+1:Nat):Int)=(k:Int)+1:=by omega
  rw[hcast]
  clear hcast
  have e1:IntKind.u64.wrap (n.tdiv 256)=n / 256:=by rw[Int.tdiv_eq_ediv_of_nonneg h0];exact IntWalk.u64_in _ (by omega)
  have e2:IntKind.i64.wrap (k:Int)=(k:Int):=IntWalk.i64_in _ (by omega)
  have e3:IntKind.u8.wrap (n.tmod 256)=n % 256:=by rw[Int.tmod_eq_emod_of_nonneg h0];exact IntWalk.u8_in _ (by omega)
  have e4:0≤n % 256∧n % 256<256:=by omega
  have b1:0≤n / 256∧n / 256<18446744073709551616∧k≤100:=by omega
  have B1:=hd0 b1
  have hcv:=run_string_one (n % 256) e4.1 e4.2
  have hadd:=run_add_bs (numR k (n / 256)) [UInt8.ofNat (n % 256).toNat] (by simp[numR_len];omega)
  have H4:=hd0 e4
  clear b1 e4 h0 h1 hk
  go_enter Tryz.func84,Tryz.ntmps84
  go_wp2_with fail
  go_region_with (go_at_call 84;with_reducible refine(IH.out (n / 256) _ B1.out.1 B1.out.2.1 B1.out.2.2).mono ?_;rintro e w' ⟨rfl,hb⟩;have hc:=bcell hb)
  all_goals go_wp2
  all_goals go_ret
  all_goals refine⟨rfl,?_⟩
  all_goals first
   | exact((Below.refl w.heap.size w).drew.trans hb).alloc (by have:=hb.size;simpa using this) _
   | exact(((Below.refl w.heap.size w).alloc (Nat.le_refl _) _).drew.trans (hb.mono (by simp)))
theorem PB.set2 {T:TypeId}{W:World}{q:Nat}{a b c:Int}{f:List UInt8}{v:Value}(h:PB T W q a b c f v)(d:Int):PB T (W.setCell ⟨q,2,none⟩ (.int .u8 d)) q a b d f v:=by
 unfold PB at *;simp[World.setCell,Array.getElem?_modify,h]
theorem numR_zero:∀ k,numR k 0=List.replicate k 0
 | 0=>rfl
 | k+1=>by
  rw[numR,show(0:Int) / 256=0 from rfl,numR_zero k,List.replicate_succ']
  rfl
theorem refPut13_any (xlv:Int)(xrd:Bool)(xiv xsq xme:Int)(xm:List UInt8)(w:World)(hm:xm.length≤1000)(hsq:0≤xsq∧xsq<4294967296)(hme:0≤xme∧xme<65536):Calls Tryz.prog 43 #[.agg #[.int .u8 xlv,.bool xrd,.int .u8 xiv,.int .u32 xsq,.int .u16 xme,.string (bs xm)]] w fun en w' =>
  en=.returned (.tuple #[.agg #[.int .u8 (putC xlv xrd xiv xsq xme xm).1,.int .u8 (putC xlv xrd xiv xsq xme xm).2.1,.int .u8 (putC xlv xrd xiv xsq xme xm).2.2.1,.string (bs (putC xlv xrd xiv xsq xme xm).2.2.2.1),.slice none 0 0],.int .i64 (putC xlv xrd xiv xsq xme xm).2.2.2.2])∧Below w.heap.size w w':=by
 obtain⟨R,hR⟩:∃ R,putC xlv xrd xiv xsq xme xm=R:=⟨_,rfl⟩
 rw[hR]
 obtain⟨K,hK⟩:∃ K,mayC xlv xiv xme xm=K:=⟨_,rfl⟩
 have M1:Hid (∀ w,Calls Tryz.prog 74 #[.agg #[.int .u8 xlv,.bool xrd,.int .u8 xiv,.int .u32 xsq,.int .u16 xme,.string (bs xm)]] w fun en w'=>en=.returned (.bool K)∧Below w.heap.size w w'):=by
  rw[←hK];exact fun w=>refMay13_any xlv xrd xiv xsq xme xm w hm
 have HR:=hd0 hR
 have HK:=hd0 hK
 have HM:=hd0 hm
 have N1:Hid (∀ w,Calls Tryz.prog 84 #[.int .u64 xsq,.int .i64 4] w fun e w'=>e=.returned (.string (bs (be 4 xsq)))∧Below w.heap.size w w'):=fun w=>num_be 4 xsq w (by omega) (by omega) (by omega)
 have N2:Hid (∀ w,Calls Tryz.prog 84 #[.int .u64 xme,.int .i64 2] w fun e w'=>e=.returned (.string (bs (be 2 xme)))∧Below w.heap.size w w'):=fun w=>num_be 2 xme w (by omega) (by omega) (by omega)
 have N3:Hid (∀ w,Calls Tryz.prog 84 #[.int .u64 0,.int .i64 16] w fun e w'=>e=.returned (.string (bs (List.replicate 16 0)))∧Below w.heap.size w w'):=fun w=>by
  rw[←numR_zero 16];exact num_far 16 0 w (by omega) (by omega) (by omega)
 have wq:IntKind.u64.wrap xsq=xsq:=IntWalk.u64_in _ (by omega)
 have wm:IntKind.u64.wrap xme=xme:=IntWalk.u64_in _ (by omega)
 clear hR hK hm hsq hme
 go_enter Tryz.func43,Tryz.ntmps43
 go_upto_region 1 with fail
 have cb0:=(CB.new 118 w xlv xrd xiv xsq xme xm).later (bA (.cells yU 115))
 have pz:PB 115 ((w.alloc (.cells #[.int .u8 xlv,.bool xrd,.int .u8 xiv,.int .u32 xsq,.int .u16 xme,.string (bs xm)] 118)).alloc (.cells yU 115)) (w.heap.size+1) 0 0 0 [] (.slice none 0 0):=by
  have:=PB.new 115 (w.alloc (.cells #[.int .u8 xlv,.bool xrd,.int .u8 xiv,.int .u32 xsq,.int .u16 xme,.string (bs xm)] 118)) 0 0 0 [] (.slice none 0 0)
  rw[show(w.alloc (.cells #[.int .u8 xlv,.bool xrd,.int .u8 xiv,.int .u32 xsq,.int .u16 xme,.string (bs xm)] 118)).heap.size=w.heap.size+1 by simp] at this
  exact this
 have hb0:Below w.heap.size w ((w.alloc (.cells #[.int .u8 xlv,.bool xrd,.int .u8 xiv,.int .u32 xsq,.int .u16 xme,.string (bs xm)] 118)).alloc (.cells yU 115)):=(bA _).alloc (by simp) _
 obtain⟨w0,hw0⟩:∃ k,(w.alloc (.cells #[.int .u8 xlv,.bool xrd,.int .u8 xiv,.int .u32 xsq,.int .u16 xme,.string (bs xm)] 118)).alloc (.cells yU 115)=k:=⟨_,rfl⟩
 rw[hw0] at cb0 pz hb0 ⊢
 have c0:=cb0.c0
 have c1:=cb0.c1
 have c2:=cb0.c2
 have c3:=cb0.c3
 have c4:=cb0.c4
 have c5:=cb0.c5
 have CB0:=hd0 cb0
 have PZ0:=hd0 pz
 have HB0:=hd0 hb0
 clear hw0 cb0 pz hb0
 go_wp2_with fail
 with_reducible refine(M1.out _).mono ?_
 rintro en w1 ⟨rfl,hb1⟩
 have CB1:=hd0 (CB0.out.later hb1)
 have PZ1:=hd0 (PZ0.out.later hb1)
 have HB1:=hd0 (HB0.out.trans (hb1.mono HB0.out.size))
 clear hb1 CB0 PZ0 HB0 c0 c1 c2 c3 c4 c5 M1
 cases K with
 | false =>
  have hRR:R=(0,0,0,[],2):=by rw[←HR.out];unfold putC;rw[HK.out];rfl
  have HRR:=hd0 hRR
  clear hRR
  have z0:=PZ1.out.c0
  have z1:=PZ1.out.c1
  have z2:=PZ1.out.c2
  have z3:=PZ1.out.c3
  have z4:=PZ1.out.c4
  have y0:=PZ1.out.fr 0
  have y1:=PZ1.out.fr 1
  have y2:=PZ1.out.fr 2
  have y3:=PZ1.out.fr 3
  have y4:=PZ1.out.fr 4
  go_wp2_with fail
  refine bodyPost_ret (v:=.tuple #[.agg #[.int .u8 0,.int .u8 0,.int .u8 0,.string (bs []),.slice none 0 0],.int .i64 2]) (by simp[results,Tryz.results43,go_sem,z0,z1,z2,z3,z4];rfl) rfl ⟨by rw[HRR.out],below_set (below_set (below_set (below_set (below_set HB1.out (by omega) _) (by omega) _) (by omega) _) (by omega) _) (by omega) _⟩
 | true =>
 obtain⟨C,hC⟩:∃ C:Int,xiv+(if xrd=true then 128 else 0)=C:=⟨_,rfl⟩
 have hRR:R=(xlv,1,C,fxC xsq xme xm,0):=by rw[←HR.out,← hC];unfold putC;rw[HK.out,if_pos rfl]
 have HRR:=hd0 hRR
 have hiv:=mayC_iv HK.out
 have c0:=CB1.out.c0
 have c1:=CB1.out.c1
 have c2:=CB1.out.c2
 clear hRR
 go_upto_region 4 with fail
 have pq:=PB.new 115 w1 xlv 1 xiv [] (.slice none 0 0)
 have aa:=(Below.refl w1.heap.size w1).alloc (Nat.le_refl _) (.cells #[.int .u8 xlv,.int .u8 1,.int .u8 xiv,.string { data:=#[] },.slice none 0 0] 115)
 have hq0:w.heap.size+1<w1.heap.size:=PZ1.out.lt
 obtain⟨q,hq⟩:∃ k,w1.heap.size=k:=⟨_,rfl⟩
 obtain⟨w2,hw2⟩:∃ k,w1.alloc (.cells #[.int .u8 xlv,.int .u8 1,.int .u8 xiv,.string { data:=#[] },.slice none 0 0] 115)=k:=⟨_,rfl⟩
 have pq2:PB 115 w2 w1.heap.size xlv 1 xiv [] (.slice none 0 0):=by rw[←hw2];exact pq
 rw[hw2] at aa ⊢
 have CB2:=hd0 (CB1.out.later aa)
 have PZ2:=hd0 (PZ1.out.later aa)
 have HB2:=hd0 (HB1.out.trans (aa.mono HB1.out.size))
 rw[hq] at pq2 hq0 ⊢
 have PQ2:=hd0 pq2
 have HQ0:=hd0 hq0
 clear hw2 pq pq2 aa hq hq0 CB1 PZ1 HB1 c0 c1 c2
 have c1:=CB2.out.c1
 have q2:=PQ2.out.c2
 have g2:=PQ2.out.fr 2
 go_upto_if 15 with fail
 go_cut [] (fun wx=>Hid (PB 115 wx q xlv 1 C [] (.slice none 0 0))∧Hid (CB 118 wx w.heap.size xlv xrd xiv xsq xme xm)∧Hid (PB 115 wx (w.heap.size+1) 0 0 0 [] (.slice none 0 0))∧Hid (Below w.heap.size w wx))
 case first =>
  cases xrd with
  | true =>
   rcases hiv with rfl|rfl
   all_goals
    go_wp2_with fail
    go_meet
    refine⟨hd0 ?_,hd0 ?_,hd0 (PZ2.out.other (by have:=HQ0.out;omega) _),hd0 (below_set HB2.out (by have:=HQ0.out;omega) _)⟩
    ·rw[←hC];exact PQ2.out.set2 _
    ·exact CB2.out.other (by have:=HQ0.out;omega) _
  | false =>
   rcases hiv with rfl|rfl
   all_goals
    go_wp2_with fail
    go_meet
    refine⟨?_,CB2,PZ2,HB2⟩
    rw[←hC];exact PQ2
 case rest =>
 obtain⟨PQ3,CB3,PZ3,HB3⟩:=hcut
 clear c1 q2 g2 PQ2 CB2 PZ2 HB2 hC hiv
 go_upto_region 6 with fail
 have cbd:CB 118 wc.drew w.heap.size xlv xrd xiv xsq xme xm:=CB3.out
 have pqd:PB 115 wc.drew q xlv 1 C [] (.slice none 0 0):=PQ3.out
 have hlm:=HM.out
 have a1:=run_add_bs (be 4 xsq) (be 2 xme) (by simp[be_length])
 have a2:=run_add_bs (be 4 xsq++be 2 xme) xm (by simp[be_length];omega)
 have a3:=run_add_bs (be 4 xsq++be 2 xme++xm) (List.replicate 16 0) (by simp[be_length];omega)
 obtain⟨B4,hB4⟩:∃ X,be 4 xsq=X:=⟨_,rfl⟩
 obtain⟨B2,hB2⟩:∃ X,be 2 xme=X:=⟨_,rfl⟩
 obtain⟨Z16,hZ16⟩:∃ X:List UInt8,List.replicate 16 0=X:=⟨_,rfl⟩
 have hR2:=HRR.out
 unfold fxC at hR2
 rw[hB4] at a1 a2 a3 N1 hR2
 rw[hB2] at a1 a2 a3 N2 hR2
 rw[hZ16] at a3 N3 hR2
 obtain⟨X1,hX1⟩:∃ X,B4++B2=X:=⟨_,rfl⟩
 rw[hX1] at a1 a2 a3 hR2
 obtain⟨X2,hX2⟩:∃ X,X1++xm=X:=⟨_,rfl⟩
 rw[hX2] at a2 a3 hR2
 obtain⟨X3,hX3⟩:∃ X,X2++Z16=X:=⟨_,rfl⟩
 rw[hX3] at a3 hR2
 have HR2:=hd0 hR2
 clear hB4 hB2 hZ16 hR2 HRR hX1 hX2 hX3
 go_region_held3 (fun W=>W.cell? ⟨w.heap.size,3,none⟩=some (.int .u32 xsq)∧W.cell? ⟨w.heap.size,4,none⟩=some (.int .u16 xme)∧W.cell? ⟨w.heap.size,5,none⟩=some (.string (bs xm)))
  (first|(with_reducible exact⟨cbd.c3,cbd.c4,cbd.c5⟩)|(with_reducible exact⟨cbx.c3,cbx.c4,cbx.c5⟩)|(with_reducible exact⟨cby.c3,cby.c4,cby.c5⟩)|(with_reducible exact⟨cbz.c3,cbz.c4,cbz.c5⟩)|(with_reducible exact⟨cbs.c3,cbs.c4,cbs.c5⟩))
  (first
   |(go_at_call 84;(with_reducible refine(N1.out _).mono ?_);rintro en wx ⟨rfl,hbx⟩;have cbx:=cbd.later hbx;have pqx:=pqd.later hbx)
   |(go_at_call 84;(with_reducible refine(N2.out _).mono ?_);rintro en wy ⟨rfl,hby⟩;have cby:=cbx.later hby;have pqy:=pqx.later hby)
   |(go_at_call 84;(with_reducible refine(N3.out _).mono ?_);rintro en wz ⟨rfl,hbz⟩;have cbz:=cby.later hbz;have pqz:=pqy.later hbz;have g3:=pqz.c3;have g3f:=pqz.fr 3;have cbs:=cbz.other (o:=3) (show q≠w.heap.size by have:=HQ0.out;omega) (.string (bs X3))))
 have hb3:Below w.heap.size w wc.drew:=HB3.out.drew
 have hb4:=hb3.trans (hbx.mono hb3.size)
 have hb5:=hb4.trans (hby.mono hb4.size)
 have hb6:=hb5.trans (hbz.mono hb5.size)
 have pzz:=(((PZ3.out.later (Below.refl _ _).drew).later hbx).later hby).later hbz
 have PQs:=pqz.set3 X3
 have PZs:=pzz.other (t:=q) (o:=3) (by have:=HQ0.out;omega) (.string (bs X3))
 have hb7:Below w.heap.size w (wz.setCell ⟨q,3,none⟩ (.string (bs X3))):=below_set hb6 (by have:=HQ0.out;omega) _
 obtain⟨ws,hws⟩:∃ k,wz.setCell ⟨q,3,none⟩ (.string (bs X3))=k:=⟨_,rfl⟩
 rw[hws] at PQs PZs hb7 ⊢
 have HB7:=hd0 hb7
 have k0:=PQs.c0
 have k1:=PQs.c1
 have k2:=PQs.c2
 have k3:=PQs.c3
 have k4:=PQs.c4
 have z0:=PZs.c0
 have z1:=PZs.c1
 have z2:=PZs.c2
 have z3:=PZs.c3
 have z4:=PZs.c4
 have y0:=PZs.fr 0
 have y1:=PZs.fr 1
 have y2:=PZs.fr 2
 have y3:=PZs.fr 3
 have y4:=PZs.fr 4
 clear hws hb3 hb4 hb5 hb6 hb7 hbx hby hbz pzz PQs PZs g3 g3f cbs cbx cby cbz pqx pqy pqz cbd pqd PQ3 CB3 PZ3 HB3
 go_wp2_with fail
 refine bodyPost_ret (v:=.tuple #[.agg #[.int .u8 xlv,.int .u8 1,.int .u8 C,.string (bs X3),.slice none 0 0],.int .i64 0]) (by simp[results,Tryz.results43,go_sem,z0,z1,z2,z3,z4]) rfl ⟨by rw[HR2.out],below_set (below_set (below_set (below_set (below_set HB7.out (by omega) _) (by omega) _) (by omega) _) (by omega) _) (by omega) _⟩
theorem res_ctt {fn:Func}{ty:TypeId}{d:TypeDesc}{p u1 u2:Nat}(hf:fn.results=#[.cell p ty,.tmp u1,.tmp u2])(hd:(match d with|.struct _|.array _ _=>true|_=>false)=true)(hu:Tryz.prog.underlying ty=some d)(tmps:Array Value)(W:World)(b:Nat)(A:Array Value)(h2:tmps.getD p undef=.pointer (some ⟨b,0,none⟩))(hg:GB ty W b A)
  (hi:(Tryz.prog.info? ty).map (·.size)=some A.size):(results fn tmps).run Tryz.prog W=.ok (.tuple #[.agg A,tmps.getD u1 undef,tmps.getD u2 undef]) W:=by
 have h3:tmps[p]?.getD undef=.pointer (some ⟨b,0,none⟩):=by simpa using h2
 simp only[results,hf]
 simp[h3,asAddr,run_loadVar_row W b ty ty A (0,0) _ hg hu (by cases d <;> first|rfl|exact hd) hi]
theorem res_cct {fn:Func}{ty ty':TypeId}{d d':TypeDesc}{p p' u:Nat}(hf:fn.results=#[.cell p ty,.cell p' ty',.tmp u])(hd:(match d with|.struct _|.array _ _=>true|_=>false)=true)(hd':(match d' with|.struct _|.array _ _=>true|_=>false)=true)(hu:Tryz.prog.underlying ty=some d)(hu':Tryz.prog.underlying ty'=some d')(tmps:Array Value)(W:World)(b b':Nat)(A A':Array Value)(h2:tmps.getD p undef=.pointer (some ⟨b,0,none⟩))(h2':tmps.getD p' undef=.pointer (some ⟨b',0,none⟩))(hg:GB ty W b A)(hg':GB ty' W b' A')
  (hi:(Tryz.prog.info? ty).map (·.size)=some A.size) (hi':(Tryz.prog.info? ty').map (·.size)=some A'.size):(results fn tmps).run Tryz.prog W=.ok (.tuple #[.agg A,.agg A',tmps.getD u undef]) W:=by
 have h3:tmps[p]?.getD undef=.pointer (some ⟨b,0,none⟩):=by simpa using h2
 have h3':tmps[p']?.getD undef=.pointer (some ⟨b',0,none⟩):=by simpa using h2'
 simp only[results,hf]
 simp[h3,h3',asAddr,run_loadVar_row W b ty ty A (0,0) _ hg hu (by cases d <;> first|rfl|exact hd) hi,run_loadVar_row W b' ty' ty' A' (0,0) _ hg' hu' (by cases d' <;> first|rfl|exact hd') hi']
def rzA:Array Value:=#[.int .u8 0,.int .u8 0,.string { data:=#[] },.int .u16 0,.slice none 0 0,.int .u8 0,.int .u8 0,.int .u8 0,.int .u8 0,.int .u8 0,.int .u8 0,.int .u8 0,.slice none 0 0,.int .i64 0,.slice none 0 0,.int .u64 0,.int .u32 0,.string { data:=#[] },.int .i64 0,.int .i64 0,.int .u32 0,.slice none 0 0]
theorem rfA_size (o:Ow20)(v:Rv)(r:Rf):(rfA o v r).size=22:=rfl
theorem rfA_one (o:Ow20)(v:Rv)(r:Rf)(h0:v.ov.oneCell'=true)(h1:v.hv.oneCell'=true)(h2:v.sv.oneCell'=true)(h3:v.yv.oneCell'=true):(rfA o v r).all (·.oneCell')=true:=by
 unfold rfA
 simp[Value.oneCell',h0,h1,h2,h3]
 refine⟨?_,?_,?_,?_⟩ <;> assumption
theorem info_mep:(Tryz.prog.info? 44).map (·.size)=some 22:=by kernel_rfl
theorem Rw.oneC {α:Type}{k:Nat}{f:α→List Value}{w:World}{v:Value}{l:List α}(h:Rw k f w v l):v.oneCell'=true:=by
 obtain⟨a,c,rfl,-⟩:=h.shape;rfl
theorem RX.one {w:World}{ks:List Int}{v:Rv}{r:Rf}(h:RX w ks v r)(o:Ow20)(r':Rf):(rfA o v r').all (·.oneCell')=true:=rfA_one o v r' h.ks.oneC h.hd.oneC h.ws.oneC h.wy.oneC
structure TB (w W:World)(o:Ow20)(v:Rv)(r:Rf):Prop where
 gb:GB 44 W w.heap.size (rfA o v r)
 gz:GB 44 W (w.heap.size+1) rzA
 bel:Below w.heap.size w W
section
variable {w W W':World} {o:Ow20} {v:Rv} {r:Rf}
theorem TB.begin (w:World)(o:Ow20)(v:Rv)(r:Rf):TB w ((w.alloc (.cells (rfA o v r) 44)).alloc (.cells yP 44)) o v r :=
 have h:=GB.new 44 (w.alloc (.cells (rfA o v r) 44)) #[.int .u8 0,.int .u8 0,.string { data:=#[] },.int .u16 0,.slice none 0 0,.int .u8 0,.int .u8 0,.int .u8 0,.int .u8 0,.int .u8 0,.int .u8 0,.int .u8 0,.slice none 0 0,.int .i64 0,.slice none 0 0,.int .u64 0,.int .u32 0,.string { data:=#[] },.int .i64 0,.int .i64 0,.int .u32 0,.slice none 0 0]
 ⟨(GB.new 44 w (rfA o v r)).later (bA _),by rw[show(w.alloc (.cells (rfA o v r) 44)).heap.size=w.heap.size+1 by simp] at h;exact h,(bA _).alloc (by simp) _⟩
theorem TB.low (h:TB w W o v r)(hb:Below (w.heap.size+2) W W'):TB w W' o v r:=⟨h.gb.below (by omega) hb,h.gz.below (by omega) hb,h.bel.trans (hb.mono (by omega))⟩
theorem TB.sz (h:TB w W o v r):w.heap.size+2≤W.heap.size:=h.gz.lt
theorem TB.later (h:TB w W o v r)(hb:Below W.heap.size W W'):TB w W' o v r:=h.low (hb.mono h.sz)
theorem TB.drew (h:TB w W o v r):TB w W.drew o v r:=h.later (Below.refl _ _).drew
theorem TB.set (h:TB w W o v r)(j:Nat)(x:Value){v':Rv}{r':Rf}(e:(rfA o v r).setIfInBounds j x=rfA o v' r'):TB w (W.setCell ⟨w.heap.size,j,none⟩ x) o v' r' :=
 ⟨by rw[←e];exact h.gb.set j x,h.gz.other (by omega) x,below_set h.bel (Nat.le_refl _) x⟩
theorem TB.rng (h:TB w W o v r):W.rangeAt w.heap.size 0 (rfA o v r).toList:=h.gb.range
theorem TB.thr (h:TB w W o v r):W.there (w.heap.size+1) 0 (rfA o v r).size:=h.gz.there (Nat.le_refl _)
theorem TB.fin (h:TB w W o v r)(h1:(rfA o v r).all (·.oneCell')=true):GB 44 (W.setCells (w.heap.size+1) 0 (rfA o v r).toList) (w.heap.size+1) (rfA o v r):=h.gz.store rfl h1
theorem TB.c (h:TB w W o v r)(j:Nat)(x:Value)(hx:(rfA o v r)[j]?=some x):W.cell? ⟨w.heap.size,j,none⟩=some x:=h.gb.c j x hx
end
theorem Ow.setLow {α:Type}{k:Nat}{f:α→List Value}{E:TypeId}{w:World}{B:Nat}{v:Value}{l:List α}(h:Ow k f E w B v l){t j:Nat}(ht:t<B)(u:Value):Ow k f E (w.setCell ⟨t,j,Option.none⟩ u) B v l:=by
 obtain⟨h1,h2⟩:=h
 refine⟨h1,?_⟩
 rcases h2 with h2|⟨g,cap,cur,rfl,hg,hh,r⟩
 ·exact .inl h2
 ·refine .inr ⟨g,cap,cur,rfl,hg,?_,r⟩
  rw[Below.heap_setCell _ _ _ _ (by intro e;simp at e;omega)];exact hh
theorem Ow.cellsLow {α:Type}{k:Nat}{f:α→List Value}{E:TypeId}{B:Nat}{v:Value}{l:List α}{t:Nat}(ht:t<B):∀ (vs:List Value) (o:Nat) (W:World),Ow k f E W B v l→Ow k f E (W.setCells t o vs) B v l
 |[],_,_,h=>h
 | u::r,o,W,h=>Ow.cellsLow ht r (o+1) _ (h.setLow ht u)
theorem Ow.cap {α:Type}{k:Nat}{f:α→List Value}{E:TypeId}{w:World}{B:Nat}{v:Value}{l:List α}(h:Ow k f E w B v l):∃ a c,v=.slice a l.length c∧l.length≤c:=by
 obtain⟨h1,h2⟩:=h
 rcases h2 with⟨rfl,h0⟩|⟨g,cap,cur,rfl,hg,hh,hn,r⟩
 ·exact⟨Option.none,0,by rw[h0],by omega⟩
 ·exact⟨_,cap,rfl,hn⟩
theorem u8C_one (x:Int):∀ u∈u8C x,u.oneCell'=true:=by intro u hu;unfold u8C at hu;rw[List.mem_singleton.1 hu];rfl
theorem ckP_b (o:Ow20)(ho:o.Ok)(wo sq:Int):(0≤(ckP o wo sq).1∧(ckP o wo sq).1<256)∧(0≤(ckP o wo sq).2.1∧(ckP o wo sq).2.1<256)∧(0≤(ckP o wo sq).2.2.1∧(ckP o wo sq).2.2.1<256)∧(ckP o wo sq).2.2.2.1.length≤1000000:=by
 unfold ckP putC
 split
 ·rename_i hmay
  have hiv:=mayC_iv hmay
  refine⟨ho.a.lv,⟨by show(0:Int)≤1;decide,by show(1:Int)<256;decide⟩,?_,?_⟩
  ·show 0≤o.a.iv+_∧o.a.iv+_<256
   split <;> omega
  ·show(fxC sq o.a.mp o.a.md).length≤1000000
   unfold fxC;have:=ho.a.md;simp[be_length];omega
 ·exact⟨by decide,by decide,by decide,by decide⟩
theorem refLevels_any (l:Int)(w:World)(h0:0≤l)(h1:l<8):Calls Tryz.prog 44 #[.int .i64 l] w fun en w'=>en=.returned (.tuple #[.agg #[.int .u8 1,.int .u8 128,.int .u8 194,.int .u8 0,.int .u8 0,.int .u8 (48+l)],.agg #[.int .u8 1,.int .u8 128,.int .u8 194,.int .u8 0,.int .u8 0,.int .u8 (56+l)]])∧Below w.heap.size w w':=by
 go_enter Tryz.func44,Tryz.ntmps44
 go_wp2
 refine bodyPost_ret (v:=.tuple #[.agg #[.int .u8 1,.int .u8 128,.int .u8 194,.int .u8 0,.int .u8 0,.int .u8 (48+l)],.agg #[.int .u8 1,.int .u8 128,.int .u8 194,.int .u8 0,.int .u8 0,.int .u8 (56+l)]]) (by simp[results,Tryz.results44,go_sem]) rfl ⟨rfl,?_⟩
 refine Below.alloc ?_ (by simp) _
 exact(Below.refl _ _).alloc (by simp) _
theorem refText_any (l:List UInt8)(e n:Int)(w:World)(hl:l.length≤9223372036854775807) :
  Calls Tryz.prog 130 #[.agg #[.string (bs l),.int .i64 e],.int .i64 n] w fun en w' =>
   en=.returned (.tuple #[.string (bs (rdText l e n).1),.agg #[.string (bs (rdText l e n).2.1),.int .i64 (rdText l e n).2.2]])∧Below w.heap.size w w':=by
 have hsz:=bs_size l
 by_cases he:e=0
 ·subst he
  by_cases hn:n≤0
  ·have hv:rdText l 0 n=([],l,0):=by unfold rdText;rw[if_pos (.inl hn)]
   rw[hv];clear hv
   go_enter Tryz.func130,Tryz.ntmps130
   go_wp2
   go_region
   all_goals go_wp2
   all_goals refine bodyPost_ret (v:=.tuple #[.string (bs []),.agg #[.string (bs l),.int .i64 0]]) (by simp[results,Tryz.results130,go_sem];rfl) rfl ⟨rfl,?_⟩
   all_goals exact(((Below.refl _ _).alloc (by simp) _).alloc (by simp) _).drew
  ·by_cases hln:(l.length:Int)<n
   ·have hv:rdText l 0 n=([],[],3):=by unfold rdText;rw[if_neg (by simp;omega),if_pos hln]
    rw[hv];clear hv
    go_enter Tryz.func130,Tryz.ntmps130
    go_wp2
    refine bodyPost_ret (v:=.tuple #[.string (bs []),.agg #[.string (bs []),.int .i64 3]]) (by simp[results,Tryz.results130,go_sem];rfl) rfl ⟨rfl,?_⟩
    exact(((Below.refl _ _).alloc (by simp) _).alloc (by simp) _)
   ·have hv:rdText l 0 n=(l.take n.toNat,l.drop n.toNat,0):=by unfold rdText;rw[if_neg (by simp;omega),if_neg hln]
    rw[hv];clear hv
    have e1:=bs_take l n.toNat
    have e2:=bs_drop l n.toNat l.length (Nat.le_refl _)
    have hn0:0≤n:=by omega
    have hn1:n≤(l.length:Int):=by omega
    go_enter Tryz.func130,Tryz.ntmps130
    go_wp2
    go_region
    all_goals go_wp2
    all_goals refine bodyPost_ret (v:=.tuple #[.string (bs (l.take n.toNat)),.agg #[.string (bs (l.drop n.toNat)),.int .i64 0]]) (by simp[results,Tryz.results130,go_sem]) rfl ⟨rfl,?_⟩
    all_goals exact(((Below.refl _ _).alloc (by simp) _).alloc (by simp) _).drew
 ·have hv:rdText l e n=([],l,e):=by unfold rdText;rw[if_pos (.inr he)]
  have he':(e != 0)=true:=by simp[he]
  rw[hv];clear hv he
  go_enter Tryz.func130,Tryz.ntmps130
  go_wp2
  go_region
  all_goals go_wp2
  all_goals refine bodyPost_ret (v:=.tuple #[.string (bs []),.agg #[.string (bs l),.int .i64 e]]) (by simp[results,Tryz.results130,go_sem];rfl) rfl ⟨rfl,?_⟩
  all_goals exact(((Below.refl _ _).alloc (by simp) _).alloc (by simp) _).drew
theorem numOf_stepR (t:List UInt8)(k:Nat)(h:k<t.length)(h':k<(bs t).size)(hK:t.length≤8) :
  IntKind.u64.wrap (numOf (t.take k)*256+IntKind.u64.wrap (((bs t)[k]'h').toNat:Int))=numOf (t.take (k+1)):=by
 rw[bs_get t k h' h]
 have hb:=(t[k]'h).toNat_lt
 rw[show IntKind.u64.wrap ((t[k]'h).toNat:Int)=((t[k]'h).toNat:Int) from IntWalk.u64_in _ (by omega)]
 have h1:=numOf_bd (t.take (k+1))
 have h2:=numOf_lt (t.take (k+1)) 8 18446744073709551616 (by simp;omega) (by decide)
 have e:numOf (t.take k)*256+((t[k]'h).toNat:Int)=numOf (t.take (k+1)):=by rw[←numOf_snoc,List.take_append_getElem]
 rw[e]
 exact IntWalk.u64_in _ (by omega)
theorem refNum_any (l:List UInt8)(e:Int)(K:Nat)(w:World)(hl:l.length≤9223372036854775807)(hK:K≤8) :
  Calls Tryz.prog 101 #[.agg #[.string (bs l),.int .i64 e],.int .i64 K] w fun en w' =>
   en=.returned (.tuple #[.int .u64 (numOf (rdText l e K).1),.agg #[.string (bs (rdText l e K).2.1),.int .i64 (rdText l e K).2.2]])∧Below w.heap.size w w':=by
 have hlen:(rdText l e K).1.length≤K:=rdText_len l e K
 generalize hrt:rdText l e K=rt at *
 obtain⟨t,l',e'⟩:=rt
 have HT:=hd0 hrt;clear hrt
 simp only at hlen ⊢
 have hsz:(bs t).size=t.length:=bs_size t
 have hlen8:t.length≤8:=by omega
 go_enter Tryz.func101,Tryz.ntmps101
 go_wp2_with fail
 refine(refText_any l e K _ hl).mono ?_
 rw[HT.out]
 rintro en w1 ⟨rfl,hb⟩
 have hz:=hb.size
 simp at hz
 have hb1:Below w.heap.size w w1:=(((Below.refl w.heap.size w).alloc (by simp) _).alloc (by simp) _).trans (hb.mono (by simp <;> omega))
 have hc0:w1.cell? ⟨w.heap.size+1,0,none⟩=some (.string ⟨#[]⟩):=(hb.cell (by simp)).trans (by simp[go_sem])
 have hc1:w1.cell? ⟨w.heap.size+1,1,none⟩=some (.int .i64 0):=(hb.cell (by simp)).trans (by simp[go_sem])
 have hf0:w1.frozen? ⟨w.heap.size+1,0,none⟩=false:=(hb.frozen (by simp)).trans (by simp[go_sem])
 have hf1:w1.frozen? ⟨w.heap.size+1,1,none⟩=false:=(hb.frozen (by simp)).trans (by simp[go_sem])
 have hz1:w.heap.size+1<w1.heap.size:=by omega
 clear hb hz
 have HB:=hd0 hb1
 clear hb1
 go_wp2
 go_loop [8,9] (fun n i=>∃ k:Nat,k≤t.length∧i=.int .i64 k∧n=.int .u64 (numOf (t.take k))) (fun _ i=>t.length-(intOf i).toNat)
 case atStart=>exact⟨0,by omega,rfl,rfl⟩
 case round =>
  obtain⟨k,hk,rfl,rfl⟩:=hrel
  by_cases hlt:k<t.length
  ·have hb2:numOf (t.take k)<72057594037927936:=numOf_lt _ 7 _ (by simp;omega) (by decide)
   have hb1:=(numOf_bd (t.take k)).1
   go_wp2
   go_round
   case rel=>exact⟨k+1,by omega,by go_num,by rw[numOf_stepR t k hlt _ hlen8]⟩
   case measure=>simp[intOf];omega
  ·obtain rfl:k=t.length:=by omega
   have HX:Hid (numOf (t.take t.length)=numOf t):=by show _=_;rw[List.take_length]
   rw[HX.out]
   go_wp2
   go_region
   all_goals go_wp2
   all_goals refine bodyPost_ret (v:=.tuple #[.int .u64 (numOf t),.agg #[.string (bs l'),.int .i64 e']]) (by simp[results,Tryz.results101,go_sem,hc0,hc1,hz1]) rfl ⟨rfl,?_⟩
   all_goals exact(((HB.out.setCell (p:=⟨w.heap.size+1,0,none⟩) (Nat.le_succ _) _).setCell (p:=⟨w.heap.size+1,1,none⟩) (Nat.le_succ _) _).alloc (by have:=HB.out.size;simp;omega) _).drew
theorem rdn_ok (l:List UInt8)(n:Nat)(h0:1≤n)(h:n≤l.length):rdText l 0 (n:Int)=(l.take n,l.drop n,0):=by
 unfold rdText;rw[if_neg (by omega),if_neg (by omega)];simp
theorem rdn_no (l:List UInt8)(n:Nat)(h:l.length<n):rdText l 0 (n:Int)=([],[],3):=by
 unfold rdText;rw[if_neg (by omega),if_pos (by omega)]
theorem rdn_err (n:Int):rdText [] 3 n=([],[],3):=by unfold rdText;rw[if_pos (Or.inr (by decide))]
theorem crE_iff (f:List UInt8):crE f=0↔f.length=70:=by
 by_cases h1:f.length<4
 ·have q1:cr1 f=([],[],3):=rdn_no f 4 h1
  have q2:cr2 f=([],[],3):=by unfold cr2;rw[q1];exact rdn_err 2
  have q3:cr3 f=([],[],3):=by unfold cr3;rw[q2];exact rdn_err 48
  have q4:cr4 f=([],[],3):=by unfold cr4;rw[q3];exact rdn_err 16
  unfold crE;rw[q4];constructor
  ·intro h;exact absurd h (by decide)
  ·intro h;omega
 have q1:cr1 f=(f.take 4,f.drop 4,0):=rdn_ok f 4 (by decide) (by omega)
 by_cases h2:f.length<6
 ·have q2:cr2 f=([],[],3):=by unfold cr2;rw[q1];exact rdn_no _ 2 (by simp;omega)
  have q3:cr3 f=([],[],3):=by unfold cr3;rw[q2];exact rdn_err 48
  have q4:cr4 f=([],[],3):=by unfold cr4;rw[q3];exact rdn_err 16
  unfold crE;rw[q4];constructor
  ·intro h;exact absurd h (by decide)
  ·intro h;omega
 have q2:cr2 f=((f.drop 4).take 2,f.drop 6,0):=by
  unfold cr2;rw[q1]
  have:=rdn_ok (f.drop 4) 2 (by decide) (by simp;omega)
  rw[List.drop_drop] at this;exact this
 by_cases h3:f.length<54
 ·have q3:cr3 f=([],[],3):=by unfold cr3;rw[q2];exact rdn_no _ 48 (by simp;omega)
  have q4:cr4 f=([],[],3):=by unfold cr4;rw[q3];exact rdn_err 16
  unfold crE;rw[q4];constructor
  ·intro h;exact absurd h (by decide)
  ·intro h;omega
 have q3:cr3 f=((f.drop 6).take 48,f.drop 54,0):=by
  unfold cr3;rw[q2]
  have:=rdn_ok (f.drop 6) 48 (by decide) (by simp;omega)
  rw[List.drop_drop] at this;exact this
 by_cases h4:f.length<70
 ·have q4:cr4 f=([],[],3):=by unfold cr4;rw[q3];exact rdn_no _ 16 (by simp;omega)
  unfold crE;rw[q4];constructor
  ·intro h;exact absurd h (by decide)
  ·intro h;omega
 have q4:cr4 f=((f.drop 54).take 16,f.drop 70,0):=by
  unfold cr4;rw[q3]
  have:=rdn_ok (f.drop 54) 16 (by decide) (by simp;omega)
  rw[List.drop_drop] at this;exact this
 unfold crE rdEnd;rw[q4]
 by_cases h5:f.length=70
 ·rw[if_neg (by simp;omega)];simp[h5]
 ·rw[if_pos (by simp;omega)]
  constructor
  ·intro h;exact absurd h (by simp[rdFail])
  ·intro h;exact absurd h h5
theorem cr_70 (f:List UInt8)(h:f.length=70):cr1 f=(f.take 4,f.drop 4,0)∧cr2 f=((f.drop 4).take 2,f.drop 6,0)∧cr3 f=((f.drop 6).take 48,f.drop 54,0):=by
 have q1:cr1 f=(f.take 4,f.drop 4,0):=rdn_ok f 4 (by decide) (by omega)
 have q2:cr2 f=((f.drop 4).take 2,f.drop 6,0):=by
  unfold cr2;rw[q1]
  have:=rdn_ok (f.drop 4) 2 (by decide) (by simp;omega)
  rw[List.drop_drop] at this;exact this
 have q3:cr3 f=((f.drop 6).take 48,f.drop 54,0):=by
  unfold cr3;rw[q2]
  have:=rdn_ok (f.drop 6) 48 (by decide) (by simp;omega)
  rw[List.drop_drop] at this;exact this
 exact⟨q1,q2,q3⟩
def RB (W:World)(r:Nat)(l:List UInt8):Prop:=W.heap[r]?=some (.cells #[.string (bs l),.int .i64 0] 198 (0,0))
section
variable {W W':World} {r:Nat} {l:List UInt8}
theorem RB.lt (h:RB W r l):r<W.heap.size:=by
 rcases Nat.lt_or_ge r W.heap.size with h1|h1
 ·exact h1
 ·unfold RB at h;rw[Array.getElem?_eq_none h1] at h;cases h
theorem RB.later (h:RB W r l)(hb:Below W.heap.size W W'):RB W' r l:=by unfold RB;rw[hb.block r h.lt];exact h
theorem RB.c0 (h:RB W r l):W.cell? ⟨r,0,none⟩=some (.string (bs l)):=by unfold RB at h;simp[World.cell?,h]
theorem RB.c1 (h:RB W r l):W.cell? ⟨r,1,none⟩=some (.int .i64 0):=by unfold RB at h;simp[World.cell?,h]
theorem RB.fr (h:RB W r l)(o:Nat):W.frozen? ⟨r,o,none⟩=false:=by unfold RB at h;simp[World.frozen?,h]
theorem RB.sets (h:RB W r l)(m:List UInt8):RB ((W.setCell ⟨r,0,none⟩ (.string (bs m))).setCell ⟨r,1,none⟩ (.int .i64 0)) r m:=by
 unfold RB at *;simp[World.setCell,Array.getElem?_modify,h]
end
theorem refTake13_any (v:Value)(a b c:Int)(f:List UInt8)(w:World)(hf:f.length≤1000)(ha:0≤a∧a<256)(hc:0≤c∧c<256)(hv:∃ x n k,v=.slice x n k):Calls Tryz.prog 57 #[.agg #[.int .u8 a,.int .u8 b,.int .u8 c,.string (bs f),v]] w fun en w' =>
  en=.returned (.tuple #[.agg #[.int .u8 (tkC a b c f).1,.bool (tkC a b c f).2.1,.int .u8 (tkC a b c f).2.2.1,.int .u32 (tkC a b c f).2.2.2.1,.int .u16 (tkC a b c f).2.2.2.2.1,.string (bs (tkC a b c f).2.2.2.2.2.1)],.int .i64 (tkC a b c f).2.2.2.2.2.2])∧Below w.heap.size w w':=by
 obtain⟨vx,vn,vk,rfl⟩:=hv
 have hsf:=bs_size f
 obtain⟨R,hR⟩:∃ R,tkC a b c f=R:=⟨_,rfl⟩
 rw[hR]
 have HR:=hd0 hR
 clear hR
 go_enter Tryz.func57,Tryz.ntmps57
 go_upto_region 1 with fail
 have pb0:=(PB.new 115 w a b c f (.slice vx vn vk)).later (bA (.cells #[.int .u8 0,.bool false,.int .u8 0,.int .u32 0,.int .u16 0,.string { data:=#[] }] 118))
 have pz:CB 118 ((w.alloc (.cells #[.int .u8 a,.int .u8 b,.int .u8 c,.string (bs f),.slice vx vn vk] 115)).alloc (.cells #[.int .u8 0,.bool false,.int .u8 0,.int .u32 0,.int .u16 0,.string { data:=#[] }] 118)) (w.heap.size+1) 0 false 0 0 0 []:=by
  have:=CB.new 118 (w.alloc (.cells #[.int .u8 a,.int .u8 b,.int .u8 c,.string (bs f),.slice vx vn vk] 115)) 0 false 0 0 0 []
  rw[show(w.alloc (.cells #[.int .u8 a,.int .u8 b,.int .u8 c,.string (bs f),.slice vx vn vk] 115)).heap.size=w.heap.size+1 by simp] at this
  exact this
 have hb0:Below w.heap.size w ((w.alloc (.cells #[.int .u8 a,.int .u8 b,.int .u8 c,.string (bs f),.slice vx vn vk] 115)).alloc (.cells #[.int .u8 0,.bool false,.int .u8 0,.int .u32 0,.int .u16 0,.string { data:=#[] }] 118)):=(bA _).alloc (by simp) _
 obtain⟨w0,hw0⟩:∃ k,(w.alloc (.cells #[.int .u8 a,.int .u8 b,.int .u8 c,.string (bs f),.slice vx vn vk] 115)).alloc (.cells #[.int .u8 0,.bool false,.int .u8 0,.int .u32 0,.int .u16 0,.string { data:=#[] }] 118)=k:=⟨_,rfl⟩
 rw[hw0] at pb0 pz hb0 ⊢
 have c1:=pb0.c1
 have c3:=pb0.c3
 have PB0:=hd0 pb0
 have PZ0:=hd0 pz
 have HB0:=hd0 hb0
 clear hw0 pb0 pz hb0
 by_cases hb:b=1∧f.length=70
 rotate_left
 ·have hR2:R=(0,false,0,0,0,[],4):=by
   rw[←HR.out];unfold tkC;rw[if_neg (fun h=>hb ⟨h.1,(crE_iff f).1 h.2.1⟩)]
  have HR2:=hd0 hR2
  clear hR2
  have z0:=PZ0.out.c0
  have z1:=PZ0.out.c1
  have z2:=PZ0.out.c2
  have z3:=PZ0.out.c3
  have z4:=PZ0.out.c4
  have z5:=PZ0.out.c5
  have y0:=PZ0.out.fr 0
  have y1:=PZ0.out.fr 1
  have y2:=PZ0.out.fr 2
  have y3:=PZ0.out.fr 3
  have y4:=PZ0.out.fr 4
  have y5:=PZ0.out.fr 5
  by_cases h1:b=1
  ·have db:(b != 1)=false:=by rw[h1];rfl
   have dl:((f.length:Int) != 70)=true:=by
    rw[bne_iff_ne];intro h;exact hb ⟨h1,by omega⟩
   clear hb h1
   go_wp2_with fail
   refine bodyPost_ret (v:=.tuple #[.agg #[.int .u8 0,.bool false,.int .u8 0,.int .u32 0,.int .u16 0,.string (bs [])],.int .i64 4]) (by simp[results,Tryz.results57,go_sem,z0,z1,z2,z3,z4,z5];rfl) rfl ⟨by rw[HR2.out],below_set (below_set (below_set (below_set (below_set (below_set HB0.out (by omega) _) (by omega) _) (by omega) _) (by omega) _) (by omega) _) (by omega) _⟩
  ·have db:(b != 1)=true:=by rw[bne_iff_ne];exact h1
   clear hb h1
   go_wp2_with fail
   refine bodyPost_ret (v:=.tuple #[.agg #[.int .u8 0,.bool false,.int .u8 0,.int .u32 0,.int .u16 0,.string (bs [])],.int .i64 4]) (by simp[results,Tryz.results57,go_sem,z0,z1,z2,z3,z4,z5];rfl) rfl ⟨by rw[HR2.out],below_set (below_set (below_set (below_set (below_set (below_set HB0.out (by omega) _) (by omega) _) (by omega) _) (by omega) _) (by omega) _) (by omega) _⟩
 obtain⟨hb1,h70⟩:=hb
 obtain⟨q1,q2,q3⟩:=cr_70 f h70
 obtain⟨sq,hsq⟩:∃ y,numOf (cr1 f).1=y:=⟨_,rfl⟩
 obtain⟨me,hme⟩:∃ y,numOf (cr2 f).1=y:=⟨_,rfl⟩
 obtain⟨m,hm⟩:∃ y,(cr3 f).1=y:=⟨_,rfl⟩
 obtain⟨l1,hl1⟩:∃ y,f.drop 4=y:=⟨_,rfl⟩
 obtain⟨l2,hl2⟩:∃ y,f.drop 6=y:=⟨_,rfl⟩
 have N1:Hid (∀ w,Calls Tryz.prog 101 #[.agg #[.string (bs f),.int .i64 0],.int .i64 4] w fun en w'=>en=.returned (.tuple #[.int .u64 sq,.agg #[.string (bs l1),.int .i64 0]])∧Below w.heap.size w w'):=fun w=>by
  have h:=refNum_any f 0 4 w (by omega) (by decide)
  rw[show rdText f 0 ((4:Nat):Int)=cr1 f from rfl,hsq] at h
  rw[q1,hl1] at h;exact h
 have N2:Hid (∀ w,Calls Tryz.prog 101 #[.agg #[.string (bs l1),.int .i64 0],.int .i64 2] w fun en w'=>en=.returned (.tuple #[.int .u64 me,.agg #[.string (bs l2),.int .i64 0]])∧Below w.heap.size w w'):=fun w=>by
  have h:=refNum_any l1 0 2 w (by rw[←hl1];simp;omega) (by decide)
  have e:rdText l1 0 ((2:Nat):Int)=cr2 f:=by unfold cr2;rw[q1,hl1];rfl
  rw[e,hme] at h
  rw[q2,hl2] at h;exact h
 have b1:=(numOf_bd (cr1 f).1).1
 have b2:=(numOf_bd (cr2 f).1).1
 have b1':=numOf_lt (cr1 f).1 4 4294967296 (by rw[q1];simp;omega) (by decide)
 have b2':=numOf_lt (cr2 f).1 2 65536 (by rw[q2];simp;omega) (by decide)
 rw[hsq] at b1 b1'
 rw[hme] at b2 b2'
 have w1:IntKind.u32.wrap sq=sq:=IntWalk.u32_in _ (by omega)
 have w2:IntKind.u16.wrap me=me:=IntWalk.u16_in _ (by omega)
 have sl2:(bs l2).size=64:=by rw[bs_size,← hl2];simp;omega
 have ex:(bs l2).extract 0 48=bs m:=by rw[bs_take,← hm,q3,hl2]
 have ml:m.length≤1000:=by rw[←hm,q3];simp;omega
 obtain⟨K,hK⟩:∃ K,mayC a (c % 8) me m=K:=⟨_,rfl⟩
 obtain⟨G,hG⟩:∃ G:Bool,decide (127<c)=G:=⟨_,rfl⟩
 have M1:Hid (∀ w,Calls Tryz.prog 74 #[.agg #[.int .u8 a,.bool G,.int .u8 (c % 8),.int .u32 sq,.int .u16 me,.string (bs m)]] w fun en w'=>en=.returned (.bool K)∧Below w.heap.size w w'):=by
  rw[←hK];exact fun w=>refMay13_any a G (c % 8) sq me m w ml
 have hRR:R=if K=true then(a,G,c % 8,sq,me,m,0) else(0,false,0,0,0,[],4):=by
  rw[←HR.out];unfold tkC
  rw[hsq,hme,hm,hK,hG]
  by_cases h:K=true
  ·rw[if_pos h,if_pos ⟨hb1,(crE_iff f).2 h70,h⟩]
  ·rw[if_neg h,if_neg (fun k=>h k.2.2)]
 have HRR:=hd0 hRR
 have t8:c.tmod 8=c % 8:=Int.tmod_eq_emod_of_nonneg hc.1
 have w8:IntKind.u8.wrap (c % 8)=c % 8:=IntWalk.u8_in _ (by omega)
 have db:(b != 1)=false:=by rw[hb1];rfl
 have dl:((f.length:Int) != 70)=false:=by rw[h70];rfl
 clear hRR hb1 h70 q1 q2 q3 hsq hme hm hl1 hl2 hK b1 b2 b1' b2' ml hf ha hc
 go_wp2_with fail
 with_reducible refine(N1.out _).mono ?_
 rintro en w2_ ⟨rfl,hb2⟩
 have PB2:=hd0 (PB0.out.later hb2)
 have PZ2:=hd0 (PZ0.out.later hb2)
 have HB2:=hd0 (HB0.out.trans (hb2.mono HB0.out.size))
 clear hb2 PB0 PZ0 HB0 c1 c3
 go_upto_region 4 with fail
 have rb:RB (w2_.alloc (.cells #[.string (bs l1),.int .i64 0] 198)) w2_.heap.size l1:=heap_alloc_new w2_ _
 have aa:=(Below.refl w2_.heap.size w2_).alloc (Nat.le_refl _) (.cells #[.string (bs l1),.int .i64 0] 198)
 have hlt:w.heap.size+1<w2_.heap.size:=PZ2.out.lt
 obtain⟨r,hr⟩:∃ k,w2_.heap.size=k:=⟨_,rfl⟩
 obtain⟨w3,hw3⟩:∃ k,w2_.alloc (.cells #[.string (bs l1),.int .i64 0] 198)=k:=⟨_,rfl⟩
 rw[hw3] at rb aa ⊢
 have PB3:=hd0 (PB2.out.later aa)
 have PZ3:=hd0 (PZ2.out.later aa)
 have HB3:=hd0 (HB2.out.trans (aa.mono HB2.out.size))
 rw[hr] at rb hlt ⊢
 have RB3:=hd0 rb
 have HLT:=hd0 hlt
 have r0:=rb.c0
 have r1:=rb.c1
 clear rb aa hw3 hr hlt PB2 PZ2 HB2
 go_wp2_with fail
 with_reducible refine(N2.out _).mono ?_
 rintro en w4 ⟨rfl,hb4⟩
 have PB4:=hd0 (PB3.out.later hb4)
 have PZ4:=hd0 (PZ3.out.later hb4)
 have RB4:=hd0 (RB3.out.later hb4)
 have HB4:=hd0 (HB3.out.trans (hb4.mono HB3.out.size))
 have r0:=RB4.out.c0
 have r1:=RB4.out.c1
 have s0:=RB4.out.fr 0
 have s1:=RB4.out.fr 1
 clear hb4 PB3 PZ3 RB3 HB3
 go_upto_region 5 with fail
 have rb5:=RB4.out.sets l2
 have pb5:=(PB4.out.other (t:=r) (o:=0) (by have:=HLT.out;omega) (.string (bs l2))).other (t:=r) (o:=1) (by have:=HLT.out;omega) (.int .i64 0)
 have pz5:=(PZ4.out.other (t:=r) (o:=0) (by have:=HLT.out;omega) (.string (bs l2))).other (t:=r) (o:=1) (by have:=HLT.out;omega) (.int .i64 0)
 have hb5:Below w.heap.size w ((w4.setCell ⟨r,0,none⟩ (.string (bs l2))).setCell ⟨r,1,none⟩ (.int .i64 0)):=below_set (below_set HB4.out (by have:=HLT.out;omega) _) (by have:=HLT.out;omega) _
 obtain⟨w5,hw5⟩:∃ k,(w4.setCell ⟨r,0,none⟩ (.string (bs l2))).setCell ⟨r,1,none⟩ (.int .i64 0)=k:=⟨_,rfl⟩
 rw[hw5] at rb5 pb5 pz5 hb5 ⊢
 have HB5:=hd0 hb5
 have PZ5:=hd0 pz5
 have p0:=pb5.c0
 have p2:=pb5.c2
 have r0:=rb5.c0
 have hl5:=pz5.lt
 have HL5:=hd0 hl5
 have hlr:=rb5.lt
 clear hw5 rb5 pb5 pz5 hb5 hl5 PB4 PZ4 RB4 HB4 s0 s1 r1
 go_upto_region 5 with fail
 go_cut [7] (fun s7 wx=>∃ q:Nat,s7=.pointer (some ⟨q,0,none⟩)∧Hid (CB 118 wx q a G (c % 8) sq me m)∧Hid (CB 118 wx (w.heap.size+1) 0 false 0 0 0 [])∧Hid (Below w.heap.size w wx))
 case first =>
  go_region_held3 (fun W=>W.cell? ⟨w.heap.size,0,none⟩=some (.int .u8 a)∧W.cell? ⟨w.heap.size,2,none⟩=some (.int .u8 c)∧W.cell? ⟨r,0,none⟩=some (.string (bs l2)))
   (first|exact⟨p0,p2,r0⟩|go_keep)
   (fail)
  all_goals go_wp2_with fail
  all_goals go_meet
  all_goals exact⟨_,rfl,hd0 (CB.new 118 w5 a G (c % 8) sq me m),hd0 (PZ5.out.later ((bA _).drew)),hd0 (HB5.out.alloc HB5.out.size _).drew⟩
 case rest =>
  obtain⟨q,rfl,CQ6,PZ6,HB6⟩:=hcut
  have k0:=CQ6.out.c0
  have k1:=CQ6.out.c1
  have k2:=CQ6.out.c2
  have k3:=CQ6.out.c3
  have k4:=CQ6.out.c4
  have k5:=CQ6.out.c5
  go_wp2_with fail
  with_reducible refine(M1.out _).mono ?_
  rintro en w7 ⟨rfl,hb7⟩
  have CQ7:=hd0 (CQ6.out.later hb7)
  have PZ7:=hd0 (PZ6.out.later hb7)
  have HB7:=hd0 (HB6.out.trans (hb7.mono HB6.out.size))
  clear hb7 CQ6 PZ6 HB6 k0 k1 k2 k3 k4 k5 p0 p2 r0
  cases K with
  | false =>
   have hR2:R=(0,false,0,0,0,[],4):=by rw[HRR.out,if_neg (by decide)]
   have HR2:=hd0 hR2
   clear hR2
   have z0:=PZ7.out.c0
   have z1:=PZ7.out.c1
   have z2:=PZ7.out.c2
   have z3:=PZ7.out.c3
   have z4:=PZ7.out.c4
   have z5:=PZ7.out.c5
   have y0:=PZ7.out.fr 0
   have y1:=PZ7.out.fr 1
   have y2:=PZ7.out.fr 2
   have y3:=PZ7.out.fr 3
   have y4:=PZ7.out.fr 4
   have y5:=PZ7.out.fr 5
   go_wp2_with fail
   refine bodyPost_ret (v:=.tuple #[.agg #[.int .u8 0,.bool false,.int .u8 0,.int .u32 0,.int .u16 0,.string (bs [])],.int .i64 4]) (by simp[results,Tryz.results57,go_sem,z0,z1,z2,z3,z4,z5];rfl) rfl ⟨by rw[HR2.out],below_set (below_set (below_set (below_set (below_set (below_set HB7.out (by omega) _) (by omega) _) (by omega) _) (by omega) _) (by omega) _) (by omega) _⟩
  | true =>
   have hR2:R=(a,G,c % 8,sq,me,m,0):=by rw[HRR.out,if_pos rfl]
   have HR2:=hd0 hR2
   have k0:=CQ7.out.c0
   have k1:=CQ7.out.c1
   have k2:=CQ7.out.c2
   have k3:=CQ7.out.c3
   have k4:=CQ7.out.c4
   have k5:=CQ7.out.c5
   clear hR2
   have z0:=PZ7.out.c0
   have z1:=PZ7.out.c1
   have z2:=PZ7.out.c2
   have z3:=PZ7.out.c3
   have z4:=PZ7.out.c4
   have z5:=PZ7.out.c5
   have y0:=PZ7.out.fr 0
   have y1:=PZ7.out.fr 1
   have y2:=PZ7.out.fr 2
   have y3:=PZ7.out.fr 3
   have y4:=PZ7.out.fr 4
   have y5:=PZ7.out.fr 5
   go_wp2_with fail
   refine bodyPost_ret (v:=.tuple #[.agg #[.int .u8 a,.bool G,.int .u8 (c % 8),.int .u32 sq,.int .u16 me,.string (bs m)],.int .i64 0]) (by simp[results,Tryz.results57,go_sem,z0,z1,z2,z3,z4,z5]) rfl ⟨by rw[HR2.out],below_set (below_set (below_set (below_set (below_set (below_set HB7.out (by omega) _) (by omega) _) (by omega) _) (by omega) _) (by omega) _) (by omega) _⟩
end Go.Proofs.YtlkdfofpnmpidaaGreat
