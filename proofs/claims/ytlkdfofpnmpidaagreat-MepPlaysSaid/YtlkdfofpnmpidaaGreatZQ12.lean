/- ZQ12 -/
import Derived.Test.YtlkdfofpnmpidaaGreatZQ09
set_option linter.unusedVariables false
set_option linter.unusedSimpArgs false
set_option maxRecDepth 100000
set_option maxHeartbeats 16000000
namespace Go.Proofs.YtlkdfofpnmpidaaGreat
open Go.RowKit
def remT (s:Ms):Ms:={ s with V:=tickV s.V,bd:=dn1 s.bd,cr:=dn1 s.cr }
def wstM (s:Ms):Int:=worstV s.V s.bd s.cr
def almT (lw:Int)(s:Ms):Ms:={ s with al:=(tickA lw s.al (wstM s)).1 }
def chkG (lv:Int):Mc:=⟨1,128,194,0,0,48+lv⟩
def ckP (o:Ow20)(worst sq:Int):Int × Int × Int × List UInt8 × Int:=putC o.a.lv (decide (2≤worst)) o.a.iv sq o.a.mp o.a.md
def ckS (o:Ow20)(worst sq:Int):List Sn:=sentR (chkG o.a.lv) (ckP o worst sq).1 (ckP o worst sq).2.1 (ckP o worst sq).2.2.1 (ckP o worst sq).2.2.2.1 []
def tickM (o:Ow20)(s:Ms):Ms × List Sn × Int :=
 if 0<s.lf-1 then({ almT o.lw (remT s) with lf:=s.lf-1 },[],(tickA o.lw s.al (wstM (remT s))).2)
 else({ almT o.lw (remT s) with lf:=tickC o.a.iv,sq:=s.sq+1 },ckS o (wstM (remT s)) (s.sq+1),(tickA o.lw s.al (wstM (remT s))).2)
theorem MM.drew {W:World}{o:Ow20}{ov:Value}{x:Mp}{s:Ms}{wv:Value}(h:MM W o ov x s wv):MM W.drew o ov x s wv:=h.later (Below.refl _ _).drew
theorem MM.alloc {W:World}{o:Ow20}{ov:Value}{x:Mp}{s:Ms}{wv:Value}(h:MM W o ov x s wv)(b:Obj):MM (W.alloc b) o ov x s wv:=h.later (bA b)
theorem MM.two {W:World}{o:Ow20}{ov:Value}{x:Mp}{s:Ms}{wv:Value}(h:MM W o ov x s wv):W.cell? ⟨x.p,12,none⟩=some (.pointer (some ⟨x.q,0,none⟩))∧W.cell? ⟨x.p,13,none⟩=some (.pointer (some ⟨x.r,0,none⟩)):=⟨h.cq,h.cr'⟩
theorem MM.six {W:World}{o:Ow20}{ov:Value}{x:Mp}{s:Ms}{wv:Value}(h:MM W o ov x s wv):W.cell? ⟨x.p,0,none⟩=some (.int .u8 o.a.lv)∧W.cell? ⟨x.p,12,none⟩=some (.pointer (some ⟨x.q,0,none⟩))∧W.cell? ⟨x.p,1,none⟩=some (.int .u8 o.a.iv)∧W.cell? ⟨x.p,15,none⟩=some (.int .u32 s.sq)∧W.cell? ⟨x.p,3,none⟩=some (.int .u16 o.a.mp)∧W.cell? ⟨x.p,2,none⟩=some (.string (bs o.a.md)):=⟨h.clv,h.cq,h.civ,h.csq,h.cmp,h.cmd⟩
theorem PB.zero (T:TypeId)(W:World):PB T (W.alloc (.cells yU T)) W.heap.size 0 0 0 [] (.slice none 0 0):=PB.new T W 0 0 0 [] (.slice none 0 0)
theorem MM.ltD {W:World}{o:Ow20}{ov:Value}{x:Mp}{s:Ms}{wv:Value}(h:MM W o ov x s wv){k:Nat}(hk:x.D wv k):k<W.heap.size:=by
 rcases hk with rfl|rfl|rfl|rfl|hk
 ·exact h.gb.lt
 ·exact h.mc.lt
 ·exact h.mc.om.lt
 ·exact GB.lt h.al
 ·exact(Ow.lt h.wy hk).2
theorem MM.new {W W0:World}{o:Ow20}{ov:Value}{x:Mp}{s s0:Ms}{wv:Value}(h:MM W o ov x s wv)(h0:MM W0 o ov x s0 wv){t:Nat}(ht:W0.heap.size≤t)(j:Nat)(v:Value):MM (W.setCell ⟨t,j,none⟩ v) o ov x s wv :=
 h.fr (Fr.set (D:=fun k=>k=t) rfl j v) (fun k hk e=>by have:=h0.ltD hk;omega)
theorem MM.five {W W0:World}{o:Ow20}{ov:Value}{x:Mp}{s s0:Ms}{wv:Value}(h:MM W o ov x s wv)(h0:MM W0 o ov x s0 wv){t:Nat}(ht:W0.heap.size≤t)(v0 v1 v2 v3 v4:Value):MM (((((W.setCell ⟨t,0,none⟩ v0).setCell ⟨t,1,none⟩ v1).setCell ⟨t,2,none⟩ v2).setCell ⟨t,3,none⟩ v3).setCell ⟨t,4,none⟩ v4) o ov x s wv :=
 ((((h.new h0 ht 0 v0).new h0 ht 1 v1).new h0 ht 2 v2).new h0 ht 3 v3).new h0 ht 4 v4
theorem below_five {B t:Nat}{w W:World}(h:Below B w W)(ht:B≤t){v0 v1 v2 v3 v4:Value} : Below B w (((((W.setCell ⟨t,0,none⟩ v0).setCell ⟨t,1,none⟩ v1).setCell ⟨t,2,none⟩ v2).setCell ⟨t,3,none⟩ v3).setCell ⟨t,4,none⟩ v4) :=
 below_set (below_set (below_set (below_set (below_set h ht _) ht _) ht _) ht _) ht _
theorem wstM_b (s:Ms):0≤wstM s∧wstM s≤4:=by unfold wstM worstV;(repeat' split) <;> omega
structure Ms.Ok (s:Ms):Prop where
 bnd:Bnd s.V s.bd s.cr
 al:s.al.Ok
 lf:0≤s.lf∧s.lf≤1000
 sq:0≤s.sq∧s.sq≤1000000
 bad:0≤s.bad∧s.bad≤1000000
 lp:0≤s.lp∧s.lp≤1000000
 dat:s.dat.length≤1000
 rep:0≤s.rep∧s.rep≤1000000
 ali:0≤s.ali∧s.ali≤1000000
 tr:0≤s.tr∧s.tr≤1000000
 way:s.way.length≤32
 rp:∀ r∈s.way,r.Ok
theorem mtick_any (o:Ow20)(ho:o.Ok)(hlv:o.a.lv<8)(ov:Value)(x:Mp)(s:Ms)(wv:Value)(w:World)(h:MM w o ov x s wv)(hs:s.Ok):Calls Tryz.prog 11 #[.pointer (some ⟨x.p,0,none⟩)] w fun en w' =>
  ∃ v,en=.returned (.tuple #[v,.int .u8 (tickM o s).2.2])∧Ow 7 snC 55 w' w.heap.size v (tickM o s).2.1∧MM w' o ov x (tickM o s).1 wv∧Fr (x.D wv) w w':=by
 obtain⟨R,hR⟩:∃ R,tickM o s=R:=⟨_,rfl⟩
 have HR:=hd0 hR
 rw[hR]
 have HO:=hd0 ho
 have HS:=hd0 hs
 have HLV:=hd0 hlv
 have M0:=hd0 h
 have c12:=h.cq
 clear hR ho hs hlv h
 go_enter Tryz.func11,Tryz.ntmps11
 go_wp2_with fail
 with_reducible refine(tick_any x.q x.m o.a s.V s.bd s.cr w M0.out.mc HS.out.bnd).mono ?_
 rintro en w1 ⟨rfl,hmc,htw⟩
 have M1:Hid (MM w1 o ov x (remT s) wv):=hd0 (M0.out.rem hmc htw)
 have F1:Hid (Fr (x.D wv) w w1):=hd0 (.of_two htw (.inr (.inl rfl)) (.inr (.inr (.inl rfl))))
 clear hmc htw c12
 obtain⟨s1,hs1⟩:∃ s1,remT s=s1:=⟨_,rfl⟩
 have HS1:=hd0 hs1
 rw[hs1] at M1
 clear hs1
 obtain⟨wo,hwo⟩:∃ z,wstM s1=z:=⟨_,rfl⟩
 obtain⟨⟨al2,told⟩,hto⟩:∃ z,tickA o.lw s1.al wo=z:=⟨_,rfl⟩
 have HW:=hd0 (And.intro hwo hto)
 go_upto_region 4 with fail
 go_cut [4] (fun s4 wx=>s4=.int .u8 told∧Hid (MM wx o ov x { s1 with al:=al2 } wv∧Fr (x.D wv) w1 wx))
 case first =>
  have c12:=M1.out.cq
  have c13:=M1.out.cr'
  have hwst:∀ W,MM W o ov x s1 wv→Calls Tryz.prog 35 #[.pointer (some ⟨x.q,0,none⟩)] W fun en w'=>en=.returned (.int .u8 wo)∧Below W.heap.size W w':=fun W hW=>by
   have:=worst_any x.q x.m o.a s1.V s1.bd s1.cr W hW.mc
   rw[show worstV s1.V s1.bd s1.cr=wo from hwo] at this
   exact this
  have hwst:=hd0 hwst
  have hat:Hid (∀ W,MM W o ov x s1 wv→Calls Tryz.prog 34 #[.pointer (some ⟨x.r,0,none⟩),.int .u8 wo] W fun en w'=>en=.returned (.int .u8 told)∧AL w' x.r o.lw al2∧Only x.r W w'):=hd0 fun W hW=>by
   have:=atick_any x.r o.lw wo s1.al W hW.al (by rw[←HS1.out];exact HS.out.al) (by rw[←HW.out.1];exact wstM_b s1)
   rw[HW.out.2] at this
   exact this
  have md:MM w1.drew o ov x s1 wv:=M1.out.drew
  clear c12 c13 hwo hto
  go_region_held3 (fun W=>W.cell? ⟨x.p,12,none⟩=some (.pointer (some ⟨x.q,0,none⟩))∧W.cell? ⟨x.p,13,none⟩=some (.pointer (some ⟨x.r,0,none⟩)))
   (first|exact md.two|exact mx.two|exact my.two)
   (first
    |(go_at_call 35;(with_reducible refine(hwst.out _ md).mono ?_);rintro en wx ⟨rfl,hbx⟩;have mx:=md.later hbx)
    |(go_at_call 34;(with_reducible refine(hat.out _ mx).mono ?_);rintro en wy ⟨rfl,hay,hoy⟩;have my:=mx.alr hay hoy))
  go_wp2
  go_meet
  exact⟨by trivial,hd0 ⟨my,(Fr.of_below ((Below.refl w1.heap.size w1).drew.trans hbx)).trans (.of_only hoy (.inr (.inr (.inr (.inl rfl)))))⟩⟩
 case rest =>
  obtain⟨rfl,HM⟩:=hcut
  obtain⟨s2,hs2⟩:∃ z,({ s1 with al:=al2 } : Ms)=z:=⟨_,rfl⟩
  rw[hs2] at HM
  have M2:=hd0 HM.out.1
  have F2:Hid (Fr (x.D wv) w wc):=hd0 (F1.out.trans HM.out.2)
  have HL:Hid (s2.lf=s.lf∧s2.sq=s.sq):=hd0 (by rw[←hs2,← HS1.out];exact⟨rfl,rfl⟩)
  have EW2:Hid (wstM s2=wo):=hd0 (by rw[←hs2];exact HW.out.1)
  have HSB:=hd0 (And.intro (show 0≤s2.lf∧s2.lf≤1000 by rw[HL.out.1];exact HS.out.lf) (show 0≤s2.sq∧s2.sq≤1000000 by rw[HL.out.2];exact HS.out.sq))
  obtain⟨L2,hL2⟩:∃ z,s2.lf-1=z:=⟨_,rfl⟩
  have HRR:Hid (R=if 0<L2 then({ s2 with lf:=L2 },[],told) else({ s2 with lf:=tickC o.a.iv,sq:=s2.sq+1 },ckS o wo (s2.sq+1),told)):=hd0 (by
   rw[←HR.out];unfold tickM almT
   have e3:s.al=s1.al:=by rw[←HS1.out];rfl
   rw[HS1.out,e3,HW.out.1,HW.out.2,← HL.out.1,← HL.out.2,← hL2,← hs2])
  clear HM M1 F1 hwo hto HR HS1 HS M0 hs2
  have c14:wc.cell? ⟨x.p,14,none⟩=some (.int .i64 s2.lf):=M2.out.clf
  have f14:=M2.out.fz 14
  have hlb:=HSB.out.1
  go_upto_region 6 with fail
  try rw[hL2]
  have m3:=M2.out.sLf L2
  have f3:Fr (x.D wv) w (wc.setCell ⟨x.p,14,none⟩ (.int .i64 L2)):=F2.out.trans (.set (.inl rfl) _ _)
  obtain⟨w3,hw3⟩:∃ z,wc.setCell ⟨x.p,14,none⟩ (.int .i64 L2)=z:=⟨_,rfl⟩
  obtain⟨s3,hs3⟩:∃ z,({ s2 with lf:=L2 } : Ms)=z:=⟨_,rfl⟩
  rw[hw3] at m3 f3 ⊢
  rw[hs3] at m3 HRR
  have M3:=hd0 m3
  have F3:=hd0 f3
  have EW3:Hid (wstM s3=wo):=hd0 (by rw[←hs3];exact EW2.out)
  have E3:Hid (s3.lf=L2∧s3.sq=s2.sq∧∀ a b:Int,({ s2 with lf:=a,sq:=b } : Ms)={ s3 with lf:=a,sq:=b }):=hd0 (by rw[←hs3];exact⟨rfl,rfl,fun _ _=>rfl⟩)
  clear hw3 m3 f3 M2 F2 c14 f14 hL2 hs3 hlb
  have c14:w3.cell? ⟨x.p,14,none⟩=some (.int .i64 L2):=by rw[←E3.out.1];exact M3.out.clf
  by_cases hlf:0<L2
  ·have d1:decide (0<L2)=true:=decide_eq_true hlf
   have HZ:=hd0 (show R=(s3,[],told) by rw[HRR.out,if_pos hlf])
   clear hlf HRR
   go_wp2
   go_ret2
   exact⟨.slice none 0 0,by rw[HZ.out];rfl,by rw[HZ.out];exact Ow.none _ _,by rw[HZ.out];exact M3.out,F3.out⟩
  have d1:decide (0<L2)=false:=decide_eq_false hlf
  have HZ:=hd0 (show R=({ s3 with lf:=tickC o.a.iv,sq:=s2.sq+1 },ckS o wo (s2.sq+1),told) by rw[HRR.out,if_neg hlf,E3.out.2.2])
  clear hlf HRR
  have c1:w3.cell? ⟨x.p,1,none⟩=some (.int .u8 o.a.iv):=M3.out.civ
  have f14:=M3.out.fz 14
  obtain⟨T,hT⟩:∃ T,tickC o.a.iv=T:=⟨_,rfl⟩
  have TK:Hid (∀ w,Calls Tryz.prog 36 #[.int .u8 o.a.iv] w fun en w'=>en=.returned (.int .i64 T)∧w=w'):=hd0 fun w=>by rw[←hT];exact ticks_any o.a.iv w
  rw[hT] at HZ
  clear hT
  go_upto_region 9 with(go_at_call 36;with_reducible refine(TK.out _).mono ?_;rintro e wt ⟨rfl,rfl⟩)
  have m4:=M3.out.sLf T
  have f4:Fr (x.D wv) w (w3.setCell ⟨x.p,14,none⟩ (.int .i64 T)):=F3.out.trans (.set (.inl rfl) _ _)
  obtain⟨w4,hw4⟩:∃ z,w3.setCell ⟨x.p,14,none⟩ (.int .i64 T)=z:=⟨_,rfl⟩
  obtain⟨s4,hs4⟩:∃ z,({ s3 with lf:=T } : Ms)=z:=⟨_,rfl⟩
  rw[hw4] at m4 f4 ⊢
  rw[hs4] at m4
  have M4:=hd0 m4
  have F4:=hd0 f4
  have EW4:Hid (wstM s4=wo):=hd0 (by rw[←hs4];exact EW3.out)
  have E4:Hid (s4.sq=s2.sq∧∀ b:Int,({ s3 with lf:=T,sq:=b } : Ms)={ s4 with sq:=b }):=hd0 (by rw[←hs4];exact⟨E3.out.2.1,fun _=>rfl⟩)
  clear hw4 m4 f4 M3 F3 c14 f14 c1 TK hs4
  obtain⟨Q,hQ⟩:∃ z,s2.sq=z:=⟨_,rfl⟩
  have hsb:0≤Q∧Q≤1000000:=by rw[←hQ];exact HSB.out.2
  have c15:w4.cell? ⟨x.p,15,none⟩=some (.int .u32 Q):=by rw[←hQ,← E4.out.1];exact M4.out.csq
  have f15:=M4.out.fz 15
  rw[E4.out.2,hQ] at HZ
  have hw32:IntKind.u32.wrap (Q+1)=Q+1:=IntWalk.u32_in _ (by omega)
  clear hQ HL HSB E3 E4
  go_upto_region 10 with fail
  have m5:=M4.out.sSq (Q+1)
  have f5:Fr (x.D wv) w (w4.setCell ⟨x.p,15,none⟩ (.int .u32 (Q+1))):=F4.out.trans (.set (.inl rfl) _ _)
  obtain⟨w5,hw5⟩:∃ z,w4.setCell ⟨x.p,15,none⟩ (.int .u32 (Q+1))=z:=⟨_,rfl⟩
  obtain⟨s5,hs5⟩:∃ z,({ s4 with sq:=Q+1 } : Ms)=z:=⟨_,rfl⟩
  rw[hw5] at m5 f5 ⊢
  rw[hs5] at m5 HZ
  have EW5:Hid (wstM s5=wo):=hd0 (by rw[←hs5];exact EW4.out)
  have hQ1:Q+1=s5.sq:=by rw[←hs5]
  rw[hQ1] at HZ
  have HQ1:Hid (0≤s5.sq∧s5.sq<4294967296):=hd0 (by rw[←hQ1];omega)
  have M5:=hd0 m5
  have F5:=hd0 f5
  clear hw5 m5 f5 M4 F4 c15 f15 hs5 hw32 hQ1 hsb
  obtain⟨⟨p1,p2,p3,P,pe⟩,hP⟩:∃ z,ckP o wo s5.sq=z:=⟨_,rfl⟩
  have HOA:=hd0 HO.out.a
  have DF:Hid (∀ W,MM W o ov x s5 wv→Calls Tryz.prog 38 #[.pointer (some ⟨x.q,0,none⟩)] W fun en w'=>en=.returned (.bool (decide (2≤wstM s5)))∧Below W.heap.size W w'):=hd0 fun W hW=>defects_any x.q x.m o.a s5.V s5.bd s5.cr W hW.mc
  have PU:Hid (∀ W,Calls Tryz.prog 37 #[.agg #[.int .u8 o.a.lv,.bool (decide (2≤wstM s5)),.int .u8 o.a.iv,.int .u32 s5.sq,.int .u16 o.a.mp,.string (bs o.a.md)]] W fun en w'=>en=.returned (.tuple #[.agg #[.int .u8 p1,.int .u8 p2,.int .u8 p3,.string (bs P),.slice none 0 0],.int .i64 pe])∧Below W.heap.size W w'):=hd0 fun W=>by
   have h:=ccput_any o.a.lv (decide (2≤wstM s5)) o.a.iv s5.sq o.a.mp o.a.md W HOA.out.md HQ1.out HOA.out.mp
   rw[EW5.out] at h ⊢
   rw[show putC o.a.lv (decide (2≤wo)) o.a.iv s5.sq o.a.mp o.a.md=(p1,p2,p3,P,pe) from hP] at h
   exact h
  have HPB:Hid (ckS o wo s5.sq=sentR (chkG o.a.lv) p1 p2 p3 P []):=hd0 (by unfold ckS;rw[hP])
  have HPQ:Hid ((0≤p1∧p1<256)∧(0≤p2∧p2<256)∧(0≤p3∧p3<256)∧P.length≤1000000):=hd0 (by
   have h:=hP
   unfold ckP putC at h
   split at h
   ·rename_i hmay
    have hiv:=mayC_iv hmay
    simp only[Prod.mk.injEq] at h
    obtain⟨h1,h2,h3,h4,h5⟩:=h
    refine⟨by have:=HOA.out.lv;omega,by omega,?_,?_⟩
    ·rw[←h3];split <;> omega
    ·rw[←h4];unfold fxC;have:=HOA.out.md;simp[be_length];omega
   ·simp only[Prod.mk.injEq] at h
    obtain⟨h1,h2,h3,h4,h5⟩:=h
    refine⟨by omega,by omega,by omega,by rw[←h4];simp⟩)
  rw[HPB.out] at HZ
  clear HPB hP
  obtain⟨DD,hDD⟩:∃ z,decide (2≤wstM s5)=z:=⟨_,rfl⟩
  rw[hDD] at DF PU
  clear hDD
  go_cut [5] (fun s5x wx=>∃ bx:Nat,s5x=.pointer (some ⟨bx,0,none⟩)∧Hid (PB 103 wx bx p1 p2 p3 P (.slice none 0 0)∧MM wx o ov x s5 wv∧Fr (x.D wv) w5 wx))
  case first =>
   have md:MM w5.drew o ov x s5 wv:=M5.out.drew
   have mal:∀ b,MM (w5.alloc b).drew o ov x s5 wv:=fun b=>(M5.out.alloc b).drew
   have pzd:PB 103 (w5.alloc (.cells yU 103)).drew w5.heap.size 0 0 0 [] (.slice none 0 0):=PB.zero 103 w5
   have hle:w5.heap.size≤w5.heap.size:=Nat.le_refl _
   go_region_held3 (fun W=>W.cell? ⟨x.p,0,none⟩=some (.int .u8 o.a.lv)∧W.cell? ⟨x.p,12,none⟩=some (.pointer (some ⟨x.q,0,none⟩))∧W.cell? ⟨x.p,1,none⟩=some (.int .u8 o.a.iv)∧W.cell? ⟨x.p,15,none⟩=some (.int .u32 s5.sq)∧W.cell? ⟨x.p,3,none⟩=some (.int .u16 o.a.mp)∧W.cell? ⟨x.p,2,none⟩=some (.string (bs o.a.md)))
    (first|with_reducible exact md.six|with_reducible exact mx.six|with_reducible exact my.six|with_reducible exact(mal _).six|with_reducible exact(mx.alloc _).six|with_reducible exact(my.five M5.out hle _ _ _ _ _).six|with_reducible exact(my.five M5.out fx.size _ _ _ _ _).six|with_reducible exact(my.alloc _).six)
    (first
     |(go_at_call 38;(with_reducible refine(DF.out _ md).mono ?_);rintro en wx ⟨rfl,hbx⟩;have mx:=md.later hbx;have fx:Below w5.heap.size w5 wx:=(Below.refl w5.heap.size w5).drew.trans hbx)
     |(go_at_call 38;(with_reducible refine(DF.out _ (mal _)).mono ?_);rintro en wx ⟨rfl,hbx⟩;have mx:=(mal _).later hbx;have fx:Below w5.heap.size w5 wx:=((Below.refl w5.heap.size w5).alloc (Nat.le_refl _) _).drew.trans (hbx.mono (by simp));have zx:PB 103 wx w5.heap.size 0 0 0 [] (.slice none 0 0):=by with_reducible exact pzd.later hbx)
     | (go_at_call 37; (with_reducible refine (PU.out _).mono ?_); rintro en wy ⟨rfl, hby⟩; have my : MM wy o ov x s5 wv := by with_reducible exact mx.later hby
        have fy:Below w5.heap.size w5 wy:=fx.trans (hby.mono fx.size)
        have zy:PB 103 wy w5.heap.size 0 0 0 [] (.slice none 0 0):=by with_reducible exact zx.later hby
        have q0:=zy.c0;have q1:=zy.c1;have q2:=zy.c2;have q3:=zy.c3;have q4:=zy.c4;have g0:=zy.fr 0;have g1:=zy.fr 1;have g2:=zy.fr 2;have g3:=zy.fr 3;have g4:=zy.fr 4)
     | (go_at_call 37; (with_reducible refine (PU.out _).mono ?_); rintro en wy ⟨rfl, hby⟩; have my : MM wy o ov x s5 wv := by with_reducible exact (mx.alloc _).later hby
        have fy:Below w5.heap.size w5 wy:=(fx.alloc fx.size _).trans (hby.mono (Nat.le_trans fx.size (by simp)))
        have zy:PB 103 wy wx.heap.size 0 0 0 [] (.slice none 0 0):=by with_reducible exact(PB.zero 103 wx).later hby
        have q0:=zy.c0;have q1:=zy.c1;have q2:=zy.c2;have q3:=zy.c3;have q4:=zy.c4;have g0:=zy.fr 0;have g1:=zy.fr 1;have g2:=zy.fr 2;have g3:=zy.fr 3;have g4:=zy.fr 4)
     | (go_at_call 37; (with_reducible refine (PU.out _).mono ?_); rintro en wy ⟨rfl, hby⟩; have my : MM wy o ov x s5 wv := by with_reducible exact mx.later hby
        have fy:Below w5.heap.size w5 wy:=fx.trans (hby.mono fx.size)
        have zy:=PB.zero 103 wy
        have q0:=zy.c0;have q1:=zy.c1;have q2:=zy.c2;have q3:=zy.c3;have q4:=zy.c4;have g0:=zy.fr 0;have g1:=zy.fr 1;have g2:=zy.fr 2;have g3:=zy.fr 3;have g4:=zy.fr 4))
   all_goals
    go_wp2
    go_meet
    refine⟨_,by with_reducible rfl,hd0 ⟨?ca,?cb,.of_below ?cc⟩⟩
    case ca=>first|with_reducible exact PB.sets5G zy|exact PB.new _ _ _ _ _ _ _
    case cb=>first|with_reducible exact my.five M5.out hle _ _ _ _ _|with_reducible exact my.five M5.out fx.size _ _ _ _ _|with_reducible exact my.alloc _
    case cc=>first|with_reducible exact below_five fy hle|with_reducible exact below_five fy fx.size|with_reducible exact fy.alloc fy.size _
  case rest =>
   obtain⟨bx,rfl,HB⟩:=hcut
   have M6:=hd0 HB.out.2.1
   have F6:Hid (Fr (x.D wv) w wc):=hd0 (F5.out.trans HB.out.2.2)
   have PB6:=hd0 HB.out.1
   clear HB M5 F5 DF PU
   have c0:wc.cell? ⟨x.p,0,none⟩=some (.int .u8 o.a.lv):=M6.out.clv
   have CH:Hid (∀ w,Calls Tryz.prog 39 #[.int .u8 o.a.lv] w fun en w'=>en=.returned (.tuple #[.agg #[.int .u8 1,.int .u8 128,.int .u8 194,.int .u8 0,.int .u8 0,.int .u8 (48+o.a.lv)],.bool true])∧Below w.heap.size w w'):=hd0 fun w=>by
    have h:=Check_any o.a.lv w HOA.out.lv.1 HOA.out.lv.2
    unfold grpV at h
    rw[if_neg (by have:=HLV.out;omega)] at h
    exact h
   go_wp2_with fail
   with_reducible refine(CH.out _).mono ?_
   rintro en w7 ⟨rfl,hb7⟩
   have M7:=hd0 (M6.out.later hb7)
   have F7:Hid (Fr (x.D wv) w w7):=hd0 (F6.out.trans (.of_below hb7))
   have PB7:=hd0 (PB6.out.later hb7)
   clear hb7 M6 F6 PB6 c0
   go_upto_region 12 with fail
   obtain⟨G,hG⟩:∃ z,48+o.a.lv=z:=⟨_,rfl⟩
   have HG:=hd0 (show chkG o.a.lv=⟨1,128,194,0,0,G⟩ by unfold chkG;rw[hG])
   rw[hG]
   have hal:=(Below.refl w7.heap.size w7).alloc (Nat.le_refl _) (.cells #[.int .u8 1,.int .u8 128,.int .u8 194,.int .u8 0,.int .u8 0,.int .u8 G] 25)
   have M8:=hd0 (M7.out.later hal)
   have F8:Hid (Fr (x.D wv) w (w7.alloc (.cells #[.int .u8 1,.int .u8 128,.int .u8 194,.int .u8 0,.int .u8 0,.int .u8 G] 25))):=hd0 (F7.out.trans (.of_below hal))
   have PB8:=hd0 (PB7.out.later hal)
   have g8:=GB.new 25 w7 #[.int .u8 1,.int .u8 128,.int .u8 194,.int .u8 0,.int .u8 0,.int .u8 G]
   obtain⟨w8,hw8⟩:∃ z,w7.alloc (.cells #[.int .u8 1,.int .u8 128,.int .u8 194,.int .u8 0,.int .u8 0,.int .u8 G] 25)=z:=⟨_,rfl⟩
   obtain⟨by_,hby⟩:∃ z,w7.heap.size=z:=⟨_,rfl⟩
   rw[hw8] at M8 F8 PB8 g8 ⊢
   rw[hby] at g8 ⊢
   have d0:w8.cell? ⟨by_,0,none⟩=some (.int .u8 1):=g8.c 0 _ rfl
   have d1:w8.cell? ⟨by_,1,none⟩=some (.int .u8 128):=g8.c 1 _ rfl
   have d2:w8.cell? ⟨by_,2,none⟩=some (.int .u8 194):=g8.c 2 _ rfl
   have d3:w8.cell? ⟨by_,3,none⟩=some (.int .u8 0):=g8.c 3 _ rfl
   have d4:w8.cell? ⟨by_,4,none⟩=some (.int .u8 0):=g8.c 4 _ rfl
   have d5:w8.cell? ⟨by_,5,none⟩=some (.int .u8 G):=g8.c 5 _ rfl
   have c0:=PB8.out.c0
   have c1:=PB8.out.c1
   have c2:=PB8.out.c2
   have c3:=PB8.out.c3
   have c4:=PB8.out.c4
   rw[HG.out] at HZ
   clear hG hal hw8 hby g8 M7 F7 PB7 HG CH
   have SN:=hd0 (sent_any ⟨1,128,194,0,0,G⟩ (.slice none 0 0) p1 p2 p3 P [] w8 (Tls.nil _) (by simp) (by simp) HPQ.out.2.2.2 (by simp[putT]) HPQ.out.1 HPQ.out.2.1 HPQ.out.2.2.1)
   go_wp2_with fail
   with_reducible refine SN.out.mono ?_
   rintro en w9 ⟨u,rfl,hu,hb9⟩
   have M9:=hd0 (M8.out.later hb9)
   have F9:Hid (Fr (x.D wv) w w9):=hd0 (F8.out.trans (.of_below hb9))
   have HU:Hid (Ow 7 snC 55 w9 w.heap.size u (sentR ⟨1,128,194,0,0,G⟩ p1 p2 p3 P [])):=hd0 (Ow.mono hu F8.out.size)
   clear hb9 M8 F8 hu SN PB8 d0 d1 d2 d3 d4 d5 c0 c1 c2 c3 c4
   go_wp2
   go_ret2
   exact⟨u,by rw[HZ.out];rfl,by rw[HZ.out];exact HU.out,by rw[HZ.out];exact M9.out,F9.out⟩
theorem nat_and7 (m:Nat):m &&& 2 ^ 7=m / 2 ^ 7 % 2*2 ^ 7:=by
 apply Nat.eq_of_testBit_eq
 intro i
 rw[Nat.testBit_and,Nat.testBit_two_pow]
 have h2:m / 2 ^ 7 % 2=0∨m / 2 ^ 7 % 2=1:=by omega
 by_cases hi:7=i
 ·subst hi
  rcases h2 with h2|h2
  ·rw[Nat.testBit_eq_decide_div_mod_eq,h2];rfl
  ·rw[Nat.testBit_eq_decide_div_mod_eq,h2];rfl
 ·rw[decide_eq_false hi,Bool.and_false]
  rcases h2 with h2|h2
  ·rw[h2];simp
  ·rw[h2,Nat.one_mul,Nat.testBit_two_pow,decide_eq_false hi]
theorem and_128 (n:Int)(h0:0≤n)(h1:n<256):bits .and .u8 n 128=n / 128*128:=by
 obtain⟨m,rfl⟩:∃ m:Nat,n=m:=⟨n.toNat,by omega⟩
 rw[u8_and (m:Int) 128 (by omega) (by omega) (by omega) (by omega)]
 have e:(m:Int).toNat &&& (128:Int).toNat=m / 2 ^ 7 % 2*2 ^ 7:=nat_and7 m
 rw[e]
 omega
def cr1 (f:List UInt8):=rdText f 0 4
def cr2 (f:List UInt8):=rdText (cr1 f).2.1 (cr1 f).2.2 2
def cr3 (f:List UInt8):=rdText (cr2 f).2.1 (cr2 f).2.2 48
def cr4 (f:List UInt8):=rdText (cr3 f).2.1 (cr3 f).2.2 16
def crE (f:List UInt8):Int:=(rdEnd (cr4 f).2.1 (cr4 f).2.2).2
def tkC (a b c:Int)(f:List UInt8):Int × Bool × Int × Int × Int × List UInt8 × Int :=
 if b=1∧crE f=0∧mayC a (c % 8) (numOf (cr2 f).1) (cr3 f).1=true then(a,decide (127<c),c % 8,numOf (cr1 f).1,numOf (cr2 f).1,(cr3 f).1,0) else(0,false,0,0,0,[],4)
structure CT (w W:World)(l:List UInt8)(e a b c:Int)(f:List UInt8)(v:Value):Prop where
 rd:Rd W (w.heap.size+2) l e
 pb:PB 103 W w.heap.size a b c f v
 pz:CB 107 W (w.heap.size+1) 0 false 0 0 0 []
 bel:Below w.heap.size w W
section
variable {w W W':World} {l l':List UInt8} {e e' a b c:Int} {f:List UInt8} {v:Value}
theorem CT.next (h:CT w W l e a b c f v)(hr:Rd W' (w.heap.size+2) l' e')(ho:Only (w.heap.size+2) W W'):CT w W' l' e' a b c f v :=
 ⟨hr,h.pb.only ho (by omega),h.pz.only ho (by omega),h.bel.trans (ho.below (by omega) h.bel.size)⟩
theorem CT.later (h:CT w W l e a b c f v)(hb:Below W.heap.size W W'):CT w W' l e a b c f v :=
 ⟨h.rd.later hb,h.pb.later hb,h.pz.later hb,h.bel.trans (hb.mono h.bel.size)⟩
theorem CT.alloc (h:CT w W l e a b c f v)(o:Obj):CT w (W.alloc o) l e a b c f v:=h.later (bA o)
end
def NQ (w W:World)(q:Nat):Prop:=CB 107 W q 0 false 0 0 0 []∧w.heap.size+2<q
theorem NQ.new {w W:World}{l:List UInt8}{e a b c:Int}{f:List UInt8}{v:Value}(h:CT w W l e a b c f v):NQ w (W.alloc (.cells #[.int .u8 0,.bool false,.int .u8 0,.int .u32 0,.int .u16 0,.string { data:=#[] }] 107)) W.heap.size:=⟨CB.new 107 W 0 false 0 0 0 [],h.rd.lt⟩
theorem NQ.only {w W W':World}{q:Nat}(h:NQ w W q)(ho:Only (w.heap.size+2) W W'):NQ w W' q:=⟨h.1.only ho (by have:=h.2;omega),h.2⟩
theorem CB.sets {W:World}{q:Nat}{T:TypeId}{ylv:Int}{yrd:Bool}{yiv ysq yme:Int}{ym:List UInt8}(h:CB T W q ylv yrd yiv ysq yme ym)(xlv:Int)(xrd:Bool)(xiv xsq xme:Int)(xm:List UInt8) :
  CB T ((((((W.setCell ⟨q,0,none⟩ (.int .u8 xlv)).setCell ⟨q,1,none⟩ (.bool xrd)).setCell ⟨q,2,none⟩ (.int .u8 xiv)).setCell ⟨q,3,none⟩ (.int .u32 xsq)).setCell ⟨q,4,none⟩ (.int .u16 xme)).setCell ⟨q,5,none⟩ (.string (bs xm))) q xlv xrd xiv xsq xme xm:=by
 unfold CB at *
 simp[World.setCell,Array.getElem?_modify,h]
theorem CB.other {T:TypeId}{W:World}{q t o:Nat}{xlv:Int}{xrd:Bool}{xiv xsq xme:Int}{xm:List UInt8}(h:CB T W q xlv xrd xiv xsq xme xm)(ht:t≠q)(u:Value):CB T (W.setCell ⟨t,o,none⟩ u) q xlv xrd xiv xsq xme xm:=by
 unfold CB;rw[Below.heap_setCell _ _ _ _ (by intro e;simp at e;omega)];exact h
theorem CT.set {w W:World}{l:List UInt8}{e a b c:Int}{f:List UInt8}{v:Value}{q o:Nat}(h:CT w W l e a b c f v)(hq:w.heap.size+2<q)(u:Value):CT w (W.setCell ⟨q,o,none⟩ u) l e a b c f v :=
 ⟨h.rd.setOther (by omega) _,h.pb.other (by omega) _,h.pz.other (by omega) _,below_set h.bel (by omega) _⟩
theorem CT.drew {w W:World}{l:List UInt8}{e a b c:Int}{f:List UInt8}{v:Value}(h:CT w W l e a b c f v):CT w W.drew l e a b c f v:=h.later (Below.refl _ _).drew
theorem NQ.drew {w W:World}{q:Nat}(h:NQ w W q):NQ w W.drew q:=⟨h.1,h.2⟩
theorem CT.sets {w W:World}{l:List UInt8}{e a b c:Int}{f:List UInt8}{v:Value}{q:Nat}(h:CT w W l e a b c f v)(hq:NQ w W q)(v0 v1 v2 v3 v4 v5:Value):CT w ((((((W.setCell ⟨q,0,none⟩ v0).setCell ⟨q,1,none⟩ v1).setCell ⟨q,2,none⟩ v2).setCell ⟨q,3,none⟩ v3).setCell ⟨q,4,none⟩ v4).setCell ⟨q,5,none⟩ v5) l e a b c f v :=
 (((((h.set hq.2 v0).set hq.2 v1).set hq.2 v2).set hq.2 v3).set hq.2 v4).set hq.2 v5
theorem CT.two {w W:World}{l:List UInt8}{e a b c:Int}{f:List UInt8}{v:Value}(h:CT w W l e a b c f v):W.cell? ⟨w.heap.size,0,none⟩=some (.int .u8 a)∧W.cell? ⟨w.heap.size,2,none⟩=some (.int .u8 c):=⟨h.pb.c0,h.pb.c2⟩
theorem cctake_any (v:Value)(a b c:Int)(f:List UInt8)(w:World)(hf:f.length≤1000)(ha:0≤a∧a<256)(hc:0≤c∧c<256)(hv:∃ x n k,v=.slice x n k):Calls Tryz.prog 123 #[.agg #[.int .u8 a,.int .u8 b,.int .u8 c,.string (bs f),v]] w fun en w' =>
  en=.returned (.tuple #[.agg #[.int .u8 (tkC a b c f).1,.bool (tkC a b c f).2.1,.int .u8 (tkC a b c f).2.2.1,.int .u32 (tkC a b c f).2.2.2.1,.int .u16 (tkC a b c f).2.2.2.2.1,.string (bs (tkC a b c f).2.2.2.2.2.1)],.int .i64 (tkC a b c f).2.2.2.2.2.2])∧Below w.heap.size w w':=by
 obtain⟨vx,vn,vk,rfl⟩:=hv
 obtain⟨R,hR⟩:∃ R,tkC a b c f=R:=⟨_,rfl⟩
 rw[hR]
 obtain⟨sq,l1,e1,h1⟩:∃ y l e,numOf (cr1 f).1=y∧(cr1 f).2.1=l∧(cr1 f).2.2=e:=⟨_,_,_,rfl,rfl,rfl⟩
 obtain⟨me,l2,e2,h2⟩:∃ y l e,numOf (cr2 f).1=y∧(cr2 f).2.1=l∧(cr2 f).2.2=e:=⟨_,_,_,rfl,rfl,rfl⟩
 obtain⟨m,l3,e3,h3⟩:∃ y l e,(cr3 f).1=y∧(cr3 f).2.1=l∧(cr3 f).2.2=e:=⟨_,_,_,rfl,rfl,rfl⟩
 obtain⟨t,l4,e4,h4⟩:∃ y l e,(cr4 f).1=y∧(cr4 f).2.1=l∧(cr4 f).2.2=e:=⟨_,_,_,rfl,rfl,rfl⟩
 have q2:rdText l1 e1 2=cr2 f:=by unfold cr2;rw[h1.2.1,h1.2.2]
 have q3:rdText l2 e2 48=cr3 f:=by unfold cr3;rw[h2.2.1,h2.2.2]
 have q4:rdText l3 e3 16=cr4 f:=by unfold cr4;rw[h3.2.1,h3.2.2]
 have n1:l1.length≤f.length:=by have:=rd_le f 0 4;rw[show rdText f 0 4=cr1 f from rfl,h1.2.1] at this;exact this
 have n2:l2.length≤l1.length:=by have:=rd_le l1 e1 2;rw[q2,h2.2.1] at this;exact this
 have n3:l3.length≤l2.length:=by have:=rd_le l2 e2 48;rw[q3,h3.2.1] at this;exact this
 have n4:l4.length≤l3.length:=by have:=rd_le l3 e3 16;rw[q4,h4.2.1] at this;exact this
 have nm:m.length≤1000:=by have:=rd_le1 l2 e2 48;rw[q3,h3.1] at this;omega
 obtain⟨l5,E,h5⟩:∃ l e,(rdEnd l4 e4).1=l∧(rdEnd l4 e4).2=e:=⟨_,_,rfl,rfl⟩
 have hE:crE f=E:=by unfold crE;rw[h4.2.1,h4.2.2,h5.2]
 have U1:Hid (∀ w p,Rd w p f 0→Calls Tryz.prog 139 #[.pointer (some ⟨p,0,none⟩)] w fun en w'=>en=.returned (.int .u32 sq)∧Rd w' p l1 e1∧Only p w w'):=fun w p hr=>by
  have h:=U32_any p f 0 w hr (by omega)
  rw[show rdText f 0 4=cr1 f from rfl,h1.1,h1.2.1,h1.2.2] at h;exact h
 have U2:Hid (∀ w p,Rd w p l1 e1→Calls Tryz.prog 121 #[.pointer (some ⟨p,0,none⟩)] w fun en w'=>en=.returned (.int .u16 me)∧Rd w' p l2 e2∧Only p w w'):=fun w p hr=>by
  have h:=U16_any p l1 e1 w hr (by omega)
  rw[q2,h2.1,h2.2.1,h2.2.2] at h;exact h
 have U3:Hid (∀ w p,Rd w p l2 e2→Calls Tryz.prog 91 #[.pointer (some ⟨p,0,none⟩),.int .i64 48] w fun en w'=>en=.returned (.string (bs m))∧Rd w' p l3 e3∧Only p w w'):=fun w p hr=>by
  have h:=text_any p l2 e2 48 w hr (by omega)
  rw[q3,h3.1,h3.2.1,h3.2.2] at h;exact h
 have U4:Hid (∀ w p,Rd w p l3 e3→Calls Tryz.prog 91 #[.pointer (some ⟨p,0,none⟩),.int .i64 16] w fun en w'=>en=.returned (.string (bs t))∧Rd w' p l4 e4∧Only p w w'):=fun w p hr=>by
  have h:=text_any p l3 e3 16 w hr (by omega)
  rw[q4,h4.1,h4.2.1,h4.2.2] at h;exact h
 have U5:Hid (∀ w p,Rd w p l4 e4→Calls Tryz.prog 140 #[.pointer (some ⟨p,0,none⟩)] w fun en w'=>en=.returned (.int .i64 E)∧Rd w' p l5 E∧Only p w w'):=fun w p hr=>by
  have h:=end_any p l4 e4 w hr (by omega)
  rw[h5.1,h5.2] at h;exact h
 obtain⟨K,hK⟩:∃ K,mayC a (c % 8) me m=K:=⟨_,rfl⟩
 obtain⟨G,hG⟩:∃ G:Bool,decide (127<c)=G:=⟨_,rfl⟩
 have M1:Hid (∀ w,Calls Tryz.prog 77 #[.agg #[.int .u8 a,.bool G,.int .u8 (c % 8),.int .u32 sq,.int .u16 me,.string (bs m)]] w fun en w'=>en=.returned (.bool K)∧Below w.heap.size w w'):=by
  rw[←hK];exact fun w=>may13_any a G (c % 8) sq me m w nm
 have hRR:R=if b=1∧E=0∧K=true then(a,G,c % 8,sq,me,m,0) else(0,false,0,0,0,[],4):=by
  rw[←hR];unfold tkC;rw[hE,h1.1,h2.1,h3.1,hK,hG]
 have HRR:=hd0 hRR
 have a7:bits .and .u8 c 7=c % 8:=bits_mask .u8 8 (by decide) wraps_u8 3 (by decide) c hc.1 hc.2
 have a128:bits .and .u8 c 128=c / 128*128:=and_128 c hc.1 hc.2
 have g128:(c / 128*128 != 0)=G:=by
  rw[←hG]
  by_cases h:127<c
  ·rw[decide_eq_true h,bne_iff_ne];omega
  ·rw[decide_eq_false h]
   have:c / 128*128=0:=by omega
   rw[this];rfl
 clear hRR hR h1 h2 h3 h4 q2 q3 q4 n1 n2 n3 n4 nm h5 hE hK hG ha hf
 go_enter Tryz.func123,Tryz.ntmps123
 go_upto_region 1 with fail
 have pb0:=(PB.new 103 w a b c f (.slice vx vn vk)).later (bA (.cells #[.int .u8 0,.bool false,.int .u8 0,.int .u32 0,.int .u16 0,.string { data:=#[] }] 107))
 have pz:CB 107 ((w.alloc (.cells #[.int .u8 a,.int .u8 b,.int .u8 c,.string (bs f),.slice vx vn vk] 103)).alloc (.cells #[.int .u8 0,.bool false,.int .u8 0,.int .u32 0,.int .u16 0,.string { data:=#[] }] 107)) (w.heap.size+1) 0 false 0 0 0 []:=by
  have:=CB.new 107 (w.alloc (.cells #[.int .u8 a,.int .u8 b,.int .u8 c,.string (bs f),.slice vx vn vk] 103)) 0 false 0 0 0 []
  rw[show(w.alloc (.cells #[.int .u8 a,.int .u8 b,.int .u8 c,.string (bs f),.slice vx vn vk] 103)).heap.size=w.heap.size+1 by simp] at this
  exact this
 have hb0:Below w.heap.size w ((w.alloc (.cells #[.int .u8 a,.int .u8 b,.int .u8 c,.string (bs f),.slice vx vn vk] 103)).alloc (.cells #[.int .u8 0,.bool false,.int .u8 0,.int .u32 0,.int .u16 0,.string { data:=#[] }] 107)):=(bA _).alloc (by simp) _
 have hz0:((w.alloc (.cells #[.int .u8 a,.int .u8 b,.int .u8 c,.string (bs f),.slice vx vn vk] 103)).alloc (.cells #[.int .u8 0,.bool false,.int .u8 0,.int .u32 0,.int .u16 0,.string { data:=#[] }] 107)).heap.size=w.heap.size+2:=by simp
 obtain⟨w0,hw0⟩:∃ k,(w.alloc (.cells #[.int .u8 a,.int .u8 b,.int .u8 c,.string (bs f),.slice vx vn vk] 103)).alloc (.cells #[.int .u8 0,.bool false,.int .u8 0,.int .u32 0,.int .u16 0,.string { data:=#[] }] 107)=k:=⟨_,rfl⟩
 rw[hw0] at pb0 pz hb0 hz0 ⊢
 have c3:=pb0.c3
 have PB0:=hd0 pb0
 have PZ0:=hd0 pz
 have HB0:=hd0 hb0
 have HZ0:=hd0 hz0
 clear hw0 pb0 pz hb0 hz0
 go_wp2_with fail
 with_reducible refine(of_any f w0).mono ?_
 rintro en w1 ⟨rfl,hr1,hb1,hlt⟩
 rw[HZ0.out] at hr1 ⊢
 have PB1:=PB0.out.later hb1
 have PZ1:=PZ0.out.later hb1
 have HB1:=HB0.out.trans (hb1.mono HB0.out.size)
 have c0:w1.drew.cell? ⟨w.heap.size,0,none⟩=some (.int .u8 a):=PB1.c0
 have c2:w1.drew.cell? ⟨w.heap.size,2,none⟩=some (.int .u8 c):=PB1.c2
 have rd1:Rd w1.drew (w.heap.size+2) f 0:=hr1
 have pbd:PB 103 w1.drew w.heap.size a b c f (.slice vx vn vk):=PB1
 have pzd:CB 107 w1.drew (w.heap.size+1) 0 false 0 0 0 []:=PZ1
 have hbd:Below w.heap.size w w1.drew:=HB1.drew
 have CT1:Hid (CT w w1 f 0 a b c f (.slice vx vn vk)):=hd0 ⟨rd1,pbd,pzd,HB1⟩
 have CTd:Hid (CT w w1.drew f 0 a b c f (.slice vx vn vk)):=hd0 ⟨rd1,pbd,pzd,hbd⟩
 clear hb1 c3 PB0 PZ0 HB0 HZ0 PB1 PZ1 HB1 hr1 pbd pzd hbd hlt rd1
 go_wp2_with fail
 go_upto_region 3 with fail
 go_cut [8] (fun s8 wx=>∃ q:Nat,s8=.pointer (some ⟨q,0,none⟩)∧Hid (CT w wx l3 e3 a b c f (.slice vx vn vk))∧Hid (CB 107 wx q a G (c % 8) sq me m)∧Hid (w.heap.size+2<q))
 case first =>
  go_region_held3 (fun W=>W.cell? ⟨w.heap.size,0,none⟩=some (.int .u8 a)∧W.cell? ⟨w.heap.size,2,none⟩=some (.int .u8 c))
   (first|(with_reducible exact CTd.out.two)|(with_reducible exact(CT1.out.alloc _).drew.two)|(with_reducible exact(CTd.out.alloc _).two)|(with_reducible exact CTx.out.two)|(with_reducible exact(CTx.out.alloc _).two)|(with_reducible exact CTy.out.two)|(with_reducible exact(CTy.out.alloc _).two)|(with_reducible exact CTz.out.two)|(with_reducible exact(CTz.out.alloc _).two)|(with_reducible exact(CTz.out.sets NQq.out _ _ _ _ _ _).two))
   (first
    |(go_at_call 139;(first
      |((with_reducible refine(U1.out _ _ CTd.out.rd).mono ?_);rintro en wx ⟨rfl,rdx,hox⟩;have CTx:=hd0 (CTd.out.next rdx hox))
      |((with_reducible refine(U1.out _ _ (CT1.out.alloc _).drew.rd).mono ?_);rintro en wx ⟨rfl,rdx,hox⟩;have CTx:=hd0 ((CT1.out.alloc _).drew.next rdx hox);have NQq:=hd0 ((NQ.new CT1.out).drew.only hox))
      |((with_reducible refine(U1.out _ _ (CTd.out.alloc _).rd).mono ?_);rintro en wx ⟨rfl,rdx,hox⟩;have CTx:=hd0 ((CTd.out.alloc _).next rdx hox);have NQq:=hd0 ((NQ.new CTd.out).only hox)));have c0x:=CTx.out.pb.c0;have c2x:=CTx.out.pb.c2)
    |(go_at_call 121;(first
      |((with_reducible refine(U2.out _ _ CTx.out.rd).mono ?_);rintro en wy ⟨rfl,rdy,hoy⟩;have CTy:=hd0 (CTx.out.next rdy hoy);try have NQq:=hd0 (NQq.out.only hoy))
      |((with_reducible refine(U2.out _ _ (CTx.out.alloc _).rd).mono ?_);rintro en wy ⟨rfl,rdy,hoy⟩;have CTy:=hd0 ((CTx.out.alloc _).next rdy hoy);have NQq:=hd0 ((NQ.new CTx.out).only hoy)));have c0y:=CTy.out.pb.c0;have c2y:=CTy.out.pb.c2)
    |(go_at_call 91;(first
      |((with_reducible refine(U3.out _ _ CTy.out.rd).mono ?_);rintro en wz ⟨rfl,rdz,hoz⟩;have CTz:=hd0 (CTy.out.next rdz hoz);try have NQq:=hd0 (NQq.out.only hoz))
      |((with_reducible refine(U3.out _ _ (CTy.out.alloc _).rd).mono ?_);rintro en wz ⟨rfl,rdz,hoz⟩;have CTz:=hd0 ((CTy.out.alloc _).next rdz hoz);have NQq:=hd0 ((NQ.new CTy.out).only hoz)));have c0z:=CTz.out.pb.c0;have c2z:=CTz.out.pb.c2;try (have k0:=NQq.out.1.c0;have k1:=NQq.out.1.c1;have k2:=NQq.out.1.c2;have k3:=NQq.out.1.c3;have k4:=NQq.out.1.c4;have k5:=NQq.out.1.c5;have r0:=NQq.out.1.fr 0;have r1:=NQq.out.1.fr 1;have r2:=NQq.out.1.fr 2;have r3:=NQq.out.1.fr 3;have r4:=NQq.out.1.fr 4;have r5:=NQq.out.1.fr 5)))
  all_goals go_wp2_with fail
  all_goals go_meet
  all_goals first
   | exact⟨_,rfl,hd0 (CTz.out.sets NQq.out _ _ _ _ _ _),hd0 (CB.sets NQq.out.1 _ _ _ _ _ _),hd0 NQq.out.2⟩
   | exact⟨_,rfl,hd0 (CTz.out.alloc _),hd0 (CB.new _ _ _ _ _ _ _ _),hd0 CTz.out.rd.lt⟩
 case rest =>
  clear CTd CT1 c0 c2
  obtain⟨q,rfl,CT3,CQ3,HQ⟩:=hcut
  go_wp2_with fail
  with_reducible refine(U4.out _ _ CT3.out.rd).mono ?_
  rintro en w4 ⟨rfl,hr4,ho4⟩
  have CT4:=hd0 (CT3.out.next hr4 ho4)
  have CQ4:=hd0 (CQ3.out.only ho4 (by have:=HQ.out;omega))
  have c1:=CT4.out.pb.c1
  clear hr4 ho4 CT3 CQ3
  by_cases hb:b=1
  rotate_left
  ·have db:(b != 1)=true:=by rw[bne_iff_ne];exact hb
   have hR2:R=(0,false,0,0,0,[],4):=by rw[HRR.out,if_neg (fun h=>hb h.1)]
   have HR2:=hd0 hR2
   clear hR2 hb
   have z0:=CT4.out.pz.c0
   have z1:=CT4.out.pz.c1
   have z2:=CT4.out.pz.c2
   have z3:=CT4.out.pz.c3
   have z4:=CT4.out.pz.c4
   have z5:=CT4.out.pz.c5
   have y0:=CT4.out.pz.fr 0
   have y1:=CT4.out.pz.fr 1
   have y2:=CT4.out.pz.fr 2
   have y3:=CT4.out.pz.fr 3
   have y4:=CT4.out.pz.fr 4
   have y5:=CT4.out.pz.fr 5
   go_wp2_with fail
   refine bodyPost_ret (v:=.tuple #[.agg #[.int .u8 0,.bool false,.int .u8 0,.int .u32 0,.int .u16 0,.string (bs [])],.int .i64 4]) (by simp[results,Tryz.results123,go_sem,z0,z1,z2,z3,z4,z5];rfl) rfl ⟨by rw[HR2.out],below_set (below_set (below_set (below_set (below_set (below_set CT4.out.bel (by omega) _) (by omega) _) (by omega) _) (by omega) _) (by omega) _) (by omega) _⟩
  have db:(b != 1)=false:=by rw[hb];rfl
  go_wp2_with fail
  with_reducible refine(U5.out _ _ CT4.out.rd).mono ?_
  rintro en w5 ⟨rfl,hr5,ho5⟩
  have CT5:=hd0 (CT4.out.next hr5 ho5)
  have CQ5:=hd0 (CQ4.out.only ho5 (by have:=HQ.out;omega))
  clear hr5 ho5 CT4 CQ4 c1
  by_cases hE:E=0
  rotate_left
  ·have dE:(E != 0)=true:=by rw[bne_iff_ne];exact hE
   have hR2:R=(0,false,0,0,0,[],4):=by rw[HRR.out,if_neg (fun h=>hE h.2.1)]
   have HR2:=hd0 hR2
   clear hR2 hb hE
   have z0:=CT5.out.pz.c0
   have z1:=CT5.out.pz.c1
   have z2:=CT5.out.pz.c2
   have z3:=CT5.out.pz.c3
   have z4:=CT5.out.pz.c4
   have z5:=CT5.out.pz.c5
   have y0:=CT5.out.pz.fr 0
   have y1:=CT5.out.pz.fr 1
   have y2:=CT5.out.pz.fr 2
   have y3:=CT5.out.pz.fr 3
   have y4:=CT5.out.pz.fr 4
   have y5:=CT5.out.pz.fr 5
   go_wp2_with fail
   refine bodyPost_ret (v:=.tuple #[.agg #[.int .u8 0,.bool false,.int .u8 0,.int .u32 0,.int .u16 0,.string (bs [])],.int .i64 4]) (by simp[results,Tryz.results123,go_sem,z0,z1,z2,z3,z4,z5];rfl) rfl ⟨by rw[HR2.out],below_set (below_set (below_set (below_set (below_set (below_set CT5.out.bel (by omega) _) (by omega) _) (by omega) _) (by omega) _) (by omega) _) (by omega) _⟩
  have dE:(E != 0)=false:=by rw[hE];rfl
  have k0:=CQ5.out.c0
  have k1:=CQ5.out.c1
  have k2:=CQ5.out.c2
  have k3:=CQ5.out.c3
  have k4:=CQ5.out.c4
  have k5:=CQ5.out.c5
  go_wp2_with fail
  with_reducible refine(M1.out _).mono ?_
  rintro en w6 ⟨rfl,hb6⟩
  have CT6:=hd0 (CT5.out.later hb6)
  have CQ6:=hd0 (CQ5.out.later hb6)
  clear hb6 CT5 CQ5 k0 k1 k2 k3 k4 k5
  cases K with
  | false =>
   have hR2:R=(0,false,0,0,0,[],4):=by rw[HRR.out,if_neg (fun h=>Bool.noConfusion h.2.2)]
   have HR2:=hd0 hR2
   clear hR2 hb hE
   have z0:=CT6.out.pz.c0
   have z1:=CT6.out.pz.c1
   have z2:=CT6.out.pz.c2
   have z3:=CT6.out.pz.c3
   have z4:=CT6.out.pz.c4
   have z5:=CT6.out.pz.c5
   have y0:=CT6.out.pz.fr 0
   have y1:=CT6.out.pz.fr 1
   have y2:=CT6.out.pz.fr 2
   have y3:=CT6.out.pz.fr 3
   have y4:=CT6.out.pz.fr 4
   have y5:=CT6.out.pz.fr 5
   go_wp2_with fail
   refine bodyPost_ret (v:=.tuple #[.agg #[.int .u8 0,.bool false,.int .u8 0,.int .u32 0,.int .u16 0,.string (bs [])],.int .i64 4]) (by simp[results,Tryz.results123,go_sem,z0,z1,z2,z3,z4,z5];rfl) rfl ⟨by rw[HR2.out],below_set (below_set (below_set (below_set (below_set (below_set CT6.out.bel (by omega) _) (by omega) _) (by omega) _) (by omega) _) (by omega) _) (by omega) _⟩
  | true =>
   have hR2:R=(a,G,c % 8,sq,me,m,0):=by rw[HRR.out,if_pos ⟨hb,hE,rfl⟩]
   have HR2:=hd0 hR2
   have k0:=CQ6.out.c0
   have k1:=CQ6.out.c1
   have k2:=CQ6.out.c2
   have k3:=CQ6.out.c3
   have k4:=CQ6.out.c4
   have k5:=CQ6.out.c5
   clear hR2 hb hE
   have z0:=CT6.out.pz.c0
   have z1:=CT6.out.pz.c1
   have z2:=CT6.out.pz.c2
   have z3:=CT6.out.pz.c3
   have z4:=CT6.out.pz.c4
   have z5:=CT6.out.pz.c5
   have y0:=CT6.out.pz.fr 0
   have y1:=CT6.out.pz.fr 1
   have y2:=CT6.out.pz.fr 2
   have y3:=CT6.out.pz.fr 3
   have y4:=CT6.out.pz.fr 4
   have y5:=CT6.out.pz.fr 5
   go_wp2_with fail
   refine bodyPost_ret (v:=.tuple #[.agg #[.int .u8 a,.bool G,.int .u8 (c % 8),.int .u32 sq,.int .u16 me,.string (bs m)],.int .i64 0]) (by simp[results,Tryz.results123,go_sem,z0,z1,z2,z3,z4,z5]) rfl ⟨by rw[HR2.out],below_set (below_set (below_set (below_set (below_set (below_set CT6.out.bel (by omega) _) (by omega) _) (by omega) _) (by omega) _) (by omega) _) (by omega) _⟩
theorem tkC_b (a b c:Int)(f:List UInt8):(tkC a b c f).2.2.2.2.2.1.length≤1000∧(0≤(tkC a b c f).2.2.2.1∧(tkC a b c f).2.2.2.1<4294967296)∧(0≤(tkC a b c f).2.2.2.2.1∧(tkC a b c f).2.2.2.2.1<65536):=by
 unfold tkC
 split
 ·refine⟨?_,⟨(numOf_bd _).1,numOf_lt _ 4 _ (rdText_len _ _ 4) (by decide)⟩,⟨(numOf_bd _).1,numOf_lt _ 2 _ (rdText_len _ _ 2) (by decide)⟩⟩
  exact Nat.le_trans (rdText_len (cr2 f).2.1 (cr2 f).2.2 48) (by decide)
 ·refine⟨by simp,⟨by simp,by simp⟩,⟨by simp,by simp⟩⟩
def hearM (o:Ow20)(s:Ms)(lv:Int)(rd:Bool)(iv me:Int)(md:List UInt8):Ms :=
 { s with V:=(hearC o.a s.V s.bd s.cr lv rd iv me md).1,bd:=(hearC o.a s.V s.bd s.cr lv rd iv me md).2.1,cr:=(hearC o.a s.V s.bd s.cr lv rd iv me md).2.2 }
def chkM (o:Ow20)(s:Ms)(a b c:Int)(f:List UInt8):Ms × Bool :=
 if (tkC a b c f).2.2.2.2.2.2=0 then(hearM o s (tkC a b c f).1 (tkC a b c f).2.1 (tkC a b c f).2.2.1 (tkC a b c f).2.2.2.2.1 (tkC a b c f).2.2.2.2.2.1,true) else(s,false)
structure CM (w W:World)(o:Ow20)(ov:Value)(x:Mp)(s:Ms)(wv:Value)(B:Nat)(A:Array Value):Prop where
 mm:MM W o ov x s wv
 cb:GB 142 W B A
 fr:Fr (x.D wv) w W
 lb:w.heap.size≤B
section
variable {w W W':World} {o:Ow20} {ov:Value} {x:Mp} {s:Ms} {wv:Value} {B:Nat} {A:Array Value}
theorem CM.later (h:CM w W o ov x s wv B A)(hb:Below W.heap.size W W'):CM w W' o ov x s wv B A:=⟨h.mm.later hb,h.cb.later hb,h.fr.trans (.of_below hb),h.lb⟩
theorem CM.drew (h:CM w W o ov x s wv B A):CM w W.drew o ov x s wv B A:=h.later (Below.refl _ _).drew
theorem CM.alloc (h:CM w W o ov x s wv B A)(b:Obj):CM w (W.alloc b) o ov x s wv B A:=h.later (bA b)
theorem CM.box (h:MM w o ov x s wv)(A:Array Value):CM w (w.alloc (.cells A 142)) o ov x s wv w.heap.size A :=
 ⟨h.alloc _,GB.new _ _ _,.of_below (bA _),Nat.le_refl _⟩
theorem CM.notD (h0:MM w o ov x s wv){k:Nat}(hk:w.heap.size≤k):¬ x.D wv k:=fun hd=>by have:=h0.ltD hd;omega
end
theorem mcheck_any (o:Ow20)(ov:Value)(x:Mp)(s:Ms)(wv:Value)(sr ds:Mc)(a b c:Int)(f:List UInt8)(v:Value)(w:World)(h:MM w o ov x s wv)(hB:Bnd s.V s.bd s.cr)
  (hf:f.length≤1000) (ha:0≤a∧a<256) (hc:0≤c∧c<256) (hv:∃ x n k,v=.slice x n k):Calls Tryz.prog 95 #[.pointer (some ⟨x.p,0,none⟩),.agg #[.int .u8 sr.a,.int .u8 sr.b,.int .u8 sr.c,.int .u8 sr.d,.int .u8 sr.e,.int .u8 sr.f,.int .u8 ds.a,.int .u8 ds.b,.int .u8 ds.c,.int .u8 ds.d,.int .u8 ds.e,.int .u8 ds.f,.int .u8 a,.int .u8 b,.int .u8 c,.string (bs f),v]] w fun en w' =>
  en=.returned (.tuple #[.slice none 0 0,.bool (chkM o s a b c f).2])∧MM w' o ov x (chkM o s a b c f).1 wv∧Fr (x.D wv) w w':=by
 obtain⟨⟨lv,rd,iv,sq,me,m,e⟩,ht⟩:∃ z,tkC a b c f=z:=⟨_,rfl⟩
 have TK:Hid (∀ w,Calls Tryz.prog 123 #[.agg #[.int .u8 a,.int .u8 b,.int .u8 c,.string (bs f),v]] w fun en w'=>en=.returned (.tuple #[.agg #[.int .u8 lv,.bool rd,.int .u8 iv,.int .u32 sq,.int .u16 me,.string (bs m)],.int .i64 e])∧Below w.heap.size w w'):=hd0 fun w=>by
  have h:=cctake_any v a b c f w hf ha hc hv
  rw[ht] at h;exact h
 have hbd:=tkC_b a b c f
 rw[ht] at hbd
 have HBD:=hd0 hbd
 obtain⟨R,hR⟩:∃ R,chkM o s a b c f=R:=⟨_,rfl⟩
 have HR:Hid (R=if e=0 then(hearM o s lv rd iv me m,true) else(s,false)):=hd0 (by rw[←hR];unfold chkM;rw[ht])
 rw[hR]
 obtain⟨vx,vn,vk,rfl⟩:=hv
 obtain⟨v,hvv⟩:∃ v,Value.slice vx vn vk=v:=⟨_,rfl⟩
 have HB:=hd0 hB
 rw[hvv] at TK ⊢
 have C0:=hd0 (CM.box h #[.int .u8 sr.a,.int .u8 sr.b,.int .u8 sr.c,.int .u8 sr.d,.int .u8 sr.e,.int .u8 sr.f,.int .u8 ds.a,.int .u8 ds.b,.int .u8 ds.c,.int .u8 ds.d,.int .u8 ds.e,.int .u8 ds.f,.int .u8 a,.int .u8 b,.int .u8 c,.string (bs f),v])
 have H0:=hd0 h
 clear hR hbd ht hB h hf ha hc hvv
 go_enter Tryz.func95,Tryz.ntmps95
 go_upto_region 1 with fail
 obtain⟨w0,hw0⟩:∃ z,w.alloc (.cells #[.int .u8 sr.a,.int .u8 sr.b,.int .u8 sr.c,.int .u8 sr.d,.int .u8 sr.e,.int .u8 sr.f,.int .u8 ds.a,.int .u8 ds.b,.int .u8 ds.c,.int .u8 ds.d,.int .u8 ds.e,.int .u8 ds.f,.int .u8 a,.int .u8 b,.int .u8 c,.string (bs f),v] 142)=z:=⟨_,rfl⟩
 obtain⟨B,hBB⟩:∃ z,w.heap.size=z:=⟨_,rfl⟩
 rw[hw0] at C0 ⊢
 rw[hBB] at C0 ⊢
 clear hw0 hBB
 have k12:w0.cell? ⟨B,12,none⟩=some (.int .u8 a):=C0.out.cb.c 12 _ rfl
 have k13:w0.cell? ⟨B,13,none⟩=some (.int .u8 b):=C0.out.cb.c 13 _ rfl
 have k14:w0.cell? ⟨B,14,none⟩=some (.int .u8 c):=C0.out.cb.c 14 _ rfl
 have k15:w0.cell? ⟨B,15,none⟩=some (.string (bs f)):=C0.out.cb.c 15 _ rfl
 have k16:w0.cell? ⟨B,16,none⟩=some v:=C0.out.cb.c 16 _ rfl
 go_wp2_with fail
 with_reducible refine(TK.out _).mono ?_
 rintro en w1 ⟨rfl,hb1⟩
 have C1:=hd0 (C0.out.later hb1)
 clear hb1 C0 k12 k13 k14 k15 k16
 go_upto_region 2 with fail
 have g2:=GB.new 107 w1 #[.int .u8 lv,.bool rd,.int .u8 iv,.int .u32 sq,.int .u16 me,.string (bs m)]
 have C2:=hd0 (C1.out.alloc (.cells #[.int .u8 lv,.bool rd,.int .u8 iv,.int .u32 sq,.int .u16 me,.string (bs m)] 107))
 obtain⟨w2,hw2⟩:∃ z,w1.alloc (.cells #[.int .u8 lv,.bool rd,.int .u8 iv,.int .u32 sq,.int .u16 me,.string (bs m)] 107)=z:=⟨_,rfl⟩
 obtain⟨t,htt⟩:∃ z,w1.heap.size=z:=⟨_,rfl⟩
 rw[hw2] at C2 g2 ⊢
 rw[htt] at g2 ⊢
 have G2:=hd0 g2
 have HT:=hd0 (CM.notD H0.out (k:=t) (by rw[←htt];exact C1.out.fr.size))
 clear hw2 g2 htt C1
 by_cases he:e=0
 ·have HZ:=hd0 (show R=(hearM o s lv rd iv me m,true) by rw[HR.out,if_pos he])
  subst he
  have HE:Hid (∀ W,MM W o ov x s wv→Calls Tryz.prog 124 #[.pointer (some ⟨x.q,0,none⟩),.agg #[.int .u8 lv,.bool rd,.int .u8 iv,.int .u32 sq,.int .u16 me,.string (bs m)]] W fun en w'=>en=.returned (.tuple #[])∧MM w' o ov x (hearM o s lv rd iv me m) wv∧Two x.q x.m W w'):=hd0 fun W hW =>
   (hear_any x.q x.m o.a s.V s.bd s.cr lv rd iv sq me m W hW.mc HB.out HBD.out.1 HBD.out.2.1 HBD.out.2.2).mono fun en w' ⟨h1,h2,h3⟩=>⟨h1,hW.rem h2 h3,h3⟩
  obtain⟨s1,hs1⟩:∃ z,hearM o s lv rd iv me m=z:=⟨_,rfl⟩
  rw[hs1] at HE HZ
  clear hs1 HR HBD HB TK
  go_upto_region 3 with fail
  go_cut [] (fun wx=>Hid (MM wx o ov x s1 wv∧Fr (x.D wv) w wx))
  case first =>
   have md1:MM w2.drew o ov x s wv:=C2.out.mm.drew
   have gd:GB 107 w2.drew t #[.int .u8 lv,.bool rd,.int .u8 iv,.int .u32 sq,.int .u16 me,.string (bs m)]:=G2.out.drew
   have sv:w2.drew.cell? ⟨x.p,12,none⟩=some (.pointer (some ⟨x.q,0,none⟩))∧w2.drew.cell? ⟨t,0,none⟩=some (.int .u8 lv)∧w2.drew.cell? ⟨t,1,none⟩=some (.bool rd)∧w2.drew.cell? ⟨t,2,none⟩=some (.int .u8 iv)∧w2.drew.cell? ⟨t,3,none⟩=some (.int .u32 sq)∧w2.drew.cell? ⟨t,4,none⟩=some (.int .u16 me)∧w2.drew.cell? ⟨t,5,none⟩=some (.string (bs m)) :=
    ⟨md1.cq,gd.c 0 _ rfl,gd.c 1 _ rfl,gd.c 2 _ rfl,gd.c 3 _ rfl,gd.c 4 _ rfl,gd.c 5 _ rfl⟩
   have lt':t<w2.heap.size:=G2.out.lt
   have nD:¬ x.D wv t:=HT.out
   go_region_held3 (fun W=>W.cell? ⟨x.p,12,none⟩=some (.pointer (some ⟨x.q,0,none⟩))∧W.cell? ⟨t,0,none⟩=some (.int .u8 lv)∧W.cell? ⟨t,1,none⟩=some (.bool rd)∧W.cell? ⟨t,2,none⟩=some (.int .u8 iv)∧W.cell? ⟨t,3,none⟩=some (.int .u32 sq)∧W.cell? ⟨t,4,none⟩=some (.int .u16 me)∧W.cell? ⟨t,5,none⟩=some (.string (bs m)))
    (first|with_reducible exact sv|with_reducible exact sv2)
    (first
     | (go_at_call 124; (with_reducible refine (HE.out _ md1).mono ?_); rintro en wx ⟨rfl, hmx, htx⟩
        have gx:GB 107 wx t #[.int .u8 lv,.bool rd,.int .u8 iv,.int .u32 sq,.int .u16 me,.string (bs m)]:=gd.fr' (Fr.of_two (D:=x.D wv) htx (.inr (.inl rfl)) (.inr (.inr (.inl rfl)))) nD
        have sv2 : wx.cell? ⟨x.p, 12, none⟩ = some (.pointer (some ⟨x.q, 0, none⟩)) ∧ wx.cell? ⟨t, 0, none⟩ = some (.int .u8 lv) ∧ wx.cell? ⟨t, 1, none⟩ = some (.bool rd) ∧ wx.cell? ⟨t, 2, none⟩ = some (.int .u8 iv) ∧ wx.cell? ⟨t, 3, none⟩ = some (.int .u32 sq) ∧ wx.cell? ⟨t, 4, none⟩ = some (.int .u16 me) ∧ wx.cell? ⟨t, 5, none⟩ = some (.string (bs m)) :=
          ⟨hmx.cq,gx.c 0 _ rfl,gx.c 1 _ rfl,gx.c 2 _ rfl,gx.c 3 _ rfl,gx.c 4 _ rfl,gx.c 5 _ rfl⟩))
   go_wp2
   go_meet
   exact hd0 ⟨hmx,(C2.out.fr.drew).trans (.of_two htx (.inr (.inl rfl)) (.inr (.inr (.inl rfl))))⟩
  case rest =>
   have HM:=hd0 hcut.out
   clear hcut G2 C2 HE
   go_wp2
   go_ret2
   exact⟨by rw[HZ.out];rfl,by rw[HZ.out];exact HM.out.1,HM.out.2⟩
 ·have HZ:=hd0 (show R=(s,false) by rw[HR.out,if_neg he])
  have e1:(e==0)=false:=by rw[beq_eq_false_iff_ne];exact he
  clear he HR HBD HB TK G2
  go_wp2
  go_ret2
  exact⟨by rw[HZ.out];rfl,by rw[HZ.out];exact C2.out.mm,C2.out.fr⟩
def LB (T:TypeId)(W:World)(q:Nat)(xlv:Int)(xrp:Bool)(xnm:Int)(xdt:List UInt8):Prop:=W.heap[q]?=some (.cells #[.int .u8 xlv,.bool xrp,.int .u32 xnm,.string (bs xdt)] T (0,0))
section
variable {T:TypeId} {W W':World} {q:Nat} {xlv:Int} {xrp:Bool} {xnm:Int} {xdt:List UInt8}
theorem LB.lt (h:LB T W q xlv xrp xnm xdt):q<W.heap.size:=by
 rcases Nat.lt_or_ge q W.heap.size with h1|h1
 ·exact h1
 ·unfold LB at h;rw[Array.getElem?_eq_none h1] at h;cases h
theorem LB.later (h:LB T W q xlv xrp xnm xdt)(hb:Below W.heap.size W W'):LB T W' q xlv xrp xnm xdt:=by
 unfold LB;rw[hb.block q h.lt];exact h
theorem LB.c0 (h:LB T W q xlv xrp xnm xdt):W.cell? ⟨q,0,none⟩=some (.int .u8 xlv):=by unfold LB at h;simp[World.cell?,h]
theorem LB.c1 (h:LB T W q xlv xrp xnm xdt):W.cell? ⟨q,1,none⟩=some (.bool xrp):=by unfold LB at h;simp[World.cell?,h]
theorem LB.c2 (h:LB T W q xlv xrp xnm xdt):W.cell? ⟨q,2,none⟩=some (.int .u32 xnm):=by unfold LB at h;simp[World.cell?,h]
theorem LB.c3 (h:LB T W q xlv xrp xnm xdt):W.cell? ⟨q,3,none⟩=some (.string (bs xdt)):=by unfold LB at h;simp[World.cell?,h]
theorem LB.fr (h:LB T W q xlv xrp xnm xdt)(o:Nat):W.frozen? ⟨q,o,none⟩=false:=by unfold LB at h;simp[World.frozen?,h]
theorem LB.new (T:TypeId)(W:World)(xlv:Int)(xrp:Bool)(xnm:Int)(xdt:List UInt8):LB T (W.alloc (.cells #[.int .u8 xlv,.bool xrp,.int .u32 xnm,.string (bs xdt)] T)) W.heap.size xlv xrp xnm xdt:=heap_alloc_new W _
end
end Go.Proofs.YtlkdfofpnmpidaaGreat
