/- ZQ09 -/
import Derived.Test.YtlkdfofpnmpidaaGreatZQ08
set_option linter.unusedVariables false
set_option linter.unusedSimpArgs false
set_option maxRecDepth 100000
set_option maxHeartbeats 16000000
namespace Go.Proofs.YtlkdfofpnmpidaaGreat
open Go.RowKit
def ow8A (a:Ow8):Array Value:=#[.int .u8 a.lv,.int .u16 a.mp,.int .u8 a.iv,.string (bs a.md)]
theorem new1_any (a:Ow8)(k:Int)(bx:Nat)(T:TypeId)(w:World)(h:GB T w bx (ow8A a)):Calls Tryz.prog 71 #[.int .u16 k,.pointer (some ⟨bx,0,none⟩)] w fun en w'=>en=.returned (.agg #[.int .u8 a.lv,.bool false,.int .u8 a.iv,.int .u32 0,.int .u16 k,.string (bs a.md)])∧Below w.heap.size w w':=by
 have c0:w.cell? ⟨bx,0,none⟩=some (.int .u8 a.lv):=h.c 0 _ rfl
 have c2:w.cell? ⟨bx,2,none⟩=some (.int .u8 a.iv):=h.c 2 _ rfl
 have c3:w.cell? ⟨bx,3,none⟩=some (.string (bs a.md)):=h.c 3 _ rfl
 have hlt:=h.lt
 clear h
 go_enter Tryz.func71,Tryz.ntmps71
 go_wp2
 refine bodyPost_ret (v:=.agg #[.int .u8 a.lv,.bool false,.int .u8 a.iv,.int .u32 0,.int .u16 k,.string (bs a.md)]) (res_one rfl rfl Tryz.underlying107 _ _ w.heap.size _ rfl (heap_alloc_new w _) (by kernel_rfl)) rfl ⟨rfl,bA _⟩
def u1 (k:Int):List Value:=[.int .u16 k]
theorem u1_len (k:Int):(u1 k).length=1:=rfl
def newGo (a:Ow8):List Int→List Vn→Option (List Vn)
 |[],V=>some V
 | k::r,V=>if ((vFind V k).isSome||(k==a.mp||!mayC a.lv a.iv k a.md))=true then none else newGo a r (vPut V (k,lastC a.iv,0))
def newV (a:Ow8)(ks:List Int):Option (List Vn) :=
 if mayC a.lv a.iv a.mp a.md=false∨8<ks.length then none else newGo a ks []
structure NS (w W:World)(q m:Nat)(a:Ow8)(V:List Vn):Prop where
 mc:MC W q a m V 0 0
 bx:GB 89 W w.heap.size (ow8A a)
 bel:Below w.heap.size w W
 lq:w.heap.size<q
 lm:w.heap.size<m
theorem NS.later {w W W':World}{q m:Nat}{a:Ow8}{V:List Vn}(h:NS w W q m a V)(hb:Below W.heap.size W W'):NS w W' q m a V:=⟨h.mc.later hb,h.bx.later hb,h.bel.trans (hb.mono h.bel.size),h.lq,h.lm⟩
theorem new18_any (a:Ow8)(ha:a.Ok)(sv:Value)(ks:List Int)(hkb:∀ x∈ks,0≤x∧x<65536)(w:World)(hR:Rw 1 u1 w sv ks)(hkl:ks.length≤1000):Calls Tryz.prog 27 #[.agg (ow8A a),sv] w fun en w' =>
  (newV a ks=none∧en=.returned (.tuple #[.pointer none,.int .i64 2])∧Below w.heap.size w w') ∨
  ∃ V q m,newV a ks=some V∧en=.returned (.tuple #[.pointer (some ⟨q,0,none⟩),.int .i64 0])∧NS w w' q m a V:=by
 obtain⟨sa,sc,rfl,hsh⟩:=hR.shape
 have HR:=hd0 hR
 have HSH:=hd0 hsh
 obtain⟨K,hK⟩:∃ K,mayC a.lv a.iv a.mp a.md=K:=⟨_,rfl⟩
 have MY:Hid (∀ k w,(0≤k∧k<65536)→Calls Tryz.prog 72 #[.agg #[.int .u8 a.lv,.bool false,.int .u8 a.iv,.int .u32 0,.int .u16 k,.string (bs a.md)]] w fun en w'=>en=.returned (.bool (mayC a.lv a.iv k a.md))∧Below w.heap.size w w'):=hd0 fun k w hk=>rmay_any a.lv false a.iv 0 k a.md w ha.md (by omega) hk
 have N1:Hid (∀ k W,GB 89 W w.heap.size (ow8A a)→Calls Tryz.prog 71 #[.int .u16 k,.pointer (some ⟨w.heap.size,0,none⟩)] W fun en w'=>en=.returned (.agg #[.int .u8 a.lv,.bool false,.int .u8 a.iv,.int .u32 0,.int .u16 k,.string (bs a.md)])∧Below W.heap.size W w'):=hd0 fun k W h=>new1_any a k w.heap.size _ W h
 obtain⟨L,hL⟩:∃ L,ks.length=L:=⟨_,rfl⟩
 have HNV:Hid (newV a ks=if K=false∨8<L then none else newGo a ks []):=hd0 (by rw[←hK,← hL];rfl)
 have HK:=hd0 hK
 have HL:=hd0 hL
 have HA:=hd0 ha
 have HKB:=hd0 hkb
 have hL1:L≤1000:=by omega
 have M0:=hd0 (fun w=>MY.out a.mp w ha.mp)
 rw[hK] at M0
 rw[hL]
 clear hR hsh hK hL ha hkb hkl
 unfold ow8A
 go_enter Tryz.func27,Tryz.ntmps27
 go_upto_region 2 with fail
 have g0:GB 89 (w.alloc (.cells #[.int .u8 a.lv,.int .u16 a.mp,.int .u8 a.iv,.string (bs a.md)] 89)) w.heap.size (ow8A a):=heap_alloc_new _ _
 have b0:Below w.heap.size w (w.alloc (.cells #[.int .u8 a.lv,.int .u16 a.mp,.int .u8 a.iv,.string (bs a.md)] 89)):=bA _
 obtain⟨w0,hw0⟩:∃ k,w.alloc (.cells #[.int .u8 a.lv,.int .u16 a.mp,.int .u8 a.iv,.string (bs a.md)] 89)=k:=⟨_,rfl⟩
 rw[hw0] at g0 b0 ⊢
 have G0:=hd0 g0
 have B0:=hd0 b0
 have c1:w0.cell? ⟨w.heap.size,1,none⟩=some (.int .u16 a.mp):=g0.c 1 _ rfl
 clear hw0 g0 b0
 have hd:(K=false∨K=true∧decide ((8:Int)<(L:Int))=true)∨(K=true∧decide ((8:Int)<(L:Int))=false):=by
  cases K
  ·exact .inl (.inl rfl)
  ·cases h:decide ((8:Int)<(L:Int))
   ·exact .inr ⟨rfl,rfl⟩
   ·exact .inl (.inr ⟨rfl,rfl⟩)
 rcases hd with hd|⟨hK,dL⟩
 ·have HN0:Hid (newV a ks=none):=hd0 (by
   rw[HNV.out,if_pos]
   rcases hd with h|⟨_,h⟩
   ·exact .inl h
   ·exact .inr (by have:=of_decide_eq_true h;omega))
  clear HNV HK
  rcases hd with rfl|⟨rfl,dL⟩
  all_goals
   go_wp2_with (first
    |(go_at_call 71;with_reducible refine(N1.out _ _ G0.out).mono ?_;rintro en w1 ⟨rfl,hb1⟩;have B1:=hd0 (B0.out.trans (hb1.mono B0.out.size));clear hb1)
    |(go_at_call 72;with_reducible refine(M0.out _).mono ?_;rintro en w2 ⟨rfl,hb2⟩;have B2:=hd0 (B1.out.trans (hb2.mono B1.out.size));clear hb2))
   exact bodyPost_ret (v:=.tuple #[.pointer none,.int .i64 2]) (by simp[results,Tryz.results27,go_sem]) rfl (.inl ⟨HN0.out,rfl,B2.out⟩)
 ·subst hK
  have HN0:Hid (newV a ks=newGo a ks []∧L≤8):=hd0 ⟨by rw[HNV.out,if_neg];rintro (h|h);cases h;have:=of_decide_eq_false dL;omega,by have:=of_decide_eq_false dL;omega⟩
  clear HNV HK
  go_upto_region 4 with(first
   |(go_at_call 71;with_reducible refine(N1.out _ _ G0.out).mono ?_;rintro en w1 ⟨rfl,hb1⟩;have B1:=hd0 (B0.out.trans (hb1.mono B0.out.size));have G1:=hd0 (G0.out.later hb1);clear hb1)
   |(go_at_call 72;with_reducible refine(M0.out _).mono ?_;rintro en w2 ⟨rfl,hb2⟩;have B2:=hd0 (B1.out.trans (hb2.mono B1.out.size));have G2:=hd0 (G1.out.later hb2);clear hb2))
  clear c1 B0 B1 G0 G1 M0
  have c0:w2.cell? ⟨w.heap.size,0,none⟩=some (.int .u8 a.lv):=G2.out.c 0 _ rfl
  have c1:w2.cell? ⟨w.heap.size,1,none⟩=some (.int .u16 a.mp):=G2.out.c 1 _ rfl
  have c2:w2.cell? ⟨w.heap.size,2,none⟩=some (.int .u8 a.iv):=G2.out.c 2 _ rfl
  have c3:w2.cell? ⟨w.heap.size,3,none⟩=some (.string (bs a.md)):=G2.out.c 3 _ rfl
  have run0:(Instr.makeMap 162 none).run Tryz.prog w2=.ok (.map (some w2.heap.size)) (w2.alloc (.map #[] 0)):=rfl
  go_upto_region 5 with fail
  have n0:NS w ((w2.alloc (.map #[] 0)).alloc (.cells (mcA a w2.heap.size 0 0) 164)) (w2.heap.size+1) w2.heap.size a []:=by
   have hb:Below w2.heap.size w2 ((w2.alloc (.map #[] 0)).alloc (.cells (mcA a w2.heap.size 0 0) 164)):=(bA _).alloc (by simp) _
   have hq:((w2.alloc (.map #[] 0)).alloc (.cells (mcA a w2.heap.size 0 0) 164)).heap[w2.heap.size+1]?=some (.cells (mcA a w2.heap.size 0 0) 164 (0,0)):=by
    have g:=GB.new 164 (w2.alloc (.map #[] 0)) (mcA a w2.heap.size 0 0)
    rw[World.size_alloc] at g;exact g
   exact⟨⟨hq,(OM.made w2).later (bA _),by omega,by simp,by simp[Rising]⟩,G2.out.later hb,B2.out.trans (hb.mono B2.out.size),by have:=G2.out.lt;omega,G2.out.lt⟩
  unfold mcA at n0
  obtain⟨w3,hw3⟩:∃ k,(w2.alloc (.map #[] 0)).alloc (.cells #[.int .u8 a.lv,.int .u16 a.mp,.int .u8 a.iv,.string (bs a.md),.map (some w2.heap.size),.int .i64 0,.int .i64 0] 164)=k:=⟨_,rfl⟩
  rw[hw3] at n0 ⊢
  obtain⟨q,hq⟩:∃ k,w2.heap.size+1=k:=⟨_,rfl⟩
  obtain⟨m,hm⟩:∃ k,w2.heap.size=k:=⟨_,rfl⟩
  rw[hq,hm] at n0
  rw[hq]
  have N0:=hd0 n0
  clear hw3 n0 run0 c0 c1 c2 c3 hq hm G2 B2
  go_wp2_with fail
  have HS:=hd0 (HR.out.later u1_len N0.out.bel)
  go_loopw [4,5,9,10,11,30] (fun s4 s5 _ _ _ i wr=>s4=.pointer none∧s5=.int .i64 0∧∃ (j:Nat) (V:List Vn),j≤L∧i=.int .i64 j∧Hid (V.length≤j)∧Hid (newGo a ks []=newGo a (ks.drop j) V)∧Hid (NS w wr q m a V))
  (fun _ _ _ _ _ i _=>L-(intOf i).toNat)
  case atStart=>exact⟨rfl,rfl,0,[],Nat.zero_le _,rfl,hd0 (Nat.le_refl _),hd0 (by rw[List.drop_zero]),N0⟩
  case round =>
   obtain⟨rfl,rfl,j,V,hj,rfl,HVJ,HG,NW⟩:=hrel
   have hjb:(j:Int)<1001:=by omega
   by_cases hlt:j<L
   rotate_left
   ·obtain rfl:j=L:=by omega
    have dk:decide ((j:Int)<(j:Int))=false:=decide_eq_false (by omega)
    have HZ:Hid (newV a ks=some V):=hd0 (by rw[HN0.out.1,HG.out,List.drop_of_length_le (by rw[HL.out];exact Nat.le_refl _)];rfl)
    clear hj hlt HN0
    go_wp2
    exact bodyPost_ret (v:=.tuple #[.pointer (some ⟨q,0,none⟩),.int .i64 0]) (by simp[results,Tryz.results27,go_sem]) rfl (.inr ⟨V,q,m,HZ.out,rfl,NW.out⟩)
   ·have dk:decide ((j:Int)<(L:Int))=true:=decide_eq_true (by omega)
    have HV:Hid (V.length+1≤8):=hd0 (by have:=HVJ.out;have:=HN0.out.2;omega)
    obtain⟨b,off,rfl,hcc⟩:=HSH.out.resolve_left (by intro h;have:=HL.out;rw[h] at this;simp at this;omega)
    have hjk:j<ks.length:=by rw[HL.out];exact hlt
    obtain⟨x,hx⟩:∃ x,ks[j]=x:=⟨_,rfl⟩
    have hxc:w.cell? ⟨b,off+j,none⟩=some (.int .u16 x):=by
     have:=hcc j hjk 0 (by decide)
     simp only[Nat.mul_one,Nat.add_zero] at this
     rw[this,← hx];rfl
    have ck:wr.cell? ⟨b,off+j,none⟩=some (.int .u16 x):=(NW.out.bel.cell (World.block_lt_of_cell? w _ hxc)).trans hxc
    have hxb:=HKB.out x (by rw[←hx];exact List.getElem_mem _)
    have HXB:=hd0 hxb
    have HG2:Hid (newGo a ks []=if ((vFind V x).isSome||(x==a.mp||!mayC a.lv a.iv x a.md))=true then none else newGo a (ks.drop (j+1)) (vPut V (x,lastC a.iv,0))):=hd0 (by
     rw[HG.out,List.drop_eq_getElem_cons hjk,hx];rfl)
    obtain⟨F1,hF1⟩:∃ F,(vFind V x).isSome=F:=⟨_,rfl⟩
    obtain⟨y1,hy1⟩:∃ y,(vGet V x).1=y:=⟨_,rfl⟩
    obtain⟨y2,hy2⟩:∃ y,(vGet V x).2=y:=⟨_,rfl⟩
    have lk:=NW.out.mc.om.look x hxb
    rw[hF1,hy1,hy2] at lk
    have HF1:=hd0 hF1
    rw[hF1] at HG2
    obtain⟨E1,hE1⟩:∃ E,(x==a.mp)=E:=⟨_,rfl⟩
    obtain⟨K,hK⟩:∃ K,mayC a.lv a.iv x a.md=K:=⟨_,rfl⟩
    have MX:=hd0 (fun w=>MY.out x w hxb)
    rw[hK] at MX HG2
    rw[hE1] at HG2
    have HE1:=hd0 hE1
    have c4:=NW.out.mc.c4
    clear hK hF1 hy1 hy2 hcc hxb hx hjk hxc hE1 HG hj
    go_upto_region 9 with fail
    have b4:Below wr.heap.size wr (wr.alloc (.cells #[.int .i64 y1,.bool (decide (y2=1))] 166)):=bA _
    have N4:=hd0 (NW.out.later b4)
    obtain⟨w4,hw4⟩:∃ k,wr.alloc (.cells #[.int .i64 y1,.bool (decide (y2=1))] 166)=k:=⟨_,rfl⟩
    rw[hw4] at N4 ⊢
    have d1:w4.cell? ⟨w.heap.size,1,none⟩=some (.int .u16 a.mp):=N4.out.bx.c 1 _ rfl
    clear b4 hw4 ck lk c4 NW
    by_cases hbad:(F1||(E1||!K))=true
    ·have HZ:Hid (newV a ks=none):=hd0 (by rw[HN0.out.1,HG2.out,if_pos hbad])
     have hc:F1=true∨(F1=false∧E1=true)∨(F1=false∧E1=false∧K=false):=by
      cases F1 <;> cases E1 <;> cases K <;> simp_all
     clear hbad HG2 HN0
     rcases hc with rfl|⟨rfl,rfl⟩|⟨rfl,rfl,rfl⟩
     ·go_wp2_with fail
      exact bodyPost_ret (v:=.tuple #[.pointer none,.int .i64 2]) (by simp[results,Tryz.results27,go_sem]) rfl (.inl ⟨HZ.out,rfl,N4.out.bel⟩)
     ·have e1:=HE1.out
      go_wp2_with fail
      exact bodyPost_ret (v:=.tuple #[.pointer none,.int .i64 2]) (by simp[results,Tryz.results27,go_sem]) rfl (.inl ⟨HZ.out,rfl,N4.out.bel⟩)
     ·have e1:=HE1.out
      go_wp2_with (first
       |(go_at_call 71;with_reducible refine(N1.out _ _ N4.out.bx).mono ?_;rintro en w5 ⟨rfl,hb5⟩;have N5:=hd0 (N4.out.later hb5);clear hb5)
       |(go_at_call 72;with_reducible refine(MX.out _).mono ?_;rintro en w6 ⟨rfl,hb6⟩;have N6:=hd0 (N5.out.later hb6);clear hb6))
      exact bodyPost_ret (v:=.tuple #[.pointer none,.int .i64 2]) (by simp[results,Tryz.results27,go_sem]) rfl (.inl ⟨HZ.out,rfl,N6.out.bel⟩)
    ·have HZ:Hid (newGo a ks []=newGo a (ks.drop (j+1)) (vPut V (x,lastC a.iv,0))):=hd0 (by rw[HG2.out,if_neg hbad])
     have hF:F1=false:=by cases F1 <;> simp_all
     have hE:E1=false:=by cases E1 <;> simp_all
     have hK:K=true:=by cases K <;> simp_all
     subst hF hE hK
     have e1:=HE1.out
     clear hbad HG2
     go_upto_region 11 with(first
       |(go_at_call 71;with_reducible refine(N1.out _ _ N4.out.bx).mono ?_;rintro en w5 ⟨rfl,hb5⟩;have N5:=hd0 (N4.out.later hb5);clear hb5)
       |(go_at_call 72;with_reducible refine(MX.out _).mono ?_;rintro en w6 ⟨rfl,hb6⟩;have N6:=hd0 (N5.out.later hb6);clear hb6))
     clear d1 N4 N5
     have c4:=N6.out.mc.c4
     have c2:w6.cell? ⟨w.heap.size,2,none⟩=some (.int .u8 a.iv):=N6.out.bx.c 2 _ rfl
     obtain⟨N,hN⟩:∃ N,lastC a.iv=N:=⟨_,rfl⟩
     have LA:=hd0 (fun w=>lasts_any a.iv w)
     rw[hN] at HZ LA
     obtain⟨w7,hrun,om7,hg7⟩:=N6.out.mc.drew.om.update (by have:=N6.out.mc.vl;omega) x N false HXB.out
     have NF:Hid (NS w w7 q m a (vPut V (x,N,0))):=hd0 (by
      have M:=N6.out.mc.drew
      have hne:=M.ne
      have hlq:=N6.out.lq
      have hlm:=N6.out.lm
      have hbx:=N6.out.bx.lt
      have hlen:(vPut V (x,N,0)).length≤8:=by have:=HV.out;have:=vPut_len V (x,N,0);omega
      refine⟨⟨(hg7.block q M.lt (by intro e;injection e with e;exact M.ne e)).trans M.b,om7,M.ne,hlen,M.ri.put _⟩,?_,?_,hlq,hlm⟩
      ·exact(hg7.block _ hbx (by intro e;injection e with e;omega)).trans N6.out.bx
      ·exact N6.out.bel.trans (Only.below (p:=m) (Only.undrew hg7) (Nat.le_of_lt hlm) N6.out.bel.size))
     clear om7 hg7 hN N6 HE1 e1
     go_region_with (go_at_call 25;with_reducible refine(LA.out _).mono ?_;rintro e w' ⟨rfl,rfl⟩)
     all_goals go_wp2
     all_goals exact⟨⟨rfl,rfl,j+1,_,by omega,by go_num,hd0 (by have:=HVJ.out;have:=vPut_len V (x,N,0);omega),HZ,NF⟩,by simp[intOf];omega⟩
def mdM:List UInt8:=(mPut [] [97]).1
theorem mdM_put:mPut [] [97]=(mdM,0):=rfl
theorem mdM_len:mdM.length=48:=rfl
theorem mdM_take:takeR mdM=([],[97],0):=takeR_of mdM_put
theorem mayM {lv iv me:Int}(h1:lv<8)(h2:iv=4∨iv=5)(h3:1≤me∧me≤8191):mayC lv iv me mdM=true:=by
 unfold mayC
 rw[mdM_take,decide_eq_true h1,decide_eq_true ((tick_pos iv).2 h2),decide_eq_true h3.1,decide_eq_true h3.2];rfl
def owK:Ow8:=⟨3,1,4,mdM⟩
theorem owK_ok:owK.Ok:=⟨by decide,by decide,by decide,by show mdM.length≤1000;rw[mdM_len];decide⟩
theorem newV_K:newV owK [2]=some [(2,4,0)]:=by
 unfold newV
 rw[show mayC owK.lv owK.iv owK.mp owK.md=true from mayM (by decide) (.inl rfl) (by decide)]
 rw[if_neg (by decide)]
 unfold newGo
 rw[show mayC owK.lv owK.iv 2 owK.md=true from mayM (by decide) (.inl rfl) (by decide)]
 rfl
theorem bnd_one {k a b bd cr:Int}(h1:0≤a∧a≤1000)(h2:0≤k∧k<65536)(h3:0≤bd∧bd≤1000)(h4:0≤cr∧cr≤1000):Bnd [(k,a,b)] bd cr :=
 ⟨by intro x hx;rw[List.mem_singleton.1 hx];exact h1,by intro x hx;rw[List.mem_singleton.1 hx];exact h2,h3,h4⟩
structure Ow20 where
 a:Ow8
 mc:Mc
 lw:Int
structure Ow20.Ok (o:Ow20):Prop where
 a:o.a.Ok
 mc:o.mc.Ok
 lw:0≤o.lw∧o.lw<256
structure Ms where
 V:List Vn
 bd:Int
 cr:Int
 al:Al
 lf:Int
 sq:Int
 bad:Int
 lp:Int
 dat:List UInt8
 rep:Int
 ali:Int
 tr:Int
 way:List Rp
structure Mp where
 p:Nat
 q:Nat
 m:Nat
 r:Nat
def rqC (r:Rp):List Value:=(#[.int .u8 r.lv,.int .u32 r.nm,.int .u8 r.tl,.bool r.st,.bool r.en,.int .u8 r.mi.a,.int .u8 r.mi.b,.int .u8 r.mi.c,.int .u8 r.mi.d,.int .u8 r.mi.e,.int .u8 r.mi.f,.int .u8 r.mo.a,.int .u8 r.mo.b,.int .u8 r.mo.c,.int .u8 r.mo.d,.int .u8 r.mo.e,.int .u8 r.mo.f]:Array Value).toList
theorem rqC_len (r:Rp):(rqC r).length=17:=rfl
def own20A (o:Ow20)(ov:Value):Array Value:=#[.int .u8 o.a.lv,.int .u8 o.a.iv,.string (bs o.a.md),.int .u16 o.a.mp,ov,.int .u8 o.mc.a,.int .u8 o.mc.b,.int .u8 o.mc.c,.int .u8 o.mc.d,.int .u8 o.mc.e,.int .u8 o.mc.f,.int .u8 o.lw]
def mpA (o:Ow20)(ov:Value)(x:Mp)(s:Ms)(wv:Value):Array Value:=#[.int .u8 o.a.lv,.int .u8 o.a.iv,.string (bs o.a.md),.int .u16 o.a.mp,ov,.int .u8 o.mc.a,.int .u8 o.mc.b,.int .u8 o.mc.c,.int .u8 o.mc.d,.int .u8 o.mc.e,.int .u8 o.mc.f,.int .u8 o.lw,.pointer (some ⟨x.q,0,none⟩),.pointer (some ⟨x.r,0,none⟩),.int .i64 s.lf,.int .u32 s.sq,.int .u64 s.bad,.int .u32 s.lp,.string (bs s.dat),.int .i64 s.rep,.int .i64 s.ali,.int .u32 s.tr,wv]
def Mp.D (x:Mp)(wv:Value)(k:Nat):Prop:=k=x.p∨k=x.q∨k=x.m∨k=x.r∨wv.ownBlock=some k
structure MM (W:World)(o:Ow20)(ov:Value)(x:Mp)(s:Ms)(wv:Value):Prop where
 gb:GB 95 W x.p (mpA o ov x s wv)
 mc:MC W x.q o.a x.m s.V s.bd s.cr
 al:AL W x.r o.lw s.al
 wy:Ow 17 rqC 81 W 0 wv s.way
 pq:x.p≠x.q
 pm:x.p≠x.m
 pr:x.p≠x.r
 qr:x.q≠x.r
 mr:x.m≠x.r
 wp:∀ g,wv.ownBlock=some g→g≠x.p∧g≠x.q∧g≠x.m∧g≠x.r
theorem Ow.fr {α:Type}{k:Nat}{f:α→List Value}{E:TypeId}{D:Nat→Prop}{w w':World}{B:Nat}{v:Value}{l:List α}(h:Ow k f E w B v l)(hr:Fr D w w')(hd:∀ g,v.ownBlock=some g→¬ D g):Ow k f E w' B v l:=by
 obtain⟨h1,h2⟩:=h
 refine⟨h1,?_⟩
 rcases h2 with h2|⟨g,cap,cur,rfl,hg,hh,r⟩
 ·exact .inl h2
 ·refine .inr ⟨g,cap,cur,rfl,hg,?_,r⟩
  rw[hr.block g (Array.getElem?_eq_some_iff.1 hh).1 (hd g (by simp[Value.ownBlock]))];exact hh
theorem Ow.lt {α:Type}{k:Nat}{f:α→List Value}{E:TypeId}{w:World}{B:Nat}{v:Value}{l:List α}(h:Ow k f E w B v l){g:Nat}(hg:v.ownBlock=some g):B≤g∧g<w.heap.size:=World.ownsRow.lt h g hg
section
variable {W W':World} {o:Ow20} {ov:Value} {x:Mp} {s:Ms} {wv:Value}
theorem MM.lp (h:MM W o ov x s wv):x.p<W.heap.size:=h.gb.lt
theorem MM.later (h:MM W o ov x s wv)(hb:Below W.heap.size W W'):MM W' o ov x s wv :=
 ⟨h.gb.later hb,h.mc.later hb,GB.later h.al hb,Ow.later h.wy hb,h.pq,h.pm,h.pr,h.qr,h.mr,h.wp⟩
theorem MM.fr {D:Nat→Prop}(h:MM W o ov x s wv)(hf:Fr D W W')(hd:∀ k,x.D wv k→¬ D k):MM W' o ov x s wv :=
 ⟨h.gb.fr' hf (hd _ (.inl rfl)),h.mc.fr' hf (hd _ (.inr (.inl rfl))) (hd _ (.inr (.inr (.inl rfl)))),GB.fr' h.al hf (hd _ (.inr (.inr (.inr (.inl rfl))))),
  Ow.fr h.wy hf (fun g hg=>hd _ (.inr (.inr (.inr (.inr hg))))),h.pq,h.pm,h.pr,h.qr,h.mr,h.wp⟩
theorem MM.rem (h:MM W o ov x s wv){V':List Vn}{bd' cr':Int}(hm:MC W' x.q o.a x.m V' bd' cr')(ht:Two x.q x.m W W'):MM W' o ov x { s with V:=V',bd:=bd',cr:=cr' } wv:=by
 have hf:Fr (fun k=>k=x.q∨k=x.m) W W':=.of_two ht (.inl rfl) (.inr rfl)
 exact⟨h.gb.fr' hf (by have:=h.pq;have:=h.pm;omega),hm,GB.fr' h.al hf (by have:=h.qr;have:=h.mr;omega),Ow.fr h.wy hf (fun g hg=>by have:=h.wp g hg;omega),h.pq,h.pm,h.pr,h.qr,h.mr,h.wp⟩
theorem MM.alr (h:MM W o ov x s wv){al':Al}(ha:AL W' x.r o.lw al')(ht:Only x.r W W'):MM W' o ov x { s with al:=al' } wv:=by
 have hf:Fr (fun k=>k=x.r) W W':=.of_only ht rfl
 exact⟨h.gb.fr' hf h.pr,h.mc.fr' hf h.qr h.mr,ha,Ow.fr h.wy hf (fun g hg=>by have:=h.wp g hg;omega),h.pq,h.pm,h.pr,h.qr,h.mr,h.wp⟩
theorem MM.st (h:MM W o ov x s wv){s':Ms}(j:Nat)(v:Value)(e:(mpA o ov x s wv).setIfInBounds j v=mpA o ov x s' wv)(e1:s'.V=s.V)(e2:s'.bd=s.bd)(e3:s'.cr=s.cr)(e4:s'.al=s.al)(e5:s'.way=s.way):MM (W.setCell ⟨x.p,j,none⟩ v) o ov x s' wv:=by
 have hf:Fr (fun k=>k=x.p) W (W.setCell ⟨x.p,j,none⟩ v):=Fr.set (D:=fun k=>k=x.p) rfl j v
 refine⟨by rw[←e];exact h.gb.set j v,?_,?_,?_,h.pq,h.pm,h.pr,h.qr,h.mr,h.wp⟩
 ·rw[e1,e2,e3];exact h.mc.fr' hf (fun e=>h.pq e.symm) (fun e=>h.pm e.symm)
 ·rw[e4];exact GB.fr' h.al hf (fun e=>h.pr e.symm)
 ·rw[e5];exact Ow.fr h.wy hf (fun g hg=>(h.wp g hg).1)
theorem MM.sLf (h:MM W o ov x s wv)(y:Int):MM (W.setCell ⟨x.p,14,none⟩ (.int .i64 y)) o ov x { s with lf:=y } wv:=h.st 14 _ rfl rfl rfl rfl rfl rfl
theorem MM.sSq (h:MM W o ov x s wv)(y:Int):MM (W.setCell ⟨x.p,15,none⟩ (.int .u32 y)) o ov x { s with sq:=y } wv:=h.st 15 _ rfl rfl rfl rfl rfl rfl
theorem MM.sBad (h:MM W o ov x s wv)(y:Int):MM (W.setCell ⟨x.p,16,none⟩ (.int .u64 y)) o ov x { s with bad:=y } wv:=h.st 16 _ rfl rfl rfl rfl rfl rfl
theorem MM.sLp (h:MM W o ov x s wv)(y:Int):MM (W.setCell ⟨x.p,17,none⟩ (.int .u32 y)) o ov x { s with lp:=y } wv:=h.st 17 _ rfl rfl rfl rfl rfl rfl
theorem MM.sDat (h:MM W o ov x s wv)(y:List UInt8):MM (W.setCell ⟨x.p,18,none⟩ (.string (bs y))) o ov x { s with dat:=y } wv:=h.st 18 _ rfl rfl rfl rfl rfl rfl
theorem MM.sRep (h:MM W o ov x s wv)(y:Int):MM (W.setCell ⟨x.p,19,none⟩ (.int .i64 y)) o ov x { s with rep:=y } wv:=h.st 19 _ rfl rfl rfl rfl rfl rfl
theorem MM.sAli (h:MM W o ov x s wv)(y:Int):MM (W.setCell ⟨x.p,20,none⟩ (.int .i64 y)) o ov x { s with ali:=y } wv:=h.st 20 _ rfl rfl rfl rfl rfl rfl
theorem MM.sTr (h:MM W o ov x s wv)(y:Int):MM (W.setCell ⟨x.p,21,none⟩ (.int .u32 y)) o ov x { s with tr:=y } wv:=h.st 21 _ rfl rfl rfl rfl rfl rfl
theorem MM.fz (h:MM W o ov x s wv)(j:Nat):W.frozen? ⟨x.p,j,none⟩=false:=h.gb.fr j
theorem MM.clv (h:MM W o ov x s wv):W.cell? ⟨x.p,0,none⟩=some (.int .u8 o.a.lv):=h.gb.c 0 _ rfl
theorem MM.civ (h:MM W o ov x s wv):W.cell? ⟨x.p,1,none⟩=some (.int .u8 o.a.iv):=h.gb.c 1 _ rfl
theorem MM.cmd (h:MM W o ov x s wv):W.cell? ⟨x.p,2,none⟩=some (.string (bs o.a.md)):=h.gb.c 2 _ rfl
theorem MM.cmp (h:MM W o ov x s wv):W.cell? ⟨x.p,3,none⟩=some (.int .u16 o.a.mp):=h.gb.c 3 _ rfl
theorem MM.cm0 (h:MM W o ov x s wv):W.cell? ⟨x.p,5,none⟩=some (.int .u8 o.mc.a):=h.gb.c 5 _ rfl
theorem MM.cm1 (h:MM W o ov x s wv):W.cell? ⟨x.p,6,none⟩=some (.int .u8 o.mc.b):=h.gb.c 6 _ rfl
theorem MM.cm2 (h:MM W o ov x s wv):W.cell? ⟨x.p,7,none⟩=some (.int .u8 o.mc.c):=h.gb.c 7 _ rfl
theorem MM.cm3 (h:MM W o ov x s wv):W.cell? ⟨x.p,8,none⟩=some (.int .u8 o.mc.d):=h.gb.c 8 _ rfl
theorem MM.cm4 (h:MM W o ov x s wv):W.cell? ⟨x.p,9,none⟩=some (.int .u8 o.mc.e):=h.gb.c 9 _ rfl
theorem MM.cm5 (h:MM W o ov x s wv):W.cell? ⟨x.p,10,none⟩=some (.int .u8 o.mc.f):=h.gb.c 10 _ rfl
theorem MM.clf (h:MM W o ov x s wv):W.cell? ⟨x.p,14,none⟩=some (.int .i64 s.lf):=h.gb.c 14 _ rfl
theorem MM.csq (h:MM W o ov x s wv):W.cell? ⟨x.p,15,none⟩=some (.int .u32 s.sq):=h.gb.c 15 _ rfl
theorem MM.cbad (h:MM W o ov x s wv):W.cell? ⟨x.p,16,none⟩=some (.int .u64 s.bad):=h.gb.c 16 _ rfl
theorem MM.clpx (h:MM W o ov x s wv):W.cell? ⟨x.p,17,none⟩=some (.int .u32 s.lp):=h.gb.c 17 _ rfl
theorem MM.cdat (h:MM W o ov x s wv):W.cell? ⟨x.p,18,none⟩=some (.string (bs s.dat)):=h.gb.c 18 _ rfl
theorem MM.crep (h:MM W o ov x s wv):W.cell? ⟨x.p,19,none⟩=some (.int .i64 s.rep):=h.gb.c 19 _ rfl
theorem MM.cali (h:MM W o ov x s wv):W.cell? ⟨x.p,20,none⟩=some (.int .i64 s.ali):=h.gb.c 20 _ rfl
theorem MM.ctr (h:MM W o ov x s wv):W.cell? ⟨x.p,21,none⟩=some (.int .u32 s.tr):=h.gb.c 21 _ rfl
theorem MM.cway (h:MM W o ov x s wv):W.cell? ⟨x.p,22,none⟩=some (wv):=h.gb.c 22 _ rfl
theorem MM.cq (h:MM W o ov x s wv):W.cell? ⟨x.p,12,none⟩=some (.pointer (some ⟨x.q,0,none⟩)):=h.gb.c 12 _ rfl
theorem MM.cr' (h:MM W o ov x s wv):W.cell? ⟨x.p,13,none⟩=some (.pointer (some ⟨x.r,0,none⟩)):=h.gb.c 13 _ rfl
end
def ms0 (V:List Vn):Ms:=⟨V,0,0,⟨0,0,0⟩,1,0,0,0,[],0,0,0,[]⟩
theorem mnew_any (o:Ow20)(ho:o.Ok)(sv:Value)(ks:List Int)(hkb:∀ x∈ks,0≤x∧x<65536)(w:World)(hR:Rw 1 u1 w sv ks)(hkl:ks.length≤1000):Calls Tryz.prog 8 #[.agg #[.int .u8 o.a.lv,.int .u8 o.a.iv,.string (bs o.a.md),.int .u16 o.a.mp,sv,.int .u8 o.mc.a,.int .u8 o.mc.b,.int .u8 o.mc.c,.int .u8 o.mc.d,.int .u8 o.mc.e,.int .u8 o.mc.f,.int .u8 o.lw]] w fun en w' =>
  ((newV o.a ks=none∨¬(1≤o.lw∧o.lw≤4)∨hostV o.mc=false)∧en=.returned (.tuple #[.pointer none,.int .i64 2])∧Below w.heap.size w w') ∨
  ∃ V x,newV o.a ks=some V∧(1≤o.lw∧o.lw≤4)∧hostV o.mc=true∧en=.returned (.tuple #[.pointer (some ⟨x.p,0,none⟩),.int .i64 0])∧MM w' o sv x (ms0 V) (.slice none 0 0)∧(w.heap.size≤x.p∧w.heap.size≤x.q∧w.heap.size≤x.m∧w.heap.size≤x.r)∧Below w.heap.size w w':=by
 have HO:=hd0 ho
 have RN:Hid (∀ w',Below w.heap.size w w'→Calls Tryz.prog 27 #[.agg #[.int .u8 o.a.lv,.int .u16 o.a.mp,.int .u8 o.a.iv,.string (bs o.a.md)],sv] w' fun en w'' =>
  (newV o.a ks=none∧en=.returned (.tuple #[.pointer none,.int .i64 2])∧Below w'.heap.size w' w'') ∨
  ∃ V q m,newV o.a ks=some V∧en=.returned (.tuple #[.pointer (some ⟨q,0,none⟩),.int .i64 0])∧NS w' w'' q m o.a V):=hd0 fun w' hb=>new18_any o.a HO.out.a sv ks hkb w' (hR.later u1_len hb) hkl
 have HH:Hid (∀ w,Calls Tryz.prog 29 #[.agg #[.int .u8 o.mc.a,.int .u8 o.mc.b,.int .u8 o.mc.c,.int .u8 o.mc.d,.int .u8 o.mc.e,.int .u8 o.mc.f]] w fun en w'=>en=.returned (.bool (hostV o.mc))∧Below w.heap.size w w'):=hd0 fun w=>host_any o.mc HO.out.mc w
 clear hR hkb ho hkl
 go_enter Tryz.func8,Tryz.ntmps8
 go_upto_region 1 with fail
 have g0:GB 35 (w.alloc (.cells #[.int .u8 o.a.lv,.int .u8 o.a.iv,.string (bs o.a.md),.int .u16 o.a.mp,sv,.int .u8 o.mc.a,.int .u8 o.mc.b,.int .u8 o.mc.c,.int .u8 o.mc.d,.int .u8 o.mc.e,.int .u8 o.mc.f,.int .u8 o.lw] 35)) w.heap.size (own20A o sv):=heap_alloc_new _ _
 have b0:Below w.heap.size w (w.alloc (.cells #[.int .u8 o.a.lv,.int .u8 o.a.iv,.string (bs o.a.md),.int .u16 o.a.mp,sv,.int .u8 o.mc.a,.int .u8 o.mc.b,.int .u8 o.mc.c,.int .u8 o.mc.d,.int .u8 o.mc.e,.int .u8 o.mc.f,.int .u8 o.lw] 35)):=bA _
 obtain⟨w0,hw0⟩:∃ k,w.alloc (.cells #[.int .u8 o.a.lv,.int .u8 o.a.iv,.string (bs o.a.md),.int .u16 o.a.mp,sv,.int .u8 o.mc.a,.int .u8 o.mc.b,.int .u8 o.mc.c,.int .u8 o.mc.d,.int .u8 o.mc.e,.int .u8 o.mc.f,.int .u8 o.lw] 35)=k:=⟨_,rfl⟩
 rw[hw0] at g0 b0 ⊢
 have S0:=hd0 (And.intro g0 b0)
 clear hw0 g0 b0
 have k0:w0.cell? ⟨w.heap.size,0,none⟩=some (.int .u8 o.a.lv):=S0.out.1.c 0 _ rfl
 have k1:w0.cell? ⟨w.heap.size,1,none⟩=some (.int .u8 o.a.iv):=S0.out.1.c 1 _ rfl
 have k2:w0.cell? ⟨w.heap.size,2,none⟩=some (.string (bs o.a.md)):=S0.out.1.c 2 _ rfl
 have k3:w0.cell? ⟨w.heap.size,3,none⟩=some (.int .u16 o.a.mp):=S0.out.1.c 3 _ rfl
 have k4:w0.cell? ⟨w.heap.size,4,none⟩=some sv:=S0.out.1.c 4 _ rfl
 go_wp2_with fail
 with_reducible refine(RN.out _ S0.out.2).mono ?_
 rintro en w1 hnew
 by_cases hl:1≤o.lw∧o.lw≤4
 ·have HL:=hd0 hl
  have AN:Hid (∀ w,Calls Tryz.prog 28 #[.int .u8 o.lw] w fun en w'=>en=.returned (.tuple #[.pointer (some ⟨w.heap.size,0,none⟩),.int .i64 0])∧AL w' w.heap.size o.lw ⟨0,0,0⟩∧Below w.heap.size w w'):=hd0 fun w=>(anew_any o.lw w).mono fun en w' h=>by
   rcases h with⟨h,_⟩|⟨_,h⟩
   ·exact absurd HL.out h
   ·exact h
  clear hl
  rcases hnew with⟨hv,rfl,hb⟩|⟨V,q,m,hv,rfl,ns⟩
  ·have S1:=hd0 (And.intro (S0.out.1.later hb) (S0.out.2.trans (hb.mono S0.out.2.size)))
   have HV:=hd0 hv
   clear hv hb S0 RN k0 k1 k2 k3 k4
   have k11:w1.cell? ⟨w.heap.size,11,none⟩=some (.int .u8 o.lw):=S1.out.1.c 11 _ rfl
   go_wp2_with fail
   with_reducible refine(AN.out _).mono ?_
   rintro en w2 ⟨rfl,_,hb2⟩
   have S2:=hd0 (S1.out.2.trans (hb2.mono S1.out.2.size))
   clear hb2 S1
   go_wp2
   go_ret2
   exact .inl ⟨.inl HV.out,rfl,S2.out⟩
  ·have hbn:=ns.bel
   have hq:w.heap.size<q:=by have:=ns.lq;have:=S0.out.2.size;omega
   have hm:w.heap.size<m:=by have:=ns.lm;have:=S0.out.2.size;omega
   have S1:=hd0 (And.intro (S0.out.1.later hbn) (And.intro (S0.out.2.trans (hbn.mono S0.out.2.size)) ns.mc))
   have HV:=hd0 (And.intro hv (And.intro hq hm))
   clear hv hbn S0 RN k0 k1 k2 k3 k4 ns hq hm
   have k11:w1.cell? ⟨w.heap.size,11,none⟩=some (.int .u8 o.lw):=S1.out.1.c 11 _ rfl
   go_wp2_with fail
   with_reducible refine(AN.out _).mono ?_
   rintro en w2 ⟨rfl,hal,hb2⟩
   have S2:=hd0 (And.intro (S1.out.1.later hb2) (And.intro (S1.out.2.1.trans (hb2.mono S1.out.2.1.size)) (And.intro (S1.out.2.2.later hb2) (And.intro hal (show w1.heap.size<w2.heap.size from GB.lt hal)))))
   have HQ:=hd0 (And.intro S1.out.2.2.lt (And.intro S1.out.2.2.om.lt S1.out.2.1.size))
   obtain⟨r,hr⟩:∃ r,w1.heap.size=r:=⟨_,rfl⟩
   rw[hr] at S2 HQ ⊢
   clear hal hb2 S1 hr k11
   have m0:w2.cell? ⟨w.heap.size,5,none⟩=some (.int .u8 o.mc.a):=S2.out.1.c 5 _ rfl
   have m1:w2.cell? ⟨w.heap.size,6,none⟩=some (.int .u8 o.mc.b):=S2.out.1.c 6 _ rfl
   have m2:w2.cell? ⟨w.heap.size,7,none⟩=some (.int .u8 o.mc.c):=S2.out.1.c 7 _ rfl
   have m3:w2.cell? ⟨w.heap.size,8,none⟩=some (.int .u8 o.mc.d):=S2.out.1.c 8 _ rfl
   have m4:w2.cell? ⟨w.heap.size,9,none⟩=some (.int .u8 o.mc.e):=S2.out.1.c 9 _ rfl
   have m5:w2.cell? ⟨w.heap.size,10,none⟩=some (.int .u8 o.mc.f):=S2.out.1.c 10 _ rfl
   go_wp2_with fail
   with_reducible refine(HH.out _).mono ?_
   rintro en w3 ⟨rfl,hb3⟩
   have S3:=hd0 (And.intro (S2.out.1.later hb3) (And.intro (S2.out.2.1.trans (hb3.mono S2.out.2.1.size)) (And.intro (S2.out.2.2.1.later hb3) (And.intro (GB.later S2.out.2.2.2.1 hb3) (Nat.lt_of_lt_of_le S2.out.2.2.2.2 hb3.size)))))
   clear hb3 S2 m0 m1 m2 m3 m4 m5
   obtain⟨G,hG⟩:∃ G,hostV o.mc=G:=⟨_,rfl⟩
   rw[hG]
   have HG:=hd0 hG
   clear hG
   cases G with
   | false =>
    go_wp2
    go_ret2
    exact .inl ⟨.inr (.inr HG.out),rfl,S3.out.2.1⟩
   | true =>
    have c0:w3.cell? ⟨w.heap.size,0,none⟩=some (.int .u8 o.a.lv):=S3.out.1.c 0 _ rfl
    have c1:w3.cell? ⟨w.heap.size,1,none⟩=some (.int .u8 o.a.iv):=S3.out.1.c 1 _ rfl
    have c2:w3.cell? ⟨w.heap.size,2,none⟩=some (.string (bs o.a.md)):=S3.out.1.c 2 _ rfl
    have c3:w3.cell? ⟨w.heap.size,3,none⟩=some (.int .u16 o.a.mp):=S3.out.1.c 3 _ rfl
    have c4:w3.cell? ⟨w.heap.size,4,none⟩=some sv:=S3.out.1.c 4 _ rfl
    have c5:w3.cell? ⟨w.heap.size,5,none⟩=some (.int .u8 o.mc.a):=S3.out.1.c 5 _ rfl
    have c6:w3.cell? ⟨w.heap.size,6,none⟩=some (.int .u8 o.mc.b):=S3.out.1.c 6 _ rfl
    have c7:w3.cell? ⟨w.heap.size,7,none⟩=some (.int .u8 o.mc.c):=S3.out.1.c 7 _ rfl
    have c8:w3.cell? ⟨w.heap.size,8,none⟩=some (.int .u8 o.mc.d):=S3.out.1.c 8 _ rfl
    have c9:w3.cell? ⟨w.heap.size,9,none⟩=some (.int .u8 o.mc.e):=S3.out.1.c 9 _ rfl
    have c10:w3.cell? ⟨w.heap.size,10,none⟩=some (.int .u8 o.mc.f):=S3.out.1.c 10 _ rfl
    have c11:w3.cell? ⟨w.heap.size,11,none⟩=some (.int .u8 o.lw):=S3.out.1.c 11 _ rfl
    go_wp2
    go_ret2
    refine .inr ⟨V,⟨w3.heap.size,q,m,r⟩,HV.out.1,HL.out,HG.out,rfl,?_,⟨?_,?_,?_,?_⟩,S3.out.2.1.alloc S3.out.2.1.size _⟩
    ·have hb:=(Below.refl w3.heap.size w3).alloc (Nat.le_refl _) (.cells (mpA o sv ⟨w3.heap.size,q,m,r⟩ (ms0 V) (.slice none 0 0)) 95)
     have h1:=S3.out.2.2.1.lt
     have h2:=S3.out.2.2.1.om.lt
     have h3:=S3.out.2.2.2.2
     have h4:=HQ.out
     exact⟨heap_alloc_new _ _,S3.out.2.2.1.later hb,GB.later S3.out.2.2.2.1 hb,Ow.none _ _,by simp only;omega,by simp only;omega,by simp only;omega,by simp only;omega,by simp only;omega,fun g hg=>by cases hg⟩
    ·exact S3.out.2.1.size
    ·have:=HV.out.2.1;simp only;omega
    ·have:=HV.out.2.2;simp only;omega
    ·have:=HQ.out.2.2;simp only;omega
 ·have HL:=hd0 hl
  have AN:Hid (∀ w,Calls Tryz.prog 28 #[.int .u8 o.lw] w fun en w'=>en=.returned (.tuple #[.pointer none,.int .i64 2])∧w'=w):=hd0 fun w=>(anew_any o.lw w).mono fun en w' h=>by
   rcases h with⟨_,h⟩|⟨h,_⟩
   ·exact h
   ·exact absurd h HL.out
  clear hl
  have hq:∃ (e:Int) (p:Option Addr),en=.returned (.tuple #[.pointer p,.int .i64 e])∧(e=0∨e=2)∧Below w0.heap.size w0 w1:=by
   rcases hnew with⟨_,rfl,hb⟩|⟨V,q,m,_,rfl,ns⟩
   ·exact⟨_,_,rfl,.inr rfl,hb⟩
   ·exact⟨_,_,rfl,.inl rfl,ns.bel⟩
  obtain⟨e,pp,rfl,he,hb⟩:=hq
  have S1:=hd0 (And.intro (S0.out.1.later hb) (S0.out.2.trans (hb.mono S0.out.2.size)))
  clear hnew hb S0 RN k0 k1 k2 k3 k4
  have k11:w1.cell? ⟨w.heap.size,11,none⟩=some (.int .u8 o.lw):=S1.out.1.c 11 _ rfl
  rcases he with rfl|rfl
  ·go_wp2_with (go_at_call 28;with_reducible refine(AN.out _).mono ?_;rintro e w' ⟨rfl,rfl⟩)
   go_ret2
   exact .inl ⟨.inr (.inl HL.out),rfl,S1.out.2⟩
  ·go_wp2_with (go_at_call 28;with_reducible refine(AN.out _).mono ?_;rintro e w' ⟨rfl,rfl⟩)
   go_ret2
   exact .inl ⟨.inr (.inl HL.out),rfl,S1.out.2⟩
def b1 (k:Int):List Value:=[.int .u8 k]
def rowA (lw:Int)(is:Bool):List Int→Nat
 |[]=>0
 | x::r=>if decide (lw≤x)=is then rowA lw is r+1 else 0
theorem rowA_le (lw:Int)(is:Bool):∀ r,rowA lw is r≤r.length
 |[]=>Nat.le_refl _
 | x::r=>by unfold rowA;have:=rowA_le lw is r;split <;> simp <;> omega
def atA (lw:Int):List Int→Int × Int × Int
 |[]=>(0,0,0)
 | x::r =>
  if (atA lw r).1<2 then
   if decide (lw≤min x 4)=false then(0,0,0) else if rowA lw true (x::r)<2 then(1,0,0) else(2,min x 4,min x 4)
  else if decide (lw≤min x 4)=false then(if 10≤rowA lw false (x::r) then(0,0,0) else(2,(atA lw r).2.1,0))
  else if (atA lw r).2.1<min x 4 then(2,min x 4,min x 4) else(2,(atA lw r).2.1,0)
theorem there_any (a b:Int)(w:World):Calls Tryz.prog 82 #[.int .u8 a,.int .u8 b] w fun en w'=>en=.returned (.bool (decide (a≤b)))∧w'=w:=by
 go_enter Tryz.func82,Tryz.ntmps82
 go_wp2
 go_ret
 exact⟨rfl,rfl⟩
theorem row19_any (lw:Int)(is:Bool)(v:Value)(l:List Int)(w:World)(hL:Rw 1 b1 w v l)(hl:l.length≤1000) :
  Calls Tryz.prog 83 #[.int .u8 lw,v,.bool is] w fun en w'=>en=.returned (.int .i64 (rowA lw is l.reverse:Nat))∧w'=w:=by
 obtain⟨la,lc,rfl,hsh⟩:=hL.shape
 have HSH:=hd0 hsh
 obtain⟨R,hR⟩:∃ R,rowA lw is l.reverse=R:=⟨_,rfl⟩
 have HR:=hd0 hR
 obtain⟨L,hLL⟩:∃ L,l.length=L:=⟨_,rfl⟩
 have HL:=hd0 hLL
 have hL1:L≤1000:=by omega
 have TH:=hd0 (fun a b w=>there_any a b w)
 rw[hLL,hR]
 clear hL hsh hR hl hLL
 go_enter Tryz.func83,Tryz.ntmps83
 go_wp2_with fail
 go_loopw [7,8] (fun n i wr=>∃ (j m:Nat),j≤L∧m≤2000-j∧i=.int .i64 ((j:Int)-1)∧n=.int .i64 (m:Int)∧wr=w∧Hid (R=m+rowA lw is (l.take j).reverse)) (fun _ i _=>(intOf i+1).toNat)
 case atStart=>exact⟨L,0,Nat.le_refl _,by omega,by go_num,rfl,rfl,hd0 (by rw[List.take_of_length_le (by rw[HL.out];exact Nat.le_refl _),HR.out];omega)⟩
 case round =>
  obtain⟨j,m,hj,hm,rfl,rfl,rfl,HJ⟩:=hrel
  rcases j with _|j
  ·rw[show(((0:Nat):Int)-1)=-1 from rfl]
   have HZ:Hid (R=m):=hd0 (by rw[HJ.out];rfl)
   go_wp2
   go_ret
   exact⟨by first|(rw[HZ.out];done)|(rw[HZ.out];rfl),rfl⟩
  rw[show(((j+1:Nat):Int)-1)=(j:Int) by omega]
  have hjb:(j:Int)<1001:=by omega
  have hmb:(m:Int)<2001:=by omega
  have hlt:j<L:=by omega
  obtain⟨b,off,rfl,hcc⟩:=HSH.out.resolve_left (by intro h;have:=HL.out;rw[h] at this;simp at this;omega)
  have hjl:j<l.length:=by rw[HL.out];exact hlt
  obtain⟨x,hx⟩:∃ x,l[j]=x:=⟨_,rfl⟩
  have hxc:wr.cell? ⟨b,off+j,none⟩=some (.int .u8 x):=by
   have:=hcc j hjl 0 (by decide)
   simp only[Nat.mul_one,Nat.add_zero] at this
   rw[this,hx];rfl
  have HJ2:Hid (R=m+(if decide (lw≤x)=is then rowA lw is (l.take j).reverse+1 else 0)):=hd0 (by
   have e:l.take (j+1)=l.take j++[x]:=by rw[List.take_add_one,List.getElem?_eq_getElem hjl,hx];rfl
   rw[HJ.out,e,List.reverse_append];rfl)
  obtain⟨D,hD⟩:∃ D,decide (lw≤x)=D:=⟨_,rfl⟩
  have TX:Hid (∀ w,Calls Tryz.prog 82 #[.int .u8 lw,.int .u8 x] w fun en w'=>en=.returned (.bool D)∧w'=w):=hd0 fun w=>by rw[←hD];exact TH.out lw x w
  rw[hD] at HJ2
  clear hcc hjl hx HJ hD
  by_cases hi:D=is
  ·have e1:(D==is)=true:=by rw[hi];simp
   have HJ3:Hid (R=m+1+rowA lw is (l.take j).reverse):=hd0 (by rw[HJ2.out,if_pos hi];omega)
   clear HJ2
   go_wp2_with (go_at_call 82;with_reducible refine(TX.out _).mono ?_;rintro e w' ⟨rfl,rfl⟩)
   exact⟨⟨j,m+1,by omega,by omega,rfl,by go_num,trivial,hd0 HJ3.out⟩,by first|(simp[intOf];done)|(simp[intOf];omega)⟩
  ·have e1:(D==is)=false:=by rw[beq_eq_false_iff_ne];exact hi
   have HZ:Hid (R=m):=hd0 (by rw[HJ2.out,if_neg hi];rfl)
   clear HJ2
   go_wp2_with (go_at_call 82;with_reducible refine(TX.out _).mono ?_;rintro e w' ⟨rfl,rfl⟩)
   go_ret
   exact⟨by first|(rw[HZ.out];done)|(rw[HZ.out];rfl),rfl⟩
theorem at19_any (lw:Int)(hlw:0≤lw∧lw<256):∀ (n:Nat) (v:Value) (l:List Int) (w:World),l.length=n→n≤1000→Rw 1 b1 w v l→(∃ a c,v=.slice a n c∧n≤c)→(∀ x∈l,0≤x∧x<256) →
  Calls Tryz.prog 42 #[.int .u8 lw,v] w fun en w'=>en=.returned (.tuple #[.int .u8 (atA lw l.reverse).1,.int .u8 (atA lw l.reverse).2.1,.int .u8 (atA lw l.reverse).2.2])∧w'=w
 | 0,v,l,w,hn,_,hL,hc,hx=>by
  obtain rfl:l=[]:=List.length_eq_zero_iff.1 hn
  obtain⟨a,c,rfl,_⟩:=hc
  clear hL
  go_enter Tryz.func42,Tryz.ntmps42
  go_wp2
  go_ret3
  exact⟨rfl,rfl⟩
 | n+1,v,l,w,hn,hb,hL,hc,hx=>by
  obtain⟨a,c,rfl,hcn⟩:=hc
  have e0:(((n+1:Nat):Int)==0)=false:=by rw[beq_eq_false_iff_ne];omega
  have hnb:(n:Int)≤1000:=by omega
  have hnc:(n:Int)≤(c:Int):=by omega
  have h1:(((n+1:Nat):Int)-1)=(n:Int):=by omega
  have h1':((n:Int)+1-1)=(n:Int):=by omega
  have hjl:n<l.length:=by omega
  obtain⟨x,hxx⟩:∃ x,l[n]=x:=⟨_,rfl⟩
  have hx0:0≤x∧x<256:=by rw[←hxx];exact hx _ (List.getElem_mem _)
  have hrev:l.reverse=x::(l.take n).reverse:=by
   have e:l.take (n+1)=l.take n++[x]:=by rw[List.take_add_one,List.getElem?_eq_getElem hjl,hxx];rfl
   rw[←hn,List.take_length] at e
   have e2:=congrArg List.reverse e
   rw[List.reverse_append] at e2
   exact e2
  have hsh:=hL
  obtain⟨a',c',he,hsh⟩:=hL.shape
  rw[hn] at he
  injection he with e1 e2 e3
  subst e1 e3
  obtain⟨b,off,rfl,hcc⟩:=hsh.resolve_left (by intro h;rw[h] at hn;simp at hn)
  have hxc:w.cell? ⟨b,off+n,none⟩=some (.int .u8 x):=by
   have:=hcc n hjl 0 (by decide)
   simp only[Nat.mul_one,Nat.add_zero] at this
   rw[this,hxx];rfl
  have hpre:Rw 1 b1 w (.slice (some ⟨b,off,none⟩) n c) (l.take n):=by
   have hlen:(l.take n).length=n:=by simp;omega
   refine .inr ⟨⟨b,off,none⟩,c,by rw[hlen],.inr ⟨b,off,rfl,fun j hj i hi=>?_⟩⟩
   rw[hcc j (by omega) i hi]
   simp
  have IH:=hd0 (at19_any lw hlw n (.slice (some ⟨b,off,none⟩) n c) (l.take n) w (by simp;omega) (by omega) hpre ⟨_,_,rfl,by omega⟩ (fun y hy=>hx y (List.mem_of_mem_take hy)))
  obtain⟨⟨s,t,u⟩,hst⟩:∃ z,atA lw (l.take n).reverse=z:=⟨_,rfl⟩
  rw[hst] at IH
  obtain⟨y,hy⟩:∃ y,min x 4=y:=⟨_,rfl⟩
  obtain⟨D,hD⟩:∃ D,decide (lw≤y)=D:=⟨_,rfl⟩
  obtain⟨R1,hR1⟩:∃ D,rowA lw true l.reverse=D:=⟨_,rfl⟩
  obtain⟨R0,hR0⟩:∃ D,rowA lw false l.reverse=D:=⟨_,rfl⟩
  have hr1:R1≤1001:=by rw[←hR1];have:=rowA_le lw true l.reverse;rw[List.length_reverse] at this;omega
  have hr0:R0≤1001:=by rw[←hR0];have:=rowA_le lw false l.reverse;rw[List.length_reverse] at this;omega
  have HAT:Hid (atA lw l.reverse=if s<2 then(if D=false then(0,0,0) else if R1<2 then(1,0,0) else(2,y,y)) else if D=false then(if 10≤R0 then(0,0,0) else(2,t,0)) else if t<y then(2,y,y) else(2,t,0)):=hd0 (by
   rw[←hR1,← hR0,hrev];unfold atA;rw[hst,hy,hD])
  have RW1:Hid (∀ is,Calls Tryz.prog 83 #[.int .u8 lw,.slice (some ⟨b,off,none⟩) (n+1) c,.bool is] w fun en w'=>en=.returned (.int .i64 (rowA lw is l.reverse:Nat))∧w'=w):=hd0 fun is=>row19_any lw is _ l w hL (by omega)
  have RT1:=hd0 (RW1.out true)
  have RT0:=hd0 (RW1.out false)
  have TX:Hid (∀ w,Calls Tryz.prog 82 #[.int .u8 lw,.int .u8 y] w fun en w'=>en=.returned (.bool D)∧w'=w):=hd0 fun w=>by rw[←hD];exact there_any lw y w
  rw[hR1] at RT1
  rw[hR0] at RT0
  obtain⟨R,hR⟩:∃ R,atA lw l.reverse=R:=⟨_,rfl⟩
  rw[hR] at HAT ⊢
  clear hR RW1 hR1 hR0 hD hst hpre hcc hrev hsh hL hx hxx hjl hn
  go_enter Tryz.func42,Tryz.ntmps42
  go_wp2_with fail
  with_reducible refine IH.out.mono ?_
  rintro e w' ⟨rfl,rfl⟩
  clear IH
  go_upto_if 32 with fail
  obtain⟨D4,hD4⟩:∃ z,decide (4<x)=z:=⟨_,rfl⟩
  have HD4:=hd0 (And.intro hD4 hy)
  rw[hD4]
  clear hD4 hy
  go_cut [10] (fun s10 wx=>s10=.int .u8 y∧wx=w')
  case first =>
   cases D4
   ·have h4:=of_decide_eq_false HD4.out.1
    have hy4:=hd0 (show x=y by have:=HD4.out.2;omega)
    clear h4
    go_wp2
    go_meet
    exact⟨by rw[hy4.out],rfl⟩
   ·have h4:=of_decide_eq_true HD4.out.1
    have hy4:=hd0 (show y=4 by have:=HD4.out.2;omega)
    clear h4
    go_wp2
    go_meet
    exact⟨by rw[hy4.out],rfl⟩
  case rest =>
  obtain⟨rfl,hw⟩:=hcut
  rw[hw]
  clear hw hxc hx0 HD4
  by_cases h2:s<2
  ·have d2:decide (s<2)=true:=decide_eq_true h2
   cases D with
   | false =>
    have HZ:Hid (R=(0,0,0)):=hd0 (by rw[HAT.out,if_pos h2];rfl)
    clear HAT h2
    go_wp2_with (go_at_call 82;with_reducible refine(TX.out _).mono ?_;rintro e w' ⟨rfl,rfl⟩)
    go_ret3
    exact⟨by rw[HZ.out];rfl,rfl⟩
   | true =>
    by_cases hq:R1<2
    ·have d3:decide ((R1:Int)<2)=true:=decide_eq_true (by omega)
     have HZ:Hid (R=(1,0,0)):=hd0 (by rw[HAT.out,if_pos h2,if_neg (by decide),if_pos hq])
     clear HAT h2 hq
     go_wp2_with (first|(go_at_call 82;with_reducible refine(TX.out _).mono ?_;rintro e w' ⟨rfl,rfl⟩)|(go_at_call 83;with_reducible refine RT1.out.mono ?_;rintro e w' ⟨rfl,rfl⟩))
     go_ret3
     exact⟨by rw[HZ.out];rfl,rfl⟩
    ·have d3:decide ((R1:Int)<2)=false:=decide_eq_false (by omega)
     have HZ:Hid (R=(2,y,y)):=hd0 (by rw[HAT.out,if_pos h2,if_neg (by decide),if_neg hq])
     clear HAT h2 hq
     go_wp2_with (first|(go_at_call 82;with_reducible refine(TX.out _).mono ?_;rintro e w' ⟨rfl,rfl⟩)|(go_at_call 83;with_reducible refine RT1.out.mono ?_;rintro e w' ⟨rfl,rfl⟩))
     go_ret3
     exact⟨by rw[HZ.out];rfl,rfl⟩
  ·have d2:decide (s<2)=false:=decide_eq_false h2
   cases D with
   | false =>
    by_cases hq:10≤R0
    ·have d3:decide ((10:Int)≤(R0:Int))=true:=decide_eq_true (by omega)
     have HZ:Hid (R=(0,0,0)):=hd0 (by rw[HAT.out,if_neg h2,if_pos rfl,if_pos hq])
     clear HAT h2 hq
     go_wp2_with (first|(go_at_call 82;with_reducible refine(TX.out _).mono ?_;rintro e w' ⟨rfl,rfl⟩)|(go_at_call 83;with_reducible refine RT0.out.mono ?_;rintro e w' ⟨rfl,rfl⟩))
     go_ret3
     exact⟨by rw[HZ.out];rfl,rfl⟩
    ·have d3:decide ((10:Int)≤(R0:Int))=false:=decide_eq_false (by omega)
     have HZ:Hid (R=(2,t,0)):=hd0 (by rw[HAT.out,if_neg h2,if_pos rfl,if_neg hq])
     clear HAT h2 hq
     go_wp2_with (first|(go_at_call 82;with_reducible refine(TX.out _).mono ?_;rintro e w' ⟨rfl,rfl⟩)|(go_at_call 83;with_reducible refine RT0.out.mono ?_;rintro e w' ⟨rfl,rfl⟩))
     go_ret3
     exact⟨by rw[HZ.out];rfl,rfl⟩
   | true =>
    by_cases hq:t<y
    ·have d3:decide (t<y)=true:=decide_eq_true hq
     have HZ:Hid (R=(2,y,y)):=hd0 (by rw[HAT.out,if_neg h2,if_neg (by decide),if_pos hq])
     clear HAT h2 hq
     go_wp2_with (go_at_call 82;with_reducible refine(TX.out _).mono ?_;rintro e w' ⟨rfl,rfl⟩)
     go_ret3
     exact⟨by rw[HZ.out];rfl,rfl⟩
    ·have d3:decide (t<y)=false:=decide_eq_false hq
     have HZ:Hid (R=(2,t,0)):=hd0 (by rw[HAT.out,if_neg h2,if_neg (by decide),if_neg hq])
     clear HAT h2 hq
     go_wp2_with (go_at_call 82;with_reducible refine(TX.out _).mono ?_;rintro e w' ⟨rfl,rfl⟩)
     go_ret3
     exact⟨by rw[HZ.out];rfl,rfl⟩
open Go.ChangeShapes Go.WideShapes Go.ChangeAt Go.RowKit Go.Joins
theorem refLasts_any (n:Int)(w:World):Calls Tryz.prog 136 #[.int .u8 n] w fun en w'=>en=.returned (.int .i64 (lastC n))∧w'=w:=by
 unfold lastC
 by_cases h4:n=4
 ·have d4:(n==4)=true:=by rw[h4];rfl
  rw[if_pos h4]
  clear h4
  go_enter Tryz.func136,Tryz.ntmps136
  go_wp2
  go_ret
  exact⟨rfl,rfl⟩
 ·have d4:(n==4)=false:=by rw[beq_eq_false_iff_ne];exact h4
  rw[if_neg h4]
  clear h4
  by_cases h5:n=5
  ·have d5:(n==5)=true:=by rw[h5];rfl
   rw[if_pos h5]
   clear h5
   go_enter Tryz.func136,Tryz.ntmps136
   go_wp2
   go_ret
   exact⟨rfl,rfl⟩
  ·have d5:(n==5)=false:=by rw[beq_eq_false_iff_ne];exact h5
   rw[if_neg h5]
   clear h5
   go_enter Tryz.func136,Tryz.ntmps136
   go_wp2
   go_ret
   exact⟨rfl,rfl⟩
end Go.Proofs.YtlkdfofpnmpidaaGreat
