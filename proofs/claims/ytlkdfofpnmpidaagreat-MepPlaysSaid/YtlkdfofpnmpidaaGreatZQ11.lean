/- ZQ11 -/
import Derived.Test.YtlkdfofpnmpidaaGreatZQ10
set_option linter.unusedVariables false
set_option linter.unusedSimpArgs false
set_option maxRecDepth 100000
set_option maxHeartbeats 16000000
namespace Go.Proofs.YtlkdfofpnmpidaaGreat
open Go.RowKit
structure Rf where
 hd:List Hd
 nw:Int
 ws:List Int
 bad:Int
 lp:Int
 dat:List UInt8
 rep:Int
 ali:Int
 tr:Int
 way:List Rp
structure Rf.Ok (r:Rf):Prop where
 hl:r.hd.length≤1000
 hd:∀ h∈r.hd,h.Ok
 nw:0≤r.nw∧r.nw≤1000
 wl:r.ws.length≤1000
 ws:∀ x∈r.ws,0≤x∧x<256
 bad:0≤r.bad∧r.bad≤1000
 lp:0≤r.lp∧r.lp≤1000
 rep:0≤r.rep∧r.rep≤1000
 ali:0≤r.ali∧r.ali≤1000
 tr:0≤r.tr∧r.tr≤1000
 wy:r.way.length≤1000
def rf0:Rf:=⟨[],0,[],0,0,[],0,0,0,[]⟩
def u8C (x:Int):List Value:=[.int .u8 x]
theorem u8C_len (x:Int):(u8C x).length=1:=rfl
structure Rv where
 ov:Value
 hv:Value
 sv:Value
 yv:Value
def rfA (o:Ow20)(v:Rv)(r:Rf):Array Value:=#[.int .u8 o.a.lv,.int .u8 o.a.iv,.string (bs o.a.md),.int .u16 o.a.mp,v.ov,.int .u8 o.mc.a,.int .u8 o.mc.b,.int .u8 o.mc.c,.int .u8 o.mc.d,.int .u8 o.mc.e,.int .u8 o.mc.f,.int .u8 o.lw,v.hv,.int .i64 r.nw,v.sv,.int .u64 r.bad,.int .u32 r.lp,.string (bs r.dat),.int .i64 r.rep,.int .i64 r.ali,.int .u32 r.tr,v.yv]
structure RX (W:World)(ks:List Int)(v:Rv)(r:Rf):Prop where
 ks:Rw 1 u1 W v.ov ks
 hd:Rw 7 hdC W v.hv r.hd
 ws:Rw 1 u8C W v.sv r.ws
 wy:Rw 17 rqC W v.yv r.way
theorem RX.later {W W':World}{ks:List Int}{v:Rv}{r:Rf}(h:RX W ks v r)(hb:Below W.heap.size W W'):RX W' ks v r:=⟨h.ks.later u1_len hb,h.hd.later hdC_len hb,h.ws.later u8C_len hb,h.wy.later rqC_len hb⟩
structure RfB (w W:World)(o:Ow20)(ks:List Int)(v:Rv)(r:Rf):Prop where
 gb:GB 44 W w.heap.size (rfA o v r)
 rx:RX W ks v r
 bel:Below w.heap.size w W
section
variable {w W W':World} {o:Ow20} {ks:List Int} {v:Rv} {r:Rf}
theorem RfB.begin (h:RX w ks v r):RfB w (w.alloc (.cells (rfA o v r) 44)) o ks v r :=
 have hb:=(Below.refl w.heap.size w).alloc (Nat.le_refl _) (.cells (rfA o v r) 44)
 ⟨heap_alloc_new _ _,h.later hb,hb⟩
theorem RfB.later (h:RfB w W o ks v r)(hb:Below W.heap.size W W'):RfB w W' o ks v r:=⟨h.gb.later hb,h.rx.later hb,h.bel.trans (hb.mono h.bel.size)⟩
theorem RfB.drew (h:RfB w W o ks v r):RfB w W.drew o ks v r:=h.later (Below.refl _ _).drew
theorem RfB.s14 (h:RfB w W o ks v r):W.cell? ⟨w.heap.size,0,none⟩=some (.int .u8 o.a.lv)∧W.cell? ⟨w.heap.size,1,none⟩=some (.int .u8 o.a.iv)∧W.cell? ⟨w.heap.size,2,none⟩=some (.string (bs o.a.md))∧W.cell? ⟨w.heap.size,3,none⟩=some (.int .u16 o.a.mp)∧W.cell? ⟨w.heap.size,4,none⟩=some (v.ov)∧W.cell? ⟨w.heap.size,5,none⟩=some (.int .u8 o.mc.a)∧W.cell? ⟨w.heap.size,6,none⟩=some (.int .u8 o.mc.b)∧W.cell? ⟨w.heap.size,7,none⟩=some (.int .u8 o.mc.c)∧W.cell? ⟨w.heap.size,8,none⟩=some (.int .u8 o.mc.d)∧W.cell? ⟨w.heap.size,9,none⟩=some (.int .u8 o.mc.e)∧W.cell? ⟨w.heap.size,10,none⟩=some (.int .u8 o.mc.f)∧W.cell? ⟨w.heap.size,11,none⟩=some (.int .u8 o.lw)∧W.cell? ⟨w.heap.size,12,none⟩=some (v.hv)∧W.cell? ⟨w.heap.size,13,none⟩=some (.int .i64 r.nw) :=
 ⟨h.gb.c 0 _ rfl,h.gb.c 1 _ rfl,h.gb.c 2 _ rfl,h.gb.c 3 _ rfl,h.gb.c 4 _ rfl,h.gb.c 5 _ rfl,h.gb.c 6 _ rfl,h.gb.c 7 _ rfl,h.gb.c 8 _ rfl,h.gb.c 9 _ rfl,h.gb.c 10 _ rfl,h.gb.c 11 _ rfl,h.gb.c 12 _ rfl,h.gb.c 13 _ rfl⟩
theorem RfB.c (h:RfB w W o ks v r)(i:Nat)(x:Value)(hx:(rfA o v r)[i]?=some x):W.cell? ⟨w.heap.size,i,none⟩=some x:=h.gb.c i x hx
end
theorem own20_any (o:Ow20)(ov:Value)(w:World):Calls Tryz.prog 31 #[.agg #[.int .u8 o.a.lv,.int .u8 o.a.iv,.string (bs o.a.md),.int .u16 o.a.mp,ov,.int .u8 o.mc.a,.int .u8 o.mc.b,.int .u8 o.mc.c,.int .u8 o.mc.d,.int .u8 o.mc.e,.int .u8 o.mc.f,.int .u8 o.lw]] w fun en w'=>en=.returned (.agg (ow8A o.a))∧Below w.heap.size w w':=by
 unfold ow8A
 go_enter Tryz.func31,Tryz.ntmps31
 go_wp2_with fail
 refine bodyPost_ret (v:=.agg #[.int .u8 o.a.lv,.int .u16 o.a.mp,.int .u8 o.a.iv,.string (bs o.a.md)]) (res_one (p:=2) rfl rfl Tryz.underlying97 _ _ (w.heap.size+1) _ rfl ?_ (by kernel_rfl)) rfl ⟨rfl,(bA _).alloc (by simp) _⟩
 have h:=heap_alloc_new (w.alloc (.cells #[.int .u8 o.a.lv,.int .u8 o.a.iv,.string (bs o.a.md),.int .u16 o.a.mp,ov,.int .u8 o.mc.a,.int .u8 o.mc.b,.int .u8 o.mc.c,.int .u8 o.mc.d,.int .u8 o.mc.e,.int .u8 o.mc.f,.int .u8 o.lw] 27)) (.cells #[.int .u8 o.a.lv,.int .u16 o.a.mp,.int .u8 o.a.iv,.string (bs o.a.md)] 97)
 rw[show(w.alloc (.cells #[.int .u8 o.a.lv,.int .u8 o.a.iv,.string (bs o.a.md),.int .u16 o.a.mp,ov,.int .u8 o.mc.a,.int .u8 o.mc.b,.int .u8 o.mc.c,.int .u8 o.mc.d,.int .u8 o.mc.e,.int .u8 o.mc.f,.int .u8 o.lw] 27)).heap.size=w.heap.size+1 by simp] at h
 exact h
theorem left20_any (o:Ow20)(ks:List Int)(hkl:ks.length≤1000)(v:Rv)(r:Rf)(hr:r.Ok)(kd me:Int)(w:World)(h:RX w ks v r):Calls Tryz.prog 81 #[.agg #[.int .u8 o.a.lv,.int .u8 o.a.iv,.string (bs o.a.md),.int .u16 o.a.mp,v.ov,.int .u8 o.mc.a,.int .u8 o.mc.b,.int .u8 o.mc.c,.int .u8 o.mc.d,.int .u8 o.mc.e,.int .u8 o.mc.f,.int .u8 o.lw,v.hv,.int .i64 r.nw,v.sv,.int .u64 r.bad,.int .u32 r.lp,.string (bs r.dat),.int .i64 r.rep,.int .i64 r.ali,.int .u32 r.tr,v.yv],.int .i64 kd,.int .u16 me] w fun en w'=>en=.returned (.int .i64 (leftC o.a ks r.hd kd me r.nw))∧Below w.heap.size w w':=by
 have B0:=hd0 (RfB.begin (o:=o) h)
 have OW:Hid (∀ W,Calls Tryz.prog 31 #[.agg #[.int .u8 o.a.lv,.int .u8 o.a.iv,.string (bs o.a.md),.int .u16 o.a.mp,v.ov,.int .u8 o.mc.a,.int .u8 o.mc.b,.int .u8 o.mc.c,.int .u8 o.mc.d,.int .u8 o.mc.e,.int .u8 o.mc.f,.int .u8 o.lw]] W fun en w'=>en=.returned (.agg (ow8A o.a))∧Below W.heap.size W w'):=hd0 (own20_any o v.ov)
 have LF:Hid (∀ W,RX W ks v r→Calls Tryz.prog 116 #[.agg (ow8A o.a),v.ov,v.hv,.int .i64 kd,.int .u16 me,.int .i64 r.nw] W fun en w'=>en=.returned (.int .i64 (leftC o.a ks r.hd kd me r.nw))∧Below W.heap.size W w'):=hd0 fun W hx=>left18_any o.a v.ov v.hv ks r.hd kd me r.nw W hx.ks hkl hx.hd hr.hl hr.hd hr.nw
 obtain⟨R,hR⟩:∃ R,leftC o.a ks r.hd kd me r.nw=R:=⟨_,rfl⟩
 rw[hR] at LF ⊢
 clear hR hr h
 go_enter Tryz.func81,Tryz.ntmps81
 go_upto_region 1 with fail
 obtain⟨w0,hw0⟩:∃ k,w.alloc (.cells #[.int .u8 o.a.lv,.int .u8 o.a.iv,.string (bs o.a.md),.int .u16 o.a.mp,v.ov,.int .u8 o.mc.a,.int .u8 o.mc.b,.int .u8 o.mc.c,.int .u8 o.mc.d,.int .u8 o.mc.e,.int .u8 o.mc.f,.int .u8 o.lw,v.hv,.int .i64 r.nw,v.sv,.int .u64 r.bad,.int .u32 r.lp,.string (bs r.dat),.int .i64 r.rep,.int .i64 r.ali,.int .u32 r.tr,v.yv] 44)=k:=⟨_,rfl⟩
 have B1:Hid (RfB w w0 o ks v r):=hd0 (by rw[←hw0];exact B0.out)
 rw[hw0]
 clear hw0 B0
 have D0:=B1.out.drew
 go_region_held3 (fun W=>W.cell? ⟨w.heap.size,0,none⟩=some (.int .u8 o.a.lv)∧W.cell? ⟨w.heap.size,1,none⟩=some (.int .u8 o.a.iv)∧W.cell? ⟨w.heap.size,2,none⟩=some (.string (bs o.a.md))∧W.cell? ⟨w.heap.size,3,none⟩=some (.int .u16 o.a.mp)∧W.cell? ⟨w.heap.size,4,none⟩=some (v.ov)∧W.cell? ⟨w.heap.size,5,none⟩=some (.int .u8 o.mc.a)∧W.cell? ⟨w.heap.size,6,none⟩=some (.int .u8 o.mc.b)∧W.cell? ⟨w.heap.size,7,none⟩=some (.int .u8 o.mc.c)∧W.cell? ⟨w.heap.size,8,none⟩=some (.int .u8 o.mc.d)∧W.cell? ⟨w.heap.size,9,none⟩=some (.int .u8 o.mc.e)∧W.cell? ⟨w.heap.size,10,none⟩=some (.int .u8 o.mc.f)∧W.cell? ⟨w.heap.size,11,none⟩=some (.int .u8 o.lw)∧W.cell? ⟨w.heap.size,12,none⟩=some (v.hv)∧W.cell? ⟨w.heap.size,13,none⟩=some (.int .i64 r.nw))
  (first|with_reducible exact D0.s14|with_reducible exact D1.s14|with_reducible exact D2.s14)
  (first
   | (go_at_call 31; (with_reducible refine (OW.out _).mono ?_); rintro en wx ⟨rfl, hbx⟩
      have D1:=D0.later hbx)
   | (go_at_call 116; (with_reducible refine (LF.out _ D1.rx).mono ?_); rintro en wx ⟨rfl, hbx⟩
      have D2:=D1.later hbx))
 all_goals
  go_wp2
  go_ret
  exact⟨rfl,D2.bel⟩
def pickN (p:Int→Bool)(ks:List Int)(n:Nat):List Int:=(riseN ks n).filter p
theorem pickN_succ (p:Int→Bool)(ks:List Int)(n:Nat):pickN p ks (n+1)=pickN p ks n++(ks.filter (eqN n)).filter p:=by unfold pickN;rw[riseN,List.filter_append]
theorem pickN_one {ks:List Int}(h:∀ x∈ks,1≤x∧x≤8191)(p:Int→Bool):pickN p ks 1=[]:=by
 have h1:riseN ks 1=[]:=by
  unfold riseN riseN
  rw[List.nil_append,List.filter_eq_nil_iff]
  intro x hx
  have:=h x hx
  unfold eqN
  simp only[beq_iff_eq];omega
 unfold pickN;rw[h1];rfl
theorem pickN_len (p:Int→Bool)(ks:List Int)(n:Nat):(pickN p ks n).length≤n*ks.length:=Nat.le_trans (List.length_filter_le _ _) (riseN_len ks n)
def lostP (o:Ow20)(ks:List Int)(r:Rf)(x:Int):Bool:=leftC o.a ks r.hd 1 x r.nw==0
def rdisP (o:Ow20)(ks:List Int)(r:Rf)(x:Int):Bool:=decide (0<leftC o.a ks r.hd 1 x r.nw)&&rdiC o.a ks r.hd x
def lost20 (o:Ow20)(ks:List Int)(r:Rf):List Int:=pickN (lostP o ks r) ks 8192
def rdis20 (o:Ow20)(ks:List Int)(r:Rf):List Int:=pickN (rdisP o ks r) ks 8192
theorem take_pick {ks:List Int}{j:Nat}{x:Int}{N:Nat}{p:Int→Bool}(hjl:j<ks.length)(hx:ks[j]=x):((ks.take (j+1)).filter (eqN N)).filter p=((ks.take j).filter (eqN N)).filter p++if eqN N x=true∧p x=true then[x] else[]:=by
 rw[List.take_add_one,List.getElem?_eq_getElem hjl,hx,Option.toList_some,List.filter_append,List.filter_append]
 cases h:eqN N x <;> cases h2:p x <;> simp[h,h2]
theorem RfB.app {w W W':World}{o:Ow20}{ks:List Int}{v:Rv}{r:Rf}{b:Obj}(h0:RX w ks v r)(h:RfB w W o ks v r)(hb:Below (w.heap.size+1) (W.alloc b) W'):RfB w W' o ks v r:=by
 have hb2:Below (w.heap.size+1) W W':=((Below.refl _ _).alloc h.gb.lt b).trans hb
 have hb3:Below w.heap.size w W':=h.bel.trans (hb2.mono (by omega))
 exact⟨(hb2.block _ (by omega)).trans h.gb,h0.later hb3,hb3⟩
theorem Ow.wk {α:Type}{k:Nat}{f:α→List Value}{E:TypeId}{w:World}{B C:Nat}{v:Value}{l:List α}(h:Ow k f E w B v l)(hc:C≤B):Ow k f E w C v l:=by
 obtain⟨h1,h2⟩:=h
 refine⟨h1,?_⟩
 rcases h2 with h2|⟨g,cap,cur,rfl,hg,hh,r⟩
 ·exact .inl h2
 ·exact .inr ⟨g,cap,cur,rfl,Nat.le_trans hc hg,hh,r⟩
theorem lost20_any (o:Ow20)(ks:List Int)(hkl:ks.length≤1000)(hkb:∀ x∈ks,1≤x∧x≤8191)(v:Rv)(r:Rf)(hr:r.Ok)(w:World)(h:RX w ks v r):Calls Tryz.prog 63 #[.agg (rfA o v r)] w fun en w'=>∃ u,en=.returned u∧Ow 1 (fun x:Int=>[encU x]) 22 w' w.heap.size u (lost20 o ks r)∧Below w.heap.size w w':=by
 obtain⟨sa,sc,hsv,hsh⟩:=h.ks.shape
 have HSH:=hd0 hsh
 have HKB:=hd0 hkb
 obtain⟨L,hLL⟩:∃ L,ks.length=L:=⟨_,rfl⟩
 have HL:=hd0 hLL
 have hL1:L≤1000:=by omega
 rw[hLL] at hsv
 have LF:Hid (∀ (x:Int) W,RX W ks v r→Calls Tryz.prog 81 #[.agg (rfA o v r),.int .i64 1,.int .u16 x] W fun en w'=>en=.returned (.int .i64 (leftC o.a ks r.hd 1 x r.nw))∧Below W.heap.size W w'):=hd0 fun x W hx=>left20_any o ks hkl v r hr 1 x W hx
 have B0:=hd0 (RfB.begin (o:=o) h)
 have HX:=hd0 h
 unfold lost20
 have HP:Hid (∀ x,lostP o ks r x=(leftC o.a ks r.hd 1 x r.nw==0)):=hd0 fun x=>rfl
 obtain⟨P,hP⟩:∃ P,lostP o ks r=P:=⟨_,rfl⟩
 rw[hP] at HP ⊢
 have HC4:=hd0 (show(rfA o v r)[4]?=some (.slice sa L sc) by rw[←hsv];rfl)
 have HIL:=hd0 (show(Tryz.prog.info? 44).map (·.size)=some (rfA o v r).toList.length by show _=some 22;kernel_rfl)
 obtain⟨A,hA⟩:∃ A,rfA o v r=A:=⟨_,rfl⟩
 have HA:=hd0 hA
 rw[hA] at LF B0 HC4 HIL ⊢
 obtain⟨B,hB⟩:∃ B,w.heap.size=B:=⟨_,rfl⟩
 have HB:=hd0 hB
 obtain⟨C,hC⟩:∃ n:Nat,n=8192:=⟨_,rfl⟩
 have HC:=hd0 hC
 rw[←hC]
 clear hsv hsh hLL hkl hC hkb hA hr hP h
 go_enter Tryz.func63,Tryz.ntmps63
 go_upto_region 1 with fail
 obtain⟨w0,hw0⟩:∃ k,w.alloc (.cells A 44)=k:=⟨_,rfl⟩
 have B1:Hid (RfB w w0 o ks v r):=hd0 (by rw[←hw0];exact B0.out)
 rw[hw0]
 clear hw0 B0
 go_upto_region 2 with fail
 go_wp2_with fail
 go_loopw [3,4,5] (fun u n _ wr=>∃ N:Nat,1≤N∧N≤8192∧n=.int .u16 N∧Hid (Ow 1 (fun x:Int=>[encU x]) 22 wr (B+1) u (pickN P ks N))∧Hid (RfB w wr o ks v r)) (fun _ n _ _=>8192-(intOf n).toNat)
 case atStart=>exact⟨1,Nat.le_refl _,by omega,rfl,hd0 (by rw[pickN_one HKB.out];exact Ow.none _ _),B1⟩
 case round =>
  obtain⟨N,hN1,hN,rfl,HO,HW⟩:=hrel
  have hNb:(N:Int)<8193:=by omega
  by_cases hlt:N<8192
  rotate_left
  ·obtain rfl:N=8192:=by omega
   have dk:decide (((8192:Nat):Int)<8192)=false:=by decide
   clear hlt hN
   go_wp2
   go_ret
   exact⟨_,rfl,by rw[HB.out,HC.out];exact HO.out.wk (by omega),HW.out.bel⟩
  have dk:decide ((N:Int)<8192)=true:=decide_eq_true (by omega)
  have hw1:IntKind.u16.wrap ((N:Int)+1)=(N:Int)+1:=IntWalk.u16_in _ (by omega)
  go_wp2_with fail
  go_loopw [3,5] (fun u i wx=>∃ j:Nat,j≤L∧i=.int .i64 j∧Hid (Ow 1 (fun x:Int=>[encU x]) 22 wx (B+1) u (pickN P ks N++((ks.take j).filter (eqN N)).filter P))∧Hid (RfB w wx o ks v r)) (fun _ i _=>L-(intOf i).toNat)
  case atStart=>exact⟨0,Nat.zero_le _,rfl,hd0 (by rw[List.take_zero,List.filter_nil,List.filter_nil,List.append_nil];exact HO.out),HW⟩
  case round =>
   obtain⟨j,hj,rfl,HO2,HW2⟩:=hrel
   have c4:wr.cell? ⟨B,4,none⟩=some (.slice sa L sc):=by rw[←HB.out];exact HW2.out.gb.c 4 _ (by rw[HA.out];exact HC4.out)
   have hjb:(j:Int)<1001:=by omega
   by_cases hlt2:j<L
   rotate_left
   ·obtain rfl:j=L:=by omega
    have dk2:decide ((j:Int)<(j:Int))=false:=decide_eq_false (by omega)
    have HO3:Hid (Ow 1 (fun x:Int=>[encU x]) 22 wr (B+1) u3 (pickN P ks (N+1))):=hd0 (by
     have h:=HO2.out
     rw[List.take_of_length_le (by rw[HL.out];exact Nat.le_refl _),← pickN_succ] at h
     exact h)
    clear hlt2 hj
    go_wp2
    exact⟨⟨N+1,by omega,by omega,by go_num,HO3,HW2⟩,by simp[intOf];omega⟩
   have dk2:decide ((j:Int)<(L:Int))=true:=decide_eq_true (by omega)
   obtain⟨b,off,rfl,hcc⟩:=HSH.out.resolve_left (by intro h;have:=HL.out;rw[h] at this;simp at this;omega)
   have hjl:j<ks.length:=by rw[HL.out];exact hlt2
   obtain⟨x,hx⟩:∃ x,ks[j]=x:=⟨_,rfl⟩
   have hxc:w.cell? ⟨b,off+j,none⟩=some (.int .u16 x):=by
    have:=hcc j hjl 0 (by decide)
    simp only[Nat.mul_one,Nat.add_zero] at this
    rw[this,← hx];rfl
   have cx:wr.cell? ⟨b,off+j,none⟩=some (.int .u16 x):=(HW2.out.bel.cell (World.block_lt_of_cell? w _ hxc)).trans hxc
   have HTE:=hd0 (take_pick (N:=N) (p:=P) hjl hx)
   have hxb:0≤x∧x<65536:=by have:=HKB.out _ (List.getElem_mem hjl);rw[hx] at this;omega
   have HLN:Hid ((pickN P ks N++((ks.take j).filter (eqN N)).filter P).length≤100000000):=hd0 (by
    have h1:=pickN_len P ks N
    have h2:=List.length_filter_le (eqN N) (ks.take j)
    have h5:=List.length_filter_le P ((ks.take j).filter (eqN N))
    have h3:(ks.take j).length≤L:=by rw[←HL.out];simp;omega
    have h4:N*ks.length≤8192*1000:=Nat.mul_le_mul (by omega) (by rw[HL.out];omega)
    rw[List.length_append];omega)
   clear hcc hx hxc hjl
   by_cases he:x=(N:Int)
   ·subst he
    have e1:((N:Int)==(N:Int))=true:=by simp
    have hrg:wr.rangeAt B 0 A.toList:=by
     have h:=HW2.out.gb.range
     rw[HA.out,HB.out] at h
     exact h
    obtain⟨Z,hZ⟩:∃ Z,leftC o.a ks r.hd 1 (N:Int) r.nw=Z:=⟨_,rfl⟩
    have HPZ:=hd0 (show P (N:Int)=(Z==0) by rw[HP.out,hZ])
    have LZ:Hid (Calls Tryz.prog 81 #[.agg A,.int .i64 1,.int .u16 (N:Int)] wr fun en w'=>en=.returned (.int .i64 Z)∧Below wr.heap.size wr w'):=hd0 (by rw[←hZ];exact LF.out _ _ HW2.out.rx)
    clear hZ
    by_cases hz:Z=0
    ·have z1:(Z==0)=true:=by rw[hz];rfl
     have HTE2:Hid (((ks.take (j+1)).filter (eqN N)).filter P=((ks.take j).filter (eqN N)).filter P++[(N:Int)]):=hd0 (by rw[HTE.out,if_pos ⟨show eqN N (N:Int)=true from e1,by rw[HPZ.out,z1]⟩])
     clear hz HTE
     go_wp2_with (first
      |(refine wpList_load_gH ?hw 44 (.tmp 1) ?ho B 0 ?hx A.toList _ hrg Tryz.underlying44 ?hu HIL.out ?_;(case hw=>rfl);(case ho=>rfl);(case hx=>rfl);(case hu=>rfl))
      |(go_at_call 81;(with_reducible refine LZ.out.mono ?_);rintro en w4 ⟨rfl,hb4⟩;have HO4:=hd0 (HO2.out.later hb4);have HW4:=hd0 (HW2.out.later hb4);clear hb4)
      |(at_builtin;refine wpList_append_rw oU_len oU_one 22 23 (.int .u16 0) 2 Tryz.underlying23 info_u16 rfl (by decide) (by decide) rfl (.tmp 32) (.tmp 34) rfl (B+1) _ (pickN P ks N++((ks.take j).filter (eqN N)).filter P) rfl (HO4.out.later (bA _)) _ [(N:Int)] rfl ((Ow.lit (E:=22) oU_len _ 0 (N:Int) #[encU (N:Int)] rfl (Nat.zero_le _)).rw oU_len) (by have:=HLN.out;rw[List.length_singleton];omega) (by have:=HW4.out.gb.lt;rw[HB.out] at this;simp;omega) ?_;intro v1 w5 hown1 hb5;have HO1:=hd0 hown1;have HB1:Hid (RfB w w5 o ks v r):=hd0 (RfB.app HX.out HW4.out (by rw[HB.out];exact hb5));clear hown1 hb5))
     exact⟨⟨j+1,by omega,by go_num,hd0 (by rw[HTE2.out,← List.append_assoc];exact HO1.out),HB1⟩,by simp[intOf];omega⟩
    ·have z1:(Z==0)=false:=by rw[beq_eq_false_iff_ne];exact hz
     have HTE2:Hid (((ks.take (j+1)).filter (eqN N)).filter P=((ks.take j).filter (eqN N)).filter P):=hd0 (by rw[HTE.out,if_neg (by rw[HPZ.out,z1];rintro ⟨-,h⟩;cases h),List.append_nil])
     clear hz HTE
     go_wp2_with (first
      |(refine wpList_load_gH ?hw 44 (.tmp 1) ?ho B 0 ?hx A.toList _ hrg Tryz.underlying44 ?hu HIL.out ?_;(case hw=>rfl);(case ho=>rfl);(case hx=>rfl);(case hu=>rfl))
      |(go_at_call 81;(with_reducible refine LZ.out.mono ?_);rintro en w4 ⟨rfl,hb4⟩;have HO4:=hd0 (HO2.out.later hb4);have HW4:=hd0 (HW2.out.later hb4);clear hb4))
     exact⟨⟨j+1,by omega,by go_num,hd0 (by rw[HTE2.out];exact HO4.out),HW4⟩,by simp[intOf];omega⟩
   ·have e1:(x==(N:Int))=false:=by rw[beq_eq_false_iff_ne];exact he
    have HTE2:Hid (((ks.take (j+1)).filter (eqN N)).filter P=((ks.take j).filter (eqN N)).filter P):=hd0 (by rw[HTE.out,if_neg (by rw[show eqN N x=false from e1];rintro ⟨h,-⟩;cases h),List.append_nil])
    clear he HTE
    go_wp2
    exact⟨⟨j+1,by omega,by go_num,hd0 (by rw[HTE2.out];exact HO2.out),HW2⟩,by simp[intOf];omega⟩
theorem wpQuiet_loadA {P:Program}{ops:Array Oper}{C:World→Prop}{Q:Act→Prop}{o:Oper}{rest:List Oper}{a:Act}(ty:TypeId)(x:Operand)(b:Nat)(A:Array Value)(hw:Region.wanted o (yielded ops a.tmps)=true)(ho:o.op=.load ty x)
  (hx:a.eval x=.pointer (some ⟨b,0,none⟩)) (hl:∀ w,C w→(Instr.loadAt ty (.pointer (some ⟨b,0,none⟩))).run P w=.ok (.agg A) w) (h:wpQuiet P ops C Q rest (a.put o.dst (.agg A))):wpQuiet P ops C Q (o::rest) a:=by
 rw[wpQuiet,if_pos hw]
 refine⟨.agg A,fun w hc=>?_,h⟩
 unfold Oper.quietAt execOp
 simp only[ho,hx,Sem.run_bind,hl w hc,Result.andThen_ok,Sem.run_pure]
 exact⟨rfl,rfl⟩
theorem rdis20_any (o:Ow20)(ks:List Int)(hkl:ks.length≤1000)(hkb:∀ x∈ks,1≤x∧x≤8191)(v:Rv)(r:Rf)(hr:r.Ok)(w:World)(h:RX w ks v r):Calls Tryz.prog 64 #[.agg (rfA o v r)] w fun en w'=>∃ u,en=.returned u∧Ow 1 (fun x:Int=>[encU x]) 22 w' w.heap.size u (rdis20 o ks r)∧Below w.heap.size w w':=by
 obtain⟨sa,sc,hsv,hsh⟩:=h.ks.shape
 have HSH:=hd0 hsh
 have HKB:=hd0 hkb
 obtain⟨L,hLL⟩:∃ L,ks.length=L:=⟨_,rfl⟩
 have HL:=hd0 hLL
 have hL1:L≤1000:=by omega
 rw[hLL] at hsv
 have LF:Hid (∀ (x:Int) W,RX W ks v r→Calls Tryz.prog 81 #[.agg (rfA o v r),.int .i64 1,.int .u16 x] W fun en w'=>en=.returned (.int .i64 (leftC o.a ks r.hd 1 x r.nw))∧Below W.heap.size W w'):=hd0 fun x W hx=>left20_any o ks hkl v r hr 1 x W hx
 have B0:=hd0 (RfB.begin (o:=o) h)
 have HX:=hd0 h
 unfold rdis20
 have HP:Hid (∀ x,rdisP o ks r x=(decide (0<leftC o.a ks r.hd 1 x r.nw)&&rdiC o.a ks r.hd x)):=hd0 fun x=>rfl
 obtain⟨P,hP⟩:∃ P,rdisP o ks r=P:=⟨_,rfl⟩
 have OW:Hid (∀ W,Calls Tryz.prog 31 #[.agg #[.int .u8 o.a.lv,.int .u8 o.a.iv,.string (bs o.a.md),.int .u16 o.a.mp,.slice sa L sc,.int .u8 o.mc.a,.int .u8 o.mc.b,.int .u8 o.mc.c,.int .u8 o.mc.d,.int .u8 o.mc.e,.int .u8 o.mc.f,.int .u8 o.lw]] W fun en w'=>en=.returned (.agg #[.int .u8 o.a.lv,.int .u16 o.a.mp,.int .u8 o.a.iv,.string (bs o.a.md)])∧Below W.heap.size W w'):=hd0 (own20_any o (.slice sa L sc))
 have RD:Hid (∀ (x:Int) W,RX W ks v r→Calls Tryz.prog 105 #[.agg #[.int .u8 o.a.lv,.int .u16 o.a.mp,.int .u8 o.a.iv,.string (bs o.a.md)],.slice sa L sc,v.hv,.int .u16 x] W fun en w'=>en=.returned (.bool (rdiC o.a ks r.hd x))∧Below W.heap.size W w'):=hd0 fun x W hx=>by
  have h:=rdi_any o.a v.ov v.hv ks r.hd x W hx.ks hkl hx.hd hr.hl hr.hd
  rw[hsv] at h;exact h
 rw[hP] at HP ⊢
 have HCS:=hd0 (show(rfA o v r)[0]?=some (.int .u8 o.a.lv)∧(rfA o v r)[1]?=some (.int .u8 o.a.iv)∧(rfA o v r)[2]?=some (.string (bs o.a.md))∧(rfA o v r)[3]?=some (.int .u16 o.a.mp)∧(rfA o v r)[4]?=some (.slice sa L sc)∧(rfA o v r)[5]?=some (.int .u8 o.mc.a)∧(rfA o v r)[6]?=some (.int .u8 o.mc.b)∧(rfA o v r)[7]?=some (.int .u8 o.mc.c)∧(rfA o v r)[8]?=some (.int .u8 o.mc.d)∧(rfA o v r)[9]?=some (.int .u8 o.mc.e)∧(rfA o v r)[10]?=some (.int .u8 o.mc.f)∧(rfA o v r)[11]?=some (.int .u8 o.lw)∧(rfA o v r)[12]?=some v.hv by rw[←hsv];exact⟨rfl,rfl,rfl,rfl,rfl,rfl,rfl,rfl,rfl,rfl,rfl,rfl,rfl⟩)
 have HIL:=hd0 (show(Tryz.prog.info? 44).map (·.size)=some (rfA o v r).toList.length by show _=some 22;kernel_rfl)
 obtain⟨A,hA⟩:∃ A,rfA o v r=A:=⟨_,rfl⟩
 have HA:=hd0 hA
 rw[hA] at LF B0 HCS HIL ⊢
 obtain⟨B,hB⟩:∃ B,w.heap.size=B:=⟨_,rfl⟩
 have HB:=hd0 hB
 obtain⟨C,hC⟩:∃ n:Nat,n=8192:=⟨_,rfl⟩
 have HC:=hd0 hC
 rw[←hC]
 clear hsv hsh hLL hkl hC hkb hA hr hP h
 go_enter Tryz.func64,Tryz.ntmps64
 go_upto_region 1 with fail
 obtain⟨w0,hw0⟩:∃ k,w.alloc (.cells A 44)=k:=⟨_,rfl⟩
 have B1:Hid (RfB w w0 o ks v r):=hd0 (by rw[←hw0];exact B0.out)
 rw[hw0]
 clear hw0 B0
 go_upto_region 2 with fail
 go_wp2_with fail
 go_loopw [3,4,5] (fun u n _ wr=>∃ N:Nat,1≤N∧N≤8192∧n=.int .u16 N∧Hid (Ow 1 (fun x:Int=>[encU x]) 22 wr (B+1) u (pickN P ks N))∧Hid (RfB w wr o ks v r)) (fun _ n _ _=>8192-(intOf n).toNat)
 case atStart=>exact⟨1,Nat.le_refl _,by omega,rfl,hd0 (by rw[pickN_one HKB.out];exact Ow.none _ _),B1⟩
 case round =>
  obtain⟨N,hN1,hN,rfl,HO,HW⟩:=hrel
  have hNb:(N:Int)<8193:=by omega
  by_cases hlt:N<8192
  rotate_left
  ·obtain rfl:N=8192:=by omega
   have dk:decide (((8192:Nat):Int)<8192)=false:=by decide
   clear hlt hN
   go_wp2
   go_ret
   exact⟨_,rfl,by rw[HB.out,HC.out];exact HO.out.wk (by omega),HW.out.bel⟩
  have dk:decide ((N:Int)<8192)=true:=decide_eq_true (by omega)
  have hw1:IntKind.u16.wrap ((N:Int)+1)=(N:Int)+1:=IntWalk.u16_in _ (by omega)
  go_wp2_with fail
  go_loopw [3,5] (fun u i wx=>∃ j:Nat,j≤L∧i=.int .i64 j∧Hid (Ow 1 (fun x:Int=>[encU x]) 22 wx (B+1) u (pickN P ks N++((ks.take j).filter (eqN N)).filter P))∧Hid (RfB w wx o ks v r)) (fun _ i _=>L-(intOf i).toNat)
  case atStart=>exact⟨0,Nat.zero_le _,rfl,hd0 (by rw[List.take_zero,List.filter_nil,List.filter_nil,List.append_nil];exact HO.out),HW⟩
  case round =>
   obtain⟨j,hj,rfl,HO2,HW2⟩:=hrel
   have c4:wr.cell? ⟨B,4,none⟩=some (.slice sa L sc):=by rw[←HB.out];exact HW2.out.gb.c 4 _ (by rw[HA.out];exact HCS.out.2.2.2.2.1)
   have hjb:(j:Int)<1001:=by omega
   by_cases hlt2:j<L
   rotate_left
   ·obtain rfl:j=L:=by omega
    have dk2:decide ((j:Int)<(j:Int))=false:=decide_eq_false (by omega)
    have HO3:Hid (Ow 1 (fun x:Int=>[encU x]) 22 wr (B+1) u3 (pickN P ks (N+1))):=hd0 (by
     have h:=HO2.out
     rw[List.take_of_length_le (by rw[HL.out];exact Nat.le_refl _),← pickN_succ] at h
     exact h)
    clear hlt2 hj
    go_wp2
    exact⟨⟨N+1,by omega,by omega,by go_num,HO3,HW2⟩,by simp[intOf];omega⟩
   have dk2:decide ((j:Int)<(L:Int))=true:=decide_eq_true (by omega)
   obtain⟨b,off,rfl,hcc⟩:=HSH.out.resolve_left (by intro h;have:=HL.out;rw[h] at this;simp at this;omega)
   have hjl:j<ks.length:=by rw[HL.out];exact hlt2
   obtain⟨x,hx⟩:∃ x,ks[j]=x:=⟨_,rfl⟩
   have hxc:w.cell? ⟨b,off+j,none⟩=some (.int .u16 x):=by
    have:=hcc j hjl 0 (by decide)
    simp only[Nat.mul_one,Nat.add_zero] at this
    rw[this,← hx];rfl
   have CX:Hid (∀ W,Below w.heap.size w W→W.cell? ⟨b,off+j,none⟩=some (.int .u16 x)):=hd0 fun W hW=>(hW.cell (World.block_lt_of_cell? w _ hxc)).trans hxc
   clear c4
   have HTE:=hd0 (take_pick (N:=N) (p:=P) hjl hx)
   have hxb:0≤x∧x<65536:=by have:=HKB.out _ (List.getElem_mem hjl);rw[hx] at this;omega
   have HLN:Hid ((pickN P ks N++((ks.take j).filter (eqN N)).filter P).length≤100000000):=hd0 (by
    have h1:=pickN_len P ks N
    have h2:=List.length_filter_le (eqN N) (ks.take j)
    have h5:=List.length_filter_le P ((ks.take j).filter (eqN N))
    have h3:(ks.take j).length≤L:=by rw[←HL.out];simp;omega
    have h4:N*ks.length≤8192*1000:=Nat.mul_le_mul (by omega) (by rw[HL.out];omega)
    rw[List.length_append];omega)
   clear hcc hx hxc hjl
   obtain⟨Z,hZ⟩:∃ Z,leftC o.a ks r.hd 1 x r.nw=Z:=⟨_,rfl⟩
   obtain⟨E,hE⟩:∃ E,rdiC o.a ks r.hd x=E:=⟨_,rfl⟩
   have HPZ:=hd0 (show P x=(decide (0<Z)&&E) by rw[HP.out,hZ,hE])
   have LX:Hid (∀ (kk:Later wr),RfB w kk.out o ks v r):=hd0 fun kk=>HW2.out.later kk.h
   have LZ:∀ kk:Later wr,Calls Tryz.prog 81 #[.agg A,.int .i64 1,.int .u16 x] kk.out fun en w'=>en=.returned (.int .i64 Z)∧Below kk.out.heap.size kk.out w':=fun kk=>by rw[←hZ];exact LF.out x _ (LX.out kk).rx
   have RZ:∀ kk:Later wr,Calls Tryz.prog 105 #[.agg #[.int .u8 o.a.lv,.int .u16 o.a.mp,.int .u8 o.a.iv,.string (bs o.a.md)],.slice (some ⟨b,off,none⟩) L sc,v.hv,.int .u16 x] kk.out fun en w'=>en=.returned (.bool E)∧Below kk.out.heap.size kk.out w':=fun kk=>by rw[←hE];exact RD.out x _ (LX.out kk).rx
   have LDS:∀ kk:Later wr,(Instr.loadAt 44 (.pointer (some ⟨B,0,none⟩))).run Tryz.prog kk.out=.ok (.agg A) kk.out:=fun kk=>by
    have h:=(LX.out kk).gb.range
    rw[HA.out,HB.out] at h
    exact run_loadAt_mid (P:=Tryz.prog) kk.out B 0 44 A.toList _ h Tryz.underlying44 rfl HIL.out
   obtain⟨D,hD⟩:∃ D,(eqN N x&&P x)=D:=⟨_,rfl⟩
   clear hZ hE
   have c4:wr.cell? ⟨B,4,none⟩=some (.slice (some ⟨b,off,none⟩) L sc):=by rw[←HB.out];exact HW2.out.gb.c 4 _ (by rw[HA.out];exact HCS.out.2.2.2.2.1)
   go_upto_region 8 with fail
   go_cut [43] (fun s43 wx=>s43=.bool D∧Hid (Below wr.heap.size wr wx))
   case first =>
    have cx:∀ kk:Later wr,kk.out.cell? ⟨b,off+j,none⟩=some (.int .u16 x):=fun kk=>CX.out _ (LX.out kk).bel
    have k0:∀ kk:Later wr,kk.out.cell? ⟨B,0,none⟩=some (.int .u8 o.a.lv):=fun kk=>by rw[←HB.out];exact(LX.out kk).gb.c 0 _ (by rw[HA.out];exact HCS.out.1)
    have k1:∀ kk:Later wr,kk.out.cell? ⟨B,1,none⟩=some (.int .u8 o.a.iv):=fun kk=>by rw[←HB.out];exact(LX.out kk).gb.c 1 _ (by rw[HA.out];exact HCS.out.2.1)
    have k2:∀ kk:Later wr,kk.out.cell? ⟨B,2,none⟩=some (.string (bs o.a.md)):=fun kk=>by rw[←HB.out];exact(LX.out kk).gb.c 2 _ (by rw[HA.out];exact HCS.out.2.2.1)
    have k3:∀ kk:Later wr,kk.out.cell? ⟨B,3,none⟩=some (.int .u16 o.a.mp):=fun kk=>by rw[←HB.out];exact(LX.out kk).gb.c 3 _ (by rw[HA.out];exact HCS.out.2.2.2.1)
    have k4:∀ kk:Later wr,kk.out.cell? ⟨B,4,none⟩=some (.slice (some ⟨b,off,none⟩) L sc):=fun kk=>by rw[←HB.out];exact(LX.out kk).gb.c 4 _ (by rw[HA.out];exact HCS.out.2.2.2.2.1)
    have k5:∀ kk:Later wr,kk.out.cell? ⟨B,5,none⟩=some (.int .u8 o.mc.a):=fun kk=>by rw[←HB.out];exact(LX.out kk).gb.c 5 _ (by rw[HA.out];exact HCS.out.2.2.2.2.2.1)
    have k6:∀ kk:Later wr,kk.out.cell? ⟨B,6,none⟩=some (.int .u8 o.mc.b):=fun kk=>by rw[←HB.out];exact(LX.out kk).gb.c 6 _ (by rw[HA.out];exact HCS.out.2.2.2.2.2.2.1)
    have k7:∀ kk:Later wr,kk.out.cell? ⟨B,7,none⟩=some (.int .u8 o.mc.c):=fun kk=>by rw[←HB.out];exact(LX.out kk).gb.c 7 _ (by rw[HA.out];exact HCS.out.2.2.2.2.2.2.2.1)
    have k8:∀ kk:Later wr,kk.out.cell? ⟨B,8,none⟩=some (.int .u8 o.mc.d):=fun kk=>by rw[←HB.out];exact(LX.out kk).gb.c 8 _ (by rw[HA.out];exact HCS.out.2.2.2.2.2.2.2.2.1)
    have k9:∀ kk:Later wr,kk.out.cell? ⟨B,9,none⟩=some (.int .u8 o.mc.e):=fun kk=>by rw[←HB.out];exact(LX.out kk).gb.c 9 _ (by rw[HA.out];exact HCS.out.2.2.2.2.2.2.2.2.2.1)
    have k10:∀ kk:Later wr,kk.out.cell? ⟨B,10,none⟩=some (.int .u8 o.mc.f):=fun kk=>by rw[←HB.out];exact(LX.out kk).gb.c 10 _ (by rw[HA.out];exact HCS.out.2.2.2.2.2.2.2.2.2.2.1)
    have k11:∀ kk:Later wr,kk.out.cell? ⟨B,11,none⟩=some (.int .u8 o.lw):=fun kk=>by rw[←HB.out];exact(LX.out kk).gb.c 11 _ (by rw[HA.out];exact HCS.out.2.2.2.2.2.2.2.2.2.2.2.1)
    have k12:∀ kk:Later wr,kk.out.cell? ⟨B,12,none⟩=some (v.hv):=fun kk=>by rw[←HB.out];exact(LX.out kk).gb.c 12 _ (by rw[HA.out];exact HCS.out.2.2.2.2.2.2.2.2.2.2.2.2)
    by_cases he:x=(N:Int)
    ·subst he
     have e1:((N:Int)==(N:Int))=true:=by simp
     by_cases hz:0<Z
     ·have z1:decide (0<Z)=true:=decide_eq_true hz
      obtain rfl:D=E:=by rw[←hD,show eqN N (N:Int)=true from e1,HPZ.out,z1];rfl
      clear hz hD
      refine wp_region_later (by kernel_rfl) (by kernel_rfl) ?_
      repeat (go_big_quiet_step (first|(go_at_call 81;exact Calls.later (LZ _))|(go_at_call 31;exact Calls.later (OW.out _))|(go_at_call 105;exact Calls.later (RZ _))))
      refine wpQuiet_loadA 44 (.tmp 1) B A rfl rfl rfl (by rintro _ ⟨k,rfl⟩;exact LDS k) ?_
      try simp only[Act.put,zz]
      repeat (go_big_quiet_step (first|(go_at_call 81;exact Calls.later (LZ _))|(go_at_call 31;exact Calls.later (OW.out _))|(go_at_call 105;exact Calls.later (RZ _))))
      refine wpQuiet_nil ?_
      rintro _ ⟨kk,rfl⟩
      go_wp2_with fail
      go_meet
      exact⟨rfl,hd0 kk.h⟩
     ·have z1:decide (0<Z)=false:=decide_eq_false hz
      obtain rfl:D=false:=by rw[←hD,show eqN N (N:Int)=true from e1,HPZ.out,z1];rfl
      clear hz hD
      refine wp_region_later (by kernel_rfl) (by kernel_rfl) ?_
      repeat (go_big_quiet_step (first|(go_at_call 81;exact Calls.later (LZ _))|(go_at_call 31;exact Calls.later (OW.out _))|(go_at_call 105;exact Calls.later (RZ _))))
      refine wpQuiet_loadA 44 (.tmp 1) B A rfl rfl rfl (by rintro _ ⟨k,rfl⟩;exact LDS k) ?_
      try simp only[Act.put,zz]
      repeat (go_big_quiet_step (first|(go_at_call 81;exact Calls.later (LZ _))|(go_at_call 31;exact Calls.later (OW.out _))|(go_at_call 105;exact Calls.later (RZ _))))
      refine wpQuiet_nil ?_
      rintro _ ⟨kk,rfl⟩
      go_wp2_with fail
      go_meet
      exact⟨rfl,hd0 kk.h⟩
    ·have e1:(x==(N:Int))=false:=by rw[beq_eq_false_iff_ne];exact he
     have hD2:D=false:=by rw[←hD,show eqN N x=false from e1];rfl
     subst hD2
     clear he
     refine wp_region_later (by kernel_rfl) (by kernel_rfl) ?_
     repeat (go_big_quiet_step (fail))
     refine wpQuiet_nil ?_
     rintro _ ⟨kk,rfl⟩
     go_wp2_with fail
     go_meet
     exact⟨rfl,hd0 kk.h⟩
   case rest =>
    obtain⟨rfl,HB8⟩:=hcut
    have HO4:=hd0 (HO2.out.later HB8.out)
    have HW4:=hd0 (HW2.out.later HB8.out)
    clear HB8 HO2 HW2 LX LZ RZ LDS c4 CX
    cases D with
    | true =>
     have hD2:=(Bool.and_eq_true _ _).mp hD
     obtain rfl:x=(N:Int):=by have:=hD2.1;unfold eqN at this;exact eq_of_beq this
     have HTE2:Hid (((ks.take (j+1)).filter (eqN N)).filter P=((ks.take j).filter (eqN N)).filter P++[(N:Int)]):=hd0 (by rw[HTE.out,if_pos hD2])
     clear HTE hD hD2 HPZ
     go_wp2_with (first
      |(at_builtin;refine wpList_append_rw oU_len oU_one 22 23 (.int .u16 0) 2 Tryz.underlying23 info_u16 rfl (by decide) (by decide) rfl (.tmp 44) (.tmp 46) rfl (B+1) _ (pickN P ks N++((ks.take j).filter (eqN N)).filter P) rfl (HO4.out.later (bA _)) _ [(N:Int)] rfl ((Ow.lit (E:=22) oU_len _ 0 (N:Int) #[encU (N:Int)] rfl (Nat.zero_le _)).rw oU_len) (by have:=HLN.out;rw[List.length_singleton];omega) (by have:=HW4.out.gb.lt;rw[HB.out] at this;simp;omega) ?_;intro v1 w5 hown1 hb5;have HO1:=hd0 hown1;have HB1:Hid (RfB w w5 o ks v r):=hd0 (RfB.app HX.out HW4.out (by rw[HB.out];exact hb5));clear hown1 hb5))
     exact⟨⟨j+1,by omega,by go_num,hd0 (by rw[HTE2.out,← List.append_assoc];exact HO1.out),HB1⟩,by simp[intOf];omega⟩
    | false =>
     have HTE2:Hid (((ks.take (j+1)).filter (eqN N)).filter P=((ks.take j).filter (eqN N)).filter P):=hd0 (by rw[HTE.out,if_neg (by rintro ⟨h1,h2⟩;rw[h1,h2] at hD;cases hD),List.append_nil])
     clear HTE hD HPZ
     go_wp2_with fail
     exact⟨⟨j+1,by omega,by go_num,hd0 (by rw[HTE2.out];exact HO4.out),HW4⟩,by simp[intOf];omega⟩
def worst20 (o:Ow20)(ks:List Int)(r:Rf):Int:=if 0<leftC o.a ks r.hd 3 0 r.nw then 4 else if 0<leftC o.a ks r.hd 2 0 r.nw then 3 else if 0<(lost20 o ks r).length then 2 else if 0<(rdis20 o ks r).length then 1 else 0
theorem worst20_b (o:Ow20)(ks:List Int)(r:Rf):0≤worst20 o ks r∧worst20 o ks r<5:=by
 unfold worst20
 (repeat' split) <;> constructor <;> omega
def told20 (o:Ow20)(r:Rf):Int:=(atA o.lw r.ws.reverse).2.1
theorem Ow.sh {α:Type}{k:Nat}{f:α→List Value}{E:TypeId}{w:World}{B:Nat}{v:Value}{l:List α}(h:Ow k f E w B v l)(hf:∀ x,(f x).length=k):∃ a c,v=.slice a l.length c:=by
 obtain⟨a,c,h,-⟩:=(h.rw hf).shape
 exact⟨a,c,h⟩
theorem worst20_any (o:Ow20)(ks:List Int)(hkl:ks.length≤1000)(hkb:∀ x∈ks,1≤x∧x≤8191)(v:Rv)(r:Rf)(hr:r.Ok)(w:World)(h:RX w ks v r):Calls Tryz.prog 41 #[.agg (rfA o v r)] w fun en w'=>en=.returned (.int .u8 (worst20 o ks r))∧Below w.heap.size w w':=by
 have B0:=hd0 (RfB.begin (o:=o) h)
 have LF:Hid (∀ (kd:Int) W,RX W ks v r→Calls Tryz.prog 81 #[.agg (rfA o v r),.int .i64 kd,.int .u16 0] W fun en w'=>en=.returned (.int .i64 (leftC o.a ks r.hd kd 0 r.nw))∧Below W.heap.size W w'):=hd0 fun kd W hx=>left20_any o ks hkl v r hr kd 0 W hx
 have LO:Hid (∀ W,RX W ks v r→Calls Tryz.prog 63 #[.agg (rfA o v r)] W fun en w'=>∃ a c,en=.returned (.slice a (lost20 o ks r).length c)∧Below W.heap.size W w'):=hd0 fun W hx=>(lost20_any o ks hkl hkb v r hr W hx).mono fun en w' ⟨u,he,ho,hb⟩=>by
  obtain⟨a,c,rfl⟩:=ho.sh oU_len
  exact⟨a,c,he,hb⟩
 have RO:Hid (∀ W,RX W ks v r→Calls Tryz.prog 64 #[.agg (rfA o v r)] W fun en w'=>∃ a c,en=.returned (.slice a (rdis20 o ks r).length c)∧Below W.heap.size W w'):=hd0 fun W hx=>(rdis20_any o ks hkl hkb v r hr W hx).mono fun en w' ⟨u,he,ho,hb⟩=>by
  obtain⟨a,c,rfl⟩:=ho.sh oU_len
  exact⟨a,c,he,hb⟩
 obtain⟨R,hR⟩:∃ R,worst20 o ks r=R:=⟨_,rfl⟩
 have HR:=hd0 hR.symm
 unfold worst20 at HR
 rw[hR]
 obtain⟨X3,h3⟩:∃ z,leftC o.a ks r.hd 3 0 r.nw=z:=⟨_,rfl⟩
 obtain⟨X2,h2⟩:∃ z,leftC o.a ks r.hd 2 0 r.nw=z:=⟨_,rfl⟩
 obtain⟨n1,h1⟩:∃ z,(lost20 o ks r).length=z:=⟨_,rfl⟩
 obtain⟨n0,h0⟩:∃ z,(rdis20 o ks r).length=z:=⟨_,rfl⟩
 have L3:=hd0 (fun W hx=>LF.out 3 W hx)
 have L2:=hd0 (fun W hx=>LF.out 2 W hx)
 rw[h3] at HR L3
 rw[h2] at HR L2
 rw[h1] at HR LO
 rw[h0] at HR RO
 have HIL:=hd0 (show(Tryz.prog.info? 44).map (·.size)=some (rfA o v r).toList.length by show _=some 22;kernel_rfl)
 obtain⟨A,hA⟩:∃ A,rfA o v r=A:=⟨_,rfl⟩
 have HA:=hd0 hA
 rw[hA] at L3 L2 LO RO B0 HIL ⊢
 clear h3 h2 h1 h0 hR hA hr hkb hkl h LF
 go_enter Tryz.func41,Tryz.ntmps41
 go_upto_region 1 with fail
 obtain⟨w0,hw0⟩:∃ k,w.alloc (.cells A 44)=k:=⟨_,rfl⟩
 have B1:Hid (RfB w w0 o ks v r):=hd0 (by rw[←hw0];exact B0.out)
 rw[hw0]
 clear hw0 B0
 have rg1:w0.rangeAt w.heap.size 0 A.toList:=by rw[←HA.out];exact B1.out.gb.range
 by_cases z3:0<X3
 ·have d3:decide (0<X3)=true:=decide_eq_true z3
  go_wp2_with (first
   |((with_reducible refine wpList_load_mid rfl 44 (.tmp 1) rfl w.heap.size 0 ?hx A.toList _ rg1 Tryz.underlying44 ?hu HIL.out ?_);(case hx=>rfl);(case hu=>rfl))
   |(go_at_call 81;(with_reducible refine(L3.out _ B1.out.rx).mono ?_);rintro en w2 ⟨rfl,hb2⟩;have B2:=hd0 (B1.out.later hb2);clear hb2))
  go_ret
  exact⟨by rw[HR.out,if_pos z3];rfl,B2.out.bel⟩
 have d3:decide (0<X3)=false:=decide_eq_false z3
 have HR2:=hd0 HR.out
 rw[if_neg z3] at HR2
 clear HR z3
 by_cases z2:0<X2
 ·have d2:decide (0<X2)=true:=decide_eq_true z2
  go_wp2_with (first
   |((with_reducible refine wpList_load_mid rfl 44 (.tmp 1) rfl w.heap.size 0 ?hx A.toList _ rg1 Tryz.underlying44 ?hu HIL.out ?_);(case hx=>rfl);(case hu=>rfl))
   |((with_reducible refine wpList_load_mid rfl 44 (.tmp 1) rfl w.heap.size 0 ?hx A.toList _ rg2 Tryz.underlying44 ?hu HIL.out ?_);(case hx=>rfl);(case hu=>rfl))
   |(go_at_call 81;(first
    |((with_reducible refine(L3.out _ B1.out.rx).mono ?_);rintro en w2 ⟨rfl,hb2⟩;have B2:=hd0 (B1.out.later hb2);clear hb2;have rg2:w2.rangeAt w.heap.size 0 A.toList:=by rw[←HA.out];exact B2.out.gb.range)
    |((with_reducible refine(L2.out _ B2.out.rx).mono ?_);rintro en w3 ⟨rfl,hb3⟩;have B3:=hd0 (B2.out.later hb3);clear hb3;have rg3:w3.rangeAt w.heap.size 0 A.toList:=by rw[←HA.out];exact B3.out.gb.range))))
  go_ret
  exact⟨by rw[HR2.out,if_pos z2];rfl,B3.out.bel⟩
 have d2:decide (0<X2)=false:=decide_eq_false z2
 have HR3:=hd0 HR2.out
 rw[if_neg z2] at HR3
 clear HR2 z2
 by_cases z1:0<n1
 ·have d1:decide (0<n1)=true:=decide_eq_true z1
  go_wp2_with (first
   |((with_reducible refine wpList_load_mid rfl 44 (.tmp 1) rfl w.heap.size 0 ?hx A.toList _ rg1 Tryz.underlying44 ?hu HIL.out ?_);(case hx=>rfl);(case hu=>rfl))
   |((with_reducible refine wpList_load_mid rfl 44 (.tmp 1) rfl w.heap.size 0 ?hx A.toList _ rg2 Tryz.underlying44 ?hu HIL.out ?_);(case hx=>rfl);(case hu=>rfl))
   |((with_reducible refine wpList_load_mid rfl 44 (.tmp 1) rfl w.heap.size 0 ?hx A.toList _ rg3 Tryz.underlying44 ?hu HIL.out ?_);(case hx=>rfl);(case hu=>rfl))
   |(go_at_call 63;(with_reducible refine(LO.out _ B3.out.rx).mono ?_);rintro en w4 ⟨la,lc,rfl,hb4⟩;have B4:=hd0 (B3.out.later hb4);clear hb4;have rg4:w4.rangeAt w.heap.size 0 A.toList:=by rw[←HA.out];exact B4.out.gb.range)
   |(go_at_call 81;(first
    |((with_reducible refine(L3.out _ B1.out.rx).mono ?_);rintro en w2 ⟨rfl,hb2⟩;have B2:=hd0 (B1.out.later hb2);clear hb2;have rg2:w2.rangeAt w.heap.size 0 A.toList:=by rw[←HA.out];exact B2.out.gb.range)
    |((with_reducible refine(L2.out _ B2.out.rx).mono ?_);rintro en w3 ⟨rfl,hb3⟩;have B3:=hd0 (B2.out.later hb3);clear hb3;have rg3:w3.rangeAt w.heap.size 0 A.toList:=by rw[←HA.out];exact B3.out.gb.range))))
  go_ret
  exact⟨by rw[HR3.out,if_pos z1];rfl,B4.out.bel⟩
 have d1:decide (0<n1)=false:=decide_eq_false z1
 have HR4:=hd0 HR3.out
 rw[if_neg z1] at HR4
 clear HR3 z1
 by_cases z0:0<n0
 ·have d0:decide (0<n0)=true:=decide_eq_true z0
  go_wp2_with (first
   |((with_reducible refine wpList_load_mid rfl 44 (.tmp 1) rfl w.heap.size 0 ?hx A.toList _ rg1 Tryz.underlying44 ?hu HIL.out ?_);(case hx=>rfl);(case hu=>rfl))
   |((with_reducible refine wpList_load_mid rfl 44 (.tmp 1) rfl w.heap.size 0 ?hx A.toList _ rg2 Tryz.underlying44 ?hu HIL.out ?_);(case hx=>rfl);(case hu=>rfl))
   |((with_reducible refine wpList_load_mid rfl 44 (.tmp 1) rfl w.heap.size 0 ?hx A.toList _ rg3 Tryz.underlying44 ?hu HIL.out ?_);(case hx=>rfl);(case hu=>rfl))
   |((with_reducible refine wpList_load_mid rfl 44 (.tmp 1) rfl w.heap.size 0 ?hx A.toList _ rg4 Tryz.underlying44 ?hu HIL.out ?_);(case hx=>rfl);(case hu=>rfl))
   |(go_at_call 64;(with_reducible refine(RO.out _ B4.out.rx).mono ?_);rintro en w5 ⟨ra,rc,rfl,hb5⟩;have B5:=hd0 (B4.out.later hb5);clear hb5)
   |(go_at_call 63;(with_reducible refine(LO.out _ B3.out.rx).mono ?_);rintro en w4 ⟨la,lc,rfl,hb4⟩;have B4:=hd0 (B3.out.later hb4);clear hb4;have rg4:w4.rangeAt w.heap.size 0 A.toList:=by rw[←HA.out];exact B4.out.gb.range)
   |(go_at_call 81;(first
    |((with_reducible refine(L3.out _ B1.out.rx).mono ?_);rintro en w2 ⟨rfl,hb2⟩;have B2:=hd0 (B1.out.later hb2);clear hb2;have rg2:w2.rangeAt w.heap.size 0 A.toList:=by rw[←HA.out];exact B2.out.gb.range)
    |((with_reducible refine(L2.out _ B2.out.rx).mono ?_);rintro en w3 ⟨rfl,hb3⟩;have B3:=hd0 (B2.out.later hb3);clear hb3;have rg3:w3.rangeAt w.heap.size 0 A.toList:=by rw[←HA.out];exact B3.out.gb.range))))
  go_ret
  exact⟨by rw[HR4.out,if_pos z0];rfl,B5.out.bel⟩
 have d0:decide (0<n0)=false:=decide_eq_false z0
 go_wp2_with (first
   |((with_reducible refine wpList_load_mid rfl 44 (.tmp 1) rfl w.heap.size 0 ?hx A.toList _ rg1 Tryz.underlying44 ?hu HIL.out ?_);(case hx=>rfl);(case hu=>rfl))
   |((with_reducible refine wpList_load_mid rfl 44 (.tmp 1) rfl w.heap.size 0 ?hx A.toList _ rg2 Tryz.underlying44 ?hu HIL.out ?_);(case hx=>rfl);(case hu=>rfl))
   |((with_reducible refine wpList_load_mid rfl 44 (.tmp 1) rfl w.heap.size 0 ?hx A.toList _ rg3 Tryz.underlying44 ?hu HIL.out ?_);(case hx=>rfl);(case hu=>rfl))
   |((with_reducible refine wpList_load_mid rfl 44 (.tmp 1) rfl w.heap.size 0 ?hx A.toList _ rg4 Tryz.underlying44 ?hu HIL.out ?_);(case hx=>rfl);(case hu=>rfl))
   |(go_at_call 64;(with_reducible refine(RO.out _ B4.out.rx).mono ?_);rintro en w5 ⟨ra,rc,rfl,hb5⟩;have B5:=hd0 (B4.out.later hb5);clear hb5)
   |(go_at_call 63;(with_reducible refine(LO.out _ B3.out.rx).mono ?_);rintro en w4 ⟨la,lc,rfl,hb4⟩;have B4:=hd0 (B3.out.later hb4);clear hb4;have rg4:w4.rangeAt w.heap.size 0 A.toList:=by rw[←HA.out];exact B4.out.gb.range)
   |(go_at_call 81;(first
    |((with_reducible refine(L3.out _ B1.out.rx).mono ?_);rintro en w2 ⟨rfl,hb2⟩;have B2:=hd0 (B1.out.later hb2);clear hb2;have rg2:w2.rangeAt w.heap.size 0 A.toList:=by rw[←HA.out];exact B2.out.gb.range)
    |((with_reducible refine(L2.out _ B2.out.rx).mono ?_);rintro en w3 ⟨rfl,hb3⟩;have B3:=hd0 (B2.out.later hb3);clear hb3;have rg3:w3.rangeAt w.heap.size 0 A.toList:=by rw[←HA.out];exact B3.out.gb.range))))
 go_ret
 exact⟨by rw[HR4.out,if_neg z0];rfl,B5.out.bel⟩
theorem told20_any (o:Ow20)(hlw:0≤o.lw∧o.lw<256)(ks:List Int)(v:Rv)(r:Rf)(hr:r.Ok)(hc:∃ a c,v.sv=.slice a r.ws.length c∧r.ws.length≤c)(w:World)(h:RX w ks v r):Calls Tryz.prog 65 #[.agg (rfA o v r)] w fun en w'=>en=.returned (.int .u8 (told20 o r))∧Below w.heap.size w w':=by
 have B0:=hd0 (RfB.begin (o:=o) h)
 have AT:Hid (∀ W,RX W ks v r→Calls Tryz.prog 42 #[.int .u8 o.lw,v.sv] W fun en w'=>en=.returned (.tuple #[.int .u8 (atA o.lw r.ws.reverse).1,.int .u8 (atA o.lw r.ws.reverse).2.1,.int .u8 (atA o.lw r.ws.reverse).2.2])∧w'=W):=hd0 fun W hx=>at19_any o.lw hlw _ v.sv r.ws W rfl hr.wl hx.ws hc hr.ws
 unfold told20
 obtain⟨⟨a1,a2,a3⟩,ha⟩:∃ z,atA o.lw r.ws.reverse=z:=⟨_,rfl⟩
 rw[ha] at AT ⊢
 simp only[] at AT ⊢
 clear ha hr hc hlw h
 go_enter Tryz.func65,Tryz.ntmps65
 go_upto_region 1 with fail
 obtain⟨w0,hw0⟩:∃ k,w.alloc (.cells (rfA o v r) 44)=k:=⟨_,rfl⟩
 have B1:Hid (RfB w w0 o ks v r):=hd0 (by rw[←hw0];exact B0.out)
 rw[hw0]
 clear hw0 B0
 have k11:w0.cell? ⟨w.heap.size,11,none⟩=some (.int .u8 o.lw):=B1.out.c 11 _ rfl
 have k14:w0.cell? ⟨w.heap.size,14,none⟩=some v.sv:=B1.out.c 14 _ rfl
 go_wp2_with (go_at_call 42;(with_reducible refine(AT.out _ B1.out.rx).mono ?_);rintro en w2 ⟨rfl,rfl⟩)
 go_ret
 exact⟨rfl,B1.out.bel⟩
end Go.Proofs.YtlkdfofpnmpidaaGreat
