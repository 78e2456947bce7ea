/- ZR26 -/
import Derived.Test.YtghaobakpdninaaGreatDoorZR25
import Derived.Conc.LoneSelect
import Derived.Conc.LoneSelectN
set_option linter.unusedVariables false
set_option linter.unusedSimpArgs false
set_option maxRecDepth 100000
set_option maxHeartbeats 16000000
namespace Go.Proofs.YtghaobakpdninaaGreatDoor
open Go.RowKit
open Go.RowKit Go.Shelf
theorem BN.below {W W' W0:World}{lo hi:Nat}{P:BP}{T T0:TM}{o o0:List Int}{V V0:List Vn}{v v0:Value}{B:Nat}(h:BN W lo hi P T o V v)(h0:BN W0 lo hi P T0 o0 V0 v0)(hB:W0.heap.size≤B)(hb:Below B W W'):BN W' lo hi P T o V v:=by
 have bl:∀ x,x<W0.heap.size→W'.heap[x]?=W.heap[x]?:=fun x hx=>hb.block x (Nat.lt_of_lt_of_le hx hB)
 exact⟨(bl _ h0.gb.lt).trans h.gb,h.tr.blk (bl _ h0.tr.tm.lt) (bl _ h0.tr.row.lt),⟨(bl _ h0.rl.g.lt).trans h.rl.g,h.rl.ts.blk (bl _ h0.rl.ts.tb.lt) (bl _ h0.rl.ts.vm.lt),h.rl.ft.blk (bl _ h0.rl.ft.g.lt) (bl _ h0.rl.ft.m.lt),h.rl.nr⟩,h.nb,h.nm,h.ng,h.bi⟩
abbrev PostD (lo hi:Nat)(P:BP)(T:TM)(o:List Int)(V:List Vn)(op:Int)(d:List UInt8)(w:World)(en:Ending)(w':World):Prop :=
 (∃ g c,en=.returned (.slice (some ⟨g,0,none⟩) 1 c)∧Rw 2 sdC w' (.slice (some ⟨g,0,none⟩) 1 c) [(op,d)]∧w.heap.size≤g)∧(∃ v',BN w' lo hi P T o V v')∧Only P.f w w'
theorem PostD.back {lo hi:Nat}{P:BP}{T:TM}{o:List Int}{V:List Vn}{op:Int}{d:List UInt8}{w0 w:World}(hb:Below w0.heap.size w0 w){en:Ending}{w':World}(h:PostD lo hi P T o V op d w en w'):PostD lo hi P T o V op d w0 en w':=by
 obtain⟨⟨g0,c0,e0,r0,l0⟩,h3,h4⟩:=h
 exact⟨⟨g0,c0,e0,r0,Nat.le_trans hb.size l0⟩,h3,(below_only hb).trans h4⟩
theorem sdCells {W:World}{sg:Nat}{x:Int × List UInt8}(h:Rw 2 sdC W (.slice (some ⟨sg,0,none⟩) 1 1) [x]):∀ j (hj:j<[x].length) i,i<2→W.cell? ⟨sg,j*2+i,none⟩=(sdC [x][j])[i]?:=fun j hj i hi=>by
 rcases h with⟨h1,_⟩|⟨ad,c,h1,h0|⟨b,off,h3,h2⟩⟩
 ·cases h1
 ·cases h0
 ·injection h1 with h1 _ _
  injection h1 with h1
  rw[h3] at h1
  injection h1 with h1 h4 _
  subst h1 h4
  have:=h2 j hj i hi
  simpa using this
section
attribute [local go_sem] Oper.semAt_some
theorem brelD (lo hi:Nat)(P:BP)(T:TM)(o:List Int)(V:List Vn)(v0:Value)(ip op sx:Int)(hx:0≤sx∧sx<256)(hop:∀ p:Pt sx,((p.1:Nat):Int)=op)(hll:(ptL sx 8).length=1)(A:Array Value)(hA:isFr A)(d:List UInt8)
  (FW0:∀ W,BN W lo hi P T o V v0→Calls Tryz.prog 191 #[.pointer (some ⟨P.b,0,none⟩)] W fun en w'=>en=.returned (.int .u8 3)∧Below W.heap.size W w')
  (GO0:∀ W,BN W lo hi P T o V v0→Calls Tryz.prog 190 #[.pointer (some ⟨P.r,0,none⟩),.int .i64 ip,.int .u16 1,.agg A,.int .u8 3] W fun en w'=>en=.returned (.int .u8 sx)∧(∃ v',BN w' lo hi P T o V v')∧Only P.f W w')
  (OU0:∀ W v',BN W lo hi P T o V v'→Calls Tryz.prog 192 #[.pointer (some ⟨P.b,0,none⟩),.int .u8 op,.int .u16 1,.agg A] W fun en w'=>∃ g,en=.returned (.slice (some ⟨g,0,none⟩) 1 1)∧Rw 2 sdC w' (.slice (some ⟨g,0,none⟩) 1 1) [(op,d)]∧W.heap.size≤g∧Below W.heap.size W w')
  (w:World) (h:BN w lo hi P T o V v0):CallsIn Fence.wide 3 Tryz.prog 137 #[.pointer (some ⟨P.b,0,none⟩),.int .i64 ip,.int .u16 1,.agg A] w (PostD lo hi P T o V op d w):=by
 have FW:=hd0 FW0
 have GO:=hd0 GO0
 have OU:=hd0 OU0
 have HIL:=hd0 (frame_infoL hA)
 have hL:(ptL sx 8).map (fun _=>(op,d))=[(op,d)]:=by rw[List.map_const',hll];rfl
 have HL:=hd0 hL
 have HOP:=hd0 hop
 clear FW0 GO0 OU0 hA hL hll hop
 obtain⟨n,hn⟩:∃ z,w.heap.size=z:=⟨_,rfl⟩
 have hpf:P.f<n:=by rw[←hn];exact h.rl.ft.g.lt
 have b1:=(Below.refl w.heap.size w).alloc (Nat.le_refl _) (.cells #[.pointer (some ⟨P.b,0,none⟩)] 59)
 have gB:=GB.new 59 w #[.pointer (some ⟨P.b,0,none⟩)]
 have z1:(w.alloc (.cells #[.pointer (some ⟨P.b,0,none⟩)] 59)).heap.size=n+1:=by rw[←hn];simp
 obtain⟨wa,hwa⟩:∃ z,w.alloc (.cells #[.pointer (some ⟨P.b,0,none⟩)] 59)=z:=⟨_,rfl⟩
 rw[hwa] at b1 gB z1
 have b2:=(Below.refl wa.heap.size wa).alloc (Nat.le_refl _) (.cells #[.int .u16 1] 22)
 have gV:=GB.new 22 wa #[.int .u16 1]
 have z2:(wa.alloc (.cells #[.int .u16 1] 22)).heap.size=n+2:=by simp[z1]
 obtain⟨wb,hwb⟩:∃ z,wa.alloc (.cells #[.int .u16 1] 22)=z:=⟨_,rfl⟩
 rw[hwb] at b2 gV z2
 have b3:=(Below.refl wb.heap.size wb).alloc (Nat.le_refl _) (.cells A 264)
 have gF:=GB.new 264 wb A
 have z3:(wb.alloc (.cells A 264)).heap.size=n+3:=by simp[z2]
 obtain⟨wc,hwc⟩:∃ z,wb.alloc (.cells A 264)=z:=⟨_,rfl⟩
 rw[hwc] at b3 gF z3
 have b4:=((Below.refl wc.heap.size wc).alloc (Nat.le_refl _) (.cells #[.slice none 0 0] 190)).drew
 have gO:=(GB.new 190 wc #[.slice none 0 0]).drew
 have z4:(wc.alloc (.cells #[.slice none 0 0] 190)).drew.heap.size=n+4:=by show(wc.alloc _).heap.size=_;simp[z3]
 obtain⟨wd,hwd⟩:∃ z,wc.alloc (.cells #[.slice none 0 0] 190)=z:=⟨_,rfl⟩
 rw[hwd] at b4 gO z4
 have b34:=b3.trans (b4.mono b3.size)
 have b234:=b2.trans (b34.mono b2.size)
 have bal:=b1.trans (b234.mono b1.size)
 have h0:=h.later bal
 replace gB:=gB.later b234
 replace gV:=gV.later b34
 replace gF:=gF.later b4
 rw[hn] at gB
 rw[z1] at gV
 rw[z2] at gF
 rw[z3] at gO
 have HW:=hd0 (And.intro h0 (And.intro bal (And.intro z4 gO)))
 have HG:=hd0 (And.intro gB (And.intro gV gF))
 have SX:Hid (∀ W,Below (n+3) wd.drew W→W.cell? ⟨n,0,none⟩=some (.pointer (some ⟨P.b,0,none⟩))∧W.cell? ⟨P.b,2,none⟩=some (.pointer (some ⟨P.r,0,none⟩))∧W.cell? ⟨n+1,0,none⟩=some (.int .u16 1)∧GB 264 W (n+2) A):=hd0 fun W hb =>
  ⟨(gB.below (by omega) hb).c 0 _ rfl,(h0.gb.below (by have:=h.gb.lt;omega) hb).c 2 _ rfl,(gV.below (by omega) hb).c 0 _ rfl,gF.below (by omega) hb⟩
 have HH:=hd0 h
 clear b1 b2 b3 b4 b34 b234 bal z4 gB gV gF gO h0 h
 refine callsIn_of_wp_marks Tryz.func137 rfl trivial ?_ rfl
 simp only[Tryz.ntmps137,List.size_toArray,List.length_cons,List.length_nil,Nat.reduceAdd,Nat.reduceSub,Array.replicate_succ,Array.replicate_zero,List.push_toArray,List.append_toArray,List.nil_append,List.cons_append]
 gi_wp2
 refine wpIn_wide.2 ?_
 clear hwa hwb hwc hwd z1 z2 z3
 have BD:=Below.refl (n+3) wd.drew
 refine wp_region_noPanic ?_
 refine wp_region_held_drew (S:=fun W=>W.cell? ⟨n,0,none⟩=some (.pointer (some ⟨P.b,0,none⟩))∧W.cell? ⟨P.b,2,none⟩=some (.pointer (some ⟨P.r,0,none⟩))∧W.cell? ⟨n+1,0,none⟩=some (.int .u16 1)∧GB 264 W (n+2) A) (by kernel_rfl) (SX.out _ BD) (fun hHeld=>?_)
 refine tkH 0 ?_ ?h ?_
 case h=>(intro w hSw;go_simp;try with_reducible rfl)
 try simp only[Act.put,zz]
 refine tkH 1 ?_ ?h ?_
 case h=>(intro w hSw;go_simp;try with_reducible rfl)
 try simp only[Act.put,zz]
 refine tkH 2 ?_ ?h ?_
 case h=>(intro w hSw;go_simp;try with_reducible rfl)
 try simp only[Act.put,zz]
 refine tkH 3 ?_ ?h ?_
 case h=>(intro w hSw;go_simp;try with_reducible rfl)
 try simp only[Act.put,zz]
 refine tkH 4 ?_ ?h ?_
 case h=>(intro w hSw;go_simp;try with_reducible rfl)
 try simp only[Act.put,zz]
 refine tkH 5 ?_ ?h ?_
 case h=>(intro w hSw;go_simp;try with_reducible rfl)
 try simp only[Act.put,zz]
 refine wpAnyH_take (i:=6) (v:=.agg A) rfl (by kernel_rfl) (by kernel_rfl) (by kernel_rfl) (fun _ _ _ h=>h) (Or.inl ⟨by rfl,?hy6⟩) (by assumption) ?_
 case hy6=>(intro W hSw;exact execLoad rfl rfl (hSw.2.2.2.loadAt Tryz.underlying264 rfl HIL.out))
 try simp only[Act.put,zz]
 refine tkH 7 ?_ ?h ?_
 case h=>(intro w hSw;go_simp;try with_reducible rfl)
 try simp only[Act.put,zz]
 refine rdH 8 fun K hK=>?_
 (go_simp;go_at_call 191;(with_reducible refine(FW.out _ HW.out.1).mono ?_);rintro en w5 ⟨rfl,hb⟩;have B5:=hd0 (show Below (n+3) wd.drew w5 from hb.mono (by rw[HW.out.2.2.1];omega));have H5:=hd0 (And.intro (HW.out.1.later hb) (And.intro (HW.out.2.2.2.later hb) (Nat.le_trans (Nat.le_of_eq HW.out.2.2.1.symm) hb.size)));have O5:=hd0 (HW.out.2.1.trans (hb.mono HW.out.2.1.size));refine hK.out _ _ (SX.out _ B5.out) (fun hHeld=>?_);clear hK K hb;try simp only[Act.put,zz])
 have S6:Hid (∀ W,Only P.f w5 W→W.cell? ⟨n,0,none⟩=some (.pointer (some ⟨P.b,0,none⟩))∧W.cell? ⟨n+1,0,none⟩=some (.int .u16 1)∧GB 264 W (n+2) A∧GB 190 W (n+3) #[.slice none 0 0]):=hd0 fun W ho =>
  ⟨((HG.out.1.below (by omega) B5.out).only ho (by omega)).c 0 _ rfl,((HG.out.2.1.below (by omega) B5.out).only ho (by omega)).c 0 _ rfl,(HG.out.2.2.below (by omega) B5.out).only ho (by omega),H5.out.2.1.only ho (by omega)⟩
 refine rdH 9 fun K hK=>?_
 (go_simp;go_at_call 190;(with_reducible refine(GO.out _ H5.out.1).mono ?_);rintro en w6 ⟨rfl,⟨v6,hs6⟩,hon⟩;have T6:=hd0 (S6.out _ hon);have H6:=hd0 (And.intro hs6 hon);refine hK.out _ _ ⟨T6.out.1,H6.out.1.c2,T6.out.2.1,T6.out.2.2.1⟩ (fun hHeld=>?_);clear hK K hs6 hon;try simp only[Act.put,zz])
 have c2b:(w6.alloc (.cells #[.int .u8 sx] 5)).cell? ⟨P.b,2,none⟩=some (.pointer (some ⟨P.r,0,none⟩)):=(H6.out.1.later (bAo _)).c2
 refine rdH 10 fun K hK=>?_
 (go_simp;go_at_call 189;refine(ports_any sx _).mono ?_;rintro en w7 ⟨rfl,rfl⟩;refine hK.out _ _ ⟨((bAo _).cell (World.block_lt_of_cell? _ _ T6.out.1)).trans T6.out.1,c2b,((bAo _).cell (World.block_lt_of_cell? _ _ T6.out.2.1)).trans T6.out.2.1,T6.out.2.2.1.later (bAo _)⟩ (fun hHeld=>?_);clear hK K;try simp only[Act.put,zz])
 refine wpAnyH_done (by kernel_rfl) ?_ _
 refine NoPanic.normal ?_
 have HR:=hd0 H6.out.1
 have hz6:n+4≤w6.heap.size:=Nat.le_trans H5.out.2.2 H6.out.2.size
 have b7:=(Below.refl w6.heap.size w6).alloc (Nat.le_refl _) (.cells #[.int .u8 sx] 5)
 have gS:=(GB.new 5 w6 #[.int .u8 sx]).c 0 _ rfl
 have hb7:=T6.out.2.2.2.later b7
 have hs7:(w6.alloc (.cells #[.int .u8 sx] 5)).heap.size=w6.heap.size+1:=by simp
 have hb73:=b7.mono (show n+3≤w6.heap.size by omega)
 obtain⟨w7,hw7⟩:∃ z,w6.alloc (.cells #[.int .u8 sx] 5)=z:=⟨_,rfl⟩
 rw[hw7] at gS hb7 hs7 hb73 ⊢
 obtain⟨m,hm⟩:∃ z,w6.heap.size=z:=⟨_,rfl⟩
 rw[hm] at gS hs7 hz6 ⊢
 clear hHeld c2b b7 hw7
 gi_wp2
 refine wpIn_rangeFunc_ownG rfl (by decide) (gf:=248) (lb:=#[.pointer (some ⟨m,0,none⟩)]) rfl trivial (enters_of Tryz.func248 (by kernel_rfl) rfl) (portsStops sx hx m w7 (by omega) gS) kpB_t (kpB_b (by omega)) (Below.refl _ _) (fun _=>rfl)
  (fun pre W=>(∃ v,Boxed W (n+3) 190 v∧W.ownsRow (m+1) 257 2 v (pre.map fun _=>(op,d)).length ((pre.map fun _=>(op,d)).flatMap sdC)∧True)∧Below (n+3) w7 W)
  (fun _ _ _=>False)
  (OwnFrom.and (Own.from (holdsRow_own (m+1) (n+3) 190 257 2 (fun pre:List (Pt sx)=>(pre.map fun _=>(op,d)).length) (fun pre=>(pre.map fun _=>(op,d)).flatMap sdC) (fun _ _=>True)) _) (ownFrom_below (by omega) (by omega)))
  (fun _ _ _ _ _ hs _ _=>hs)
  ⟨⟨_,hb7,World.ownsRow_nil _ _ _ _,trivial⟩,Below.refl _ _⟩
  (fun p=>{ tmps:=#[.pointer (some ⟨P.b,0,none⟩),.int .i64 ip,.int .u16 1,.agg A,.pointer (some ⟨n,0,none⟩),undef,.pointer (some ⟨n+1,0,none⟩),.pointer (some ⟨n+2,0,none⟩),.slice none 0 0,.pointer (some ⟨n+3,0,none⟩),.int .u8 (p.1:Int),.pointer (some ⟨P.b,0,none⟩),.pointer (some ⟨P.b,0,none⟩),.pointer (some ⟨P.b,2,none⟩),.pointer (some ⟨P.r,0,none⟩),.int .i64 ip,.int .u16 1,.agg A,.pointer (some ⟨P.b,0,none⟩),.int .u8 3,.int .u8 sx,.func (.func 248) #[] #[.pointer (some ⟨m,0,none⟩)],.int .u8 (p.1:Int),undef,undef,undef,undef,undef,undef,undef,undef],defers:=[] }) ?assign ?body ?done ?stop
 case assign =>
  intro l x W K hK
  gi_wp2
  exact hK
 case body =>
  rintro l pre p W ⟨⟨v,hv,hrow,-⟩,hB⟩ hlt
  rw[HOP.out p]
  have hmW:m<W.heap.size:=by have:=hB.size;omega
  have hB7:=hB
  replace hB:=hb73.trans hB
  have hBW:BN W lo hi P T o V v6:=HR.out.below HH.out (by rw[hn];omega) hB
  have cB:W.drew.cell? ⟨n,0,none⟩=some (.pointer (some ⟨P.b,0,none⟩)):=(hB.cell (p:=⟨n,0,none⟩) (by show n<n+3;omega)).trans T6.out.1
  have cV:W.drew.cell? ⟨n+1,0,none⟩=some (.int .u16 1):=(hB.cell (p:=⟨n+1,0,none⟩) (by show n+1<n+3;omega)).trans T6.out.2.1
  have gF:GB 264 W.drew (n+2) A:=(T6.out.2.2.1.below (B:=n+3) (by omega) hB).drew
  have cO:W.drew.cell? ⟨n+3,0,none⟩=some v:=hv.cell
  have OW:=hd0 (OU.out W.drew _ (hBW.later (Below.refl _ _).drew))
  have OR:Hid (Ow 2 sdC 257 W (m+1) v (pre.map fun _=>(op,d))):=hd0 hrow
  have HV:=hd0 hv
  have HBW:=hd0 hB
  have HB7:=hd0 hB7
  clear hv hrow hB hBW hB7
  gi_wp2
  refine wpIn_region_held_drew (S:=fun W=>W.cell? ⟨n,0,none⟩=some (.pointer (some ⟨P.b,0,none⟩))∧W.cell? ⟨n+1,0,none⟩=some (.int .u16 1)∧GB 264 W (n+2) A) (by kernel_rfl) (by kernel_rfl) (fun⟨_,_,h⟩=>h) ⟨cB,cV,gF⟩ (fun hHeld=>?_)
  refine tkH 1 ?_ ?h ?_
  case h=>(intro w hSw;go_simp;try with_reducible rfl)
  try simp only[Act.put,zz]
  refine tkH 2 ?_ ?h ?_
  case h=>(intro w hSw;go_simp;try with_reducible rfl)
  try simp only[Act.put,zz]
  refine tkH 3 ?_ ?h ?_
  case h=>(intro w hSw;go_simp;try with_reducible rfl)
  try simp only[Act.put,zz]
  refine wpAnyH_take (i:=4) (v:=.agg A) rfl (by kernel_rfl) (by kernel_rfl) (by kernel_rfl) (fun _ _ _ h=>h) (Or.inl ⟨by rfl,?hy4⟩) (by assumption) ?_
  case hy4=>(intro W hSw;exact execLoad rfl rfl (hSw.2.2.loadAt Tryz.underlying264 rfl HIL.out))
  try simp only[Act.put,zz]
  refine wpAnyH_ready (rs:=[0,5]) (by kernel_rfl) (by simp) (AllReadyH.cons rfl (fun K hK=>?_) (AllReadyH.cons rfl (fun K hK=>?_) AllReadyH.nil))
  ·(go_simp;refine hK.out _ _ ⟨cB,cV,gF⟩ (fun hHeld=>?_);clear hK K;try simp only[Act.put,zz])
   refine rdH 5 fun K hK=>?_
   (go_simp;go_at_call 192;(with_reducible refine OW.out.mono ?_);rintro en w8 ⟨sg,rfl,hrs,hsg,hb⟩;have B8:=hd0 (show Below W.heap.size W w8 from(Below.refl _ _).drew.trans hb);have R8:=hd0 hrs;have cO8:=(B8.out.cell (World.block_lt_of_cell? _ _ cO)).trans cO;have gF8:GB 264 w8 (n+2) A:=(show GB 264 W (n+2) A from gF).later B8.out;refine hK.out _ _ ⟨(B8.out.cell (World.block_lt_of_cell? _ _ cB)).trans cB,(B8.out.cell (World.block_lt_of_cell? _ _ cV)).trans cV,gF8⟩ (fun hHeld=>?_);clear hK K hrs hb;try simp only[Act.put,zz])
   have SR:Hid (∀ j (hj:j<[(op,d)].length) i,i<2→w8.cell? ⟨sg,j*2+i,none⟩=(sdC [(op,d)][j])[i]?):=hd0 (sdCells R8.out)
   have O8:=hd0 (OR.out.later B8.out)
   have hpl:pre.length<8:=hlt
   have hm8:m+1≤w8.heap.size:=by have:=B8.out.size;omega
   refine rdH 6 fun K hK=>?_
   (rw[if_pos (by rfl)];refine wp_append_rwG sdC_len sdC_one 257 190 _ 24 Tryz.underlying190 info_sent rfl (by decide) (by decide) (.tmp 23) (.tmp 28) rfl (m+1) v (pre.map fun _=>(op,d)) rfl O8.out sg 1 [(op,d)] rfl SR.out (by simp;omega) hm8 ?_;intro v9 w9 ho9 hg9 hb9;have O9:=hd0 ho9;have G9:=hd0 hg9;have B9:=hd0 hb9;refine hK.out _ _ ⟨(hb9.cell (p:=⟨n,0,none⟩) (by show n<m+1;omega)).trans ((B8.out.cell (World.block_lt_of_cell? _ _ cB)).trans cB),(hb9.cell (p:=⟨n+1,0,none⟩) (by show n+1<m+1;omega)).trans ((B8.out.cell (World.block_lt_of_cell? _ _ cV)).trans cV),gF8.below (by omega) hb9⟩ (fun hHeld=>?_);clear hK K ho9 hg9 hb9;try simp only[Act.put,zz])
   obtain⟨g1,cap1,t1,hv1,hg1,hc1,-⟩:=O9.out.ne (by simp)
   rw[show((pre.map fun _=>(op,d))++[(op,d)]).length=pre.length+1 by simp] at hv1
   subst hv1
   have hv9:GB 190 w9 (n+3) #[v]:=((show GB 190 W (n+3) #[v] from HV.out).later B8.out).below (B:=m+1) (by omega) B9.out
   have cO9:w9.cell? ⟨n+3,0,none⟩=some v:=hv9.c 0 _ rfl
   have f9:=hv9.fr 0
   refine rdH 7 fun K hK=>?_
   (go_simp;refine hK.out _ _ ⟨by rw[World.cell?_setCell_far _ _ _ _ (by show n+3≠n;omega)];exact hHeld.1,by rw[World.cell?_setCell_far _ _ _ _ (by show n+3≠n+1;omega)];exact hHeld.2.1,hHeld.2.2.other (by omega) _⟩ (fun hHeld=>?_);clear hK K;try simp only[Act.put,zz])
   refine wpAnyH_done (by kernel_rfl) ?_ _
   have hrow:Ow 2 sdC 257 (w9.setCell ⟨n+3,0,none⟩ (.slice (some ⟨g1,0,none⟩) (pre.length+1) cap1)) (m+1) (.slice (some ⟨g1,0,none⟩) (pre.length+1) cap1) ((pre++[p]).map fun _=>(op,d)):=by
    rw[show((pre++[p]).map fun _=>(op,d))=(pre.map fun _=>(op,d))++[(op,d)] by simp]
    exact O9.out.setB (by omega) 0 _
   refine⟨((keepsFrom_below B8.out).trans (keepsFrom_grown G9.out (fun j hj=>by obtain⟨c,hc⟩:=O8.out.cellsAt j hj;exact⟨c,_,_,hc⟩))).trans ((KeepsOthers.setCell _ _ _).from _),kpB_t (kpB_t ⟨B8.out.cell (p:=⟨m,0,none⟩) hmW,B8.out.size⟩ ⟨B9.out.cell (p:=⟨m,0,none⟩) (Nat.lt_succ_self _),G9.out.size⟩) ⟨World.cell?_setCell_far _ _ _ _ (by show n+3≠m;omega),by simp[World.setCell]⟩,⟨_,hv9.set 0 _,hrow,trivial⟩,?_⟩
   ·exact below_set ((HB7.out.trans (B8.out.mono (by omega))).trans (B9.out.mono (by omega))) (Nat.le_refl _) _
  ·(go_simp;go_at_call 192;(with_reducible refine OW.out.mono ?_);rintro en w8 ⟨sg,rfl,hrs,hsg,hb⟩;have B8:=hd0 (show Below W.heap.size W w8 from(Below.refl _ _).drew.trans hb);have R8:=hd0 hrs;have cO8:=(B8.out.cell (World.block_lt_of_cell? _ _ cO)).trans cO;have gF8:GB 264 w8 (n+2) A:=(show GB 264 W (n+2) A from gF).later B8.out;refine hK.out _ _ ⟨(B8.out.cell (World.block_lt_of_cell? _ _ cB)).trans cB,(B8.out.cell (World.block_lt_of_cell? _ _ cV)).trans cV,gF8⟩ (fun hHeld=>?_);clear hK K hrs hb;try simp only[Act.put,zz])
   refine rdH 0 fun K hK=>?_
   (go_simp;refine hK.out _ _ hHeld (fun hHeld=>?_);clear hK K;try simp only[Act.put,zz])
   have SR:Hid (∀ j (hj:j<[(op,d)].length) i,i<2→w8.cell? ⟨sg,j*2+i,none⟩=(sdC [(op,d)][j])[i]?):=hd0 (sdCells R8.out)
   have O8:=hd0 (OR.out.later B8.out)
   have hpl:pre.length<8:=hlt
   have hm8:m+1≤w8.heap.size:=by have:=B8.out.size;omega
   refine rdH 6 fun K hK=>?_
   (rw[if_pos (by rfl)];refine wp_append_rwG sdC_len sdC_one 257 190 _ 24 Tryz.underlying190 info_sent rfl (by decide) (by decide) (.tmp 23) (.tmp 28) rfl (m+1) v (pre.map fun _=>(op,d)) rfl O8.out sg 1 [(op,d)] rfl SR.out (by simp;omega) hm8 ?_;intro v9 w9 ho9 hg9 hb9;have O9:=hd0 ho9;have G9:=hd0 hg9;have B9:=hd0 hb9;refine hK.out _ _ ⟨(hb9.cell (p:=⟨n,0,none⟩) (by show n<m+1;omega)).trans ((B8.out.cell (World.block_lt_of_cell? _ _ cB)).trans cB),(hb9.cell (p:=⟨n+1,0,none⟩) (by show n+1<m+1;omega)).trans ((B8.out.cell (World.block_lt_of_cell? _ _ cV)).trans cV),gF8.below (by omega) hb9⟩ (fun hHeld=>?_);clear hK K ho9 hg9 hb9;try simp only[Act.put,zz])
   obtain⟨g1,cap1,t1,hv1,hg1,hc1,-⟩:=O9.out.ne (by simp)
   rw[show((pre.map fun _=>(op,d))++[(op,d)]).length=pre.length+1 by simp] at hv1
   subst hv1
   have hv9:GB 190 w9 (n+3) #[v]:=((show GB 190 W (n+3) #[v] from HV.out).later B8.out).below (B:=m+1) (by omega) B9.out
   have cO9:w9.cell? ⟨n+3,0,none⟩=some v:=hv9.c 0 _ rfl
   have f9:=hv9.fr 0
   refine rdH 7 fun K hK=>?_
   (go_simp;refine hK.out _ _ ⟨by rw[World.cell?_setCell_far _ _ _ _ (by show n+3≠n;omega)];exact hHeld.1,by rw[World.cell?_setCell_far _ _ _ _ (by show n+3≠n+1;omega)];exact hHeld.2.1,hHeld.2.2.other (by omega) _⟩ (fun hHeld=>?_);clear hK K;try simp only[Act.put,zz])
   refine wpAnyH_done (by kernel_rfl) ?_ _
   have hrow:Ow 2 sdC 257 (w9.setCell ⟨n+3,0,none⟩ (.slice (some ⟨g1,0,none⟩) (pre.length+1) cap1)) (m+1) (.slice (some ⟨g1,0,none⟩) (pre.length+1) cap1) ((pre++[p]).map fun _=>(op,d)):=by
    rw[show((pre++[p]).map fun _=>(op,d))=(pre.map fun _=>(op,d))++[(op,d)] by simp]
    exact O9.out.setB (by omega) 0 _
   refine⟨((keepsFrom_below B8.out).trans (keepsFrom_grown G9.out (fun j hj=>by obtain⟨c,hc⟩:=O8.out.cellsAt j hj;exact⟨c,_,_,hc⟩))).trans ((KeepsOthers.setCell _ _ _).from _),kpB_t (kpB_t ⟨B8.out.cell (p:=⟨m,0,none⟩) hmW,B8.out.size⟩ ⟨B9.out.cell (p:=⟨m,0,none⟩) (Nat.lt_succ_self _),G9.out.size⟩) ⟨World.cell?_setCell_far _ _ _ _ (by show n+3≠m;omega),by simp[World.setCell]⟩,⟨_,hv9.set 0 _,hrow,trivial⟩,?_⟩
   ·exact below_set ((HB7.out.trans (B8.out.mono (by omega))).trans (B9.out.mono (by omega))) (Nat.le_refl _) _
 case done =>
  rintro D ys W hD rfl ⟨⟨v,hv,hrow,-⟩,hB⟩ hK
  rw[HL.out] at hrow
  have hrow:W.ownsRow (m+1) 257 2 v 1 ([(op,d)].flatMap sdC):=hrow
  obtain⟨g1,cap1,t1,rfl,hg1,hc1,-⟩:=Ow.ne (l:=[(op,d)]) hrow (by simp)
  have hc:=hv.cell
  have R1:=hd0 hrow
  have B1:=hd0 (hb73.trans hB)
  have D1:m+1≤D:=by omega
  have S1:=hd0 hB.size
  clear hrow hB hv
  gi_wp2
  refine⟨by simp,.inl ⟨_,_,rfl,run_takeDeferred hK,?_⟩⟩
  have hDW:D<W.heap.size:=(Array.getElem?_eq_some_iff.1 hK).1
  have bP:Below (n+3) w6 (W.putObj D (.deferred none)):=B1.out.trans ((Below.refl _ W).grown (grownBy_putObj' W D _) (by omega) (fun k e=>by cases e;omega))
  have a:=(below_only O5.out).trans H6.out.2
  have r2:Ow 2 sdC 257 (W.putObj D (.deferred none)) (m+1) (.slice (some ⟨g1,0,none⟩) 1 cap1) [(op,d)]:=ownsRow_putObj R1.out _ hK rfl
  exact⟨_,results_tmp rfl _ _ _,⟨g1,cap1,rfl,r2.rw sdC_len,by omega⟩,⟨v6,HR.out.below HH.out (by rw[hn];omega) bP⟩,⟨bP.os.trans a.os,bP.tape.trans a.tape,bP.output.trans a.output,Nat.le_trans a.size bP.size,fun k hk hne=>(bP.block k (by omega)).trans (a.block k hk hne)⟩⟩
 case stop =>
  rintro D c pre W _ _ h _
  exact h.elim
end
theorem binD (lo hi:Nat)(P:BP)(T:TM)(o:List Int)(V:List Vn)(v0:Value)(ip op:Int)(hip:ip=0∨ip=1)(A:Array Value)(hA:DFr A)(d:List UInt8)
  (RE0:∀ W,BN W lo hi P T o V v0→Calls Tryz.prog 137 #[.pointer (some ⟨P.b,0,none⟩),.int .i64 ip,.int .u16 1,.agg A] W (PostD lo hi P T o V op d W))
  (w:World) (h:BN w lo hi P T o V v0):Calls Tryz.prog 109 #[.pointer (some ⟨P.b,0,none⟩),.int .u8 ip,.int .u16 1,.agg A] w (PostD lo hi P T o V op d w):=by
 have RE:=hd0 RE0
 have CO:=hd0 (cofD hA)
 have h15:=hA.y
 have HIL:=hd0 (frame_infoL hA.i)
 clear RE0 hA
 have hb:=(Below.refl w.heap.size w).alloc (Nat.le_refl _) (.cells A 264)
 have g1:=GB.new 264 w A
 have h0:=h.later hb
 obtain⟨w0,hw0⟩:∃ z,w.alloc (.cells A 264)=z:=⟨_,rfl⟩
 rw[hw0] at hb g1 h0
 have HB:=hd0 hb
 have HS:=hd0 h0
 have r0:=g1.range
 have G1:=hd0 g1
 clear h hb g1 h0
 rcases hip with rfl|rfl
 all_goals
  go_enter Tryz.func109,Tryz.ntmps109
  go_upto_region 1 with fail
  clear hw0
  go_upto_region 2 with(first
   |((with_reducible refine wpList_load_mid rfl 264 (.tmp 7) rfl w.heap.size 0 ?hx A.toList _ r0 Tryz.underlying264 ?hu HIL.out ?_);(case hx=>rfl);(case hu=>rfl))
   |(go_at_call 154;with_reducible refine(CO.out _).mono ?_;rintro e w1 ⟨rfl,hb1⟩))
  have g2:=G1.out.later hb1
  have r1:=g2.range
  have c15:w1.cell? ⟨w.heap.size,15,none⟩=some (.int .u16 2048):=g2.c 15 _ h15
  have W1:=hd0 (RE.out w1 (HS.out.later hb1))
  have HB1:=hd0 (HB.out.trans (hb1.mono HB.out.size))
  clear hb1 r0 g2
  go_wp2_with (first
   |((with_reducible refine wpList_load_mid rfl 264 (.tmp 7) rfl w.heap.size 0 ?hx A.toList _ r1 Tryz.underlying264 ?hu HIL.out ?_);(case hx=>rfl);(case hu=>rfl))
   |(go_at_call 137;with_reducible refine W1.out.mono ?_;rintro e w2 ⟨⟨g,c,rfl,hr⟩,hp,ho⟩))
  go_ret
  exact PostD.back HB1.out ⟨⟨g,c,rfl,hr⟩,hp,ho⟩
theorem brecvD (lo hi:Nat)(P:BP)(T:TM)(o:List Int)(V:List Vn)(v0:Value)(p op ρ:Int)(hρ:(ρ==0)=false)(A:Array Value)(hA:DFr A)(b d:List UInt8)
  (RO:∀ W,BN W lo hi P T o V v0→Calls Tryz.prog 78 #[.pointer (some ⟨P.m,0,none⟩),.int .u8 p] W fun en w'=>en=.returned (.int .u8 ρ)∧Below W.heap.size W w')
  (TK0:∀ w,Calls Tryz.prog 103 #[.string (bs b)] w fun en w'=>en=.returned (.tuple #[.agg A,.int .i64 0])∧Below w.heap.size w w')
  (VI0:∀ W,BN W lo hi P T o V v0→Calls Tryz.prog 107 #[.pointer (some ⟨P.r,0,none⟩),.int .u8 p,.agg A] W fun en w'=>en=.returned (.tuple #[.int .u16 1,.bool true])∧Below W.heap.size W w')
  (IN0:∀ W,BN W lo hi P T o V v0→Calls Tryz.prog 109 #[.pointer (some ⟨P.b,0,none⟩),.int .u8 p,.int .u16 1,.agg A] W (PostD lo hi P T o V op d W))
  (w:World) (h:BN w lo hi P T o V v0):Calls Tryz.prog 76 #[.pointer (some ⟨P.b,0,none⟩),.int .u8 p,.string (bs b)] w (PostD lo hi P T o V op d w):=by
 have TK:=hd0 TK0
 have VI:=hd0 VI0
 have IN:=hd0 IN0
 have hI:=hA.i
 have HA:=hd0 hA
 have HIZ:=hd0 (frame_info hI)
 have HIL:=hd0 (frame_infoL hI)
 have HO1:=hd0 hI.one
 have R1:=hd0 (RO w h)
 have c1:=h.c1
 have HH:=hd0 h
 have EQ:∀ W:World,(binOp .eql 24 (.agg #[.int .u8 255,.int .u8 255,.int .u8 255,.int .u8 255,.int .u8 255,.int .u8 255]) (.agg #[.int .u8 1,.int .u8 128,.int .u8 194,.int .u8 0,.int .u8 0,.int .u8 0])).run Tryz.prog W=.ok (.bool false) W:=fun W=>by kernel_rfl
 have OWN:=own_any
 have HIF:=hd0 hI
 clear h hI hA RO TK0 VI0 IN0
 go_enter Tryz.func76,Tryz.ntmps76
 go_wp2_with fail
 with_reducible refine R1.out.mono ?_
 rintro en w0 ⟨rfl,hb0⟩
 have HB0:=hd0 hb0
 clear c1 hb0 R1
 go_wp2_with fail
 with_reducible refine(TK.out _).mono ?_
 rintro en w1 ⟨rfl,hb1⟩
 have TH:=hd0 (fr_there w1 HIF.out)
 go_upto_region 4 with((with_reducible refine wpList_store_mid rfl 264 (.tmp 7) (.tmp 25) rfl w1.heap.size 0 A ?hx ?hy TH.out HIZ.out HO1.out ?_);(case hx=>rfl);(case hy=>rfl))
 have gf:GB 264 ((w1.alloc (.cells #[.int .u8 0,.int .u8 0,.int .u8 0,.int .u8 0,.int .u8 0,.int .u8 0,.int .u8 0,.int .u8 0,.int .u8 0,.int .u8 0,.int .u8 0,.int .u8 0,.bool false,.int .u8 0,.int .u16 0,.int .u16 0,.string { data:=#[] }] 264)).setCells w1.heap.size 0 A.toList) w1.heap.size A:=fr_stored w1 HIF.out
 have b2:Below w1.heap.size w1 ((w1.alloc (.cells #[.int .u8 0,.int .u8 0,.int .u8 0,.int .u8 0,.int .u8 0,.int .u8 0,.int .u8 0,.int .u8 0,.int .u8 0,.int .u8 0,.int .u8 0,.int .u8 0,.bool false,.int .u8 0,.int .u16 0,.int .u16 0,.string { data:=#[] }] 264)).setCells w1.heap.size 0 A.toList):=below_cells (Nat.le_refl _) _ _ _ (bAo _)
 obtain⟨z,hz⟩:∃ z,w1.heap.size=z:=⟨_,rfl⟩
 have hbz:=hb1.trans (b2.mono hb1.size)
 rw[hz] at gf b2 hbz ⊢
 obtain⟨w2,hw2⟩:∃ k,(w1.alloc (.cells #[.int .u8 0,.int .u8 0,.int .u8 0,.int .u8 0,.int .u8 0,.int .u8 0,.int .u8 0,.int .u8 0,.int .u8 0,.int .u8 0,.int .u8 0,.int .u8 0,.bool false,.int .u8 0,.int .u16 0,.int .u16 0,.string { data:=#[] }] 264)).setCells z 0 A.toList=k:=⟨_,rfl⟩
 rw[hw2] at gf b2 hbz ⊢
 have HB2:=hd0 (HB0.out.trans (hbz.mono HB0.out.size))
 have G2:=hd0 gf
 have H2:=hd0 (HH.out.later HB2.out)
 clear gf b2 hbz hw2 TH hb1 HB0
 go_upto_region 6 with fail
 have l0:∀ K:Later w2,K.out.cell? ⟨z,0,none⟩=some (.int .u8 255):=fun K=>(G2.out.later K.h).c 0 _ HA.out.d.1
 have l1:∀ K:Later w2,K.out.cell? ⟨z,1,none⟩=some (.int .u8 255):=fun K=>(G2.out.later K.h).c 1 _ HA.out.d.2.1
 have l2:∀ K:Later w2,K.out.cell? ⟨z,2,none⟩=some (.int .u8 255):=fun K=>(G2.out.later K.h).c 2 _ HA.out.d.2.2.1
 have l3:∀ K:Later w2,K.out.cell? ⟨z,3,none⟩=some (.int .u8 255):=fun K=>(G2.out.later K.h).c 3 _ HA.out.d.2.2.2.1
 have l4:∀ K:Later w2,K.out.cell? ⟨z,4,none⟩=some (.int .u8 255):=fun K=>(G2.out.later K.h).c 4 _ HA.out.d.2.2.2.2.1
 have l5:∀ K:Later w2,K.out.cell? ⟨z,5,none⟩=some (.int .u8 255):=fun K=>(G2.out.later K.h).c 5 _ HA.out.d.2.2.2.2.2
 have l15:∀ K:Later w2,K.out.cell? ⟨z,15,none⟩=some (.int .u16 2048):=fun K=>(G2.out.later K.h).c 15 _ HA.out.y
 refine wp_region_later (by kernel_rfl) (by kernel_rfl) ?_
 repeat (go_big_quiet_step (first|(go_at_call 105;exact Calls.later (OWN _))))
 refine wpQuiet_nil ?_
 rintro _ ⟨K,rfl⟩
 clear l0 l1 l2 l3 l4 l5 l15 EQ
 have HB3:=hd0 (HB2.out.trans (K.h.mono HB2.out.size))
 have G3:=hd0 (G2.out.later K.h)
 have H3:=hd0 (H2.out.later K.h)
 obtain⟨w3,hw3⟩:∃ z,K.out=z:=⟨_,rfl⟩
 rw[hw3] at HB3 G3 H3 ⊢
 clear hw3 K G2 H2 HB2
 go_upto_region 8 with fail
 have l2:∀ K:Later w3,K.out.cell? ⟨P.b,2,none⟩=some (.pointer (some ⟨P.r,0,none⟩)):=fun K=>(H3.out.later K.h).c2
 have VK:Hid (∀ K:Later w3,Calls Tryz.prog 107 #[.pointer (some ⟨P.r,0,none⟩),.int .u8 p,.agg A] K.out fun en w'=>en=.returned (.tuple #[.int .u16 1,.bool true])∧Below K.out.heap.size K.out w'):=hd0 fun K=>VI.out _ (H3.out.later K.h)
 have FK:Hid (∀ K:Later w3,(Instr.loadAt 264 (.pointer (some ⟨z,0,none⟩))).run Tryz.prog K.out=.ok (.agg A) K.out):=hd0 fun K=>fr_load (show FB w3 z A from G3.out) HIF.out K
 refine wp_region_later (by kernel_rfl) (by kernel_rfl) ?_
 repeat (go_big_quiet_step (fail))
 refine wpQuiet_load 264 (.tmp 7) z A rfl rfl rfl (by rintro _ ⟨k,rfl⟩;exact FK.out k) ?_
 go_simp
 go_big_quiet_step ((go_at_call 107;exact Calls.later (VK.out _)))
 repeat (go_big_quiet_step (fail))
 refine wpQuiet_nil ?_
 go_simp
 intro K
 have HB4:=hd0 (HB3.out.trans (K.h.mono HB3.out.size))
 have G4:=G3.out.later K.h
 have r4:=G4.range
 have W4:=hd0 (IN.out K.out (H3.out.later K.h))
 clear l2
 go_wp2_with (first
  |((with_reducible refine wpList_load_mid rfl 264 (.tmp 7) rfl z 0 ?hx A.toList _ r4 Tryz.underlying264 ?hu HIL.out ?_);(case hx=>rfl);(case hu=>rfl))
  |(go_at_call 109;with_reducible refine W4.out.mono ?_;rintro e w5 ⟨⟨g,c,rfl,hr⟩,hp,ho⟩))
 go_ret
 exact PostD.back HB4.out ⟨⟨g,c,rfl,hr⟩,hp,ho⟩
open Go.RowKit Go.Conc
theorem qpush_room (q c:Nat)(buf:Array Value)(s r:Nat)(x:Value)(w:World)(hq:w.cell? ⟨q,0,none⟩=some (.chan (some c)))(hc:w.heap[c]?=some (.chan 64 buf false s r false))(hb:buf.size<64) :
  Calls Tryz.prog 140 #[.pointer (some ⟨q,0,none⟩),x] w fun en w'=>en=.returned (.int .i64 0)∧w'=w.setChan c 64 (buf.push x) false (s+1) r false:=by
 refine calls_of_loneTo fun cs=>?_
 have e:Frame.enter Tryz.prog 140 #[.pointer (some ⟨q,0,none⟩),x] .normal=(base 140).at ⟨#[.pointer (some ⟨q,0,none⟩),x,undef,undef,undef,undef,undef,undef,undef,undef,undef,undef,undef,undef,undef],[]⟩ [.code (Tryz.f140.body.getD .skip)]:=by
  simp[Frame.enter,Frame.at,Tryz.func140,base,Tryz.f140]
 rw[e]
 refine LoneTo.goes (n:=40) ?_
 simp only[Tryz.f140,Option.getD_some]
 s_c stepG_seq
 s_reg
 s_op
 s_c stepG_region_end
 s_c stepG_seq
 s_c stepG_seq
 s_reg
 s_op
 s_op
 s_c stepG_region_end
 s_cond false
 s_c stepG_skip
 s_c stepG_seq
 s_c stepG_seq
 s_reg
 s_op
 s_op
 s_op
 s_op
 s_c stepG_region_end
 s_reg
 s_op
 s_c stepG_region_end
 s_c stepG_seq
 s_reg
 s_stop
 refine LoneTo.step (step_lone_select_send_room (c:=c) (cap:=64) (buf:=buf) (s:=s) (r:=r) (tm:=false) (stepG_comm (cases:=#[scase c x (.string { data:=#[] })]) (blocking:=false) (shape:=.select) (w':=w) rfl rfl (by decide) (by simp[go_sem,execOp,scase,Act.eval])) hc hb) ?_
 rw[Frame.finish_at]
 walk_nrm
 refine LoneTo.goes (n:=20) ?_
 s_op
 s_op
 s_c stepG_region_end
 s_c stepG_block
 s_cond true
 s_c stepG_seq
 s_reg
 s_op
 s_c stepG_region_end
 s_c stepG_ret'
 s_stop
 exact LoneTo.done ⟨.returned (.int .i64 0),_,rfl,⟨rfl,rfl⟩,rfl,rfl,rfl,rfl,_,Tryz.func140,by simp[results,Tryz.f140,Frame.at]⟩
theorem qpop_some (q c:Nat)(x:Value)(buf:List Value)(s r:Nat)(w:World)(hq:w.cell? ⟨q,0,none⟩=some (.chan (some c)))(hc:w.heap[c]?=some (.chan 64 (x::buf).toArray false s r false)) :
  Calls Tryz.prog 100 #[.pointer (some ⟨q,0,none⟩)] w fun en w'=>en=.returned (.tuple #[x,.int .i64 0])∧w'=w.setChan c 64 buf.toArray false s (r+1) false:=by
 refine calls_of_loneTo fun cs=>?_
 have e:Frame.enter Tryz.prog 100 #[.pointer (some ⟨q,0,none⟩)] .normal=(base 100).at ⟨#[.pointer (some ⟨q,0,none⟩),undef,undef,undef,undef,undef,undef,undef,undef,undef,undef,undef,undef,undef,undef,undef,undef,undef,undef],[]⟩ [.code (Tryz.f100.body.getD .skip)]:=by
  simp[Frame.enter,Frame.at,Tryz.func100,base,Tryz.f100]
 rw[e]
 refine LoneTo.goes (n:=40) ?_
 simp only[Tryz.f100,Option.getD_some]
 s_c stepG_seq
 s_reg
 s_op
 s_op
 s_c stepG_region_end
 s_c stepG_seq
 s_reg
 s_op
 s_c stepG_region_end
 s_c stepG_seq
 s_c stepG_seq
 s_reg
 s_op
 s_op
 s_c stepG_region_end
 s_cond false
 s_c stepG_skip
 s_c stepG_seq
 s_reg
 s_op
 s_op
 s_op
 s_op
 s_c stepG_region_end
 s_c stepG_seq
 s_reg
 s_stop
 refine LoneTo.step (step_lone_select_recv_buf (c:=c) (cap:=64) (buf:=(x::buf).toArray) (closed:=false) (s:=s) (r:=r) (tm:=false) (stepG_comm (cases:=#[rcase c (.string { data:=#[] })]) (blocking:=false) (shape:=.select) (w':=w) rfl rfl (by decide) (by simp[go_sem,execOp,rcase,Act.eval])) hc (by simp)) ?_
 rw[Frame.finish_at]
 walk_nrm
 refine LoneTo.goes (n:=20) ?_
 s_op
 s_op
 s_c stepG_region_end
 s_c stepG_block
 s_cond true
 s_c stepG_seq
 s_reg
 s_op
 s_op
 s_c stepG_region_end
 s_c stepG_seq
 s_reg
 s_op
 s_op
 s_op
 s_c stepG_region_end
 s_c stepG_ret'
 s_stop
 exact LoneTo.done ⟨.returned (.tuple #[x,.int .i64 0]),_,rfl,⟨rfl,by simp⟩,rfl,rfl,rfl,rfl,_,Tryz.func100,by simp[results,Tryz.f100,Frame.at]⟩
theorem qlen_any (q c:Nat)(buf:Array Value)(s r:Nat)(w:World)(hq:w.cell? ⟨q,0,none⟩=some (.chan (some c)))(hc:w.heap[c]?=some (.chan 64 buf false s r false)) :
  Calls Tryz.prog 51 #[.pointer (some ⟨q,0,none⟩)] w fun en w'=>en=.returned (.int .i64 (buf.size:Nat))∧w=w':=by
 have hlen:=fun ty=>run_len_chan (P:=Tryz.prog) 206 ty Tryz.underlying206 hc
 go_enter Tryz.func51,Tryz.ntmps51
 go_wp2
 go_ret
 exact⟨rfl,rfl⟩
theorem qnew_any (w:World):Calls Tryz.prog 66 #[.int .i64 64] w fun en w'=>∃ q c:Nat,en=.returned (.tuple #[.pointer (some ⟨q,0,none⟩),.int .i64 0])∧GB 208 w' q #[.chan (some c)]∧w'.heap[c]?=some (.chan 64 #[] false 0 0 false)∧w.heap.size≤q∧w.heap.size≤c∧Below w.heap.size w w':=by
 have hmc:(Instr.makeChan 206 (.int .i64 64)).run Tryz.prog w=.ok (.chan (some w.heap.size)) (w.alloc (.chan 64 #[] false 0 0 false)):=by
  have h:(Tryz.prog.info? 9).map (·.bytes)=some 16:=by kernel_rfl
  obtain⟨i,hi,hb⟩:=Option.map_eq_some_iff.1 h
  simpa using run_makeChan (P:=Tryz.prog) (w:=w) Tryz.underlying206 hi .i64 64 (by omega) (by rw[hb];omega)
 go_enter Tryz.func66,Tryz.ntmps66
 go_wp2
 have hz:(w.alloc (.chan 64 #[] false 0 0 false)).heap.size=w.heap.size+1:=by simp
 have b1:=(Below.refl w.heap.size w).alloc (Nat.le_refl _) (.chan 64 #[] false 0 0 false)
 have g:=GB.new 208 (w.alloc (.chan 64 #[] false 0 0 false)) #[.chan (some w.heap.size)]
 rw[hz] at g
 have hc:((w.alloc (.chan 64 #[] false 0 0 false)).alloc (.cells #[.chan (some w.heap.size)] 208)).heap[w.heap.size]?=some (.chan 64 #[] false 0 0 false):=(Below.heap_alloc _ _ _ (by simp)).trans (heap_alloc_new w _)
 refine bodyPost_ret (v:=.tuple #[.pointer (some ⟨w.heap.size+1,0,none⟩),.int .i64 0]) (by simp[results,Tryz.results66,go_sem]) rfl ⟨_,_,rfl,g,hc,by omega,Nat.le_refl _,b1.alloc (by simp) _⟩
end Go.Proofs.YtghaobakpdninaaGreatDoor
