/- ZR17 -/
import Derived.Test.YtghaobakpdninaaGreatDoorZR16
set_option linter.unusedVariables false
set_option linter.unusedSimpArgs false
set_option maxRecDepth 100000
set_option maxHeartbeats 16000000
namespace Go.Proofs.YtghaobakpdninaaGreatDoor
open Go.RowKit
theorem be_one (n:Int)(h:0≤n∧n<256):be 1 n=[byt n]:=by
 have e:be 1 n=[beB 1 n 0]:=rfl
 rw[e]
 congr 1
 unfold beB byt
 congr 1
 simp;omega
structure PS (w W:World)(A:Array Value)(v:Value)(l:List UInt8):Prop where
 g:GB 212 W w.heap.size A
 own:Bys W (w.heap.size+1) v l
 bel:Below w.heap.size w W
 sz:w.heap.size+1≤W.heap.size
section
variable {w W W':World} {A:Array Value} {v v':Value} {l l':List UInt8}
theorem PS.later (h:PS w W A v l)(hb:Below W.heap.size W W'):PS w W' A v l:=⟨h.g.later hb,h.own.later hb,h.bel.trans (hb.mono h.bel.size),Nat.le_trans h.sz hb.size⟩
theorem PS.alloc (h:PS w W A v l)(o:Obj):PS w (W.alloc o) A v l:=h.later (bAo o)
theorem PS.drew (h:PS w W A v l):PS w W.drew A v l:=h.later (Below.refl _ _).drew
theorem PS.step (h:PS w W A v l)(ho:Bys W' (w.heap.size+1) v' l')(hb:Below (w.heap.size+1) W W'):PS w W' A v' l':=⟨h.g.below (Nat.lt_succ_self _) hb,ho,h.bel.trans (hb.mono (Nat.le_succ _)),Nat.le_trans h.sz hb.size⟩
theorem PS.sat (h:PS w W A v l)(ro:Int)(hr:A[6]?=some (.int .u8 ro)):W.rangeAt w.heap.size 0 A.toList∧W.cell? ⟨w.heap.size,6,none⟩=some (.int .u8 ro):=⟨h.g.range,h.g.c 6 _ hr⟩
end
theorem src_two (W:World)(x y:Int)(hx:0≤x∧x<256)(hy:0≤y∧y<256):Src (W.alloc (.cells #[.int .u8 x,.int .u8 y] 5)) (.slice (some ⟨W.heap.size,0,none⟩) 2 2) [byt x,byt y] :=
 (Bys.lit W 0 #[.int .u8 x,.int .u8 y] [byt x,byt y] (Nat.zero_le _) (by simp[byteV_byt _ hx,byteV_byt _ hy]) (by simp)).src
def putB (b:Bp):List UInt8 × Int:=if mayB b=true then(byB b,0) else([],2)
theorem bput_any (b:Bp)(w:World)(hb:b.Ok):Calls Tryz.prog 122 #[.agg #[.int .u64 b.rt,.int .u32 b.co,.int .u64 b.br,.int .u8 b.po,.int .u8 b.ho,.int .u64 b.ve,.int .u8 b.ro,.bool b.pr,.bool b.ag,.bool b.tp,.int .u64 b.ec]] w fun en w'=>en=.returned (.tuple #[.string (bs (putB b).1),.int .i64 (putB b).2])∧Below w.heap.size w w':=by
 obtain⟨R,hR⟩:∃ R,putB b=R:=⟨_,rfl⟩
 rw[hR]
 obtain⟨M,hM⟩:∃ M,mayB b=M:=⟨_,rfl⟩
 have HRR:Hid (R=if M=true then(byB b,0) else([],2)):=hd0 (by rw[←hR];unfold putB;rw[hM])
 obtain⟨A,hA⟩:∃ A:Array Value,A=#[.int .u64 b.rt,.int .u32 b.co,.int .u64 b.br,.int .u8 b.po,.int .u8 b.ho,.int .u64 b.ve,.int .u8 b.ro,.bool b.pr,.bool b.ag,.bool b.tp,.int .u64 b.ec]:=⟨_,rfl⟩
 obtain⟨fl,hfl⟩:∃ n,flB b=n:=⟨_,rfl⟩
 have MY:Hid (∀ w,Calls Tryz.prog 175 #[.agg A] w fun en w'=>en=.returned (.bool M)∧Below w.heap.size w w'):=hd0 fun w=>by
  have h:=bmay_any b w hb
  rw[hM] at h;rw[hA];exact h
 have FL:Hid (∀ w,Calls Tryz.prog 177 #[.agg A] w fun en w'=>en=.returned (.int .u8 fl)∧Below w.heap.size w w'):=hd0 fun w=>by
  have h:=bflags_any b w
  rw[hfl] at h;rw[hA];exact h
 have hfb:0≤fl∧fl<256:=by have:=flB_bd b;omega
 have hs:A.size=11:=by rw[hA];rfl
 have HIL:Hid ((Tryz.prog.info? 212).map (·.size)=some A.toList.length):=hd0 (by rw[Array.length_toList,hs];kernel_rfl)
 have CC:Hid (A[0]?=some (.int .u64 b.rt)∧A[1]?=some (.int .u32 b.co)∧A[2]?=some (.int .u64 b.br)∧A[3]?=some (.int .u8 b.po)∧A[4]?=some (.int .u8 b.ho)∧A[5]?=some (.int .u64 b.ve)∧A[6]?=some (.int .u8 b.ro)∧A[10]?=some (.int .u64 b.ec)):=hd0 (by rw[hA];exact⟨rfl,rfl,rfl,rfl,rfl,rfl,rfl,rfl⟩)
 have HFIN:Hid (byB b=be 2 17229++[byt b.ro,byt fl]++be 8 b.rt++be 4 b.co++be 8 b.br++[byt b.po,byt b.ho]++be 8 b.ve++be 8 b.ec):=hd0 (by
  unfold byB
  rw[be_one b.ro hb.ro,be_one b.po hb.po,be_one b.ho hb.ho,hfl,be_one fl hfb,show be 2 17229=[67,77] by decide]
  simp)
 have HO:=hd0 hb
 have HFB:=hd0 hfb
 rw[←hA]
 clear hR hM hfl hfb hs hA hb
 go_enter Tryz.func122,Tryz.ntmps122
 go_upto_region 1 with fail
 have g0:=GB.new 212 w A
 have hb0:Below w.heap.size w (w.alloc (.cells A 212)):=bAo _
 have hz0:w.heap.size+1≤(w.alloc (.cells A 212)).heap.size:=by simp
 obtain⟨w0,hw0⟩:∃ k,w.alloc (.cells A 212)=k:=⟨_,rfl⟩
 rw[hw0] at g0 hb0 hz0 ⊢
 have S0:Hid (PS w w0 A (.slice none 0 0) []):=hd0 ⟨g0,Bys.none _ _,hb0,hz0⟩
 clear hw0 g0 hb0 hz0
 go_wp2_with ((with_reducible refine wpList_load_mid rfl 212 (.tmp 1) rfl w.heap.size 0 ?hx A.toList _ S0.out.g.range Tryz.underlying212 ?hu HIL.out ?_);(case hx=>rfl);(case hu=>rfl))
 with_reducible refine(MY.out _).mono ?_
 rintro en w1 ⟨rfl,hb1⟩
 have S1:=hd0 (S0.out.later hb1)
 clear hb1 S0 MY
 cases M with
 | false =>
  have hR0:Hid (R=([],2)):=hd0 (by rw[HRR.out];rfl)
  go_wp2_with fail
  refine bodyPost_ret (v:=.tuple #[.string (bs []),.int .i64 2]) (by simp[results,Tryz.results122,go_sem];rfl) rfl ⟨by rw[hR0.out],S1.out.bel⟩
 | true =>
 have hR0:Hid (R=(byB b,0)):=hd0 (by rw[HRR.out];rfl)
 clear HRR
 go_wp2_with fail
 with_reducible refine(put_uint16 (w.heap.size+1) (.slice none 0 0) [] 17229 w1 S1.out.sz S1.out.own (by decide) (by decide) (by decide)).mono ?_
 rintro en w2 ⟨v2,rfl,ho2,hb2⟩
 rw[List.nil_append] at ho2
 have S2:=hd0 (S1.out.step ho2 hb2)
 obtain⟨l2,hl2⟩:∃ l,be 2 17229=l:=⟨_,rfl⟩
 have hn2:l2.length=2:=by rw[←hl2];exact be_length _ _
 rw[hl2] at S2 HFIN
 clear ho2 hb2 S1 hl2
 go_upto_region 4 with fail
 go_cut [4] (fun s4 wx=>Hid (PS w wx A s4 (l2++[byt b.ro,byt fl])))
 case first =>
  have SN:=hd0 S2.out.drew
  refine wp_region_held_drew (S:=fun W=>W.rangeAt w.heap.size 0 A.toList∧W.cell? ⟨w.heap.size,6,none⟩=some (.int .u8 b.ro)) (by kernel_rfl) (SN.out.sat b.ro CC.out.2.2.2.2.2.2.1) (fun hHeld=>?_)
  refine tkH 0 ?_ ?h ?_
  case h=>(intro w hSw;go_simp;try with_reducible rfl)
  try simp only[Act.put,zz]
  refine tkH 1 ?_ ?h ?_
  case h=>(intro w hSw;go_simp;try with_reducible rfl)
  try simp only[Act.put,zz]
  refine tkH 2 ?_ ?h ?_
  case h=>(intro w hSw;go_simp;try with_reducible rfl)
  try simp only[Act.put,zz]
  refine wpAnyH_take (i:=3) (v:=.agg A.toList.toArray) rfl (by kernel_rfl) (by kernel_rfl) (by kernel_rfl) (fun _ _ _ h=>h) (yieldsIf_load_mid (by rfl) 212 (.tmp 1) rfl w.heap.size 0 rfl A.toList _ (fun w h=>h.1) Tryz.underlying212 rfl HIL.out) (by assumption) ?_
  try simp only[Act.put,List.setIfInBounds_toArray,List.set_cons_zero,List.set_cons_succ,List.toArray_toList,List.getElem_toArray,List.getElem_cons_zero,List.getElem_cons_succ]
  refine rdH 4 fun K hK=>?_
  (go_simp;go_at_call 177;(with_reducible refine(FL.out _).mono ?_);rintro en wx ⟨rfl,hb_⟩;have SN:=hd0 (SN.out.later hb_);clear hb_;refine hK.out _ _ (SN.out.sat b.ro CC.out.2.2.2.2.2.2.1) (fun hHeld=>?_);clear hK K;try simp only[Act.put,zz])
  refine rdH 5 fun K hK=>?_
  (go_simp;have SR:=src_two wx b.ro fl HO.out.ro HFB.out;have SN:=hd0 (SN.out.alloc (.cells #[.int .u8 b.ro,.int .u8 fl] 5));refine hK.out _ _ (SN.out.sat b.ro CC.out.2.2.2.2.2.2.1) (fun hHeld=>?_);clear hK K;try simp only[Act.put,zz])
  refine rdH 6 fun K hK=>?_
  ((refine step_append_srcK rfl (.tmp 9) (.tmp 14) rfl (w.heap.size+1) v2 l2 (by rfl) SN.out.own (.slice (some ⟨_,0,none⟩) 2 2) [byt b.ro,byt fl] (by rfl) SR (by simp[hn2]) SN.out.sz ?_);intro v3 w5 hown hb5 hk5;have SN:=hd0 (SN.out.step hown hb5);clear hown hb5 hk5 SR;refine hK.out _ _ (SN.out.sat b.ro CC.out.2.2.2.2.2.2.1) (fun hHeld=>?_);clear hK K;try simp only[Act.put,zz])
  refine tkH 7 ?_ ?h ?_
  case h=>(intro w hSw;go_simp;try with_reducible rfl)
  try simp only[Act.put,zz]
  refine wpAnyH_done (by kernel_rfl) ?_ _
  go_wp2_with fail
  go_meet
  exact SN
 case rest =>
  clear S2 FL
  obtain⟨l3,hl3⟩:∃ l,l2++[byt b.ro,byt fl]=l:=⟨_,rfl⟩
  have hn3:l3.length=4:=by rw[←hl3,List.length_append,hn2];rfl
  rw[hl3] at hcut HFIN
  have S3:=hcut
  clear hl3 hn2 hcut
  have c0:=S3.out.g.c 0 _ CC.out.1
  go_wp2_with fail
  with_reducible refine(put_uint64 (w.heap.size+1) _ l3 b.rt _ S3.out.sz S3.out.own HO.out.rt.1 HO.out.rt.2 (by rw[hn3];decide)).mono ?_
  rintro en w13 ⟨v4,rfl,ho,hb⟩
  have S4:=hd0 (S3.out.step ho hb)
  obtain⟨l4,hl⟩:∃ l,l3++be 8 b.rt=l:=⟨_,rfl⟩
  have hn4:l4.length=12:=by rw[←hl,List.length_append,hn3,be_length]
  rw[hl] at S4 HFIN
  clear ho hb hl c0 S3 hn3
  have c0:=S4.out.g.c 1 _ CC.out.2.1
  go_wp2_with fail
  with_reducible refine(put_uint32 (w.heap.size+1) _ l4 b.co _ S4.out.sz S4.out.own HO.out.co.1 HO.out.co.2 (by rw[hn4];decide)).mono ?_
  rintro en w14 ⟨v5,rfl,ho,hb⟩
  have S5:=hd0 (S4.out.step ho hb)
  obtain⟨l5,hl⟩:∃ l,l4++be 4 b.co=l:=⟨_,rfl⟩
  have hn5:l5.length=16:=by rw[←hl,List.length_append,hn4,be_length]
  rw[hl] at S5 HFIN
  clear ho hb hl c0 S4 hn4
  have c0:=S5.out.g.c 2 _ CC.out.2.2.1
  go_wp2_with fail
  with_reducible refine(put_uint64 (w.heap.size+1) _ l5 b.br _ S5.out.sz S5.out.own HO.out.br.1 HO.out.br.2 (by rw[hn5];decide)).mono ?_
  rintro en w15 ⟨v6,rfl,ho,hb⟩
  have S6:=hd0 (S5.out.step ho hb)
  obtain⟨l6,hl⟩:∃ l,l5++be 8 b.br=l:=⟨_,rfl⟩
  have hn6:l6.length=24:=by rw[←hl,List.length_append,hn5,be_length]
  rw[hl] at S6 HFIN
  clear ho hb hl c0 S5 hn5
  have c3:=S6.out.g.c 3 _ CC.out.2.2.2.1
  have c4:=S6.out.g.c 4 _ CC.out.2.2.2.2.1
  have SR:=hd0 (fun W:World=>src_two W b.po b.ho HO.out.po HO.out.ho)
  go_upto_region 9 with(at_builtin;refine wpList_append_srcK rfl (.tmp 31) (.tmp 37) rfl (w.heap.size+1) v6 l6 (by rfl) (S6.out.alloc (.cells #[.int .u8 b.po,.int .u8 b.ho] 5)).own (.slice (some ⟨_,0,none⟩) 2 2) [byt b.po,byt b.ho] (by rfl) (SR.out w15) (by rw[hn6];show 24+2≤1099511627776;decide) (S6.out.alloc (.cells #[.int .u8 b.po,.int .u8 b.ho] 5)).sz ?_;intro v7 w17 hown hb7 hk7)
  have S7:=hd0 ((S6.out.alloc (.cells #[.int .u8 b.po,.int .u8 b.ho] 5)).step hown hb7)
  obtain⟨l7,hl⟩:∃ l,l6++[byt b.po,byt b.ho]=l:=⟨_,rfl⟩
  have hn7:l7.length=26:=by rw[←hl,List.length_append,hn6];rfl
  rw[hl] at S7 HFIN
  clear hown hb7 hk7 hl c3 c4 S6 hn6 SR
  have c0:=S7.out.g.c 5 _ CC.out.2.2.2.2.2.1
  go_wp2_with fail
  with_reducible refine(put_uint64 (w.heap.size+1) _ l7 b.ve _ S7.out.sz S7.out.own HO.out.ve.1 HO.out.ve.2 (by rw[hn7];decide)).mono ?_
  rintro en w17 ⟨v8,rfl,ho,hb⟩
  have S8:=hd0 (S7.out.step ho hb)
  obtain⟨l8,hl⟩:∃ l,l7++be 8 b.ve=l:=⟨_,rfl⟩
  have hn8:l8.length=34:=by rw[←hl,List.length_append,hn7,be_length]
  rw[hl] at S8 HFIN
  clear ho hb hl c0 S7 hn7
  have c0:=S8.out.g.c 10 _ CC.out.2.2.2.2.2.2.2
  go_wp2_with fail
  with_reducible refine(put_uint64 (w.heap.size+1) _ l8 b.ec _ S8.out.sz S8.out.own HO.out.ec.1 HO.out.ec.2 (by rw[hn8];decide)).mono ?_
  rintro en w18 ⟨v9,rfl,ho,hb⟩
  have S9:=hd0 (S8.out.step ho hb)
  obtain⟨l9,hl⟩:∃ l,l8++be 8 b.ec=l:=⟨_,rfl⟩
  have hn9:l9.length=42:=by rw[←hl,List.length_append,hn8,be_length]
  rw[hl] at S9 HFIN
  clear ho hb hl c0 S8 hn8
  have hstr:=run_string_bys S9.out.own
  have HF:Hid (R=(l9,0)):=hd0 (by rw[hR0.out,HFIN.out])
  go_wp2_with fail
  refine bodyPost_ret (v:=.tuple #[.string (bs l9),.int .i64 0]) (by simp[results,Tryz.results122,go_sem]) rfl ⟨by rw[HF.out],S9.out.bel⟩
end Go.Proofs.YtghaobakpdninaaGreatDoor
