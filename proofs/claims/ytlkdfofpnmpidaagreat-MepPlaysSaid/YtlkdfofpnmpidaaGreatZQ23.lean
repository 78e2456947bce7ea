/- ZQ23 -/
import Derived.Test.YtlkdfofpnmpidaaGreatZQ22
set_option linter.unusedVariables false
set_option linter.unusedSimpArgs false
set_option maxRecDepth 100000
set_option maxHeartbeats 16000000
namespace Go.Proofs.YtlkdfofpnmpidaaGreat
open Go.RowKit
theorem six_list {s:List UInt8}(h:s.length=6):∃ a b c d e f,s=[a,b,c,d,e,f]:=by
 match s,h with
 |[a,b,c,d,e,f],_=>exact⟨a,b,c,d,e,f,rfl⟩
theorem addrR_any (s:List UInt8)(h6:s.length=6)(w:World):Calls Tryz.prog 103 #[.string (bs s)] w fun en w'=>en=.returned (.agg #[.int .u8 (mcOf s).a,.int .u8 (mcOf s).b,.int .u8 (mcOf s).c,.int .u8 (mcOf s).d,.int .u8 (mcOf s).e,.int .u8 (mcOf s).f])∧Below w.heap.size w w':=by
 have hsz:(bs s).size=6:=by rw[bs_size,h6]
 have g0:=bs_get s 0 (by omega) (by omega)
 have g1:=bs_get s 1 (by omega) (by omega)
 have g2:=bs_get s 2 (by omega) (by omega)
 have g3:=bs_get s 3 (by omega) (by omega)
 have g4:=bs_get s 4 (by omega) (by omega)
 have g5:=bs_get s 5 (by omega) (by omega)
 have HE:Hid (mcOf s=⟨((bs s)[0]'(by omega)).toNat,((bs s)[1]'(by omega)).toNat,((bs s)[2]'(by omega)).toNat,((bs s)[3]'(by omega)).toNat,((bs s)[4]'(by omega)).toNat,((bs s)[5]'(by omega)).toNat⟩):=hd0 (by
  rw[g0,g1,g2,g3,g4,g5]
  obtain⟨a,b,c,d,e,f,rfl⟩:=six_list h6
  rfl)
 rw[HE.out]
 clear g0 g1 g2 g3 g4 g5
 go_enter Tryz.func103,Tryz.ntmps103
 go_wp2_with fail
 refine wp_loop_rounds 7 ?_
 iterate 7 (rw[rounds_succ];go_wp2)
 refine bodyPost_ret (v:=.agg #[.int .u8 (⟨((bs s)[0]'(by omega)).toNat,((bs s)[1]'(by omega)).toNat,((bs s)[2]'(by omega)).toNat,((bs s)[3]'(by omega)).toNat,((bs s)[4]'(by omega)).toNat,((bs s)[5]'(by omega)).toNat⟩:Mc).a,.int .u8 (⟨((bs s)[0]'(by omega)).toNat,((bs s)[1]'(by omega)).toNat,((bs s)[2]'(by omega)).toNat,((bs s)[3]'(by omega)).toNat,((bs s)[4]'(by omega)).toNat,((bs s)[5]'(by omega)).toNat⟩:Mc).b,.int .u8 (⟨((bs s)[0]'(by omega)).toNat,((bs s)[1]'(by omega)).toNat,((bs s)[2]'(by omega)).toNat,((bs s)[3]'(by omega)).toNat,((bs s)[4]'(by omega)).toNat,((bs s)[5]'(by omega)).toNat⟩:Mc).c,.int .u8 (⟨((bs s)[0]'(by omega)).toNat,((bs s)[1]'(by omega)).toNat,((bs s)[2]'(by omega)).toNat,((bs s)[3]'(by omega)).toNat,((bs s)[4]'(by omega)).toNat,((bs s)[5]'(by omega)).toNat⟩:Mc).d,.int .u8 (⟨((bs s)[0]'(by omega)).toNat,((bs s)[1]'(by omega)).toNat,((bs s)[2]'(by omega)).toNat,((bs s)[3]'(by omega)).toNat,((bs s)[4]'(by omega)).toNat,((bs s)[5]'(by omega)).toNat⟩:Mc).e,.int .u8 (⟨((bs s)[0]'(by omega)).toNat,((bs s)[1]'(by omega)).toNat,((bs s)[2]'(by omega)).toNat,((bs s)[3]'(by omega)).toNat,((bs s)[4]'(by omega)).toNat,((bs s)[5]'(by omega)).toNat⟩:Mc).f]) (by simp[results,Tryz.results103,go_sem]) rfl ⟨rfl,?_⟩
 refine Below.alloc ?_ (by simp) _
 exact(Below.refl _ _).alloc (by simp) _
theorem qtE_iff (f:List UInt8):qtE f=0↔f.length=17:=by
 by_cases h1:f.length<4
 ·have q1:qt1 f=([],[],3):=rdn_no f 4 h1
  have q2:qt2 f=([],[],3):=by unfold qt2;rw[q1];exact rdn_err 1
  have q3:qt3 f=([],[],3):=by unfold qt3;rw[q2];exact rdn_err 6
  have q4:qt4 f=([],[],3):=by unfold qt4;rw[q3];exact rdn_err 6
  unfold qtE;rw[q4];constructor
  ·intro h;exact absurd h (by decide)
  ·intro h;omega
 have q1:qt1 f=(f.take 4,f.drop 4,0):=rdn_ok f 4 (by decide) (by omega)
 by_cases h2:f.length<5
 ·have q2:qt2 f=([],[],3):=by unfold qt2;rw[q1];exact rdn_no _ 1 (by simp;omega)
  have q3:qt3 f=([],[],3):=by unfold qt3;rw[q2];exact rdn_err 6
  have q4:qt4 f=([],[],3):=by unfold qt4;rw[q3];exact rdn_err 6
  unfold qtE;rw[q4];constructor
  ·intro h;exact absurd h (by decide)
  ·intro h;omega
 have q2:qt2 f=((f.drop 4).take 1,f.drop 5,0):=by
  unfold qt2;rw[q1]
  have:=rdn_ok (f.drop 4) 1 (by decide) (by simp;omega)
  rw[List.drop_drop] at this;exact this
 by_cases h3:f.length<11
 ·have q3:qt3 f=([],[],3):=by unfold qt3;rw[q2];exact rdn_no _ 6 (by simp;omega)
  have q4:qt4 f=([],[],3):=by unfold qt4;rw[q3];exact rdn_err 6
  unfold qtE;rw[q4];constructor
  ·intro h;exact absurd h (by decide)
  ·intro h;omega
 have q3:qt3 f=((f.drop 5).take 6,f.drop 11,0):=by
  unfold qt3;rw[q2]
  have:=rdn_ok (f.drop 5) 6 (by decide) (by simp;omega)
  rw[List.drop_drop] at this;exact this
 by_cases h4:f.length<17
 ·have q4:qt4 f=([],[],3):=by unfold qt4;rw[q3];exact rdn_no _ 6 (by simp;omega)
  unfold qtE;rw[q4];constructor
  ·intro h;exact absurd h (by decide)
  ·intro h;omega
 have q4:qt4 f=((f.drop 11).take 6,f.drop 17,0):=by
  unfold qt4;rw[q3]
  have:=rdn_ok (f.drop 11) 6 (by decide) (by simp;omega)
  rw[List.drop_drop] at this;exact this
 unfold qtE rdEnd;rw[q4]
 by_cases h5:f.length=17
 ·rw[if_neg (by simp;omega)];simp[h5]
 ·rw[if_pos (by simp;omega)]
  constructor
  ·intro h;exact absurd h (by simp[rdFail])
  ·intro h;exact absurd h h5
theorem qt_17 (f:List UInt8)(h:f.length=17):qt1 f=(f.take 4,f.drop 4,0)∧qt2 f=((f.drop 4).take 1,f.drop 5,0)∧qt3 f=((f.drop 5).take 6,f.drop 11,0)∧qt4 f=((f.drop 11).take 6,f.drop 17,0):=by
 have q1:qt1 f=(f.take 4,f.drop 4,0):=rdn_ok f 4 (by decide) (by omega)
 have q2:qt2 f=((f.drop 4).take 1,f.drop 5,0):=by
  unfold qt2;rw[q1]
  have:=rdn_ok (f.drop 4) 1 (by decide) (by simp;omega)
  rw[List.drop_drop] at this;exact this
 have q3:qt3 f=((f.drop 5).take 6,f.drop 11,0):=by
  unfold qt3;rw[q2]
  have:=rdn_ok (f.drop 5) 6 (by decide) (by simp;omega)
  rw[List.drop_drop] at this;exact this
 have q4:qt4 f=((f.drop 11).take 6,f.drop 17,0):=by
  unfold qt4;rw[q3]
  have:=rdn_ok (f.drop 11) 6 (by decide) (by simp;omega)
  rw[List.drop_drop] at this;exact this
 exact⟨q1,q2,q3,q4⟩
theorem numOf_at (s:List UInt8)(k:Nat)(hk:k<s.length):numOf ((s.drop k).take 1)=((s[k]'hk).toNat:Int):=by
 have e:(s.drop k).take 1=[s[k]'hk]:=by
  rw[List.drop_eq_getElem_cons hk];rfl
 rw[e];simp[numOf]
theorem refTake15_any (v:Value)(a b c:Int)(f:List UInt8)(w:World)(hf:f.length≤1000)(hv:∃ x n k,v=.slice x n k):Calls Tryz.prog 59 #[.agg #[.int .u8 a,.int .u8 b,.int .u8 c,.string (bs f),v]] w fun en w' =>
  en=.returned (.tuple #[.agg #[.int .u8 (tkTr a b f).1.lv,.int .u32 (tkTr a b f).1.nm,.int .u8 (tkTr a b f).1.tl,.int .u8 (tkTr a b f).1.fr.a,.int .u8 (tkTr a b f).1.fr.b,.int .u8 (tkTr a b f).1.fr.c,.int .u8 (tkTr a b f).1.fr.d,.int .u8 (tkTr a b f).1.fr.e,.int .u8 (tkTr a b f).1.fr.f,.int .u8 (tkTr a b f).1.tt.a,.int .u8 (tkTr a b f).1.tt.b,.int .u8 (tkTr a b f).1.tt.c,.int .u8 (tkTr a b f).1.tt.d,.int .u8 (tkTr a b f).1.tt.e,.int .u8 (tkTr a b f).1.tt.f],.int .i64 (tkTr a b f).2])∧Below w.heap.size w w':=by
 obtain⟨vx,vn,vk,rfl⟩:=hv
 have hsf:=bs_size f
 obtain⟨R,hR⟩:∃ R,tkTr a b f=R:=⟨_,rfl⟩
 rw[hR]
 have HR:=hd0 hR
 clear hR
 go_enter Tryz.func59,Tryz.ntmps59
 go_upto_region 1 with fail
 have pb0:=(PB.new 115 w a b c f (.slice vx vn vk)).later (bA (.cells yT 134))
 have pz:GB 134 ((w.alloc (.cells #[.int .u8 a,.int .u8 b,.int .u8 c,.string (bs f),.slice vx vn vk] 115)).alloc (.cells yT 134)) (w.heap.size+1) #[.int .u8 0,.int .u32 0,.int .u8 0,.int .u8 0,.int .u8 0,.int .u8 0,.int .u8 0,.int .u8 0,.int .u8 0,.int .u8 0,.int .u8 0,.int .u8 0,.int .u8 0,.int .u8 0,.int .u8 0]:=by
  have:=GB.new 134 (w.alloc (.cells #[.int .u8 a,.int .u8 b,.int .u8 c,.string (bs f),.slice vx vn vk] 115)) #[.int .u8 0,.int .u32 0,.int .u8 0,.int .u8 0,.int .u8 0,.int .u8 0,.int .u8 0,.int .u8 0,.int .u8 0,.int .u8 0,.int .u8 0,.int .u8 0,.int .u8 0,.int .u8 0,.int .u8 0]
  rw[show(w.alloc (.cells #[.int .u8 a,.int .u8 b,.int .u8 c,.string (bs f),.slice vx vn vk] 115)).heap.size=w.heap.size+1 by simp] at this
  exact this
 have hb0:Below w.heap.size w ((w.alloc (.cells #[.int .u8 a,.int .u8 b,.int .u8 c,.string (bs f),.slice vx vn vk] 115)).alloc (.cells yT 134)):=(bA _).alloc (by simp) _
 obtain⟨w0,hw0⟩:∃ k,(w.alloc (.cells #[.int .u8 a,.int .u8 b,.int .u8 c,.string (bs f),.slice vx vn vk] 115)).alloc (.cells yT 134)=k:=⟨_,rfl⟩
 rw[hw0] at pb0 pz hb0 ⊢
 have c1:=pb0.c1
 have c3:=pb0.c3
 have PB0:=hd0 pb0
 have PZ0:=hd0 pz
 have HB0:=hd0 hb0
 clear hw0 pb0 pz hb0
 by_cases hb:b=5∧f.length=17
 rotate_left
 ·have HR2:Hid (R=(tr0,4)):=hd0 (by rw[←HR.out];unfold tkTr;rw[if_neg (fun h=>hb ⟨h.1,(qtE_iff f).1 h.2⟩)])
  obtain⟨A,hA⟩:∃ A:Array Value,A=#[.int .u8 0,.int .u32 0,.int .u8 0,.int .u8 0,.int .u8 0,.int .u8 0,.int .u8 0,.int .u8 0,.int .u8 0,.int .u8 0,.int .u8 0,.int .u8 0,.int .u8 0,.int .u8 0,.int .u8 0]:=⟨_,rfl⟩
  have hs:A.size=15:=by rw[hA];rfl
  have TH:=hd0 (PZ0.out.there (n:=A.size) (by rw[hs];exact Nat.le_refl _))
  have o1:A.all (·.oneCell')=true:=by rw[hA];simp[Value.oneCell']
  have G1:=hd0 (PZ0.out.store (A:=A) (by rw[hs];rfl) o1)
  have HI:Hid ((Tryz.prog.info? 134).map (·.size)=some A.size):=hd0 (by rw[hs];kernel_rfl)
  have O1:=hd0 o1
  have HA:=hd0 hA
  clear hA hs o1
  by_cases h1:b=5
  ·have db:(b != 5)=false:=by rw[h1];rfl
   have dl:((f.length:Int) != 17)=true:=by rw[bne_iff_ne];intro h;exact hb ⟨h1,by omega⟩
   clear hb h1
   go_wp2_with ((with_reducible refine wpList_store_mid rfl 134 (.tmp 2) (.tmp 15) rfl (w.heap.size+1) 0 A ?hx ?hy TH.out HI.out O1.out ?_);(case hx=>rfl);(case hy=>(rw[HA.out];rfl)))
   exact bodyPost_ret (v:=.tuple #[.agg A,.int .i64 4]) (res_two (p:=2) (u:=3) (d:=_) rfl rfl Tryz.underlying134 _ _ (w.heap.size+1) _ rfl G1.out HI.out) rfl ⟨by rw[HA.out,HR2.out];rfl,below_cellsG (by omega) _ _ _ HB0.out⟩
  ·have db:(b != 5)=true:=by rw[bne_iff_ne];exact h1
   clear hb h1
   go_wp2_with ((with_reducible refine wpList_store_mid rfl 134 (.tmp 2) (.tmp 15) rfl (w.heap.size+1) 0 A ?hx ?hy TH.out HI.out O1.out ?_);(case hx=>rfl);(case hy=>(rw[HA.out];rfl)))
   exact bodyPost_ret (v:=.tuple #[.agg A,.int .i64 4]) (res_two (p:=2) (u:=3) (d:=_) rfl rfl Tryz.underlying134 _ _ (w.heap.size+1) _ rfl G1.out HI.out) rfl ⟨by rw[HA.out,HR2.out];rfl,below_cellsG (by omega) _ _ _ HB0.out⟩
 obtain⟨hb1,h17⟩:=hb
 obtain⟨q1,q2,q3,q4⟩:=qt_17 f h17
 have hz17:(bs f).size=17:=by rw[hsf,h17]
 obtain⟨nm,hnm⟩:∃ y,numOf (qt1 f).1=y:=⟨_,rfl⟩
 obtain⟨l1,hl1⟩:∃ y,f.drop 4=y:=⟨_,rfl⟩
 obtain⟨s3,hs3⟩:∃ y,(qt3 f).1=y:=⟨_,rfl⟩
 obtain⟨s4,hs4⟩:∃ y,(qt4 f).1=y:=⟨_,rfl⟩
 obtain⟨m3,hm3⟩:∃ y,mcOf s3=y:=⟨_,rfl⟩
 obtain⟨m4,hm4⟩:∃ y,mcOf s4=y:=⟨_,rfl⟩
 have N1:Hid (∀ w,Calls Tryz.prog 101 #[.agg #[.string (bs f),.int .i64 0],.int .i64 4] w fun en w'=>en=.returned (.tuple #[.int .u64 nm,.agg #[.string (bs l1),.int .i64 0]])∧Below w.heap.size w w'):=fun w=>by
  have h:=refNum_any f 0 4 w (by omega) (by decide)
  rw[show rdText f 0 ((4:Nat):Int)=qt1 f from rfl,hnm] at h
  rw[q1,hl1] at h;exact h
 have A3:Hid (∀ w,Calls Tryz.prog 103 #[.string (bs s3)] w fun en w'=>en=.returned (.agg #[.int .u8 m3.a,.int .u8 m3.b,.int .u8 m3.c,.int .u8 m3.d,.int .u8 m3.e,.int .u8 m3.f])∧Below w.heap.size w w'):=hd0 fun w=>by
  rw[←hm3];exact addrR_any s3 (by rw[←hs3,q3];simp;omega) w
 have A4:Hid (∀ w,Calls Tryz.prog 103 #[.string (bs s4)] w fun en w'=>en=.returned (.agg #[.int .u8 m4.a,.int .u8 m4.b,.int .u8 m4.c,.int .u8 m4.d,.int .u8 m4.e,.int .u8 m4.f])∧Below w.heap.size w w'):=hd0 fun w=>by
  rw[←hm4];exact addrR_any s4 (by rw[←hs4,q4];simp;omega) w
 have b1:=(numOf_bd (qt1 f).1).1
 have b1':=numOf_lt (qt1 f).1 4 4294967296 (by rw[q1];simp;omega) (by decide)
 rw[hnm] at b1 b1'
 have w1:IntKind.u32.wrap nm=nm:=IntWalk.u32_in _ (by omega)
 have ex3:(bs f).extract 5 11=bs s3:=by rw[bs_extract,← hs3,q3]
 have ex4:(bs f).extract 11 17=bs s4:=by rw[bs_extract,← hs4,q4]
 have e2:=numOf_at f 4 (by omega)
 have HRR:Hid (R=(⟨a,nm,(((bs f)[4]'(by omega)).toNat:Int),m3,m4⟩,0)):=hd0 (by
  rw[←HR.out];unfold tkTr
  rw[if_pos ⟨hb1,(qtE_iff f).2 h17⟩,hnm,hs3,hs4,hm3,hm4,q2,e2,bs_get f 4 (by omega) (by omega)])
 have db:(b != 5)=false:=by rw[hb1];rfl
 have dl:((f.length:Int) != 17)=false:=by rw[h17];rfl
 have h4:(4:Nat)<(bs f).size:=by omega
 clear hb1 q1 q2 q3 q4 hnm hl1 hs3 hs4 hm3 hm4 b1 b1' hf e2 HR
 go_wp2_with fail
 with_reducible refine(N1.out _).mono ?_
 rintro en w2_ ⟨rfl,hb2⟩
 have PB2:=hd0 (PB0.out.later hb2)
 have PZ2:=hd0 (PZ0.out.later hb2)
 have HB2:=hd0 (HB0.out.trans (hb2.mono HB0.out.size))
 clear hb2 PB0 PZ0 HB0 c1 c3
 go_upto_region 4 with fail
 have aa:=(Below.refl w2_.heap.size w2_).alloc (Nat.le_refl _) (.cells #[.string (bs l1),.int .i64 0] 198)
 obtain⟨w3,hw3⟩:∃ k,w2_.alloc (.cells #[.string (bs l1),.int .i64 0] 198)=k:=⟨_,rfl⟩
 rw[hw3] at aa ⊢
 have PB3:=hd0 (PB2.out.later aa.drew)
 have PZ3:=hd0 (PZ2.out.later aa.drew)
 have HB3:=hd0 (HB2.out.trans (aa.drew.mono HB2.out.size))
 clear aa hw3 PB2 PZ2 HB2
 obtain⟨FA,hFA⟩:∃ A:Array Value,A=#[.int .u8 a,.int .u32 nm,.int .u8 (((bs f)[4]'h4).toNat:Int),.int .u8 m3.a,.int .u8 m3.b,.int .u8 m3.c,.int .u8 m3.d,.int .u8 m3.e,.int .u8 m3.f,.int .u8 m4.a,.int .u8 m4.b,.int .u8 m4.c,.int .u8 m4.d,.int .u8 m4.e,.int .u8 m4.f]:=⟨_,rfl⟩
 have HSZ:Hid (FA.size=15):=hd0 (by rw[hFA];rfl)
 have HIF:Hid ((Tryz.prog.info? 134).map (·.size)=some FA.size):=hd0 (by rw[HSZ.out];kernel_rfl)
 have O1F:Hid (FA.all (·.oneCell')=true):=hd0 (by rw[hFA];simp[Value.oneCell'])
 have HFA:=hd0 hFA
 clear hFA
 go_cut [3] (fun s3 wx=>s3=.int .i64 0∧Hid (GB 134 wx (w.heap.size+1) FA)∧Hid (Below w.heap.size w wx))
 case first =>
  refine wp_region_held_drew (S:=fun W=>W.cell? ⟨w.heap.size,0,none⟩=some (.int .u8 a)∧W.cell? ⟨w.heap.size,3,none⟩=some (.string (bs f))) (by kernel_rfl) ⟨PB3.out.c0,PB3.out.c3⟩ (fun hHeld=>?_)
  refine tkH 0 ?_ ?h ?_
  case h=>(intro w hSw;go_simp;try with_reducible rfl)
  try simp only[Act.put,zz]
  refine tkH 1 ?_ ?h ?_
  case h=>(intro w hSw;go_simp;try with_reducible rfl)
  try simp only[Act.put,zz]
  refine tkH 2 ?_ ?h ?_
  case h=>(intro w hSw;go_simp;try with_reducible rfl)
  try simp only[Act.put,zz]
  refine tkH 3 ?_ ?h ?_
  case h=>(intro w hSw;go_simp;try with_reducible rfl)
  try simp only[Act.put,zz]
  refine tkH 4 ?_ ?h ?_
  case h=>(intro w hSw;go_simp;try with_reducible rfl)
  try simp only[Act.put,zz]
  refine tkH 5 ?_ ?h ?_
  case h=>(intro w hSw;go_simp;try with_reducible rfl)
  try simp only[Act.put,zz]
  refine tkH 6 ?_ ?h ?_
  case h=>(intro w hSw;go_simp;try with_reducible rfl)
  try simp only[Act.put,zz]
  refine tkH 7 ?_ ?h ?_
  case h=>(intro w hSw;go_simp;try with_reducible rfl)
  try simp only[Act.put,zz]
  refine tkH 8 ?_ ?h ?_
  case h=>(intro w hSw;go_simp;try with_reducible rfl)
  try simp only[Act.put,zz]
  refine tkH 9 ?_ ?h ?_
  case h=>(intro w hSw;go_simp;try with_reducible rfl)
  try simp only[Act.put,zz]
  refine tkH 11 ?_ ?h ?_
  case h=>(intro w hSw;go_simp;try with_reducible rfl)
  try simp only[Act.put,zz]
  refine tkH 12 ?_ ?h ?_
  case h=>(intro w hSw;go_simp;try with_reducible rfl)
  try simp only[Act.put,zz]
  refine tkH 13 ?_ ?h ?_
  case h=>(intro w hSw;go_simp;try with_reducible rfl)
  try simp only[Act.put,zz]
  refine rdH 10 fun K hK=>?_
  (go_simp;go_at_call 103;(with_reducible refine(A3.out _).mono ?_);rintro en' w5 ⟨rfl,hb5⟩;have PB5:=hd0 (PB3.out.later hb5);have PZ5:=hd0 (PZ3.out.later hb5);have HB5:=hd0 (HB3.out.trans (hb5.mono HB3.out.size));clear hb5;refine hK.out _ _ ⟨PB5.out.c0,PB5.out.c3⟩ (fun hHeld=>?_);clear hK K;try simp only[Act.put,zz])
  refine rdH 14 fun K hK=>?_
  (go_simp;go_at_call 103;(with_reducible refine(A4.out _).mono ?_);rintro en' w6 ⟨rfl,hb6⟩;have PB6:=hd0 (PB5.out.later hb6);have PZ6:=hd0 (PZ5.out.later hb6);have HB6:=hd0 (HB5.out.trans (hb6.mono HB5.out.size));clear hb6;refine hK.out _ _ ⟨PB6.out.c0,PB6.out.c3⟩ (fun hHeld=>?_);clear hK K;try simp only[Act.put,zz])
  refine tkH 15 ?_ ?h ?_
  case h=>(intro w hSw;go_simp;try with_reducible rfl)
  try simp only[Act.put,zz]
  have PB7:PB 115 (w6.setCells (w.heap.size+1) 0 FA.toList) w.heap.size a b c f (.slice vx vn vk):=GB.cellsOther (by omega) _ _ _ PB6.out
  refine rdH 16 fun K hK=>?_
  (rw[if_pos (by rfl)];refine wp_store_mid 134 (.tmp 2) (.tmp 38) rfl _ 0 FA rfl (by rw[HFA.out];rfl) (PZ6.out.there (Nat.le_of_eq HSZ.out)) HIF.out O1F.out ?_;refine hK.out _ _ ⟨PB7.c0,PB7.c3⟩ (fun hHeld=>?_);clear hK K;try simp only[Act.put,zz])
  refine tkH 17 ?_ ?h ?_
  case h=>(intro w hSw;go_simp;try with_reducible rfl)
  try simp only[Act.put,zz]
  refine wpAnyH_done (by kernel_rfl) ?_ _
  go_wp2_with fail
  go_meet
  exact⟨rfl,hd0 (GB.store PZ6.out HSZ.out.symm O1F.out),hd0 (below_cellsG (by omega) _ _ _ HB6.out)⟩
 case rest =>
  obtain⟨rfl,G7,HB7⟩:=hcut
  go_wp2_with fail
  exact bodyPost_ret (v:=.tuple #[.agg FA,.int .i64 0]) (res_two (p:=2) (u:=3) (d:=_) rfl rfl Tryz.underlying134 _ _ (w.heap.size+1) _ rfl G7.out HIF.out) rfl ⟨by rw[HFA.out,HRR.out],HB7.out⟩
def prtR (l:List Th)(k:UInt8):Mc × Bool:=if (prtT l k).2=true then prtT l k else(mc0,false)
theorem ptG_iff (s:List UInt8):ptG s=true↔s.length=7∧s.getD 0 0=1∧mcOf (s.drop 1)≠mc0:=by
 by_cases h1:s.length<1
 ·have q1:pt1 s=([],[],3):=rdn_no s 1 h1
  have hn:ptG s=false:=by unfold ptG;rw[q1];rfl
  rw[hn];constructor
  ·intro h;cases h
  ·intro h;omega
 have q1:pt1 s=(s.take 1,s.drop 1,0):=rdn_ok s 1 (by decide) (by omega)
 have hnum:numOf (pt1 s).1=((s[0]'(by omega)).toNat:Int):=by
  rw[q1]
  have:=numOf_at s 0 (by omega)
  rw[List.drop_zero] at this;exact this
 have hg:s.getD 0 0=s[0]'(by omega):=by simp[List.getD_eq_getElem?_getD,List.getElem?_eq_getElem (show 0<s.length by omega)]
 by_cases h7:s.length<7
 ·have q2:pt2 s=([],[],3):=by unfold pt2;rw[q1];exact rdn_no _ 6 (by simp;omega)
  have hn:ptG s=false:=by
   have e:ptE s=3:=by unfold ptE;rw[q2];rfl
   unfold ptG;rw[e];simp
  rw[hn];constructor
  ·intro h;cases h
  ·intro h;omega
 have q2:pt2 s=((s.drop 1).take 6,s.drop 7,0):=by
  unfold pt2;rw[q1]
  have:=rdn_ok (s.drop 1) 6 (by decide) (by simp;omega)
  rw[List.drop_drop] at this;exact this
 by_cases h8:s.length=7
 ·have e:ptE s=0:=by unfold ptE rdEnd;rw[q2,if_neg (by simp;omega)]
  have e2:(s.drop 1).take 6=s.drop 1:=List.take_of_length_le (by simp;omega)
  unfold ptG
  rw[e,hnum,q2,hg]
  simp only[e2,Bool.and_eq_true,decide_eq_true_eq,Bool.not_eq_true',decide_eq_false_iff_not,true_and]
  constructor
  ·rintro ⟨h1,h2⟩
   exact⟨h8,UInt8.toNat_inj.1 (by have:(1:UInt8).toNat=1:=rfl;omega),h2⟩
  ·rintro ⟨_,h1,h2⟩
   exact⟨by rw[h1];rfl,h2⟩
 ·have e:ptE s≠0:=by unfold ptE rdEnd;rw[q2,if_pos (by simp;omega)];simp[rdFail]
  have hn:ptG s=false:=by unfold ptG;rw[decide_eq_false e];simp
  rw[hn];constructor
  ·intro h;cases h
  ·intro h;omega
theorem prtT_ok {l:List Th}{k:UInt8}(h:(findT l k).2=true)(h7:(findT l k).1.length=7):(prtT l k).1=mcOf ((findT l k).1.drop 1):=by
 unfold prtT
 rw[if_pos h]
 have q1:pt1 (findT l k).1=((findT l k).1.take 1,(findT l k).1.drop 1,0):=rdn_ok _ 1 (by decide) (by omega)
 have q2:pt2 (findT l k).1=(((findT l k).1.drop 1).take 6,(findT l k).1.drop 7,0):=by
  unfold pt2;rw[q1]
  have:=rdn_ok ((findT l k).1.drop 1) 6 (by decide) (by simp;omega)
  rw[List.drop_drop] at this;exact this
 show mcOf (pt2 (findT l k).1).1=_
 rw[q2]
 show mcOf (((findT l k).1.drop 1).take 6)=_
 rw[List.take_of_length_le (by simp;omega)]
theorem eql_macZ (m:Mc){D:Bool}(h:decide (m=mc0)=D):∀ W:World,(binOp .eql 25 (.agg #[.int .u8 m.a,.int .u8 m.b,.int .u8 m.c,.int .u8 m.d,.int .u8 m.e,.int .u8 m.f]) (.agg #[.int .u8 0,.int .u8 0,.int .u8 0,.int .u8 0,.int .u8 0,.int .u8 0])).run Tryz.prog W=.ok (.bool D) W:=fun W=>by rw[←h];exact eql_macG m mc0 W
theorem portR_any (k:UInt8)(K:Int)(hk:(k.toNat:Int)=K)(v:Value)(l:List Th)(w:World)(hv:Tls w v l)(hl:l.length≤1000)(hs:∀ x∈l,x.2.length≤100000) :
  Calls Tryz.prog 104 #[v,.int .u8 K] w fun en w'=>en=.returned (.tuple #[.agg #[.int .u8 (prtR l k).1.a,.int .u8 (prtR l k).1.b,.int .u8 (prtR l k).1.c,.int .u8 (prtR l k).1.d,.int .u8 (prtR l k).1.e,.int .u8 (prtR l k).1.f],.bool (prtR l k).2])∧Below w.heap.size w w':=by
 obtain⟨s,is,hF⟩:∃ s is,findT l k=(s,is):=⟨_,_,rfl⟩
 have hsl:s.length≤100000:=by have:=findT_le l k 100000 hs;rw[hF] at this;exact this
 have F1:Hid (∀ w,Tls w v l→Calls Tryz.prog 102 #[v,.int .u8 K] w fun en w'=>en=.returned (.tuple #[.string (bs s),.bool is])∧w=w'):=hd0 fun w hv=>by
  have h:=refFind_any v l k w hv (by omega)
  rw[hF,hk] at h;exact h
 have hT:(prtT l k).2=if is=true then ptG s else true:=by unfold prtT;rw[hF];cases is <;> rfl
 have hsz:=bs_size s
 obtain⟨A,hA⟩:∃ A:Array Value,A=#[.int .u8 0,.int .u8 0,.int .u8 0,.int .u8 0,.int .u8 0,.int .u8 0]:=⟨_,rfl⟩
 have hs6:A.size=6:=by rw[hA];rfl
 have hi6:(Tryz.prog.info? 25).map (·.size)=some 6:=by kernel_rfl
 have HI:Hid ((Tryz.prog.info? 25).map (·.size)=some A.size):=hd0 (by rw[hs6];exact hi6)
 have o1:A.all (·.oneCell')=true:=by rw[hA];simp[Value.oneCell']
 have O1:=hd0 o1
 have HA:=hd0 hA
 have HV:=hd0 hv
 have G0:Hid (GB 25 (w.alloc (.cells yM 25)) w.heap.size #[.int .u8 0,.int .u8 0,.int .u8 0,.int .u8 0,.int .u8 0,.int .u8 0]):=hd0 (GB.new 25 w #[.int .u8 0,.int .u8 0,.int .u8 0,.int .u8 0,.int .u8 0,.int .u8 0])
 have HB0:Hid (Below w.heap.size w (w.alloc (.cells yM 25))):=hd0 (bA _)
 have HVW:Hid (Tls (w.alloc (.cells yM 25)) v l):=hd0 (HV.out.later HB0.out)
 obtain⟨R,hR⟩:∃ R,prtR l k=R:=⟨_,rfl⟩
 rw[hR]
 unfold prtR at hR
 cases is with
 | false =>
  have HR:Hid (R=(mc0,true)):=hd0 (by
   rw[←hR,if_pos (by rw[hT];rfl)]
   unfold prtT;rw[hF];rfl)
  clear hR hT hF hv hs hA hs6 o1
  go_enter Tryz.func104,Tryz.ntmps104
  go_upto_region 1 with fail
  obtain⟨w0,hw0⟩:∃ z,w.alloc (.cells yM 25)=z:=⟨_,rfl⟩
  rw[hw0] at G0 HB0 HVW ⊢
  clear hw0
  have TH:=hd0 (G0.out.there (n:=A.size) (Nat.le_of_eq (by rw[HA.out])))
  have G1:=hd0 (G0.out.store (A:=A) (by rw[HA.out]) O1.out)
  go_wp2_with (first
   |(go_at_call 102;(with_reducible refine(F1.out _ HVW.out).mono ?_);rintro en w2 ⟨rfl,rfl⟩)
   |((with_reducible refine wpList_store_mid rfl 25 (.tmp 4) (.tmp 16) rfl w.heap.size 0 A ?hx ?hy TH.out HI.out O1.out ?_);(case hx=>rfl);(case hy=>(rw[HA.out];rfl))))
  exact bodyPost_ret (v:=.tuple #[.agg A,.bool true]) (res_two (p:=4) (u:=5) (d:=_) rfl rfl Tryz.underlying25 _ _ w.heap.size _ rfl G1.out HI.out) rfl ⟨by rw[HA.out,HR.out];rfl,below_cellsG (Nat.le_refl _) _ _ _ HB0.out⟩
 | true =>
  rw[if_pos rfl] at hT
  rw[hT] at hR
  have hgi:=ptG_iff s
  by_cases h7:s.length=7
  rotate_left
  ·have hg:ptG s=false:=by
    cases h:ptG s
    ·rfl
    ·exact absurd (hgi.1 h).1 h7
   have HR:Hid (R=(mc0,false)):=hd0 (by rw[←hR,hg];rfl)
   have dl:((s.length:Int) != 7)=true:=by rw[bne_iff_ne];omega
   clear hR hT hF hv hs hA hs6 o1 hgi hg h7
   go_enter Tryz.func104,Tryz.ntmps104
   go_upto_region 1 with fail
   obtain⟨w0,hw0⟩:∃ z,w.alloc (.cells yM 25)=z:=⟨_,rfl⟩
   rw[hw0] at G0 HB0 HVW ⊢
   clear hw0
   have TH:=hd0 (G0.out.there (n:=A.size) (Nat.le_of_eq (by rw[HA.out])))
   have G1:=hd0 (G0.out.store (A:=A) (by rw[HA.out]) O1.out)
   go_wp2_with (first
    |(go_at_call 102;(with_reducible refine(F1.out _ HVW.out).mono ?_);rintro en w2 ⟨rfl,rfl⟩)
    |((with_reducible refine wpList_store_mid rfl 25 (.tmp 4) (.tmp 32) rfl w.heap.size 0 A ?hx ?hy TH.out HI.out O1.out ?_);(case hx=>rfl);(case hy=>(rw[HA.out];rfl))))
   exact bodyPost_ret (v:=.tuple #[.agg A,.bool false]) (res_two (p:=4) (u:=5) (d:=_) rfl rfl Tryz.underlying25 _ _ w.heap.size _ rfl G1.out HI.out) rfl ⟨by rw[HA.out,HR.out];rfl,below_cellsG (Nat.le_refl _) _ _ _ HB0.out⟩
  have dl:((s.length:Int) != 7)=false:=by rw[h7];rfl
  have hz7:(bs s).size=7:=by rw[hsz,h7]
  have h0:(0:Nat)<(bs s).size:=by omega
  have hget:(((bs s)[0]'h0).toNat:Int)=((s.getD 0 0).toNat:Int):=by
   rw[bs_get s 0 h0 (by omega)]
   simp[List.getD_eq_getElem?_getD,List.getElem?_eq_getElem (show 0<s.length by omega)]
  have ex:(bs s).extract 1 s.length=bs (s.drop 1):=bs_drop s 1 s.length (Nat.le_refl _)
  obtain⟨t,ht⟩:∃ t,s.drop 1=t:=⟨_,rfl⟩
  have ht6:t.length=6:=by rw[←ht];simp;omega
  obtain⟨m,hm⟩:∃ m,mcOf t=m:=⟨_,rfl⟩
  have A1:Hid (∀ w,Calls Tryz.prog 103 #[.string (bs t)] w fun en w'=>en=.returned (.agg #[.int .u8 m.a,.int .u8 m.b,.int .u8 m.c,.int .u8 m.d,.int .u8 m.e,.int .u8 m.f])∧Below w.heap.size w w'):=hd0 fun w=>by
   rw[←hm];exact addrR_any t ht6 w
  have hT1:(prtT l k).1=m:=by rw[prtT_ok (by rw[hF]) (by rw[hF];exact h7),hF,← hm,← ht]
  rw[ht] at ex hgi
  rw[hm] at hgi
  by_cases hb0:s.getD 0 0=1
  rotate_left
  ·have hg:ptG s=false:=by
    cases h:ptG s
    ·rfl
    ·exact absurd (hgi.1 h).2.1 hb0
   have HR:Hid (R=(mc0,false)):=hd0 (by rw[←hR,hg];rfl)
   have d0:((((bs s)[0]'h0).toNat:Int) != 1)=true:=by
    rw[hget,bne_iff_ne]
    intro h
    exact hb0 (UInt8.toNat_inj.1 (by have:(1:UInt8).toNat=1:=rfl;omega))
   clear hR hT hF hv hs hA hs6 o1 hgi hg h7 hget hb0 hT1 ht hm ht6
   go_enter Tryz.func104,Tryz.ntmps104
   go_upto_region 1 with fail
   obtain⟨w0,hw0⟩:∃ z,w.alloc (.cells yM 25)=z:=⟨_,rfl⟩
   rw[hw0] at G0 HB0 HVW ⊢
   clear hw0
   have TH:=hd0 (G0.out.there (n:=A.size) (Nat.le_of_eq (by rw[HA.out])))
   have G1:=hd0 (G0.out.store (A:=A) (by rw[HA.out]) O1.out)
   go_wp2_with (first
    |(go_at_call 102;(with_reducible refine(F1.out _ HVW.out).mono ?_);rintro en w2 ⟨rfl,rfl⟩)
    |((with_reducible refine wpList_store_mid rfl 25 (.tmp 4) (.tmp 32) rfl w.heap.size 0 A ?hx ?hy TH.out HI.out O1.out ?_);(case hx=>rfl);(case hy=>(rw[HA.out];rfl))))
   exact bodyPost_ret (v:=.tuple #[.agg A,.bool false]) (res_two (p:=4) (u:=5) (d:=_) rfl rfl Tryz.underlying25 _ _ w.heap.size _ rfl G1.out HI.out) rfl ⟨by rw[HA.out,HR.out];rfl,below_cellsG (Nat.le_refl _) _ _ _ HB0.out⟩
  have d0:((((bs s)[0]'h0).toNat:Int) != 1)=false:=by rw[hget,hb0];rfl
  obtain⟨D,hD⟩:∃ D,decide (m=mc0)=D:=⟨_,rfl⟩
  have EQ:=eql_macZ m hD
  cases D with
  | true =>
   have hg:ptG s=false:=by
    cases h:ptG s
    ·rfl
    ·exact absurd (of_decide_eq_true hD) (hgi.1 h).2.2
   have HR:Hid (R=(mc0,false)):=hd0 (by rw[←hR,hg];rfl)
   clear hR hT hF hv hs hA hs6 o1 hgi hg h7 hget hb0 hT1 ht hm ht6 hD
   go_enter Tryz.func104,Tryz.ntmps104
   go_upto_region 1 with fail
   obtain⟨w0,hw0⟩:∃ z,w.alloc (.cells yM 25)=z:=⟨_,rfl⟩
   rw[hw0] at G0 HB0 HVW ⊢
   clear hw0
   go_wp2_with (first
    |(go_at_call 102;(with_reducible refine(F1.out _ HVW.out).mono ?_);rintro en w2 ⟨rfl,rfl⟩)
    |(go_at_call 103;(with_reducible refine(A1.out _).mono ?_);rintro en w3 ⟨rfl,hb3⟩;have G3:=G0.out.later hb3;have HB3:=hd0 (HB0.out.trans (hb3.mono HB0.out.size));have TH:=hd0 (G3.there (n:=A.size) (Nat.le_of_eq (by rw[HA.out])));have G1:=hd0 (G3.store (A:=A) (by rw[HA.out]) O1.out);clear G3 hb3)
    |((with_reducible refine wpList_store_mid rfl 25 (.tmp 4) (.tmp 32) rfl w.heap.size 0 A ?hx ?hy TH.out HI.out O1.out ?_);(case hx=>rfl);(case hy=>(rw[HA.out];rfl))))
   exact bodyPost_ret (v:=.tuple #[.agg A,.bool false]) (res_two (p:=4) (u:=5) (d:=_) rfl rfl Tryz.underlying25 _ _ w.heap.size _ rfl G1.out HI.out) rfl ⟨by rw[HA.out,HR.out];rfl,below_cellsG (Nat.le_refl _) _ _ _ HB3.out⟩
  | false =>
   have hg:ptG s=true:=hgi.2 ⟨h7,hb0,of_decide_eq_false hD⟩
   have HR:Hid (R=(m,true)):=hd0 (by rw[←hR,hg,if_pos rfl,← hT1,← hg,← hT])
   obtain⟨M,hM⟩:∃ A:Array Value,A=#[.int .u8 m.a,.int .u8 m.b,.int .u8 m.c,.int .u8 m.d,.int .u8 m.e,.int .u8 m.f]:=⟨_,rfl⟩
   have hm6:M.size=6:=by rw[hM];rfl
   have HIM:Hid ((Tryz.prog.info? 25).map (·.size)=some M.size):=hd0 (by rw[hm6];exact hi6)
   have OM:Hid (M.all (·.oneCell')=true):=hd0 (by rw[hM];simp[Value.oneCell'])
   have HM:=hd0 hM
   have HM6:=hd0 hm6
   clear hR hT hF hv hs hA hs6 o1 hgi hg h7 hget hb0 hT1 ht hm ht6 hD hM hm6
   go_enter Tryz.func104,Tryz.ntmps104
   go_upto_region 1 with fail
   obtain⟨w0,hw0⟩:∃ z,w.alloc (.cells yM 25)=z:=⟨_,rfl⟩
   rw[hw0] at G0 HB0 HVW ⊢
   clear hw0
   go_wp2_with (first
    |(go_at_call 102;(with_reducible refine(F1.out _ HVW.out).mono ?_);rintro en w2 ⟨rfl,rfl⟩)
    |(go_at_call 103;(with_reducible refine(A1.out _).mono ?_);rintro en w3 ⟨rfl,hb3⟩;have G0:=hd0 (G0.out.later hb3);have HB0:=hd0 (HB0.out.trans (hb3.mono HB0.out.size));have TH:=hd0 (G0.out.there (n:=M.size) (Nat.le_of_eq HM6.out));have G1:=hd0 (G0.out.store (A:=M) HM6.out.symm OM.out);clear hb3)
    |((with_reducible refine wpList_store_mid rfl 25 (.tmp 4) (.tmp 35) rfl w.heap.size 0 M ?hx ?hy TH.out HIM.out OM.out ?_);(case hx=>rfl);(case hy=>(rw[HM.out];rfl))))
   exact bodyPost_ret (v:=.tuple #[.agg M,.bool true]) (res_two (p:=4) (u:=5) (d:=_) rfl rfl Tryz.underlying25 _ _ w.heap.size _ rfl G1.out HIM.out) rfl ⟨by rw[HM.out,HR.out],below_cellsG (Nat.le_refl _) _ _ _ HB0.out⟩
theorem tr_6 (f:List UInt8)(h:f.length=6):tr1 f=(f.take 4,f.drop 4,0)∧tr2 f=((f.drop 4).take 1,f.drop 5,0)∧tr3 f=((f.drop 5).take 1,f.drop 6,0):=by
 have q1:tr1 f=(f.take 4,f.drop 4,0):=rdn_ok f 4 (by decide) (by omega)
 have q2:tr2 f=((f.drop 4).take 1,f.drop 5,0):=by
  unfold tr2;rw[q1]
  have:=rdn_ok (f.drop 4) 1 (by decide) (by simp;omega)
  rw[List.drop_drop] at this;exact this
 have q3:tr3 f=((f.drop 5).take 1,f.drop 6,0):=by
  unfold tr3;rw[q2]
  have:=rdn_ok (f.drop 5) 1 (by decide) (by simp;omega)
  rw[List.drop_drop] at this;exact this
 exact⟨q1,q2,q3⟩
theorem trE_iff (f:List UInt8):trE f=0↔f.length=6:=by
 by_cases h1:f.length<4
 ·have q1:tr1 f=([],[],3):=rdn_no f 4 h1
  have q2:tr2 f=([],[],3):=by unfold tr2;rw[q1];exact rdn_err 1
  have q3:tr3 f=([],[],3):=by unfold tr3;rw[q2];exact rdn_err 1
  unfold trE;rw[q3];constructor
  ·intro h;exact absurd h (by decide)
  ·intro h;omega
 have q1:tr1 f=(f.take 4,f.drop 4,0):=rdn_ok f 4 (by decide) (by omega)
 by_cases h2:f.length<5
 ·have q2:tr2 f=([],[],3):=by unfold tr2;rw[q1];exact rdn_no _ 1 (by simp;omega)
  have q3:tr3 f=([],[],3):=by unfold tr3;rw[q2];exact rdn_err 1
  unfold trE;rw[q3];constructor
  ·intro h;exact absurd h (by decide)
  ·intro h;omega
 have q2:tr2 f=((f.drop 4).take 1,f.drop 5,0):=by
  unfold tr2;rw[q1]
  have:=rdn_ok (f.drop 4) 1 (by decide) (by simp;omega)
  rw[List.drop_drop] at this;exact this
 by_cases h3:f.length<6
 ·have q3:tr3 f=([],[],3):=by unfold tr3;rw[q2];exact rdn_no _ 1 (by simp;omega)
  unfold trE;rw[q3];constructor
  ·intro h;exact absurd h (by decide)
  ·intro h;omega
 have q3:tr3 f=((f.drop 5).take 1,f.drop 6,0):=by
  unfold tr3;rw[q2]
  have:=rdn_ok (f.drop 5) 1 (by decide) (by simp;omega)
  rw[List.drop_drop] at this;exact this
 unfold trE rdEnd;rw[q3]
 by_cases h5:f.length=6
 ·rw[if_neg (by simp;omega)];simp[h5]
 ·rw[if_pos (by simp;omega)]
  constructor
  ·intro h;exact absurd h (by simp[rdFail])
  ·intro h;exact absurd h h5
structure RK15 (w W:World)(a b c:Int)(f:List UInt8)(v:Value)(q5 q6:Nat)(m5 m6:Mc):Prop where
 pb:PB 115 W w.heap.size a b c f v
 pz:GB 153 W (w.heap.size+1) #[.int .u8 0,.int .u32 0,.int .u8 0,.bool false,.bool false,.int .u8 0,.int .u8 0,.int .u8 0,.int .u8 0,.int .u8 0,.int .u8 0,.int .u8 0,.int .u8 0,.int .u8 0,.int .u8 0,.int .u8 0,.int .u8 0]
 g5:GB 25 W q5 #[.int .u8 m5.a,.int .u8 m5.b,.int .u8 m5.c,.int .u8 m5.d,.int .u8 m5.e,.int .u8 m5.f]
 g6:GB 25 W q6 #[.int .u8 m6.a,.int .u8 m6.b,.int .u8 m6.c,.int .u8 m6.d,.int .u8 m6.e,.int .u8 m6.f]
 bel:Below w.heap.size w W
theorem RK15.later {w W W':World}{a b c:Int}{f:List UInt8}{v:Value}{q5 q6:Nat}{m5 m6:Mc}(h:RK15 w W a b c f v q5 q6 m5 m6)(hb:Below W.heap.size W W'):RK15 w W' a b c f v q5 q6 m5 m6 :=
 ⟨h.pb.later hb,h.pz.later hb,h.g5.later hb,h.g6.later hb,h.bel.trans (hb.mono h.bel.size)⟩
theorem RK15.s15 {w W : World} {a b c : Int} {f : List UInt8} {v : Value} {q5 q6 : Nat} {m5 m6 : Mc} (h : RK15 w W a b c f v q5 q6 m5 m6) : W.cell? ⟨w.heap.size, 0, none⟩ = some (.int .u8 a) ∧ W.cell? ⟨w.heap.size, 2, none⟩ = some (.int .u8 c) ∧ W.cell? ⟨w.heap.size, 3, none⟩ = some (.string (bs f)) ∧
      W.cell? ⟨q5,0,none⟩=some (.int .u8 m5.a)∧W.cell? ⟨q5,1,none⟩=some (.int .u8 m5.b)∧W.cell? ⟨q5,2,none⟩=some (.int .u8 m5.c)∧W.cell? ⟨q5,3,none⟩=some (.int .u8 m5.d)∧W.cell? ⟨q5,4,none⟩=some (.int .u8 m5.e)∧W.cell? ⟨q5,5,none⟩=some (.int .u8 m5.f) ∧
      W.cell? ⟨q6,0,none⟩=some (.int .u8 m6.a)∧W.cell? ⟨q6,1,none⟩=some (.int .u8 m6.b)∧W.cell? ⟨q6,2,none⟩=some (.int .u8 m6.c)∧W.cell? ⟨q6,3,none⟩=some (.int .u8 m6.d)∧W.cell? ⟨q6,4,none⟩=some (.int .u8 m6.e)∧W.cell? ⟨q6,5,none⟩=some (.int .u8 m6.f) :=
 ⟨h.pb.c0,h.pb.c2,h.pb.c3,h.g5.c 0 _ rfl,h.g5.c 1 _ rfl,h.g5.c 2 _ rfl,h.g5.c 3 _ rfl,h.g5.c 4 _ rfl,h.g5.c 5 _ rfl,h.g6.c 0 _ rfl,h.g6.c 1 _ rfl,h.g6.c 2 _ rfl,h.g6.c 3 _ rfl,h.g6.c 4 _ rfl,h.g6.c 5 _ rfl⟩
theorem refTakeR15_any (v:Value)(l:List Th)(a b c:Int)(f:List UInt8)(w:World)(hf:f.length≤1000)(hc:0≤c∧c<256)(hv:Tls w v l)(hl:l.length≤1000)(hs:∀ x∈l,x.2.length≤100000):Calls Tryz.prog 61 #[.agg #[.int .u8 a,.int .u8 b,.int .u8 c,.string (bs f),v]] w fun en w' =>
  en=.returned (.tuple #[.agg #[.int .u8 (tkRp a b c f l).1.lv,.int .u32 (tkRp a b c f l).1.nm,.int .u8 (tkRp a b c f l).1.tl,.bool (tkRp a b c f l).1.st,.bool (tkRp a b c f l).1.en,.int .u8 (tkRp a b c f l).1.mi.a,.int .u8 (tkRp a b c f l).1.mi.b,.int .u8 (tkRp a b c f l).1.mi.c,.int .u8 (tkRp a b c f l).1.mi.d,.int .u8 (tkRp a b c f l).1.mi.e,.int .u8 (tkRp a b c f l).1.mi.f,.int .u8 (tkRp a b c f l).1.mo.a,.int .u8 (tkRp a b c f l).1.mo.b,.int .u8 (tkRp a b c f l).1.mo.c,.int .u8 (tkRp a b c f l).1.mo.d,.int .u8 (tkRp a b c f l).1.mo.e,.int .u8 (tkRp a b c f l).1.mo.f],.int .i64 (tkRp a b c f l).2])∧Below w.heap.size w w':=by
 obtain⟨vx,vk,hvv,-⟩:=hv.shape
 obtain⟨vn,hvn⟩:∃ n,l.length=n:=⟨_,rfl⟩
 rw[hvn] at hvv
 subst hvv
 have hsf:=bs_size f
 obtain⟨R,hR⟩:∃ R,tkRp a b c f l=R:=⟨_,rfl⟩
 rw[hR]
 have HR:=hd0 hR
 clear hR
 obtain⟨⟨m5,k5⟩,h5⟩:∃ z,prtR l 5=z:=⟨_,rfl⟩
 obtain⟨⟨m6,k6⟩,h6⟩:∃ z,prtR l 6=z:=⟨_,rfl⟩
 have P5:Hid (∀ w,Tls w (.slice vx vn vk) l→Calls Tryz.prog 104 #[.slice vx vn vk,.int .u8 5] w fun en w'=>en=.returned (.tuple #[.agg #[.int .u8 m5.a,.int .u8 m5.b,.int .u8 m5.c,.int .u8 m5.d,.int .u8 m5.e,.int .u8 m5.f],.bool k5])∧Below w.heap.size w w'):=hd0 fun w hv=>by
  have h:=portR_any 5 5 rfl (.slice vx vn vk) l w hv (by omega) hs
  rw[h5] at h;exact h
 have P6:Hid (∀ w,Tls w (.slice vx vn vk) l→Calls Tryz.prog 104 #[.slice vx vn vk,.int .u8 6] w fun en w'=>en=.returned (.tuple #[.agg #[.int .u8 m6.a,.int .u8 m6.b,.int .u8 m6.c,.int .u8 m6.d,.int .u8 m6.e,.int .u8 m6.f],.bool k6])∧Below w.heap.size w w'):=hd0 fun w hv=>by
  have h:=portR_any 6 6 rfl (.slice vx vn vk) l w hv (by omega) hs
  rw[h6] at h;exact h
 have t5:(prtT l 5).2=k5∧(k5=true→(prtT l 5).1=m5):=by
  unfold prtR at h5
  cases h:(prtT l 5).2
  ·rw[h] at h5;cases h5;exact⟨rfl,fun h=>by cases h⟩
  ·rw[h,if_pos rfl] at h5;rw[h5] at h;rw[h5];exact⟨h.symm,fun _=>rfl⟩
 have t6:(prtT l 6).2=k6∧(k6=true→(prtT l 6).1=m6):=by
  unfold prtR at h6
  cases h:(prtT l 6).2
  ·rw[h] at h6;cases h6;exact⟨rfl,fun h=>by cases h⟩
  ·rw[h,if_pos rfl] at h6;rw[h6] at h;rw[h6];exact⟨h.symm,fun _=>rfl⟩
 have HV:=hd0 hv
 clear hv hvn h5 h6 hl hs
 go_enter Tryz.func61,Tryz.ntmps61
 go_upto_region 1 with fail
 have pb0:=(PB.new 115 w a b c f (.slice vx vn vk)).later (bA (.cells yR 153))
 have pz:GB 153 ((w.alloc (.cells #[.int .u8 a,.int .u8 b,.int .u8 c,.string (bs f),.slice vx vn vk] 115)).alloc (.cells yR 153)) (w.heap.size+1) #[.int .u8 0,.int .u32 0,.int .u8 0,.bool false,.bool false,.int .u8 0,.int .u8 0,.int .u8 0,.int .u8 0,.int .u8 0,.int .u8 0,.int .u8 0,.int .u8 0,.int .u8 0,.int .u8 0,.int .u8 0,.int .u8 0]:=by
  have:=GB.new 153 (w.alloc (.cells #[.int .u8 a,.int .u8 b,.int .u8 c,.string (bs f),.slice vx vn vk] 115)) #[.int .u8 0,.int .u32 0,.int .u8 0,.bool false,.bool false,.int .u8 0,.int .u8 0,.int .u8 0,.int .u8 0,.int .u8 0,.int .u8 0,.int .u8 0,.int .u8 0,.int .u8 0,.int .u8 0,.int .u8 0,.int .u8 0]
  rw[show(w.alloc (.cells #[.int .u8 a,.int .u8 b,.int .u8 c,.string (bs f),.slice vx vn vk] 115)).heap.size=w.heap.size+1 by simp] at this
  exact this
 have hb0:Below w.heap.size w ((w.alloc (.cells #[.int .u8 a,.int .u8 b,.int .u8 c,.string (bs f),.slice vx vn vk] 115)).alloc (.cells yR 153)):=(bA _).alloc (by simp) _
 obtain⟨w0,hw0⟩:∃ k,(w.alloc (.cells #[.int .u8 a,.int .u8 b,.int .u8 c,.string (bs f),.slice vx vn vk] 115)).alloc (.cells yR 153)=k:=⟨_,rfl⟩
 rw[hw0] at pb0 pz hb0 ⊢
 have c4:=pb0.c4
 have PB0:=hd0 pb0
 have PZ0:=hd0 pz
 have HB0:=hd0 hb0
 clear hw0 pb0 pz hb0
 go_wp2_with fail
 with_reducible refine(P5.out _ (HV.out.later HB0.out)).mono ?_
 rintro en w2 ⟨rfl,hb2⟩
 have PB2:=hd0 (PB0.out.later hb2)
 have PZ2:=hd0 (PZ0.out.later hb2)
 have HB2:=hd0 (HB0.out.trans (hb2.mono HB0.out.size))
 clear hb2 PB0 PZ0 HB0 c4
 go_upto_region 2 with fail
 have aa:=(Below.refl w2.heap.size w2).alloc (Nat.le_refl _) (.cells #[.int .u8 m5.a,.int .u8 m5.b,.int .u8 m5.c,.int .u8 m5.d,.int .u8 m5.e,.int .u8 m5.f] 25)
 have g5:=GB.new 25 w2 #[.int .u8 m5.a,.int .u8 m5.b,.int .u8 m5.c,.int .u8 m5.d,.int .u8 m5.e,.int .u8 m5.f]
 obtain⟨q5,hq5⟩:∃ q,w2.heap.size=q:=⟨_,rfl⟩
 obtain⟨w3,hw3⟩:∃ k,w2.alloc (.cells #[.int .u8 m5.a,.int .u8 m5.b,.int .u8 m5.c,.int .u8 m5.d,.int .u8 m5.e,.int .u8 m5.f] 25)=k:=⟨_,rfl⟩
 rw[hw3] at aa g5 ⊢
 have PB3:=hd0 (PB2.out.later aa)
 have PZ3:=hd0 (PZ2.out.later aa)
 have HB3:=hd0 (HB2.out.trans (aa.mono HB2.out.size))
 rw[hq5] at g5 ⊢
 have G53:=hd0 g5
 have c4:=PB3.out.c4
 clear aa g5 hw3 hq5 PB2 PZ2 HB2
 go_wp2_with fail
 with_reducible refine(P6.out _ (HV.out.later HB3.out)).mono ?_
 rintro en w4 ⟨rfl,hb4⟩
 have PB4:=hd0 (PB3.out.later hb4)
 have PZ4:=hd0 (PZ3.out.later hb4)
 have G54:=hd0 (G53.out.later hb4)
 have HB4:=hd0 (HB3.out.trans (hb4.mono HB3.out.size))
 clear hb4 PB3 PZ3 HB3 G53 c4
 go_upto_region 3 with fail
 have aa:=(Below.refl w4.heap.size w4).alloc (Nat.le_refl _) (.cells #[.int .u8 m6.a,.int .u8 m6.b,.int .u8 m6.c,.int .u8 m6.d,.int .u8 m6.e,.int .u8 m6.f] 25)
 have g6:=GB.new 25 w4 #[.int .u8 m6.a,.int .u8 m6.b,.int .u8 m6.c,.int .u8 m6.d,.int .u8 m6.e,.int .u8 m6.f]
 obtain⟨q6,hq6⟩:∃ q,w4.heap.size=q:=⟨_,rfl⟩
 obtain⟨w5,hw5⟩:∃ k,w4.alloc (.cells #[.int .u8 m6.a,.int .u8 m6.b,.int .u8 m6.c,.int .u8 m6.d,.int .u8 m6.e,.int .u8 m6.f] 25)=k:=⟨_,rfl⟩
 rw[hw5] at aa g6 ⊢
 rw[hq6] at g6 ⊢
 have K5:Hid (RK15 w w5 a b c f (.slice vx vn vk) q5 q6 m5 m6):=hd0 ⟨PB4.out.later aa,PZ4.out.later aa,G54.out.later aa,g6,HB4.out.trans (aa.mono HB4.out.size)⟩
 clear aa g6 hw5 hq6 PB4 PZ4 HB4 G54
 have c1:=K5.out.pb.c1
 have c3:=K5.out.pb.c3
 obtain⟨A,hA⟩:∃ A:Array Value,A=#[.int .u8 0,.int .u32 0,.int .u8 0,.bool false,.bool false,.int .u8 0,.int .u8 0,.int .u8 0,.int .u8 0,.int .u8 0,.int .u8 0,.int .u8 0,.int .u8 0,.int .u8 0,.int .u8 0,.int .u8 0,.int .u8 0]:=⟨_,rfl⟩
 have hs17:A.size=17:=by rw[hA];rfl
 have TH:=hd0 (K5.out.pz.there (n:=A.size) (Nat.le_of_eq hs17))
 have o1:A.all (·.oneCell')=true:=by rw[hA];simp[Value.oneCell']
 have HS17:=hd0 hs17
 have G1:=hd0 (K5.out.pz.store (A:=A) hs17.symm o1)
 have HI:Hid ((Tryz.prog.info? 153).map (·.size)=some A.size):=hd0 (by rw[hs17];kernel_rfl)
 have O1:=hd0 o1
 have HA:=hd0 hA
 clear hA hs17 o1
 by_cases hok:b=4∧f.length=6∧k5=true∧k6=true
 rotate_left
 ·have HR2:Hid (R=(rp0,4)):=hd0 (by
   rw[←HR.out];unfold tkRp
   rw[if_neg (fun h=>hok ⟨h.2.2.1,(trE_iff f).1 h.2.1,t5.1.symm.trans h.2.2.2.1,t6.1.symm.trans h.2.2.2.2⟩)])
  by_cases hb4:b=4
  rotate_left
  ·have db:(b != 4)=true:=by rw[bne_iff_ne];exact hb4
   clear hb4 hok t5 t6
   go_wp2_with ((with_reducible refine wpList_store_mid rfl 153 (.tmp 2) (.tmp 40) rfl (w.heap.size+1) 0 A ?hx ?hy TH.out HI.out O1.out ?_);(case hx=>rfl);(case hy=>(rw[HA.out];rfl)))
   exact bodyPost_ret (v:=.tuple #[.agg A,.int .i64 4]) (res_two (p:=2) (u:=3) (d:=_) rfl rfl Tryz.underlying153 _ _ (w.heap.size+1) _ rfl G1.out HI.out) rfl ⟨by rw[HA.out,HR2.out];rfl,below_cellsG (by omega) _ _ _ K5.out.bel⟩
  have db:(b != 4)=false:=by rw[hb4];rfl
  by_cases hf6:f.length=6
  rotate_left
  ·have dl:((f.length:Int) != 6)=true:=by rw[bne_iff_ne];omega
   clear hb4 hok t5 t6 hf6
   go_wp2_with ((with_reducible refine wpList_store_mid rfl 153 (.tmp 2) (.tmp 40) rfl (w.heap.size+1) 0 A ?hx ?hy TH.out HI.out O1.out ?_);(case hx=>rfl);(case hy=>(rw[HA.out];rfl)))
   exact bodyPost_ret (v:=.tuple #[.agg A,.int .i64 4]) (res_two (p:=2) (u:=3) (d:=_) rfl rfl Tryz.underlying153 _ _ (w.heap.size+1) _ rfl G1.out HI.out) rfl ⟨by rw[HA.out,HR2.out];rfl,below_cellsG (by omega) _ _ _ K5.out.bel⟩
  have dl:((f.length:Int) != 6)=false:=by rw[hf6];rfl
  cases k5 with
  | false =>
   clear hb4 hok t5 t6 hf6
   go_wp2_with ((with_reducible refine wpList_store_mid rfl 153 (.tmp 2) (.tmp 40) rfl (w.heap.size+1) 0 A ?hx ?hy TH.out HI.out O1.out ?_);(case hx=>rfl);(case hy=>(rw[HA.out];rfl)))
   exact bodyPost_ret (v:=.tuple #[.agg A,.int .i64 4]) (res_two (p:=2) (u:=3) (d:=_) rfl rfl Tryz.underlying153 _ _ (w.heap.size+1) _ rfl G1.out HI.out) rfl ⟨by rw[HA.out,HR2.out];rfl,below_cellsG (by omega) _ _ _ K5.out.bel⟩
  | true =>
   cases k6 with
   | false =>
    clear hb4 hok t5 t6 hf6
    go_wp2_with ((with_reducible refine wpList_store_mid rfl 153 (.tmp 2) (.tmp 40) rfl (w.heap.size+1) 0 A ?hx ?hy TH.out HI.out O1.out ?_);(case hx=>rfl);(case hy=>(rw[HA.out];rfl)))
    exact bodyPost_ret (v:=.tuple #[.agg A,.int .i64 4]) (res_two (p:=2) (u:=3) (d:=_) rfl rfl Tryz.underlying153 _ _ (w.heap.size+1) _ rfl G1.out HI.out) rfl ⟨by rw[HA.out,HR2.out];rfl,below_cellsG (by omega) _ _ _ K5.out.bel⟩
   | true=>exact absurd ⟨hb4,hf6,rfl,rfl⟩ hok
 obtain⟨hb4,h6,rfl,rfl⟩:=hok
 obtain⟨q1,q2,q3⟩:=tr_6 f h6
 have hz6:(bs f).size=6:=by rw[hsf,h6]
 have h4:(4:Nat)<(bs f).size:=by omega
 have h5:(5:Nat)<(bs f).size:=by omega
 obtain⟨nm,hnm⟩:∃ y,numOf (tr1 f).1=y:=⟨_,rfl⟩
 obtain⟨l1,hl1⟩:∃ y,f.drop 4=y:=⟨_,rfl⟩
 have N1:Hid (∀ w,Calls Tryz.prog 101 #[.agg #[.string (bs f),.int .i64 0],.int .i64 4] w fun en w'=>en=.returned (.tuple #[.int .u64 nm,.agg #[.string (bs l1),.int .i64 0]])∧Below w.heap.size w w'):=fun w=>by
  have h:=refNum_any f 0 4 w (by omega) (by decide)
  rw[show rdText f 0 ((4:Nat):Int)=tr1 f from rfl,hnm] at h
  rw[q1,hl1] at h;exact h
 have b1:=(numOf_bd (tr1 f).1).1
 have b1':=numOf_lt (tr1 f).1 4 4294967296 (by rw[q1];simp;omega) (by decide)
 rw[hnm] at b1 b1'
 have w1:IntKind.u32.wrap nm=nm:=IntWalk.u32_in _ (by omega)
 obtain⟨S,hS⟩:∃ S,decide (c / 64 % 2=1)=S:=⟨_,rfl⟩
 obtain⟨E,hE⟩:∃ E,decide (c / 32 % 2=1)=E:=⟨_,rfl⟩
 have v1:c.tdiv 64=c / 64:=Int.tdiv_eq_ediv_of_nonneg hc.1
 have v2:c.tdiv 32=c / 32:=Int.tdiv_eq_ediv_of_nonneg hc.1
 have v3:(c / 64).tmod 2=c / 64 % 2:=Int.tmod_eq_emod_of_nonneg (by omega)
 have v4:(c / 32).tmod 2=c / 32 % 2:=Int.tmod_eq_emod_of_nonneg (by omega)
 have x1:IntKind.u8.wrap (c / 64)=c / 64:=IntWalk.u8_in _ (by omega)
 have x2:IntKind.u8.wrap (c / 32)=c / 32:=IntWalk.u8_in _ (by omega)
 have x3:IntKind.u8.wrap (c / 64 % 2)=c / 64 % 2:=IntWalk.u8_in _ (by omega)
 have x4:IntKind.u8.wrap (c / 32 % 2)=c / 32 % 2:=IntWalk.u8_in _ (by omega)
 have y1:(c / 64 % 2==1)=S:=by rw[←hS,Bool.eq_iff_iff];simp
 have y2:(c / 32 % 2==1)=E:=by rw[←hE,Bool.eq_iff_iff];simp
 have e2:=numOf_at f 4 (by omega)
 have e3:=numOf_at f 5 (by omega)
 have hg5:(((bs f)[5]'h5).toNat:Int)=numOf (tr3 f).1:=by rw[q3,e3,bs_get f 5 h5 (by omega)]
 have hRR:R=if (((bs f)[5]'h5).toNat:Int)=(if E=true then 1 else 2) then(⟨a,nm,(((bs f)[4]'h4).toNat:Int),S,E,m5,m6⟩,0) else(rp0,4):=by
  rw[←HR.out];unfold tkRp
  rw[hg5,← hE,← hS,hnm,t5.2 rfl,t6.2 rfl,q2,e2,bs_get f 4 h4 (by omega)]
  by_cases h:numOf (tr3 f).1=(if c / 32 % 2=1 then 1 else 2)
  ·rw[if_pos ⟨h,(trE_iff f).2 h6,hb4,t5.1,t6.1⟩,if_pos (by rw[h];simp)]
  ·rw[if_neg (fun k=>h k.1),if_neg (by intro k;apply h;rw[k];simp)]
 have HRR:=hd0 hRR
 have db:(b != 4)=false:=by rw[hb4];rfl
 have dl:((f.length:Int) != 6)=false:=by rw[h6];rfl
 clear hb4 q1 q2 q3 hnm hl1 b1 b1' hf e2 e3 hg5 hRR hS hE t5 t6 HR
 go_wp2_with fail
 with_reducible refine(N1.out _).mono ?_
 rintro en w6 ⟨rfl,hb6⟩
 have K6:=hd0 (K5.out.later hb6)
 clear hb6 K5 c1 c3 TH G1
 go_upto_region 6 with fail
 have aa:=(Below.refl w6.heap.size w6).alloc (Nat.le_refl _) (.cells #[.string (bs l1),.int .i64 0] 198)
 obtain⟨w7,hw7⟩:∃ k,w6.alloc (.cells #[.string (bs l1),.int .i64 0] 198)=k:=⟨_,rfl⟩
 rw[hw7] at aa ⊢
 have K7:=hd0 (K6.out.later aa.drew)
 clear aa hw7 K6
 obtain⟨FA,hFA⟩:∃ A:Array Value,A=#[.int .u8 a,.int .u32 nm,.int .u8 (((bs f)[4]'h4).toNat:Int),.bool S,.bool E,.int .u8 m5.a,.int .u8 m5.b,.int .u8 m5.c,.int .u8 m5.d,.int .u8 m5.e,.int .u8 m5.f,.int .u8 m6.a,.int .u8 m6.b,.int .u8 m6.c,.int .u8 m6.d,.int .u8 m6.e,.int .u8 m6.f]:=⟨_,rfl⟩
 have HSZ:Hid (FA.size=17):=hd0 (by rw[hFA];rfl)
 have HIF:Hid ((Tryz.prog.info? 153).map (·.size)=some FA.size):=hd0 (by rw[HSZ.out];kernel_rfl)
 have HIL:Hid ((Tryz.prog.info? 153).map (·.size)=some FA.toList.length):=hd0 (by rw[Array.length_toList];exact HIF.out)
 have O1F:Hid (FA.all (·.oneCell')=true):=hd0 (by rw[hFA];simp[Value.oneCell'])
 have HFA:=hd0 hFA
 clear hFA
 go_cut [10] (fun s10 wx=>∃ q:Nat,s10=.pointer (some ⟨q,0,none⟩)∧Hid (GB 153 wx q FA)∧Hid (RK15 w wx a b c f (.slice vx vn vk) q5 q6 m5 m6))
 case first =>
  refine wp_region_held_drew (S:=fun W=>W.cell? ⟨w.heap.size,0,none⟩=some (.int .u8 a)∧W.cell? ⟨w.heap.size,2,none⟩=some (.int .u8 c)∧W.cell? ⟨w.heap.size,3,none⟩=some (.string (bs f)) ∧
   W.cell? ⟨q5,0,none⟩=some (.int .u8 m5.a)∧W.cell? ⟨q5,1,none⟩=some (.int .u8 m5.b)∧W.cell? ⟨q5,2,none⟩=some (.int .u8 m5.c)∧W.cell? ⟨q5,3,none⟩=some (.int .u8 m5.d)∧W.cell? ⟨q5,4,none⟩=some (.int .u8 m5.e)∧W.cell? ⟨q5,5,none⟩=some (.int .u8 m5.f) ∧
   W.cell? ⟨q6,0,none⟩=some (.int .u8 m6.a)∧W.cell? ⟨q6,1,none⟩=some (.int .u8 m6.b)∧W.cell? ⟨q6,2,none⟩=some (.int .u8 m6.c)∧W.cell? ⟨q6,3,none⟩=some (.int .u8 m6.d)∧W.cell? ⟨q6,4,none⟩=some (.int .u8 m6.e)∧W.cell? ⟨q6,5,none⟩=some (.int .u8 m6.f)) (by kernel_rfl)
   K7.out.s15 (fun hHeld=>?_)
  refine tkH 0 ?_ ?h ?_
  case h=>(intro w hSw;go_simp;try with_reducible rfl)
  try simp only[Act.put,zz]
  refine tkH 1 ?_ ?h ?_
  case h=>(intro w hSw;go_simp;try with_reducible rfl)
  try simp only[Act.put,zz]
  refine tkH 2 ?_ ?h ?_
  case h=>(intro w hSw;go_simp;try with_reducible rfl)
  try simp only[Act.put,zz]
  refine tkH 3 ?_ ?h ?_
  case h=>(intro w hSw;go_simp;try with_reducible rfl)
  try simp only[Act.put,zz]
  refine tkH 4 ?_ ?h ?_
  case h=>(intro w hSw;go_simp;try with_reducible rfl)
  try simp only[Act.put,zz]
  refine tkH 5 ?_ ?h ?_
  case h=>(intro w hSw;go_simp;try with_reducible rfl)
  try simp only[Act.put,zz]
  refine tkH 6 ?_ ?h ?_
  case h=>(intro w hSw;go_simp;try with_reducible rfl)
  try simp only[Act.put,zz]
  refine tkH 7 ?_ ?h ?_
  case h=>(intro w hSw;go_simp;try with_reducible rfl)
  try simp only[Act.put,zz]
  refine tkH 8 ?_ ?h ?_
  case h=>(intro w hSw;go_simp;try with_reducible rfl)
  try simp only[Act.put,zz]
  refine tkH 9 ?_ ?h ?_
  case h=>(intro w hSw;go_simp;try with_reducible rfl)
  try simp only[Act.put,zz]
  refine tkH 10 ?_ ?h ?_
  case h=>(intro w hSw;go_simp;try with_reducible rfl)
  try simp only[Act.put,zz]
  refine tkH 11 ?_ ?h ?_
  case h=>(intro w hSw;go_simp;try with_reducible rfl)
  try simp only[Act.put,zz]
  refine tkH 12 ?_ ?h ?_
  case h=>(intro w hSw;go_simp;try with_reducible rfl)
  try simp only[Act.put,zz]
  refine tkH 13 ?_ ?h ?_
  case h=>(intro w hSw;go_simp;try with_reducible rfl)
  try simp only[Act.put,zz]
  refine tkH 14 ?_ ?h ?_
  case h=>(intro w hSw;go_simp;try with_reducible rfl)
  try simp only[Act.put,zz]
  refine tkH 15 ?_ ?h ?_
  case h=>(intro w hSw;go_simp;try with_reducible rfl)
  try simp only[Act.put,zz]
  refine tkH 16 ?_ ?h ?_
  case h=>(intro w hSw;go_simp;try with_reducible rfl)
  try simp only[Act.put,zz]
  refine tkH 17 ?_ ?h ?_
  case h=>(intro w hSw;go_simp;try with_reducible rfl)
  try simp only[Act.put,zz]
  refine tkH 18 ?_ ?h ?_
  case h=>(intro w hSw;go_simp;try with_reducible rfl)
  try simp only[Act.put,zz]
  refine tkH 19 ?_ ?h ?_
  case h=>(intro w hSw;go_simp;try with_reducible rfl)
  try simp only[Act.put,zz]
  have GN:Hid (GB 153 (w7.drew.alloc (.cells yR 153)) w7.heap.size #[.int .u8 0,.int .u32 0,.int .u8 0,.bool false,.bool false,.int .u8 0,.int .u8 0,.int .u8 0,.int .u8 0,.int .u8 0,.int .u8 0,.int .u8 0,.int .u8 0,.int .u8 0,.int .u8 0,.int .u8 0,.int .u8 0]):=hd0 (GB.new 153 w7.drew #[.int .u8 0,.int .u32 0,.int .u8 0,.bool false,.bool false,.int .u8 0,.int .u8 0,.int .u8 0,.int .u8 0,.int .u8 0,.int .u8 0,.int .u8 0,.int .u8 0,.int .u8 0,.int .u8 0,.int .u8 0,.int .u8 0])
  have K8:=hd0 (K7.out.later (bA (.cells yR 153)))
  have K9:=hd0 (K7.out.later (below_cellsG (Nat.le_refl _) FA.toList 0 _ (bA (.cells yR 153))))
  refine rdH 20 fun K hK=>?_
  (go_simp;refine hK.out _ _ K8.out.s15 (fun hHeld=>?_);clear hK K;try simp only[Act.put,zz])
  refine rdH 21 fun K hK=>?_
  (rw[if_pos (by rfl)];refine wp_store_mid 153 (.tmp 10) (.tmp 67) rfl w7.heap.size 0 FA rfl (by rw[HFA.out];rfl) (GN.out.there (Nat.le_of_eq HSZ.out)) HIF.out O1F.out ?_;refine hK.out _ _ K9.out.s15 (fun hHeld=>?_);clear hK K;try simp only[Act.put,List.setIfInBounds_toArray])
  refine wpAnyH_done (by kernel_rfl) ?_ _
  go_wp2_with fail
  go_meet
  exact⟨_,rfl,hd0 (GB.store GN.out HSZ.out.symm O1F.out),K9⟩
 case rest =>
  obtain⟨q,rfl,GQ,K9⟩:=hcut
  have TH:=hd0 (K9.out.pz.there (n:=A.size) (Nat.le_of_eq HS17.out))
  have G1:=hd0 (K9.out.pz.store (A:=A) HS17.out.symm O1.out)
  have THF:=hd0 (K9.out.pz.there (n:=FA.size) (Nat.le_of_eq HSZ.out))
  have G1F:=hd0 (K9.out.pz.store (A:=FA) HSZ.out.symm O1F.out)
  have c3:=K9.out.pb.c3
  have r4:=GQ.out.c 4 (.bool E) (by rw[HFA.out];rfl)
  have RG:=GQ.out.range
  cases E with
  | true =>
   by_cases h1:(((bs f)[5]'h5).toNat:Int)=1
   ·have d5:((((bs f)[5]'h5).toNat:Int) != 1)=false:=by rw[h1];rfl
    go_wp2_with (first
     |((with_reducible refine wpList_load_mid rfl 153 (.tmp 10) rfl q 0 ?hx FA.toList _ RG Tryz.underlying153 ?hu HIL.out ?_);(case hx=>rfl);(case hu=>rfl))
     |((with_reducible refine wpList_store_mid rfl 153 (.tmp 2) (.tmp 88) rfl (w.heap.size+1) 0 FA ?hx ?hy THF.out HIF.out O1F.out ?_);(case hx=>rfl);(case hy=>rfl)))
    exact bodyPost_ret (v:=.tuple #[.agg FA,.int .i64 0]) (res_two (p:=2) (u:=3) (d:=_) rfl rfl Tryz.underlying153 _ _ (w.heap.size+1) _ rfl G1F.out HIF.out) rfl ⟨by rw[HFA.out,HRR.out,if_pos (by rw[h1];rfl)],below_cellsG (by omega) _ _ _ K9.out.bel⟩
   ·have d5:((((bs f)[5]'h5).toNat:Int) != 1)=true:=by rw[bne_iff_ne];exact h1
    go_wp2_with ((with_reducible refine wpList_store_mid rfl 153 (.tmp 2) (.tmp 87) rfl (w.heap.size+1) 0 A ?hx ?hy TH.out HI.out O1.out ?_);(case hx=>rfl);(case hy=>(rw[HA.out];rfl)))
    exact bodyPost_ret (v:=.tuple #[.agg A,.int .i64 4]) (res_two (p:=2) (u:=3) (d:=_) rfl rfl Tryz.underlying153 _ _ (w.heap.size+1) _ rfl G1.out HI.out) rfl ⟨by rw[HA.out,HRR.out,if_neg (by simpa using h1)];rfl,below_cellsG (by omega) _ _ _ K9.out.bel⟩
  | false =>
   by_cases h1:(((bs f)[5]'h5).toNat:Int)=2
   ·have d5:((((bs f)[5]'h5).toNat:Int) != 2)=false:=by rw[h1];rfl
    go_wp2_with (first
     |((with_reducible refine wpList_load_mid rfl 153 (.tmp 10) rfl q 0 ?hx FA.toList _ RG Tryz.underlying153 ?hu HIL.out ?_);(case hx=>rfl);(case hu=>rfl))
     |((with_reducible refine wpList_store_mid rfl 153 (.tmp 2) (.tmp 88) rfl (w.heap.size+1) 0 FA ?hx ?hy THF.out HIF.out O1F.out ?_);(case hx=>rfl);(case hy=>rfl)))
    exact bodyPost_ret (v:=.tuple #[.agg FA,.int .i64 0]) (res_two (p:=2) (u:=3) (d:=_) rfl rfl Tryz.underlying153 _ _ (w.heap.size+1) _ rfl G1F.out HIF.out) rfl ⟨by rw[HFA.out,HRR.out,if_pos (by rw[h1];rfl)],below_cellsG (by omega) _ _ _ K9.out.bel⟩
   ·have d5:((((bs f)[5]'h5).toNat:Int) != 2)=true:=by rw[bne_iff_ne];exact h1
    go_wp2_with ((with_reducible refine wpList_store_mid rfl 153 (.tmp 2) (.tmp 87) rfl (w.heap.size+1) 0 A ?hx ?hy TH.out HI.out O1.out ?_);(case hx=>rfl);(case hy=>(rw[HA.out];rfl)))
    exact bodyPost_ret (v:=.tuple #[.agg A,.int .i64 4]) (res_two (p:=2) (u:=3) (d:=_) rfl rfl Tryz.underlying153 _ _ (w.heap.size+1) _ rfl G1.out HI.out) rfl ⟨by rw[HA.out,HRR.out,if_neg (by simpa using h1)];rfl,below_cellsG (by omega) _ _ _ K9.out.bel⟩
end Go.Proofs.YtlkdfofpnmpidaaGreat
