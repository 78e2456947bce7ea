/- ZQ06 -/
import Derived.Test.YtlkdfofpnmpidaaGreatZQ05
import Derived.Laws.OwnMore
import Derived.Sort.KeysCollected
import Derived.Maps.RangeWalk
set_option linter.unusedVariables false
set_option linter.unusedSimpArgs false
set_option maxRecDepth 100000
set_option maxHeartbeats 16000000
namespace Go.Proofs.YtlkdfofpnmpidaaGreat
open Go.RowKit
def fxC (sq me:Int)(m:List UInt8):List UInt8:=be 4 sq++be 2 me++m++List.replicate 16 0
def putC (lv:Int)(rd:Bool)(iv sq me:Int)(m:List UInt8):Int × Int × Int × List UInt8 × Int :=
 if mayC lv iv me m=true then(lv,1,iv+(if rd=true then 128 else 0),fxC sq me m,0) else(0,0,0,[],2)
theorem mayC_iv {lv iv me:Int}{m:List UInt8}(h:mayC lv iv me m=true):iv=4∨iv=5:=by
 unfold mayC at h
 simp only[Bool.and_eq_true,decide_eq_true_eq] at h
 exact(tick_pos iv).1 h.2.1
theorem ccput_any (xlv:Int)(xrd:Bool)(xiv xsq xme:Int)(xm:List UInt8)(w:World)(hm:xm.length≤1000)(hsq:0≤xsq∧xsq<4294967296)(hme:0≤xme∧xme<65536):Calls Tryz.prog 37 #[.agg #[.int .u8 xlv,.bool xrd,.int .u8 xiv,.int .u32 xsq,.int .u16 xme,.string (bs xm)]] w fun en w' =>
  en=.returned (.tuple #[.agg #[.int .u8 (putC xlv xrd xiv xsq xme xm).1,.int .u8 (putC xlv xrd xiv xsq xme xm).2.1,.int .u8 (putC xlv xrd xiv xsq xme xm).2.2.1,.string (bs (putC xlv xrd xiv xsq xme xm).2.2.2.1),.slice none 0 0],.int .i64 (putC xlv xrd xiv xsq xme xm).2.2.2.2])∧Below w.heap.size w w':=by
 obtain⟨R,hR⟩:∃ R,putC xlv xrd xiv xsq xme xm=R:=⟨_,rfl⟩
 rw[hR]
 obtain⟨K,hK⟩:∃ K,mayC xlv xiv xme xm=K:=⟨_,rfl⟩
 have M1:Hid (∀ w,Calls Tryz.prog 77 #[.agg #[.int .u8 xlv,.bool xrd,.int .u8 xiv,.int .u32 xsq,.int .u16 xme,.string (bs xm)]] w fun en w'=>en=.returned (.bool K)∧Below w.heap.size w w'):=by
  rw[←hK];exact fun w=>may13_any xlv xrd xiv xsq xme xm w hm
 have HR:=hd0 hR
 have HK:=hd0 hK
 have HM:=hd0 hm
 have HSQ:=hd0 hsq
 have HME:=hd0 hme
 clear hR hK hm hsq hme
 go_enter Tryz.func37,Tryz.ntmps37
 go_upto_region 1 with fail
 have cb0:=(CB.new 107 w xlv xrd xiv xsq xme xm).later (bA (.cells yU 103))
 have pz:PB 103 ((w.alloc (.cells #[.int .u8 xlv,.bool xrd,.int .u8 xiv,.int .u32 xsq,.int .u16 xme,.string (bs xm)] 107)).alloc (.cells yU 103)) (w.heap.size+1) 0 0 0 [] (.slice none 0 0):=by
  have:=PB.new 103 (w.alloc (.cells #[.int .u8 xlv,.bool xrd,.int .u8 xiv,.int .u32 xsq,.int .u16 xme,.string (bs xm)] 107)) 0 0 0 [] (.slice none 0 0)
  rw[show(w.alloc (.cells #[.int .u8 xlv,.bool xrd,.int .u8 xiv,.int .u32 xsq,.int .u16 xme,.string (bs xm)] 107)).heap.size=w.heap.size+1 by simp] at this
  exact this
 have hb0:Below w.heap.size w ((w.alloc (.cells #[.int .u8 xlv,.bool xrd,.int .u8 xiv,.int .u32 xsq,.int .u16 xme,.string (bs xm)] 107)).alloc (.cells yU 103)):=(bA _).alloc (by simp) _
 obtain⟨w0,hw0⟩:∃ k,(w.alloc (.cells #[.int .u8 xlv,.bool xrd,.int .u8 xiv,.int .u32 xsq,.int .u16 xme,.string (bs xm)] 107)).alloc (.cells yU 103)=k:=⟨_,rfl⟩
 rw[hw0] at cb0 pz hb0 ⊢
 have c0:=cb0.c0
 have c1:=cb0.c1
 have c2:=cb0.c2
 have c3:=cb0.c3
 have c4:=cb0.c4
 have c5:=cb0.c5
 have CB0:=hd0 cb0
 have PZ0:=hd0 pz
 have HB0:=hd0 hb0
 clear hw0 cb0 pz hb0
 go_wp2_with fail
 with_reducible refine(M1.out _).mono ?_
 rintro en w1 ⟨rfl,hb1⟩
 have CB1:=hd0 (CB0.out.later hb1)
 have PZ1:=hd0 (PZ0.out.later hb1)
 have HB1:=hd0 (HB0.out.trans (hb1.mono HB0.out.size))
 clear hb1 CB0 PZ0 HB0 c0 c1 c2 c3 c4 c5 M1
 cases K with
 | false =>
  have hRR:R=(0,0,0,[],2):=by rw[←HR.out];unfold putC;rw[HK.out];rfl
  have HRR:=hd0 hRR
  clear hRR
  have z0:=PZ1.out.c0
  have z1:=PZ1.out.c1
  have z2:=PZ1.out.c2
  have z3:=PZ1.out.c3
  have z4:=PZ1.out.c4
  have y0:=PZ1.out.fr 0
  have y1:=PZ1.out.fr 1
  have y2:=PZ1.out.fr 2
  have y3:=PZ1.out.fr 3
  have y4:=PZ1.out.fr 4
  go_wp2_with fail
  refine bodyPost_ret (v:=.tuple #[.agg #[.int .u8 0,.int .u8 0,.int .u8 0,.string (bs []),.slice none 0 0],.int .i64 2]) (by simp[results,Tryz.results37,go_sem,z0,z1,z2,z3,z4];rfl) rfl ⟨by rw[HRR.out],below_set (below_set (below_set (below_set (below_set HB1.out (by omega) _) (by omega) _) (by omega) _) (by omega) _) (by omega) _⟩
 | true =>
 obtain⟨C,hC⟩:∃ C:Int,xiv+(if xrd=true then 128 else 0)=C:=⟨_,rfl⟩
 have hRR:R=(xlv,1,C,fxC xsq xme xm,0):=by rw[←HR.out,← hC];unfold putC;rw[HK.out,if_pos rfl]
 have HRR:=hd0 hRR
 have hiv:=mayC_iv HK.out
 have c1:=CB1.out.c1
 have c2:=CB1.out.c2
 clear hRR
 go_upto_if 13 with fail
 go_cut [4] (fun s4 wx=>s4=.int .u8 C∧wx=w1)
 case first =>
  have o4:bits .or .u8 4 128=132:=by decide
  have o5:bits .or .u8 5 128=133:=by decide
  cases xrd with
  | true =>
   rcases hiv with rfl|rfl
   all_goals
    go_wp2_with fail
    go_meet
    exact⟨by rw[←hC];rfl,rfl⟩
  | false =>
   rcases hiv with rfl|rfl
   all_goals
    go_wp2_with fail
    go_meet
    exact⟨by rw[←hC];rfl,rfl⟩
 obtain⟨rfl,hwc⟩:=hcut
 rw[hwc]
 clear hwc hC hiv c1 c2
 go_upto_region 6 with fail
 have c3:=CB1.out.c3
 have c4:=CB1.out.c4
 have c3d:w1.drew.cell? ⟨w.heap.size,3,none⟩=some (.int .u32 xsq):=c3
 have c4d:w1.drew.cell? ⟨w.heap.size,4,none⟩=some (.int .u16 xme):=c4
 have hlt:w.heap.size<w1.heap.size:=CB1.out.lt
 have A1:Hid (Calls Tryz.prog 79 #[.slice none 0 0,.int .u32 xsq] w1.drew fun e w'=>∃ v',e=.returned v'∧Bys w' w1.heap.size v' ([]++be 4 xsq)∧Below w1.heap.size w1.drew w'):=put_uint32 w1.heap.size _ [] xsq w1.drew (Nat.le_refl _) (Bys.none _ _) HSQ.out.1 HSQ.out.2 (by decide)
 have A2:Hid (∀ v W,w1.heap.size≤W.heap.size→Bys W w1.heap.size v ([]++be 4 xsq)→Calls Tryz.prog 78 #[v,.int .u16 xme] W fun e w'=>∃ v',e=.returned v'∧Bys w' w1.heap.size v' ([]++be 4 xsq++be 2 xme)∧Below w1.heap.size W w'):=fun v W h hv=>put_uint16 w1.heap.size v _ xme W h hv HME.out.1 HME.out.2 (by simp[be_length])
 go_region_held3 (fun W=>W.cell? ⟨w.heap.size,3,none⟩=some (.int .u32 xsq)∧W.cell? ⟨w.heap.size,4,none⟩=some (.int .u16 xme))
  (first|exact⟨c3d,c4d⟩|exact⟨c3x,c4x⟩|exact⟨c3y,c4y⟩)
  (first
   |(go_at_call 79;(with_reducible refine(A1.out).mono ?_);rintro en wx ⟨vx,rfl,hox,hbx⟩;have c3x:=(hbx.cell (p:=⟨w.heap.size,3,none⟩) hlt).trans c3d;have c4x:=(hbx.cell (p:=⟨w.heap.size,4,none⟩) hlt).trans c4d;have hzx:w1.heap.size≤wx.heap.size:=hbx.size)
   |(go_at_call 78;(with_reducible refine(A2.out _ _ hzx hox).mono ?_);rintro en wy ⟨vy,rfl,hoy,hby⟩;have c3y:=(hby.cell (p:=⟨w.heap.size,3,none⟩) hlt).trans c3x;have c4y:=(hby.cell (p:=⟨w.heap.size,4,none⟩) hlt).trans c4x))
 have hbz:Below w1.heap.size w1 wy:=((Below.refl w1.heap.size w1).drew.trans hbx).trans hby
 have CBy:=hd0 (CB1.out.later hbz)
 have PZy:=hd0 (PZ1.out.later hbz)
 have HBy:=hd0 (HB1.out.trans (hbz.mono HB1.out.size))
 have HZy:=hd0 hbz.size
 have HPZ:=hd0 PZ1.out.lt
 have HOy:=hd0 hoy
 have c5:=CBy.out.c5
 clear hbx hby hbz hox hoy c3 c4 c3d c4d c3x c4x c3y c4y hzx hlt CB1 PZ1 HB1 A1 A2
 go_wp2_with (at_builtin;refine wpList_append_str rfl (.tmp 22) (.tmp 24) rfl w1.heap.size _ _ rfl HOy.out xm rfl ?_ ?_ ?_)
 ·have:=HM.out;simp[be_length];omega
 ·exact HZy.out
 intro va wa hoa hba
 have HOa:=hd0 hoa
 have HZa:=hd0 (Nat.le_trans HZy.out hba.size)
 clear hoa
 go_wp2_with (at_builtin;refine wpList_append_zeros rfl (.tmp 25) (.const (.int .i64 16)) rfl w1.heap.size _ _ rfl HOa.out 16 rfl ?_ ?_ ?_)
 ·have:=HM.out;simp[be_length];omega
 ·exact HZa.out
 intro vb wb hob hbb
 have hbw:=hba.trans hbb
 have cbw:=CBy.out.below (B:=w1.heap.size) (by have:=HPZ.out;omega) hbw
 have pzw:=PZy.out.below (B:=w1.heap.size) HPZ.out hbw
 have HBw:=hd0 (HBy.out.trans (hbw.mono (by have:=HPZ.out;omega)))
 have hcv:(convert 39 9 vb).run Tryz.prog wb=.ok (.string (bs (fxC xsq xme xm))) wb:=run_string_bys hob
 obtain⟨X,hX⟩:∃ X,fxC xsq xme xm=X:=⟨_,rfl⟩
 have hR2:=HRR.out
 rw[hX] at hcv hR2
 have HR2:=hd0 hR2
 have c0:=cbw.c0
 have z0:=pzw.c0
 have z1:=pzw.c1
 have z2:=pzw.c2
 have z3:=pzw.c3
 have z4:=pzw.c4
 have y0:=pzw.fr 0
 have y1:=pzw.fr 1
 have y2:=pzw.fr 2
 have y3:=pzw.fr 3
 have y4:=pzw.fr 4
 clear hbw hba hbb hob cbw pzw CBy PZy HBy HOa HZa HZy HOy c5 hX hR2 HRR
 go_wp2_with fail
 refine bodyPost_ret (v:=.tuple #[.agg #[.int .u8 xlv,.int .u8 1,.int .u8 C,.string (bs X),.slice none 0 0],.int .i64 0]) (by simp[results,Tryz.results37,go_sem,z0,z1,z2,z3,z4]) rfl ⟨by rw[HR2.out],below_set (below_set (below_set (below_set (below_set HBw.out (by omega) _) (by omega) _) (by omega) _) (by omega) _) (by omega) _⟩
theorem rmay_any (xlv:Int)(xrd:Bool)(xiv xsq xme:Int)(xm:List UInt8)(w:World)(hm:xm.length≤1000)(hsq:0≤xsq∧xsq<4294967296)(hme:0≤xme∧xme<65536):Calls Tryz.prog 72 #[.agg #[.int .u8 xlv,.bool xrd,.int .u8 xiv,.int .u32 xsq,.int .u16 xme,.string (bs xm)]] w fun en w'=>en=.returned (.bool (mayC xlv xiv xme xm))∧Below w.heap.size w w':=by
 have CP:=fun w=>ccput_any xlv xrd xiv xsq xme xm w hm hsq hme
 obtain⟨K,hK⟩:∃ K,mayC xlv xiv xme xm=K:=⟨_,rfl⟩
 have hP:(putC xlv xrd xiv xsq xme xm).2.2.2.2=if K=true then 0 else 2:=by
  unfold putC;rw[hK];cases K <;> rfl
 obtain⟨P0,P1,P2,P3,P4,hPP⟩:∃ a b c d e,putC xlv xrd xiv xsq xme xm=(a,b,c,d,e):=⟨_,_,_,_,_,rfl⟩
 rw[hPP] at CP hP
 simp only at CP hP
 rw[hK]
 have HP:=hd0 hP
 clear hK hP hPP hm hsq hme
 go_enter Tryz.func72,Tryz.ntmps72
 go_upto_region 1 with fail
 have cb:=CB.new 107 w xlv xrd xiv xsq xme xm
 have bb:Below w.heap.size w (w.alloc (.cells #[.int .u8 xlv,.bool xrd,.int .u8 xiv,.int .u32 xsq,.int .u16 xme,.string (bs xm)] 107)):=bA _
 obtain⟨w0,hw0⟩:∃ k,w.alloc (.cells #[.int .u8 xlv,.bool xrd,.int .u8 xiv,.int .u32 xsq,.int .u16 xme,.string (bs xm)] 107)=k:=⟨_,rfl⟩
 rw[hw0] at cb bb ⊢
 have c0:=cb.c0
 have c1:=cb.c1
 have c2:=cb.c2
 have c3:=cb.c3
 have c4:=cb.c4
 have c5:=cb.c5
 have B0:=hd0 bb
 clear hw0 cb bb
 go_wp2_with fail
 with_reducible refine(CP _).mono ?_
 rintro en w1 ⟨rfl,hb1⟩
 have B1:=hd0 (B0.out.trans (hb1.mono B0.out.size))
 clear hb1 c0 c1 c2 c3 c4 c5
 cases K
 ·have h4:Hid (P4=2):=HP
  have e4:(P4==0)=false:=by rw[h4.out];rfl
  go_wp2
  go_ret
  exact⟨rfl,B1.out.alloc B1.out.size _⟩
 ·have h4:Hid (P4=0):=HP
  have e4:(P4==0)=true:=by rw[h4.out];rfl
  go_wp2
  go_ret
  exact⟨rfl,B1.out.alloc B1.out.size _⟩
theorem lasts_any (n:Int)(w:World):Calls Tryz.prog 25 #[.int .u8 n] w fun en w'=>en=.returned (.int .i64 (lastC n))∧w'=w:=by
 have hc:lastC n=4∧tickC n=1∨lastC n=35∧tickC n=10∨lastC n=0∧tickC n=0:=by
  unfold lastC tickC
  by_cases h4:n=4
  ·left;rw[if_pos h4,if_pos h4];exact⟨rfl,rfl⟩
  ·by_cases h5:n=5
   ·right;left;rw[if_neg h4,if_pos h5,if_neg h4,if_pos h5];exact⟨rfl,rfl⟩
   ·right;right;rw[if_neg h4,if_neg h5,if_neg h4,if_neg h5];exact⟨rfl,rfl⟩
 have T:=ticks_any n
 rcases hc with⟨h1,h2⟩|⟨h1,h2⟩|⟨h1,h2⟩
 all_goals
  rw[h1]
  rw[h2] at T
  clear h1 h2
  go_enter Tryz.func25,Tryz.ntmps25
  go_wp2_with (go_at_call 36;refine(T _).mono ?_;rintro e w' ⟨rfl,rfl⟩)
  go_ret
  exact⟨rfl,rfl⟩
theorem lost1_any (a:Int)(b:Bool)(w:World):Calls Tryz.prog 107 #[.agg #[.int .i64 a,.bool b]] w fun en w'=>en=.returned (.bool (decide (a=0)))∧Below w.heap.size w w':=by
 have hd:(a==0)=decide (a=0):=by rw[Bool.eq_iff_iff];simp
 obtain⟨R,hR⟩:∃ R,decide (a=0)=R:=⟨_,rfl⟩
 rw[hR] at hd ⊢
 clear hR
 go_enter Tryz.func107,Tryz.ntmps107
 go_wp2
 go_ret
 exact⟨rfl,bA _⟩
theorem rdis1_any (a:Int)(b:Bool)(w:World):Calls Tryz.prog 108 #[.agg #[.int .i64 a,.bool b]] w fun en w'=>en=.returned (.bool (decide (0<a)&&b))∧Below w.heap.size w w':=by
 cases hd:decide (0<a)
 all_goals
  go_enter Tryz.func108,Tryz.ntmps108
  go_wp2
  go_ret
  exact⟨by simp,bA _⟩
def dn1 (x:Int):Int:=if 1≤x then x-1 else 0
theorem less1_any (p:Nat)(o:Nat)(x:Int)(w:World)(hx:0≤x∧x≤1000)(hc:w.cell? ⟨p,o,none⟩=some (.int .i64 x))(hf:w.frozen? ⟨p,o,none⟩=false):Calls Tryz.prog 111 #[.pointer (some ⟨p,o,none⟩)] w fun en w'=>en=.returned (.tuple #[])∧w'=w.setCell ⟨p,o,none⟩ (.int .i64 (dn1 x)):=by
 have hd:(max 0 (x-1):Int)=dn1 x:=by unfold dn1;split <;> omega
 have hb1:x-1≤1000:=by omega
 have hb0:-1≤x-1:=by omega
 obtain⟨R,hR⟩:∃ R,dn1 x=R:=⟨_,rfl⟩
 rw[hR] at hd ⊢
 clear hR
 go_enter Tryz.func111,Tryz.ntmps111
 go_wp2
 all_goals
  go_end0
  refine⟨rfl,?_⟩
  first
   | (have e : R = x - 1 := by omega
      rw[e])
   | (have e : R = 0 := by omega
      rw[e])
open Go.ChangeShapes Go.WideShapes Go.ChangeAt Go.RowKit Go.Deep
section
variable {α:Type} (k:Nat) (f:α→List Value)
def Rw (w:World)(v:Value)(l:List α):Prop :=
 (v=.slice none 0 0∧l=[])∨∃ ad c,v=.slice (some ad) l.length c∧(l=[]∨∃ b off,ad=⟨b,off,none⟩∧∀ j (hj:j<l.length) i,i<k→w.cell? ⟨b,off+j*k+i,none⟩=(f l[j])[i]?)
def Ow (E:TypeId)(w:World)(B:Nat)(v:Value)(l:List α):Prop:=w.ownsRow B E k v l.length (l.flatMap f)
end
section
variable {α:Type} {k:Nat} {f:α→List Value} {w w':World} {v:Value} {l:List α} {E:TypeId} {B:Nat}
theorem Rw.nil (w:World):Rw k f w (.slice none 0 0) []:=.inl ⟨rfl,rfl⟩
theorem Rw.later (hf:∀ x,(f x).length=k)(h:Rw k f w v l)(hb:Below w.heap.size w w'):Rw k f w' v l:=by
 rcases h with h|⟨ad,c,h1,h0|⟨b,off,h3,h2⟩⟩
 ·exact .inl h
 ·exact .inr ⟨ad,c,h1,.inl h0⟩
 ·refine .inr ⟨ad,c,h1,.inr ⟨b,off,h3,fun j hj i hi=>?_⟩⟩
  have h4:=h2 j hj i hi
  rw[List.getElem?_eq_getElem (by rw[hf];exact hi)] at h4 ⊢
  exact(hb.cell (World.block_lt_of_cell? w _ h4)).trans h4
theorem Rw.shape (h:Rw k f w v l):∃ a c,v=.slice a l.length c∧(l=[]∨∃ b off,a=some ⟨b,off,none⟩∧∀ j (hj:j<l.length) i,i<k→w.cell? ⟨b,off+j*k+i,none⟩=(f l[j])[i]?):=by
 rcases h with⟨h1,h2⟩|⟨ad,c,h1,h0|⟨b,off,h3,h2⟩⟩
 ·exact⟨none,0,by rw[h1,h2];rfl,.inl h2⟩
 ·exact⟨_,c,h1,.inl h0⟩
 ·exact⟨_,c,h1,.inr ⟨b,off,by rw[h3],h2⟩⟩
theorem flat_len (hf:∀ x,(f x).length=k)(l:List α):(l.flatMap f).length=l.length*k:=by
 induction l with
 | nil=>simp
 | cons x l ih=>rw[List.flatMap_cons,List.length_append,hf,ih,List.length_cons,Nat.succ_mul];omega
theorem flat_get (hf:∀ x,(f x).length=k):∀ (l:List α) (j:Nat) (h:j<l.length) (i:Nat),i<k→(l.flatMap f)[j*k+i]?=(f l[j])[i]?
 | x::l,0,_,i,hi=>by
  rw[List.flatMap_cons,Nat.zero_mul,Nat.zero_add,List.getElem?_append_left (by rw[hf];exact hi)];rfl
 | x::l,j+1,h,i,hi=>by
  have ih:=flat_get hf l j (by simpa using h) i hi
  rw[List.flatMap_cons,List.getElem?_append_right (by rw[hf,Nat.succ_mul];omega),hf,show(j+1)*k+i-k=j*k+i by rw[Nat.succ_mul];omega]
  exact ih
theorem Ow.none (w:World)(B:Nat):Ow k f E w B (.slice none 0 0) []:=World.ownsRow_nil w B _ k
theorem Ow.mono {B':Nat}(h:Ow k f E w B v l)(hb:B'≤B):Ow k f E w B' v l:=World.ownsRow.mono h hb
theorem Ow.later (h:Ow k f E w B v l)(hb:Below w.heap.size w w'):Ow k f E w' B v l:=by
 obtain⟨h1,h2⟩:=h
 refine⟨h1,?_⟩
 rcases h2 with h2|⟨g,cap,cur,hv,hg,hh,r⟩
 ·exact .inl h2
 ·refine .inr ⟨g,cap,cur,hv,hg,?_,r⟩
  rw[hb.block g (Array.getElem?_eq_some_iff.1 hh).1];exact hh
theorem Ow.rw (hf:∀ x,(f x).length=k)(h:Ow k f E w B v l):Rw k f w v l:=by
 obtain⟨h1,h2⟩:=h
 rcases h2 with⟨h2,h3⟩|⟨g,cap,cur,hv,hg,hh,hr⟩
 ·exact .inl ⟨h2,List.eq_nil_of_length_eq_zero h3⟩
 ·subst hv
  have hc:w.ownsRow B E k (.slice (some ⟨g,0,Option.none⟩) l.length cap) l.length (l.flatMap f):=⟨h1,.inr ⟨g,cap,cur,rfl,hg,hh,hr⟩⟩
  refine .inr ⟨⟨g,0,Option.none⟩,cap,rfl,.inr ⟨g,0,rfl,fun j hj i hi=>?_⟩⟩
  have hlt:j*k+i<l.length*k:=by
   have:(j+1)*k≤l.length*k:=Nat.mul_le_mul_right k hj
   rw[Nat.succ_mul] at this;omega
  rw[Nat.zero_add,World.ownsRow.cellAt hc (j*k+i) hlt]
  exact flat_get hf l j hj i hi
theorem Ow.lit (hf:∀ x,(f x).length=k)(w:World)(B:Nat)(x:α)(cs:Array Value)(hcs:cs.toList=f x)(hB:B≤w.heap.size):Ow k f E (w.alloc (.cells cs E)) B (.slice (some ⟨w.heap.size,0,Option.none⟩) 1 1) [x]:=by
 have:=World.ownsRow_lit (base:=B) (e:=E) (size:=k) w cs 1 hB (by decide) (by rw[←Array.length_toList,hcs,hf,Nat.one_mul])
 rw[hcs] at this
 unfold Ow
 simpa using this
end
section
variable {α:Type} {k:Nat} {f:α→List Value} {w:World} {ops:Array Oper} {rest:List Oper} {o:Oper} {a:Act} {Q:Exit→Act→World→Prop} {K:Act→World→Prop}
theorem wp_append_rw (hf:∀ x,(f x).length=k)(h1c:∀ x,∀ u∈f x,u.oneCell'=true)(E S:TypeId)(z:Value)(by_:Nat)(hu:Tryz.prog.underlying S=some (.slice E))(hi:(Tryz.prog.info? E).map (fun i=>(i.zero,i.size,i.bytes))=some (some z,k,by_))(hz:z.cells.size=k)(hk:0<k)(hby:by_≤1000)
  (s x:Operand) (ho:o.op=.call { callee:=.builtin .append,args:=#[s,x],argTypes:=#[S,S] })
  (B:Nat) (v:Value) (l:List α) (hs:a.eval s=v) (hown:Ow k f E w B v l) (u:Value) (t:List α) (hx:a.eval x=u) (hsrc:Rw k f w u t)
  (hsz:l.length+t.length≤100000000000) (hB:B≤w.heap.size)
  (h:∀ v' w',Ow k f E w' B v' (l++t)→Below B w w'→K (a.put o.dst v') w'):o.wp Tryz.prog a w K Q:=by
 obtain⟨i,hi,hz0,hz1,hz2⟩:=info_parts hi
 rcases hsrc with⟨rfl,rfl⟩|⟨ad,c,rfl,hc⟩
 ·have hrun:=run_append_owned_none (P:=Tryz.prog) w B S o.type E i k hu hi v l.length (l.flatMap f) hown
  unfold Oper.wp
  simp[execOp,ho,resolve,invoke,builtin,hs,hx,hrun,Result.andThen]
  exact h _ _ (by simpa using hown) (Below.refl _ _)
 ·refine wp_append_own w s x S ho B E i z k by_ hu hi hz0 hz1 hz2 hz hk v l.length (l.flatMap f) hs hown ad t.length c (t.flatMap f) hx (flat_len hf t)
   (fun j u hj=>?_) (fun u hu=>?_) (by unfold maxLen;omega) (by have:(l.length+t.length)*by_≤100000000000*1000:=Nat.mul_le_mul hsz hby;omega) hB (fun v' w' h1 h2 _=>?_)
  ·have hj':j<t.length*k:=by have:=(List.getElem?_eq_some_iff.1 hj).1;rw[flat_len hf] at this;exact this
   rcases hc with rfl|⟨b,off,rfl,hc⟩
   ·simp at hj'
   rw[add_plain]
   have hd:j / k<t.length:=Nat.div_lt_of_lt_mul (by rw[Nat.mul_comm];exact hj')
   have hm:j % k<k:=Nat.mod_lt _ hk
   have e:j=j / k*k+j % k:=by rw[Nat.mul_comm];exact(Nat.div_add_mod j k).symm
   have hg:=flat_get hf t (j / k) hd (j % k) hm
   rw[←e,hj] at hg
   have:=hc (j / k) hd (j % k) hm
   rw[←hg,Nat.add_assoc,← e] at this
   exact this
  ·obtain⟨y,_,hy⟩:=List.mem_flatMap.1 hu
   exact h1c y u hy
  ·refine h v' w' ?_ ((Below.refl _ _).grown h2 hB (fun k hk=>(World.ownsRow.lt hown k hk).1))
   unfold Ow
   rw[List.length_append,List.flatMap_append];exact h1
theorem wpList_append_rw (hf:∀ x,(f x).length=k)(h1c:∀ x,∀ u∈f x,u.oneCell'=true)(E S:TypeId)(z:Value)(by_:Nat)(hu:Tryz.prog.underlying S=some (.slice E))(hi:(Tryz.prog.info? E).map (fun i=>(i.zero,i.size,i.bytes))=some (some z,k,by_))(hz:z.cells.size=k)(hk:0<k)(hby:by_≤1000)
  (hgd:o.guard=Option.none) (s x:Operand) (ho:o.op=.call { callee:=.builtin .append,args:=#[s,x],argTypes:=#[S,S] })
  (B:Nat) (v:Value) (l:List α) (hs:a.eval s=v) (hown:Ow k f E w B v l) (u:Value) (t:List α) (hx:a.eval x=u) (hsrc:Rw k f w u t)
  (hsz:l.length+t.length≤100000000000) (hB:B≤w.heap.size)
  (h:∀ v' w',Ow k f E w' B v' (l++t)→Below B w w'→wpList Tryz.prog ops Q rest (a.put o.dst v') w'):wpList Tryz.prog ops Q (o::rest) a w :=
 wpList_plain hgd fun K hK=>wp_append_rw hf h1c E S z by_ hu hi hz hk hby s x ho B v l hs hown u t hx hsrc hsz hB fun v' w' h1 h2=>hK _ _ (h v' w' h1 h2)
end
theorem lessOne_any (g p o:Nat)(x:Int)(w:World)(hx:0≤x∧x≤1000)(hg:w.cell? ⟨g,0,none⟩=some (.pointer (some ⟨p,o,none⟩)))(hc:w.cell? ⟨p,o,none⟩=some (.int .i64 x))(hf:w.frozen? ⟨p,o,none⟩=false)(hne:g≠p):Calls Tryz.prog 75 #[.slice (some ⟨g,0,none⟩) 1 1] w fun en w'=>en=.returned (.tuple #[])∧w'=w.setCell ⟨p,o,none⟩ (.int .i64 (dn1 x)):=by
 have L1:=hd0 (less1_any p o x w hx hc hf)
 obtain⟨R,hR⟩:∃ R,dn1 x=R:=⟨_,rfl⟩
 rw[hR] at L1 ⊢
 clear hR hc hf hx
 go_enter Tryz.func75,Tryz.ntmps75
 go_wp2
 go_loopw [4,7] (fun _ i wr=>(i=.int .i64 0∧wr=w)∨(i=.int .i64 1∧wr=w.setCell ⟨p,o,none⟩ (.int .i64 R))) (fun _ i _=>1-(intOf i).toNat)
 case atStart=>exact .inl ⟨rfl,rfl⟩
 case round =>
  rcases hrel with⟨rfl,rfl⟩|⟨rfl,rfl⟩
  ·go_wp2_with (go_at_call 111;refine L1.out.mono ?_;rintro e w' ⟨rfl,rfl⟩)
   exact⟨.inr ⟨rfl,by trivial⟩,by simp[intOf]⟩
  ·clear hg L1
   go_wp2
   go_end0
   exact⟨rfl,rfl⟩
theorem lessTwo_any (g p:Nat)(x y:Int)(w:World)(hx:0≤x∧x≤1000)(hy:0≤y∧y≤1000)(hg:w.cell? ⟨g,0,none⟩=some (.pointer (some ⟨p,5,none⟩)))(hg1:w.cell? ⟨g,1,none⟩=some (.pointer (some ⟨p,6,none⟩)))(hc:w.cell? ⟨p,5,none⟩=some (.int .i64 x))(hf:w.frozen? ⟨p,5,none⟩=false)(hc6:w.cell? ⟨p,6,none⟩=some (.int .i64 y))(hf6:w.frozen? ⟨p,6,none⟩=false)(hne:g≠p):Calls Tryz.prog 75 #[.slice (some ⟨g,0,none⟩) 2 2] w fun en w'=>en=.returned (.tuple #[])∧w'=(w.setCell ⟨p,5,none⟩ (.int .i64 (dn1 x))).setCell ⟨p,6,none⟩ (.int .i64 (dn1 y)):=by
 have L1:=hd0 (less1_any p 5 x w hx hc hf)
 have hg1':(w.setCell ⟨p,5,none⟩ (.int .i64 (dn1 x))).cell? ⟨g,1,none⟩=some (.pointer (some ⟨p,6,none⟩)):=by
  rw[World.cell?_setCell_other _ _ _ _ (by intro e;injection e with e1;exact hne e1.symm)];exact hg1
 have L2:=hd0 (less1_any p 6 y (w.setCell ⟨p,5,none⟩ (.int .i64 (dn1 x))) hy (by rw[World.cell?_setCell_other _ _ _ _ (by intro e;injection e with e1 e2;cases e2)];exact hc6) (by rw[World.frozen?_setCell];exact hf6))
 obtain⟨R,hR⟩:∃ R,dn1 x=R:=⟨_,rfl⟩
 obtain⟨R2,hR2⟩:∃ R,dn1 y=R:=⟨_,rfl⟩
 rw[hR] at L1 L2 hg1' ⊢
 rw[hR2] at L2 ⊢
 obtain⟨w1,hw1⟩:∃ w1,w.setCell ⟨p,5,none⟩ (.int .i64 R)=w1:=⟨_,rfl⟩
 rw[hw1] at L1 L2 hg1' ⊢
 clear hR hR2 hc hf hx hc6 hf6 hy hg1 hw1
 go_enter Tryz.func75,Tryz.ntmps75
 go_wp2
 go_loopw [4,7] (fun _ i wr=>(i=.int .i64 0∧wr=w)∨(i=.int .i64 1∧wr=w1)∨(i=.int .i64 2∧wr=w1.setCell ⟨p,6,none⟩ (.int .i64 R2))) (fun _ i _=>2-(intOf i).toNat)
 case atStart=>exact .inl ⟨rfl,rfl⟩
 case round =>
  rcases hrel with⟨rfl,rfl⟩|⟨rfl,rfl⟩|⟨rfl,rfl⟩
  ·go_wp2_with (go_at_call 111;refine L1.out.mono ?_;rintro e w' ⟨rfl,rfl⟩)
   exact⟨.inr (.inl ⟨rfl,by trivial⟩),by simp[intOf]⟩
  ·go_wp2_with (go_at_call 111;refine L2.out.mono ?_;rintro e w' ⟨rfl,rfl⟩)
   exact⟨.inr (.inr ⟨rfl,by trivial⟩),by simp[intOf]⟩
  ·clear hg hg1' L1 L2
   go_wp2
   go_end0
   exact⟨rfl,rfl⟩
open Go.RowKit Go.Shelf
def isL (x:Int × Int):Bool:=decide (x.1=0)
def isR (x:Int × Int):Bool:=decide (0<x.1)&&decide (x.2=1)
def thoseV (f:Int × Int→Bool)(V:List Vn):List Int:=(V.filter fun x=>f x.2).map (·.1)
theorem thoseV_next {f:Int × Int→Bool}{V:List Vn}{j:Nat}{x:Vn}(h:V.take (j+1)=V.take j++[x]):thoseV f (V.take (j+1))=if f x.2=true then thoseV f (V.take j)++[x.1] else thoseV f (V.take j):=by
 unfold thoseV
 rw[h,List.filter_append,List.map_append]
 cases hf:f x.2 <;> simp[hf]
theorem oU_len (x:Int):([encU x]:List Value).length=1:=rfl
theorem oU_one (x:Int):∀ u∈[encU x],u.oneCell'=true:=by intro u hu;rw[List.mem_singleton.1 hu];rfl
theorem flat_encU:∀ l:List Int,l.flatMap (fun x:Int=>[encU x])=l.map encU
 |[]=>rfl
 | x::r=>by rw[List.flatMap_cons,List.map_cons,flat_encU r];rfl
theorem Ow.us {w:World}{B:Nat}{v:Value}{l:List Int}(h:Ow 1 (fun x:Int=>[encU x]) 22 w B v l):Us w B v l:=by
 unfold Ow at h
 unfold Us
 rw[flat_encU] at h;exact h
theorem Us.cells {w:World}{B:Nat}{v:Value}{l:List Int}(h:Us w B v l):∃ a c,v=.slice a l.length c∧(l=[]∨∃ g,a=some ⟨g,0,none⟩∧∀ j (hj:j<l.length),w.cell? ⟨g,j,none⟩=some (.int .u16 l[j])):=by
 rcases h.shape with⟨rfl,rfl⟩|⟨g,cap,t,rfl,hB,hr,_⟩
 ·exact⟨none,0,rfl,.inl rfl⟩
 ·refine⟨_,cap,rfl,.inr ⟨g,rfl,fun j hj=>?_⟩⟩
  have e:l=l.take j++l[j]::l.drop (j+1):=by
   rw[List.getElem_cons_drop];exact(List.take_append_drop j l).symm
  rw[e] at hr
  have:=hr.cell (m:=j) (by simp;omega)
  simpa using this
theorem OM.kb {W:World}{m:Nat}{V:List Vn}(h:OM W m V):∀ x∈V.map (·.1),0≤x∧x<65536:=by
 intro x hx
 obtain⟨y,hy,rfl⟩:=List.mem_map.1 hx
 obtain⟨es,he,hk⟩:=h.own.keysOf
 have hes:V.map (fun x=>((Lit.int .u16 x.1:Lit),vElD x.2.1 x.2.2))=es:=by
  have:=he;unfold vD at this;exact DataW.map.inj this
 obtain⟨v,hv⟩:=hk (Lit.int .u16 y.1,vElD y.2.1 y.2.2) (by rw[←hes];exact List.mem_map.2 ⟨y,hy,rfl⟩)
 have hw:(Lit.int .u16 y.1).wf=true:=by
  cases v <;> simp[keyOf,Tryz.underlying22,mapKey] at hv
  rename_i q a
  obtain⟨⟨rfl,h1⟩,h2⟩:=hv
  rw[←h2];exact h1
 have:=bounds_u16 hw
 omega
theorem those_L (q m:Nat)(a:Ow8)(V:List Vn)(bd cr:Int)(w:World)(hs:MC w q a m V bd cr) :
  Calls Tryz.prog 106 #[.pointer (some ⟨q,0,none⟩),.func (.func 107) #[] #[]] w fun en w'=>∃ v,en=.returned v∧Us w' w.heap.size v (thoseV isL V)∧Below w.heap.size w w':=by
 have c4:=hs.c4
 have hb1:Below w.heap.size w (w.alloc (.cells #[.map (some m)] 162)):=bA _
 have hsz:(w.alloc (.cells #[.map (some m)] 162)).heap.size=w.heap.size+1:=by simp
 have hm:(w.alloc (.cells #[.map (some m)] 162)).cell? ⟨w.heap.size,0,none⟩=some (.map (some m)):=by simp only[World.cell?,heap_alloc_new];rfl
 have hown:=(hs.om.later hb1).own
 have ST:=hd0 (sorted_U 149 #[.pointer (some ⟨w.heap.size,0,none⟩)] (enters_of Tryz.func149 (by kernel_rfl) rfl)
  (fun ss=>ss.Nodup∧∀ x,x∈ss↔Maps.has (vD V) (.int .u16 x)=true) (fun _=>True) (Maps.size (vD V)) (by rw[vD_size];have:=hs.vl;omega)
  (fun ss h=>by have:=(keys_perm hs.ri h.1 h.2).length_eq;rw[List.length_map] at this;have:=hs.vl;omega)
  _ _ (Below.refl _ _) (keysStops_R Fence.wide 2 trivial rfl (by decide) w.heap.size m V.length (vD V) (w.alloc (.cells #[.map (some m)] 162)) (by rw[hsz];omega) hm hown))
 have S:=hd0 hs
 have RI:=hd0 hs.ri
 clear hs hm hown
 go_enter Tryz.func106,Tryz.ntmps106
 go_wp2_with (go_at_call 133;refine(keys_R (some m) _).mono ?_;rintro e w' ⟨rfl,rfl⟩)
 with_reducible refine ST.out.mono ?_
 rintro e w2 ⟨v,ss,s,rfl,hss,hp,hw,hu,hnil,hb2⟩
 have he:=keys_eq RI.out hss.1 hss.2 hp hw
 subst he
 have B2:=hd0 (hb1.trans (hb2.mono (by rw[hsz];omega)))
 have S:=hd0 (S.out.later B2.out)
 obtain⟨ga,gc,rfl,hgc⟩:=hu.cells
 have HGC:=hd0 hgc
 have HVL:=hd0 S.out.vl
 rw[List.length_map]
 obtain⟨M,hM⟩:∃ M,V.length=M:=⟨_,rfl⟩
 have HM:=hd0 hM
 rw[hM] at HVL ⊢
 clear hss hp hw hu hnil hb2 hgc hM hb1 hsz ST c4
 have HSZ:=hd0 B2.out.size
 go_wp2_with fail
 go_loopw [5,7,17] (fun out _ i wr=>∃ j:Nat,j≤M∧i=.int .i64 j∧Ow 1 (fun x:Int=>[encU x]) 22 wr w2.heap.size out (thoseV isL (V.take j))∧Below w2.heap.size w2 wr) (fun _ _ i _=>M-(intOf i).toNat)
 case atStart=>exact⟨0,by omega,rfl,Ow.none _ _,Below.refl _ _⟩
 case round =>
  obtain⟨j,hj,rfl,hown,hbw⟩:=hrel
  have hjb:(j:Int)<1000:=by have:=HVL.out;omega
  by_cases hlt:j<M
  ·have dk:decide ((j:Int)<(M:Int))=true:=decide_eq_true (by omega)
   have HJ:(j:Int)<(M:Int):=by omega
   have hj2:j<V.length:=by rw[HM.out];exact hlt
   obtain⟨g,rfl,hcc⟩:=HGC.out.resolve_left (by intro h;have:=congrArg List.length h;simp at this;rw[this] at hj2;simp at hj2)
   have hk1:=hcc j (by rw[List.length_map];exact hj2)
   rw[List.getElem_map] at hk1
   have hfa:=vFind_at hj2 RI.out
   have hxb:=S.out.om.kb V[j].1 (List.mem_map_of_mem (List.getElem_mem hj2))
   have hwf:=S.out.om.wf V[j] (List.getElem_mem hj2)
   have hnx:V.take (j+1)=V.take j++[V[j]]:=List.take_succ_eq_append_getElem hj2
   have hth:=thoseV_next (f:=isL) hnx
   obtain⟨x,hx⟩:∃ x,V[j]=x:=⟨_,rfl⟩
   rw[hx] at hk1 hfa hxb hth hwf
   obtain⟨y1,y2,y3⟩:=x
   simp only at hk1 hfa hxb hth hwf
   have SW:=hd0 (S.out.later hbw)
   have lk:=SW.out.om.look1 y1 hxb
   have hg:vGet V y1=(y2,y3):=by unfold vGet;rw[hfa];rfl
   rw[hg] at lk
   simp only at lk
   have ck:=(hbw.cell (World.block_lt_of_cell? w2 _ hk1)).trans hk1
   have c4:=SW.out.c4
   have IX:Hid (∀ W,Calls Tryz.prog 107 #[.agg #[.int .i64 y2,.bool (decide (y3=1))]] W fun en w'=>en=.returned (.bool (isL (y2,y3)))∧Below W.heap.size W w'):=hd0 fun W=>lost1_any y2 (decide (y3=1)) W
   have HTH:=hd0 hth
   have HO:=hd0 hown
   have HW:=hd0 hbw
   have hol:(thoseV isL (V.take j)).length≤1000:=by
    have h1:(thoseV isL (V.take j)).length≤(V.take j).length:=by unfold thoseV;rw[List.length_map];exact List.length_filter_le _ _
    have h2:(V.take j).length≤V.length:=by simp;omega
    have:=HVL.out;have:=HM.out;omega
   have HOL:=hd0 hol
   obtain⟨K,hK⟩:∃ K,isL (y2,y3)=K:=⟨_,rfl⟩
   rw[hK] at IX HTH
   obtain⟨L0,hL0⟩:∃ L,thoseV isL (V.take j)=L:=⟨_,rfl⟩
   rw[hL0] at HTH HO HOL
   clear hcc hk1 hfa hxb hwf hnx hth hx hg hown hbw hK hol hL0
   go_wp2_with fail
   with_reducible refine(IX.out _).mono ?_
   rintro en w3 ⟨rfl,hb3⟩
   have HO:=hd0 (HO.out.later hb3)
   have HW:=hd0 (HW.out.trans (hb3.mono HW.out.size))
   clear hb3 lk ck c4 SW
   cases K
   ·have HT2:Hid (thoseV isL (V.take (j+1))=L0):=HTH
    go_wp2
    exact⟨⟨j+1,by omega,by go_num,by rw[HT2.out];exact HO.out,HW.out⟩,by simp[intOf];omega⟩
   ·have HT2:Hid (thoseV isL (V.take (j+1))=L0++[y1]):=HTH
    go_wp2_with (at_builtin;refine wpList_append_rw oU_len oU_one 22 23 (.int .u16 0) 2 Tryz.underlying23 info_u16 rfl (by decide) (by decide) rfl (.tmp 29) (.tmp 31) rfl w2.heap.size _ L0 rfl (HO.out.later (bA _)) _ [y1] rfl ((Ow.lit (E:=22) oU_len _ 0 y1 #[encU y1] rfl (Nat.zero_le _)).rw oU_len) (by have:=HOL.out;simp;omega) (by have:=HW.out.size;simp;omega) ?_;intro v1 w4 hown1 hb4;have HO1:=hd0 hown1;have HB1:=hd0 ((HW.out.alloc HW.out.size _).trans hb4);clear hown1 hb4)
    exact⟨⟨j+1,by omega,by go_num,by rw[HT2.out];exact HO1.out,HB1.out⟩,by simp[intOf];omega⟩
  ·obtain rfl:j=M:=by omega
   have dk:decide ((j:Int)<(j:Int))=false:=decide_eq_false (by omega)
   have e:V.take j=V:=List.take_of_length_le (by rw[HM.out];exact Nat.le_refl _)
   rw[e] at hown
   have HO:=hd0 hown
   have HW:=hd0 hbw
   clear hown hbw e hj hlt
   go_wp2
   go_ret
   exact⟨_,rfl,(Ow.mono HO.out HSZ.out).us,B2.out.trans (HW.out.mono B2.out.size)⟩
theorem mL_any (q m:Nat)(a:Ow8)(V:List Vn)(bd cr:Int)(w:World)(hs:MC w q a m V bd cr) :
  Calls Tryz.prog 67 #[.pointer (some ⟨q,0,none⟩)] w fun en w'=>∃ v,en=.returned v∧Us w' w.heap.size v (thoseV isL V)∧Below w.heap.size w w':=by
 have TH:=hd0 (those_L q m a V bd cr w hs)
 go_enter Tryz.func67,Tryz.ntmps67
 go_wp2_with fail
 with_reducible refine TH.out.mono ?_
 rintro e w2 ⟨v,rfl,h⟩
 go_wp2
 go_ret
 exact⟨v,rfl,h⟩
theorem those_R (q m:Nat)(a:Ow8)(V:List Vn)(bd cr:Int)(w:World)(hs:MC w q a m V bd cr) :
  Calls Tryz.prog 106 #[.pointer (some ⟨q,0,none⟩),.func (.func 108) #[] #[]] w fun en w'=>∃ v,en=.returned v∧Us w' w.heap.size v (thoseV isR V)∧Below w.heap.size w w':=by
 have c4:=hs.c4
 have hb1:Below w.heap.size w (w.alloc (.cells #[.map (some m)] 162)):=bA _
 have hsz:(w.alloc (.cells #[.map (some m)] 162)).heap.size=w.heap.size+1:=by simp
 have hm:(w.alloc (.cells #[.map (some m)] 162)).cell? ⟨w.heap.size,0,none⟩=some (.map (some m)):=by simp only[World.cell?,heap_alloc_new];rfl
 have hown:=(hs.om.later hb1).own
 have ST:=hd0 (sorted_U 149 #[.pointer (some ⟨w.heap.size,0,none⟩)] (enters_of Tryz.func149 (by kernel_rfl) rfl)
  (fun ss=>ss.Nodup∧∀ x,x∈ss↔Maps.has (vD V) (.int .u16 x)=true) (fun _=>True) (Maps.size (vD V)) (by rw[vD_size];have:=hs.vl;omega)
  (fun ss h=>by have:=(keys_perm hs.ri h.1 h.2).length_eq;rw[List.length_map] at this;have:=hs.vl;omega)
  _ _ (Below.refl _ _) (keysStops_R Fence.wide 2 trivial rfl (by decide) w.heap.size m V.length (vD V) (w.alloc (.cells #[.map (some m)] 162)) (by rw[hsz];omega) hm hown))
 have S:=hd0 hs
 have RI:=hd0 hs.ri
 clear hs hm hown
 go_enter Tryz.func106,Tryz.ntmps106
 go_wp2_with (go_at_call 133;refine(keys_R (some m) _).mono ?_;rintro e w' ⟨rfl,rfl⟩)
 with_reducible refine ST.out.mono ?_
 rintro e w2 ⟨v,ss,s,rfl,hss,hp,hw,hu,hnil,hb2⟩
 have he:=keys_eq RI.out hss.1 hss.2 hp hw
 subst he
 have B2:=hd0 (hb1.trans (hb2.mono (by rw[hsz];omega)))
 have S:=hd0 (S.out.later B2.out)
 obtain⟨ga,gc,rfl,hgc⟩:=hu.cells
 have HGC:=hd0 hgc
 have HVL:=hd0 S.out.vl
 rw[List.length_map]
 obtain⟨M,hM⟩:∃ M,V.length=M:=⟨_,rfl⟩
 have HM:=hd0 hM
 rw[hM] at HVL ⊢
 clear hss hp hw hu hnil hb2 hgc hM hb1 hsz ST c4
 have HSZ:=hd0 B2.out.size
 go_wp2_with fail
 go_loopw [5,7,17] (fun out _ i wr=>∃ j:Nat,j≤M∧i=.int .i64 j∧Ow 1 (fun x:Int=>[encU x]) 22 wr w2.heap.size out (thoseV isR (V.take j))∧Below w2.heap.size w2 wr) (fun _ _ i _=>M-(intOf i).toNat)
 case atStart=>exact⟨0,by omega,rfl,Ow.none _ _,Below.refl _ _⟩
 case round =>
  obtain⟨j,hj,rfl,hown,hbw⟩:=hrel
  have hjb:(j:Int)<1000:=by have:=HVL.out;omega
  by_cases hlt:j<M
  ·have dk:decide ((j:Int)<(M:Int))=true:=decide_eq_true (by omega)
   have HJ:(j:Int)<(M:Int):=by omega
   have hj2:j<V.length:=by rw[HM.out];exact hlt
   obtain⟨g,rfl,hcc⟩:=HGC.out.resolve_left (by intro h;have:=congrArg List.length h;simp at this;rw[this] at hj2;simp at hj2)
   have hk1:=hcc j (by rw[List.length_map];exact hj2)
   rw[List.getElem_map] at hk1
   have hfa:=vFind_at hj2 RI.out
   have hxb:=S.out.om.kb V[j].1 (List.mem_map_of_mem (List.getElem_mem hj2))
   have hwf:=S.out.om.wf V[j] (List.getElem_mem hj2)
   have hnx:V.take (j+1)=V.take j++[V[j]]:=List.take_succ_eq_append_getElem hj2
   have hth:=thoseV_next (f:=isR) hnx
   obtain⟨x,hx⟩:∃ x,V[j]=x:=⟨_,rfl⟩
   rw[hx] at hk1 hfa hxb hth hwf
   obtain⟨y1,y2,y3⟩:=x
   simp only at hk1 hfa hxb hth hwf
   have SW:=hd0 (S.out.later hbw)
   have lk:=SW.out.om.look1 y1 hxb
   have hg:vGet V y1=(y2,y3):=by unfold vGet;rw[hfa];rfl
   rw[hg] at lk
   simp only at lk
   have ck:=(hbw.cell (World.block_lt_of_cell? w2 _ hk1)).trans hk1
   have c4:=SW.out.c4
   have IX:Hid (∀ W,Calls Tryz.prog 108 #[.agg #[.int .i64 y2,.bool (decide (y3=1))]] W fun en w'=>en=.returned (.bool (isR (y2,y3)))∧Below W.heap.size W w'):=hd0 fun W=>rdis1_any y2 (decide (y3=1)) W
   have HTH:=hd0 hth
   have HO:=hd0 hown
   have HW:=hd0 hbw
   have hol:(thoseV isR (V.take j)).length≤1000:=by
    have h1:(thoseV isR (V.take j)).length≤(V.take j).length:=by unfold thoseV;rw[List.length_map];exact List.length_filter_le _ _
    have h2:(V.take j).length≤V.length:=by simp;omega
    have:=HVL.out;have:=HM.out;omega
   have HOL:=hd0 hol
   obtain⟨K,hK⟩:∃ K,isR (y2,y3)=K:=⟨_,rfl⟩
   rw[hK] at IX HTH
   obtain⟨L0,hL0⟩:∃ L,thoseV isR (V.take j)=L:=⟨_,rfl⟩
   rw[hL0] at HTH HO HOL
   clear hcc hk1 hfa hxb hwf hnx hth hx hg hown hbw hK hol hL0
   go_wp2_with fail
   with_reducible refine(IX.out _).mono ?_
   rintro en w3 ⟨rfl,hb3⟩
   have HO:=hd0 (HO.out.later hb3)
   have HW:=hd0 (HW.out.trans (hb3.mono HW.out.size))
   clear hb3 lk ck c4 SW
   cases K
   ·have HT2:Hid (thoseV isR (V.take (j+1))=L0):=HTH
    go_wp2
    exact⟨⟨j+1,by omega,by go_num,by rw[HT2.out];exact HO.out,HW.out⟩,by simp[intOf];omega⟩
   ·have HT2:Hid (thoseV isR (V.take (j+1))=L0++[y1]):=HTH
    go_wp2_with (at_builtin;refine wpList_append_rw oU_len oU_one 22 23 (.int .u16 0) 2 Tryz.underlying23 info_u16 rfl (by decide) (by decide) rfl (.tmp 29) (.tmp 31) rfl w2.heap.size _ L0 rfl (HO.out.later (bA _)) _ [y1] rfl ((Ow.lit (E:=22) oU_len _ 0 y1 #[encU y1] rfl (Nat.zero_le _)).rw oU_len) (by have:=HOL.out;simp;omega) (by have:=HW.out.size;simp;omega) ?_;intro v1 w4 hown1 hb4;have HO1:=hd0 hown1;have HB1:=hd0 ((HW.out.alloc HW.out.size _).trans hb4);clear hown1 hb4)
    exact⟨⟨j+1,by omega,by go_num,by rw[HT2.out];exact HO1.out,HB1.out⟩,by simp[intOf];omega⟩
  ·obtain rfl:j=M:=by omega
   have dk:decide ((j:Int)<(j:Int))=false:=decide_eq_false (by omega)
   have e:V.take j=V:=List.take_of_length_le (by rw[HM.out];exact Nat.le_refl _)
   rw[e] at hown
   have HO:=hd0 hown
   have HW:=hd0 hbw
   clear hown hbw e hj hlt
   go_wp2
   go_ret
   exact⟨_,rfl,(Ow.mono HO.out HSZ.out).us,B2.out.trans (HW.out.mono B2.out.size)⟩
theorem mR_any (q m:Nat)(a:Ow8)(V:List Vn)(bd cr:Int)(w:World)(hs:MC w q a m V bd cr) :
  Calls Tryz.prog 68 #[.pointer (some ⟨q,0,none⟩)] w fun en w'=>∃ v,en=.returned v∧Us w' w.heap.size v (thoseV isR V)∧Below w.heap.size w w':=by
 have TH:=hd0 (those_R q m a V bd cr w hs)
 go_enter Tryz.func68,Tryz.ntmps68
 go_wp2_with fail
 with_reducible refine TH.out.mono ?_
 rintro e w2 ⟨v,rfl,h⟩
 go_wp2
 go_ret
 exact⟨v,rfl,h⟩
def worstV (V:List Vn)(bd cr:Int):Int:=if 0<cr then 4 else if 0<bd then 3 else if 0<(thoseV isL V).length then 2 else if 0<(thoseV isR V).length then 1 else 0
theorem worst_any (q m:Nat)(a:Ow8)(V:List Vn)(bd cr:Int)(w:World)(hs:MC w q a m V bd cr):Calls Tryz.prog 35 #[.pointer (some ⟨q,0,none⟩)] w fun en w'=>en=.returned (.int .u8 (worstV V bd cr))∧Below w.heap.size w w':=by
 have ML:=hd0 (fun w hs=>mL_any q m a V bd cr w hs)
 have MR:=hd0 (fun w hs=>mR_any q m a V bd cr w hs)
 obtain⟨R,hR⟩:∃ R,worstV V bd cr=R:=⟨_,rfl⟩
 rw[hR]
 unfold worstV at hR
 have HR:=hd0 hR
 have S:=hd0 hs
 have c5:=hs.c5
 have c6:=hs.c6
 clear hR hs
 go_enter Tryz.func35,Tryz.ntmps35
 by_cases h1:0<cr
 ·have d1:decide (0<cr)=true:=decide_eq_true h1
  have H2:Hid (R=4):=hd0 (by rw[←HR.out,if_pos h1])
  clear h1
  go_wp2
  go_ret
  exact⟨by rw[H2.out];rfl,Below.refl _ _⟩
 have d1:decide (0<cr)=false:=decide_eq_false h1
 have HR:=hd0 (by have h:=HR.out;rw[if_neg h1] at h;exact h)
 by_cases h2:0<bd
 ·have d2:decide (0<bd)=true:=decide_eq_true h2
  have H2:Hid (R=3):=hd0 (by rw[←HR.out,if_pos h2])
  clear h1 h2
  go_wp2
  go_ret
  exact⟨by rw[H2.out];rfl,Below.refl _ _⟩
 have d2:decide (0<bd)=false:=decide_eq_false h2
 have HR:=hd0 (by have h:=HR.out;rw[if_neg h2] at h;exact h)
 clear h1 h2
 go_wp2_with fail
 with_reducible refine(ML.out _ S.out).mono ?_
 rintro en w1 ⟨v1,rfl,hu,hb1⟩
 obtain⟨ga,gc,rfl,_⟩:=hu.cells
 have S1:=hd0 (S.out.later hb1)
 have B1:=hd0 hb1
 clear hu hb1 c5 c6
 by_cases h3:0<(thoseV isL V).length
 ·have H2:Hid (R=2):=hd0 (by rw[←HR.out,if_pos h3])
  obtain⟨N,hN⟩:∃ N,(thoseV isL V).length=N:=⟨_,rfl⟩
  rw[hN] at h3 ⊢
  have d3:decide ((0:Int)<(N:Int))=true:=decide_eq_true (by omega)
  have h3':(0:Int)<(N:Int):=by omega
  go_wp2
  go_ret
  exact⟨by rw[H2.out];rfl,B1.out⟩
 have HR:=hd0 (by have h:=HR.out;rw[if_neg h3] at h;exact h)
 have hN:(thoseV isL V).length=0:=by omega
 rw[hN]
 clear h3 hN
 go_wp2_with fail
 with_reducible refine(MR.out _ S1.out).mono ?_
 rintro en w2 ⟨v2,rfl,hu,hb2⟩
 obtain⟨ga2,gc2,rfl,_⟩:=hu.cells
 have B2:=hd0 (B1.out.trans (hb2.mono B1.out.size))
 clear hu hb2
 by_cases h3:0<(thoseV isR V).length
 ·have H2:Hid (R=1):=hd0 (by rw[←HR.out,if_pos h3])
  obtain⟨N,hN⟩:∃ N,(thoseV isR V).length=N:=⟨_,rfl⟩
  rw[hN] at h3 ⊢
  have d3:decide ((0:Int)<(N:Int))=true:=decide_eq_true (by omega)
  have h3':(0:Int)<(N:Int):=by omega
  go_wp2
  go_ret
  exact⟨by rw[H2.out];rfl,B2.out⟩
 have H2:Hid (R=0):=hd0 (by rw[←HR.out,if_neg h3])
 have hN:(thoseV isR V).length=0:=by omega
 rw[hN]
 clear h3 hN
 go_wp2
 go_ret
 exact⟨by rw[H2.out];rfl,B2.out⟩
theorem defects_any (q m:Nat)(a:Ow8)(V:List Vn)(bd cr:Int)(w:World)(hs:MC w q a m V bd cr):Calls Tryz.prog 38 #[.pointer (some ⟨q,0,none⟩)] w fun en w'=>en=.returned (.bool (decide (2≤worstV V bd cr)))∧Below w.heap.size w w':=by
 have W:=worst_any q m a V bd cr w hs
 obtain⟨R,hR⟩:∃ R,worstV V bd cr=R:=⟨_,rfl⟩
 rw[hR] at W ⊢
 clear hR
 cases hd:decide (2≤R)
 all_goals
  go_enter Tryz.func38,Tryz.ntmps38
  go_wp2_with (go_at_call 35;with_reducible refine W.mono ?_;rintro e w' ⟨rfl,hb⟩)
  go_ret
  exact⟨rfl,hb⟩
open Go.RowKit Go.ChangeMaps Go.MapKept Go.WideShapes
open Go.WideElems (Fit rd rg pl rd_key rd_val rg_of other_key)
open Go.Maps (Keyed)
theorem ranges_put {H:Type}{P:Program}{k:TypeId}{R:Value→Option (DataW H × List MemPlace)}{w:World}{b r n:Nat}{D:DataW H}{left:Lit→Bool}{cnt:Nat}{t e:TypeId}(h:w.ranges P k R b r n D left cnt)(K:Keyed P k)(ht:P.underlying t=some (.map k e))(hn:n<maxLen)
  {key val:Value} {kl:Lit} {d:DataW H} {ps:List MemPlace} (hkey:keyOf P k key=some kl) (hv:R val=some (d,ps)) (hin:Maps.has D kl=true) :
  ∃ w',(Instr.mapUpdate t (.map (some b)) key val).run P w=.ok () w'∧w'.ranges P k R b r n (D.put kl d) left cnt∧w.grownBy w' (some b):=by
 have hne:=h.ne
 obtain⟨es,clock,since,seen,c0,hb,F,hs,rfl,hr,hold,rfl,hl1,hl2,hsc,hsk⟩:=h
 obtain⟨es2,clock2,hrun,F2,hput,_⟩:=Maps.fit_store (R':=R) K ht hb F (Nat.lt_of_le_of_lt hs hn) (fun _ _ _ _ hz=>hz) hkey hv
 have hex:∃ x∈es.toList,x.key=key:=by
  obtain⟨p,hp,hpk⟩:=List.any_eq_true.1 hin
  obtain⟨x,hx,rfl⟩:=List.mem_map.1 (mem_sorted.1 hp)
  obtain⟨y,hy⟩:=F.reads x hx
  refine⟨x,hx,?_⟩
  have e1:=WideAt.sameKey_eq hpk
  rw[rg_of hy] at e1
  exact K.inj (e1 ▸ rd_key hy) hkey
 rcases K.find w hkey es.toList F.keys with⟨h1,h2⟩|⟨j,e0,h1,h2,h3⟩
 ·obtain⟨x,hx,hxk⟩:=hex
  exact absurd hxk (h2 x hx)
 ·have hj:es[j]?=some e0:=by simpa using h2
  have hrun':(Instr.mapUpdate t (.map (some b)) key val).run P w=.ok () (setBlock w b (.map (es.modify j (fun e'=>{ e' with key:=key,val:=val })) clock)):=by
   simp[Instr.mapUpdate,run_underlying ht,MapKept.run_getObj_map hb,K.check w false hkey,h1,hj,h3,K.stays w hkey,MapKept.run_setObj_map _ hb,Result.andThen,setBlock]
  have heq:es2=es.modify j (fun e'=>{ e' with key:=key,val:=val })∧clock2=clock:=by
   rw[hrun'] at hrun
   have h4:setBlock w b (.map (es.modify j (fun e'=>{ e' with key:=key,val:=val })) clock)=setBlock w b (.map es2 clock2):=by injection hrun
   have h5:=heap_setBlock_same hb (.map es2 clock2)
   rw[←h4,heap_setBlock_same hb] at h5
   have h6:=Option.some.inj h5
   injection h6 with h7 h8
   exact⟨h7.symm,h8.symm⟩
  obtain⟨rfl,rfl⟩:=heq
  have hlist:(es.modify j (fun e'=>{ e' with key:=key,val:=val })).toList=es.toList.set j { e0 with key:=key,val:=val }:=by
   rw[Array.toList_modify,modify_eq_set _ _ _ _ h2]
  have hjl:j<es.toList.length:=(List.getElem?_eq_some_iff.1 h2).1
  have toOld:∀ x∈(es.modify j (fun e'=>{ e' with key:=key,val:=val })).toList,∃ x0∈es.toList,x0.born=x.born∧x0.key=x.key:=by
   intro x hx
   rw[hlist] at hx
   obtain⟨i,hi,ex⟩:=List.getElem_of_mem hx
   rw[List.getElem_set] at ex
   split at ex
   ·exact⟨e0,List.mem_of_getElem? h2,by rw[←ex],by rw[←ex];exact h3⟩
   ·exact⟨x,ex ▸ List.getElem_mem _,rfl,rfl⟩
  have toNew:∀ x0∈es.toList,∃ x∈(es.modify j (fun e'=>{ e' with key:=key,val:=val })).toList,x0.key=x.key:=by
   intro x0 hx0
   rw[hlist]
   obtain⟨i,hi,ex⟩:=List.getElem_of_mem hx0
   by_cases hij:j=i
   ·subst hij
    have e2:x0=e0:=by
     rw[List.getElem?_eq_getElem hi,ex] at h2;exact Option.some.inj h2
    refine⟨{ e0 with key:=key,val:=val },List.mem_iff_getElem.2 ⟨j,by simpa using hi,by simp⟩,by rw[e2];exact h3⟩
   ·refine⟨x0,List.mem_iff_getElem.2 ⟨i,by simpa using hi,by rw[List.getElem_set_ne hij];exact ex⟩,rfl⟩
  have rgk:∀ x∈es.toList,∀ x'∈(es.modify j (fun e'=>{ e' with key:=key,val:=val })).toList,x.key=x'.key→(rg P k R x).1=(rg P k R x').1:=by
   intro x hx x' hx' he
   obtain⟨y,hy⟩:=F.reads x hx
   obtain⟨y',hy'⟩:=F2.reads x' hx'
   rw[rg_of hy,rg_of hy']
   have m1:=rd_key hy
   have m2:=rd_key hy'
   rw[he] at m1
   exact Option.some.inj (m1.symm.trans m2)
  have hborn:(es.modify j (fun e'=>{ e' with key:=key,val:=val })).toList.map (·.born)=es.toList.map (·.born):=by
   rw[hlist]
   apply List.ext_getElem?
   intro i
   rw[List.getElem?_map,List.getElem?_map,List.getElem?_set]
   by_cases hij:j=i
   ·subst hij;rw[if_pos rfl,if_pos hjl,h2];rfl
   ·rw[if_neg hij]
  refine⟨_,hrun',⟨_,_,since,seen,c0,heap_setBlock_same hb _,F2,by simpa using hs,by rw[DataW.put_eq,hput],(heap_setBlock_other hb _ hne).trans hr,fun x hx=>?_,?_,fun x hx=>?_,fun kl' hk'=>?_,hsc,hsk⟩,⟨rfl,rfl,rfl,by simp[setBlock],fun i _ hi=>heap_setBlock_other hb _ (fun e=>hi (by rw[e]))⟩⟩
  ·obtain⟨x0,hx0,hb0,_⟩:=toOld x hx
   rw[←hb0];exact hold x0 hx0
  ·have e1:∀ a:Array MapEntry,(leftOf a seen).size=((a.toList.map (·.born)).filter fun x=>!seen.contains x).length:=fun a=>by
    unfold leftOf
    rw[←Array.length_toList,Array.toList_filter,List.filter_map,List.length_map]
    rfl
   rw[e1,e1,hborn]
  ·obtain⟨x0,hx0,hb0,hk0⟩:=toOld x hx
   rw[←rgk x0 hx0 x hx hk0,hl1 x0 hx0,hb0]
  ·obtain⟨x0,hx0,e0'⟩:=hl2 kl' hk'
   obtain⟨x,hx,hk0⟩:=toNew x0 hx0
   exact⟨x,hx,by rw[←rgk x0 hx0 x hx hk0];exact e0'⟩
theorem vIns_first {z:Vn} : ∀ {V:List Vn},(∀ y∈V,z.1<y.1)→vIns z V=z::V
 |[],_=>rfl
 | y::r,h=>by unfold vIns;rw[if_pos (h y (List.mem_cons_self ..))]
theorem vPut_map {k a b:Int} : ∀ {V:List Vn},Rising V→k∈V.map (·.1)→vPut V (k,a,b)=V.map fun x=>if x.1=k then(k,a,b) else x
 |[],_,hk=>by simp at hk
 | x::r,h,hk=>by
  have h1:∀ y∈r,x.1<y.1:=fun y hy=>(List.pairwise_cons.1 (show((x::r).map (·.1)).Pairwise (·<·) from h)).1 y.1 (List.mem_map_of_mem hy)
  have h2:Rising r:=(List.pairwise_cons.1 (show((x::r).map (·.1)).Pairwise (·<·) from h)).2
  by_cases hx:x.1=k
  ·have e2:vDel (x::r) k=r:=by
    unfold vDel
    rw[List.filter_cons_of_neg (by simp[hx])]
    exact List.filter_eq_self.2 fun y hy=>by have:=h1 y hy;simp;omega
   have e3:r.map (fun x=>if x.1=k then(k,a,b) else x)=r:=by
    conv=>rhs;rw[←List.map_id r]
    exact List.map_congr_left fun y hy=>by have:=h1 y hy;rw[if_neg (by omega)];rfl
   rw[List.map_cons,e3,if_pos hx]
   unfold vPut
   rw[e2]
   exact vIns_first fun y hy=>by have:=h1 y hy;omega
  ·have hk':k∈r.map (·.1):=by
    rcases List.mem_cons.1 (show k∈x.1::r.map (·.1) from hk) with e|e
    ·exact absurd e.symm hx
    ·exact e
   obtain⟨y,hy,hyk⟩:=List.mem_map.1 hk'
   have hlt:x.1<k:=by have:=h1 y hy;omega
   have ih:=vPut_map (a:=a) (b:=b) h2 hk'
   have e2:vDel (x::r) k=x::vDel r k:=List.filter_cons_of_pos (by simp[hx])
   unfold vPut at ih ⊢
   rw[e2]
   unfold vIns
   rw[if_neg (by simp;omega),List.map_cons,if_neg hx]
   exact congrArg _ ih
open Go.Maps (Keyed int_keyed keyOf_int_mk)
structure Two (q m:Nat)(w w':World):Prop where
 os:w'.os=w.os
 tape:w'.tape=w.tape
 output:w'.output=w.output
 size:w.heap.size≤w'.heap.size
 block:∀ k,k<w.heap.size→k≠q→k≠m→w'.heap[k]?=w.heap[k]?
section
variable {q m:Nat} {w w' w'':World}
theorem Two.trans (h:Two q m w w')(k:Two q m w' w''):Two q m w w'' :=
 ⟨k.os.trans h.os,k.tape.trans h.tape,k.output.trans h.output,Nat.le_trans h.size k.size,fun i hi h1 h2=>(k.block i (Nat.lt_of_lt_of_le hi h.size) h1 h2).trans (h.block i hi h1 h2)⟩
theorem Two.of_below (h:Below w.heap.size w w'):Two q m w w':=⟨h.os,h.tape,h.output,h.size,fun k hk _ _=>h.block k hk⟩
theorem Two.of_left (h:Only q w w'):Two q m w w':=⟨h.os,h.tape,h.output,h.size,fun k hk h1 _=>h.block k hk (by simpa using h1)⟩
theorem Two.of_right (h:Only m w w'):Two q m w w':=⟨h.os,h.tape,h.output,h.size,fun k hk _ h2=>h.block k hk (by simpa using h2)⟩
theorem Two.drew (h:Two q m w w'):Two q m w w'.drew:=⟨h.os,h.tape,h.output,h.size,h.block⟩
end
structure Bnd (V:List Vn)(bd cr:Int):Prop where
 v:∀ x∈V,0≤x.2.1∧x.2.1≤1000
 k:∀ x∈V,0≤x.1∧x.1<65536
 b:0≤bd∧bd≤1000
 c:0≤cr∧cr≤1000
theorem dn1_bnd {x:Int}(h:0≤x∧x≤1000):0≤dn1 x∧dn1 x≤1000:=by unfold dn1;split <;> omega
def tickV (V:List Vn):List Vn:=V.map fun x=>(x.1,dn1 x.2.1,x.2.2)
def tkOne (left:Lit→Bool)(x:Vn):Vn:=if left (.int .u16 x.1)=true then x else(x.1,dn1 x.2.1,x.2.2)
theorem tickV_keys (V:List Vn):(tickV V).map (·.1)=V.map (·.1):=by unfold tickV;rw[List.map_map];rfl
theorem tk_keys (left:Lit→Bool)(V:List Vn):(V.map (tkOne left)).map (·.1)=V.map (·.1):=by
 rw[List.map_map]
 refine List.map_congr_left fun x _=>?_
 unfold tkOne
 simp only[Function.comp]
 split <;> rfl
theorem Rising.tk {V:List Vn}(h:Rising V)(left:Lit→Bool):Rising (V.map (tkOne left)):=by unfold Rising;rw[tk_keys];exact h
theorem vFind_of_mem {V:List Vn}(h:Rising V){x:Vn}(hx:x∈V):vFind V x.1=some x.2:=by
 obtain⟨j,hj,rfl⟩:=List.getElem_of_mem hx
 exact vFind_at hj h
theorem tk_find {V:List Vn}(left:Lit→Bool){k:Int}(hk:left (.int .u16 k)=true):vFind (V.map (tkOne left)) k=vFind V k:=by
 induction V with
 | nil=>rfl
 | cons x r ih =>
  rw[List.map_cons]
  unfold vFind
  rw[ih]
  have e:(tkOne left x).1=x.1:=by unfold tkOne;split <;> rfl
  rw[e]
  by_cases hx:x.1=k
  ·rw[if_pos hx,if_pos hx]
   unfold tkOne;rw[hx,if_pos hk]
  ·rw[if_neg hx,if_neg hx]
theorem tk_start {V:List Vn} : V.map (tkOne (Maps.has (vD V)))=V:=by
 conv=>rhs;rw[←List.map_id V]
 refine List.map_congr_left fun x hx=>?_
 unfold tkOne
 rw[if_pos (by rw[vD_has];exact(vFind_mem V x.1).2 (List.mem_map_of_mem hx))]
 rfl
theorem tk_end {V:List Vn}{left:Lit→Bool}(h:∀ kl,left kl=false):V.map (tkOne left)=tickV V:=by
 unfold tickV
 refine List.map_congr_left fun x hx=>?_
 unfold tkOne
 rw[if_neg (by rw[h];simp)]
theorem tk_step {V:List Vn}{left:Lit→Bool}{k a b:Int}(hr:Rising V)(hk:left (.int .u16 k)=true)(hf:vFind V k=some (a,b)) :
  vPut (V.map (tkOne left)) (k,dn1 a,b)=V.map (tkOne fun z=>left z&&!z.sameKey (.int .u16 k)):=by
 have hm:k∈V.map (·.1):=(vFind_mem V k).1 (by rw[hf];rfl)
 rw[vPut_map (hr.tk left) (by rw[tk_keys];exact hm),List.map_map]
 refine List.map_congr_left fun x hx=>?_
 have e:(tkOne left x).1=x.1:=by unfold tkOne;split <;> rfl
 simp only[Function.comp,e]
 by_cases hxk:x.1=k
 ·have h2:=vFind_of_mem hr hx
  rw[hxk,hf] at h2
  have h3:=Option.some.inj h2
  rw[if_pos hxk]
  unfold tkOne
  simp only[hxk,same_u16,← h3]
  simp
 ·rw[if_neg hxk]
  unfold tkOne
  simp only[same_u16,decide_eq_false hxk]
  simp
theorem vElD_ne:vElD 0 0≠vElD 1 0:=by unfold vElD;intro h;simp at h
structure TKs (w W:World)(q m r:Nat)(a:Ow8)(V:List Vn)(bd cr:Int)(left:Lit→Bool)(cnt:Nat):Prop where
 b:W.heap[q]?=some (.cells (mcA a m bd cr) 164 (0,0))
 rg:W.ranges Tryz.prog 22 rEl m r V.length (vD (V.map (tkOne left))) left cnt
 two:Two q m w W
 rl:w.heap.size≤r
end Go.Proofs.YtlkdfofpnmpidaaGreat
