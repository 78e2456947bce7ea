/- ZQ08 -/
import Derived.Test.YtlkdfofpnmpidaaGreatZQ07
set_option linter.unusedVariables false
set_option linter.unusedSimpArgs false
set_option maxRecDepth 100000
set_option maxHeartbeats 16000000
namespace Go.Proofs.YtlkdfofpnmpidaaGreat
open Go.RowKit
theorem part_u8G (cs : Array Value) (k : Nat) (w : World) : (part 5 cs k).run Tryz.prog w = match cs[k]? with | some v => .ok v w | none => (stuck "part: no such cell" : Sem Value).run Tryz.prog w := by
 have hi:(isAgg 5).run Tryz.prog w=.ok false w:=by kernel_rfl
 cases h:cs[k]? <;> simp[part,hi,h]
theorem equalIn_macG (d:Nat)(m n:Mc)(w:World):(Op.equalIn (d+2) 25 (.agg #[.int .u8 m.a,.int .u8 m.b,.int .u8 m.c,.int .u8 m.d,.int .u8 m.e,.int .u8 m.f]) (.agg #[.int .u8 n.a,.int .u8 n.b,.int .u8 n.c,.int .u8 n.d,.int .u8 n.e,.int .u8 n.f])).run Tryz.prog w=.ok (decide (m=n)) w:=by
 have hs:(sizeOf 5).run Tryz.prog w=.ok 1 w:=by kernel_rfl
 have he:∀ x y:Int,(Op.equalIn (d+1) 5 (.int .u8 x) (.int .u8 y)).run Tryz.prog w=.ok (x==y) w:=fun x y=>run_equalIn_int w d 5 .u8 .u8 x y Tryz.underlying5
 rw[Op.equalIn]
 simp only[Sem.run_bind,run_underlying Tryz.underlying25,Result.andThen_ok,hs]
 rw[Std.Legacy.Range.forIn_eq_forIn_range']
 rw[show({ start:=0,stop:=6,step:=1,step_pos:=by decide } : Std.Legacy.Range).size=6 from rfl]
 rw[show List.range' 0 6 1=[0,1,2,3,4,5] from by decide]
 simp[part_u8G,he,Sem.run_ite]
 cases m with|mk a b c e f g=>cases n with|mk a' b' c' e' f' g' =>
 simp only[Mc.mk.injEq]
 by_cases h1:a=a' <;> by_cases h2:b=b' <;> by_cases h3:c=c' <;> by_cases h4:e=e' <;> by_cases h5:f=f' <;> by_cases h6:g=g' <;> simp[h1,h2,h3,h4,h5,h6]
theorem neq_macG (m n:Mc)(w:World):(binOp .neq 25 (.agg #[.int .u8 m.a,.int .u8 m.b,.int .u8 m.c,.int .u8 m.d,.int .u8 m.e,.int .u8 m.f]) (.agg #[.int .u8 n.a,.int .u8 n.b,.int .u8 n.c,.int .u8 n.d,.int .u8 n.e,.int .u8 n.f])).run Tryz.prog w=.ok (.bool (!decide (m=n))) w:=by
 simp only[binOp]
 simp[Op.equal,Op.maxDepth,equalIn_macG 9998]
def prtL (k:UInt8)(m:Mc):List Th:=if m=mc0 then[] else[(k,1::m.by)]
theorem port_any (k:UInt8)(K:Int)(hk:(k.toNat:Int)=K)(m:Mc)(hm:m.Ok)(q:Nat)(a b c:Int)(f:List UInt8)(v:Value)(L:List Th)(w:World)(hp:PB 103 w q a b c f v)(ht:TlT w (q+1) v L)(hL:L.length≤100) :
  Calls Tryz.prog 145 #[.int .u8 K,.agg #[.int .u8 m.a,.int .u8 m.b,.int .u8 m.c,.int .u8 m.d,.int .u8 m.e,.int .u8 m.f],.pointer (some ⟨q,0,none⟩)] w fun en w'=>en=.returned (.tuple #[])∧∃ v',PB 103 w' q a b c f v'∧TlT w' (q+1) v' (L++prtL k m)∧Below q w w':=by
 have hqlt:=hp.lt
 have HP:=hd0 hp
 have HT:=hd0 ht
 have HM:=hd0 hm
 clear hp ht hm
 go_enter Tryz.func145,Tryz.ntmps145
 go_upto_region 1 with fail
 have bb:Below w.heap.size w (w.alloc (.cells #[.int .u8 m.a,.int .u8 m.b,.int .u8 m.c,.int .u8 m.d,.int .u8 m.e,.int .u8 m.f] 25)):=bA _
 have gm:=GB.new 25 w #[.int .u8 m.a,.int .u8 m.b,.int .u8 m.c,.int .u8 m.d,.int .u8 m.e,.int .u8 m.f]
 obtain⟨u,hu⟩:∃ u,w.heap.size=u:=⟨_,rfl⟩
 obtain⟨w0,hw0⟩:∃ k,w.alloc (.cells #[.int .u8 m.a,.int .u8 m.b,.int .u8 m.c,.int .u8 m.d,.int .u8 m.e,.int .u8 m.f] 25)=k:=⟨_,rfl⟩
 rw[hw0] at bb gm ⊢
 have HP0:=hd0 (HP.out.later bb)
 have HT0:=hd0 (HT.out.later bb)
 have HB0:=hd0 (bb.mono (show q≤w.heap.size by omega))
 have HS0:=hd0 (show q<u by omega)
 have HU0:=hd0 (show u<w0.heap.size by have:=gm.lt;omega)
 rw[hu] at gm ⊢
 have GM:=hd0 gm
 have c0:w0.cell? ⟨u,0,none⟩=some (.int .u8 m.a):=gm.c 0 _ rfl
 have c1:w0.cell? ⟨u,1,none⟩=some (.int .u8 m.b):=gm.c 1 _ rfl
 have c2:w0.cell? ⟨u,2,none⟩=some (.int .u8 m.c):=gm.c 2 _ rfl
 have c3:w0.cell? ⟨u,3,none⟩=some (.int .u8 m.d):=gm.c 3 _ rfl
 have c4:w0.cell? ⟨u,4,none⟩=some (.int .u8 m.e):=gm.c 4 _ rfl
 have c5:w0.cell? ⟨u,5,none⟩=some (.int .u8 m.f):=gm.c 5 _ rfl
 clear bb gm hu hw0 HP HT hqlt
 by_cases h0:m=mc0
 ·have d0:decide (m=mc0)=true:=decide_eq_true h0
  have hpr:prtL k m=[]:=by unfold prtL;rw[if_pos h0]
  have HPR:=hd0 hpr
  have hne:∀ W:World,(binOp .neq 25 (.agg #[.int .u8 m.a,.int .u8 m.b,.int .u8 m.c,.int .u8 m.d,.int .u8 m.e,.int .u8 m.f]) (.agg #[.int .u8 0,.int .u8 0,.int .u8 0,.int .u8 0,.int .u8 0,.int .u8 0])).run Tryz.prog W=.ok (.bool false) W:=fun W=>(neq_macG m mc0 W).trans (by rw[d0];rfl)
  clear h0 d0 hpr
  go_wp2_with fail
  go_end0
  exact⟨rfl,v,HP0.out,by rw[HPR.out,List.append_nil];exact HT0.out,HB0.out⟩
 have d0:decide (m=mc0)=false:=decide_eq_false h0
 have hpr:prtL k m=[(k,1::m.by)]:=by unfold prtL;rw[if_neg h0]
 have HPR:Hid (prtL k m=[(k,1::m.by)]):=hd0 hpr
 have hne:∀ W:World,(binOp .neq 25 (.agg #[.int .u8 m.a,.int .u8 m.b,.int .u8 m.c,.int .u8 m.d,.int .u8 m.e,.int .u8 m.f]) (.agg #[.int .u8 0,.int .u8 0,.int .u8 0,.int .u8 0,.int .u8 0,.int .u8 0])).run Tryz.prog W=.ok (.bool true) W:=fun W=>(neq_macG m mc0 W).trans (by rw[d0];rfl)
 clear h0 d0 hpr
 go_upto_region 2 with fail
 have SM:Hid (∀ W,Below w0.heap.size w0 W→Src W (.slice (some ⟨u,0,none⟩) 6 6) m.by):=fun W h=>by
  have g:=GM.out.later h
  exact srcM (g.c 0 _ rfl) (g.c 1 _ rfl) (g.c 2 _ rfl) (g.c 3 _ rfl) (g.c 4 _ rfl) (g.c 5 _ rfl) HM.out
 have BL:Hid (∀ W:World,Bys (W.alloc (.cells #[.int .u8 1] 5)) W.heap.size (.slice (some ⟨W.heap.size,0,none⟩) 1 1) [1]):=fun W=>Bys.lit W W.heap.size #[.int .u8 1] [1] (Nat.le_refl _) rfl (by simp)
 clear c0 c1 c2 c3 c4 c5 hne
 have p4:w0.drew.cell? ⟨q,4,none⟩=some v:=HP0.out.c4
 have p4a:(w0.alloc (.cells #[.int .u8 1] 5)).drew.cell? ⟨q,4,none⟩=some v:=(HP0.out.later (bA _)).c4
 have L0:=hd0 (Below.refl w0.heap.size w0)
 have Ld:=hd0 L0.out.drew
 have La:=hd0 ((L0.out.alloc (Nat.le_refl _) (.cells #[.int .u8 1] 5)).drew)
 have Lc:=hd0 (Ld.out.alloc (Nat.le_refl _) (.cells #[.int .u8 1] 5))
 obtain⟨X,hX⟩:∃ X,1::m.by=X:=⟨_,rfl⟩
 have HX:=hd0 hX
 rw[hX] at HPR
 clear hX
 have TL:Hid (∀ W:World,Tls (W.alloc (.cells #[.int .u8 K,.string (bs (X))] 182)) (.slice (some ⟨W.heap.size,0,none⟩) 1 1) [(k,X)]):=fun W=>by
  rw[←hk];exact(TlT.lit W 0 (k,X) (Nat.zero_le _)).tls
 have HQ0:=hd0 (show q+1≤w0.heap.size by have:=HP0.out.lt;omega)
 go_region_law (first
  |(refine step_append_src rfl (.tmp 11) (.tmp 12) rfl w0.heap.size _ [1] (by rfl) (by first|exact BL.out w0.drew|exact(BL.out w0).later (Below.refl _ _).drew) _ m.by (by rfl) (by first|exact SM.out _ Lc.out|exact SM.out _ La.out) (by simp[Mc.by_len]) (by first|exact Lc.out.size|exact La.out.size) ?_;intro v1 w3 hown1 hb3;have hcv:(convert 39 9 v1).run Tryz.prog w3=.ok (.string (bs X)) w3:=(by rw[←HX.out];exact run_string_bys hown1);(first|(have L3:=hd0 (Lc.out.trans hb3))|(have L3:=hd0 (La.out.trans hb3)));have P3:=hd0 (HP0.out.later L3.out);have m3:=P3.out.c4;have m3a:=(P3.out.later ((Below.refl w3.heap.size w3).alloc (Nat.le_refl _) (.cells #[.int .u8 K,.string (bs (X))] 182))).c4)
  |(refine step_append_T rfl (.tmp 9) (.tmp 16) rfl (q+1) _ L (by rfl) (by exact HT0.out.later (L3.out.alloc L3.out.size _)) _ [(k,X)] (by rfl) (by exact TL.out _) (by simp;omega) (by exact Nat.le_trans HQ0.out (L3.out.alloc L3.out.size _).size) ?_;intro v2 w5 hown2 hb5;obtain⟨a5,k5,hv5,_⟩:=hown2.tls.shape;obtain⟨n5,hn5⟩:∃ n,(L++[(k,X)]).length=n:=⟨_,rfl⟩;rw[hn5] at hv5;subst hv5;clear hn5;have P5:=hd0 ((HP0.out.later (L3.out.alloc L3.out.size _)).below (Nat.lt_succ_self q) hb5);have m4:=P5.out.c4;have f4:=P5.out.fr 4))
 all_goals go_wp2_with fail
 all_goals
  go_end0
  refine⟨rfl,_,P5.out.setv4G _,?_,?_⟩
  ·rw[HPR.out];exact hown2.set (Nat.lt_succ_self q) _
  ·exact below_set ((HB0.out.trans ((L3.out.alloc L3.out.size _).mono (by have:=HQ0.out;omega))).trans (hb5.mono (Nat.le_succ q))) (Nat.le_refl q) _
theorem eql_macG (m n:Mc)(w:World):(binOp .eql 25 (.agg #[.int .u8 m.a,.int .u8 m.b,.int .u8 m.c,.int .u8 m.d,.int .u8 m.e,.int .u8 m.f]) (.agg #[.int .u8 n.a,.int .u8 n.b,.int .u8 n.c,.int .u8 n.d,.int .u8 n.e,.int .u8 n.f])).run Tryz.prog w=.ok (.bool (decide (m=n))) w:=by
 simp only[binOp]
 simp[Op.equal,Op.maxDepth,equalIn_macG 9998]
def hostV (m:Mc):Bool:=!decide (m=mc0)&&!(m.a % 2==1)
theorem groupM_any (m:Mc)(hm:m.Ok)(w:World):Calls Tryz.prog 73 #[.agg #[.int .u8 m.a,.int .u8 m.b,.int .u8 m.c,.int .u8 m.d,.int .u8 m.e,.int .u8 m.f]] w fun en w'=>en=.returned (.bool (m.a % 2==1))∧Below w.heap.size w w' :=
 group_any m.a m.b m.c m.d m.e m.f w hm.a.1 hm.a.2
theorem host_any (m:Mc)(hm:m.Ok)(w:World):Calls Tryz.prog 29 #[.agg #[.int .u8 m.a,.int .u8 m.b,.int .u8 m.c,.int .u8 m.d,.int .u8 m.e,.int .u8 m.f]] w fun en w'=>en=.returned (.bool (hostV m))∧Below w.heap.size w w':=by
 have HM:=hd0 hm
 obtain⟨R,hR⟩:∃ R,hostV m=R:=⟨_,rfl⟩
 rw[hR]
 obtain⟨D,hD⟩:∃ D,decide (m=mc0)=D:=⟨_,rfl⟩
 obtain⟨G,hG⟩:∃ D,(m.a % 2==1)=D:=⟨_,rfl⟩
 have HR:Hid ((!D&&!G)=R):=hd0 (by rw[←hR,← hD,← hG];rfl)
 have GR:Hid (∀ w,Calls Tryz.prog 73 #[.agg #[.int .u8 m.a,.int .u8 m.b,.int .u8 m.c,.int .u8 m.d,.int .u8 m.e,.int .u8 m.f]] w fun en w'=>en=.returned (.bool G)∧Below w.heap.size w w'):=hd0 fun w=>by rw[←hG];exact groupM_any m HM.out w
 have hne:∀ W:World,(binOp .neq 25 (.agg #[.int .u8 m.a,.int .u8 m.b,.int .u8 m.c,.int .u8 m.d,.int .u8 m.e,.int .u8 m.f]) (.agg #[.int .u8 0,.int .u8 0,.int .u8 0,.int .u8 0,.int .u8 0,.int .u8 0])).run Tryz.prog W=.ok (.bool (!D)) W:=fun W=>by rw[←hD];exact neq_macG m mc0 W
 clear hR hD hG hm
 cases D with
 | true =>
  go_enter Tryz.func29,Tryz.ntmps29
  go_wp2
  go_ret
  exact⟨by rw[←HR.out];rfl,bA _⟩
 | false =>
  go_enter Tryz.func29,Tryz.ntmps29
  go_wp2_with fail
  with_reducible refine(GR.out _).mono ?_
  rintro en w1 ⟨rfl,hb1⟩
  have HB:=hd0 (((Below.refl w.heap.size w).alloc (Nat.le_refl _) _).trans (hb1.mono (by simp)))
  clear hb1
  go_wp2
  go_ret
  exact⟨by rw[←HR.out];rfl,HB.out⟩
theorem refHost_any (m:Mc)(hm:m.Ok)(w:World):Calls Tryz.prog 32 #[.agg #[.int .u8 m.a,.int .u8 m.b,.int .u8 m.c,.int .u8 m.d,.int .u8 m.e,.int .u8 m.f]] w fun en w'=>en=.returned (.bool (hostV m))∧Below w.heap.size w w':=by
 obtain⟨R,hR⟩:∃ R,hostV m=R:=⟨_,rfl⟩
 rw[hR]
 obtain⟨D,hD⟩:∃ D,decide (m=mc0)=D:=⟨_,rfl⟩
 obtain⟨G,hG⟩:∃ D,(m.a % 2==0)=D:=⟨_,rfl⟩
 have h0:=hm.a.1
 have hG2:(!(m.a % 2==1))=G:=by
  rw[←hG]
  have:m.a % 2=0∨m.a % 2=1:=by omega
  rcases this with h|h <;> rw[h] <;> rfl
 have HR:Hid ((!D&&G)=R):=hd0 (by rw[←hR,← hD,← hG2];rfl)
 have hne:∀ W:World,(binOp .neq 25 (.agg #[.int .u8 m.a,.int .u8 m.b,.int .u8 m.c,.int .u8 m.d,.int .u8 m.e,.int .u8 m.f]) (.agg #[.int .u8 0,.int .u8 0,.int .u8 0,.int .u8 0,.int .u8 0,.int .u8 0])).run Tryz.prog W=.ok (.bool (!D)) W:=fun W=>by rw[←hD];exact neq_macG m mc0 W
 clear hR hD hG2 hm
 cases G with
 | true =>
  go_enter Tryz.func32,Tryz.ntmps32
  go_wp2
  go_ret
  exact⟨by rw[←HR.out];cases D <;> rfl,bA _⟩
 | false =>
  go_enter Tryz.func32,Tryz.ntmps32
  go_wp2
  go_ret
  exact⟨by rw[←HR.out];cases D <;> rfl,bA _⟩
structure Sn where
 m:Mc
 d:List UInt8
def snC (x:Sn):List Value:=[.int .u8 x.m.a,.int .u8 x.m.b,.int .u8 x.m.c,.int .u8 x.m.d,.int .u8 x.m.e,.int .u8 x.m.f,.string (bs x.d)]
theorem snC_len (x:Sn):(snC x).length=7:=rfl
def sentR (m:Mc)(a b c:Int)(f:List UInt8)(l:List Th):List Sn:=if (putP a b c f l).2=0 then[⟨m,(putP a b c f l).1⟩] else[]
theorem sent_any (m:Mc)(v:Value)(a b c:Int)(f:List UInt8)(l:List Th)(w:World)(hv:Tls w v l)(hl:l.length≤100000)(hs:∀ x∈l,x.2.length≤maxLen)(hf:f.length≤1000000)(hm:(putT l).1.length≤1000000000)(ha:0≤a∧a<256)(hb:0≤b∧b<256)(hc:0≤c∧c<256) :
  Calls Tryz.prog 40 #[.agg #[.int .u8 m.a,.int .u8 m.b,.int .u8 m.c,.int .u8 m.d,.int .u8 m.e,.int .u8 m.f],.agg #[.int .u8 a,.int .u8 b,.int .u8 c,.string (bs f),v]] w fun en w'=>∃ u,en=.returned u∧Ow 7 snC 55 w' w.heap.size u (sentR m a b c f l)∧Below w.heap.size w w':=by
 obtain⟨vx,vk,hvv,-⟩:=hv.shape
 obtain⟨vn,hvn⟩:∃ n,l.length=n:=⟨_,rfl⟩
 rw[hvn] at hvv
 subst hvv
 obtain⟨⟨P,E⟩,hP⟩:∃ R,putP a b c f l=R:=⟨_,rfl⟩
 have PU:Hid (∀ w,Tls w (.slice vx vn vk) l→Calls Tryz.prog 48 #[.agg #[.int .u8 a,.int .u8 b,.int .u8 c,.string (bs f),.slice vx vn vk]] w fun en w'=>en=.returned (.tuple #[.string (bs P),.int .i64 E])∧Below w.heap.size w w'):=hd0 fun w hv=>by
  have h:=cput_any (.slice vx vn vk) a b c f l w hv hl hs hf hm ha hb hc
  rw[hP] at h;exact h
 have HR:Hid (sentR m a b c f l=if E=0 then[⟨m,P⟩] else[]):=hd0 (by unfold sentR;rw[hP])
 obtain⟨R,hR⟩:∃ R,sentR m a b c f l=R:=⟨_,rfl⟩
 rw[hR] at HR ⊢
 have HV:=hd0 hv
 clear hR hP hv hl hs hf hm ha hb hc hvn
 go_enter Tryz.func40,Tryz.ntmps40
 go_upto_region 1 with fail
 have hb0:Below w.heap.size w ((w.alloc (.cells #[.int .u8 m.a,.int .u8 m.b,.int .u8 m.c,.int .u8 m.d,.int .u8 m.e,.int .u8 m.f] 25)).alloc (.cells #[.int .u8 a,.int .u8 b,.int .u8 c,.string (bs f),.slice vx vn vk] 103)):=(bA _).alloc (by simp) _
 have g0:GB 25 ((w.alloc (.cells #[.int .u8 m.a,.int .u8 m.b,.int .u8 m.c,.int .u8 m.d,.int .u8 m.e,.int .u8 m.f] 25)).alloc (.cells #[.int .u8 a,.int .u8 b,.int .u8 c,.string (bs f),.slice vx vn vk] 103)) w.heap.size #[.int .u8 m.a,.int .u8 m.b,.int .u8 m.c,.int .u8 m.d,.int .u8 m.e,.int .u8 m.f]:=(GB.new 25 w #[.int .u8 m.a,.int .u8 m.b,.int .u8 m.c,.int .u8 m.d,.int .u8 m.e,.int .u8 m.f]).later (bA _)
 have pb:PB 103 ((w.alloc (.cells #[.int .u8 m.a,.int .u8 m.b,.int .u8 m.c,.int .u8 m.d,.int .u8 m.e,.int .u8 m.f] 25)).alloc (.cells #[.int .u8 a,.int .u8 b,.int .u8 c,.string (bs f),.slice vx vn vk] 103)) (w.heap.size+1) a b c f (.slice vx vn vk):=by
  have:=PB.new 103 (w.alloc (.cells #[.int .u8 m.a,.int .u8 m.b,.int .u8 m.c,.int .u8 m.d,.int .u8 m.e,.int .u8 m.f] 25)) a b c f (.slice vx vn vk)
  rw[show(w.alloc (.cells #[.int .u8 m.a,.int .u8 m.b,.int .u8 m.c,.int .u8 m.d,.int .u8 m.e,.int .u8 m.f] 25)).heap.size=w.heap.size+1 by simp] at this
  exact this
 obtain⟨w0,hw0⟩:∃ k,(w.alloc (.cells #[.int .u8 m.a,.int .u8 m.b,.int .u8 m.c,.int .u8 m.d,.int .u8 m.e,.int .u8 m.f] 25)).alloc (.cells #[.int .u8 a,.int .u8 b,.int .u8 c,.string (bs f),.slice vx vn vk] 103)=k:=⟨_,rfl⟩
 rw[hw0] at hb0 g0 pb ⊢
 have c0:=pb.c0
 have c1:=pb.c1
 have c2:=pb.c2
 have c3:=pb.c3
 have c4:=pb.c4
 have S0:=hd0 (And.intro hb0 g0)
 clear hw0 hb0 g0 pb
 go_wp2_with fail
 with_reducible refine(PU.out _ (HV.out.later S0.out.1)).mono ?_
 rintro en w1 ⟨rfl,hb1⟩
 have S1:=hd0 (And.intro (S0.out.1.trans (hb1.mono S0.out.1.size)) (S0.out.2.later hb1))
 clear hb1 S0 c0 c1 c2 c3 c4
 by_cases he:E=0
 ·have HZ:Hid (R=[⟨m,P⟩]):=hd0 (by rw[HR.out,if_pos he])
  subst he
  have d0:w1.cell? ⟨w.heap.size,0,none⟩=some (.int .u8 m.a):=S1.out.2.c 0 _ rfl
  have d1:w1.cell? ⟨w.heap.size,1,none⟩=some (.int .u8 m.b):=S1.out.2.c 1 _ rfl
  have d2:w1.cell? ⟨w.heap.size,2,none⟩=some (.int .u8 m.c):=S1.out.2.c 2 _ rfl
  have d3:w1.cell? ⟨w.heap.size,3,none⟩=some (.int .u8 m.d):=S1.out.2.c 3 _ rfl
  have d4:w1.cell? ⟨w.heap.size,4,none⟩=some (.int .u8 m.e):=S1.out.2.c 4 _ rfl
  have d5:w1.cell? ⟨w.heap.size,5,none⟩=some (.int .u8 m.f):=S1.out.2.c 5 _ rfl
  go_wp2
  go_ret
  exact⟨_,rfl,by rw[HZ.out];exact Ow.lit snC_len w1 w.heap.size ⟨m,P⟩ _ rfl S1.out.1.size,S1.out.1.alloc S1.out.1.size _⟩
 ·have e1:(E==0)=false:=by rw[beq_eq_false_iff_ne];exact he
  have HZ:Hid (R=[]):=hd0 (by rw[HR.out,if_neg he])
  clear he
  go_wp2
  go_ret
  exact⟨_,rfl,by rw[HZ.out];exact Ow.none _ _,S1.out.1⟩
theorem rsent_any (m:Mc)(v:Value)(a b c:Int)(f:List UInt8)(l:List Th)(w:World)(hv:Tls w v l)(hl:l.length≤100000)(hs:∀ x∈l,x.2.length≤maxLen)(hf:f.length≤1000000)(hm:(putT l).1.length≤1000000000)(ha:0≤a∧a<256)(hb:0≤b∧b<256)(hc:0≤c∧c<256) :
  Calls Tryz.prog 45 #[.agg #[.int .u8 m.a,.int .u8 m.b,.int .u8 m.c,.int .u8 m.d,.int .u8 m.e,.int .u8 m.f],.agg #[.int .u8 a,.int .u8 b,.int .u8 c,.string (bs f),v]] w fun en w'=>∃ u,en=.returned u∧Ow 7 snC 58 w' w.heap.size u (sentR m a b c f l)∧Below w.heap.size w w':=by
 obtain⟨vx,vk,hvv,-⟩:=hv.shape
 obtain⟨vn,hvn⟩:∃ n,l.length=n:=⟨_,rfl⟩
 rw[hvn] at hvv
 subst hvv
 obtain⟨⟨P,E⟩,hP⟩:∃ R,putP a b c f l=R:=⟨_,rfl⟩
 have PU:Hid (∀ w,Tls w (.slice vx vn vk) l→Calls Tryz.prog 85 #[.agg #[.int .u8 a,.int .u8 b,.int .u8 c,.string (bs f),.slice vx vn vk]] w fun en w'=>en=.returned (.tuple #[.string (bs P),.int .i64 E])∧Below w.heap.size w w'):=hd0 fun w hv=>by
  have h:=refPut12_any (.slice vx vn vk) a b c f l w hv hl hs hf hm ha hb hc
  rw[hP] at h;exact h
 have HR:Hid (sentR m a b c f l=if E=0 then[⟨m,P⟩] else[]):=hd0 (by unfold sentR;rw[hP])
 obtain⟨R,hR⟩:∃ R,sentR m a b c f l=R:=⟨_,rfl⟩
 rw[hR] at HR ⊢
 have HV:=hd0 hv
 clear hR hP hv hl hs hf hm ha hb hc hvn
 go_enter Tryz.func45,Tryz.ntmps45
 go_upto_region 1 with fail
 have hb0:Below w.heap.size w ((w.alloc (.cells #[.int .u8 m.a,.int .u8 m.b,.int .u8 m.c,.int .u8 m.d,.int .u8 m.e,.int .u8 m.f] 25)).alloc (.cells #[.int .u8 a,.int .u8 b,.int .u8 c,.string (bs f),.slice vx vn vk] 115)):=(bA _).alloc (by simp) _
 have g0:GB 25 ((w.alloc (.cells #[.int .u8 m.a,.int .u8 m.b,.int .u8 m.c,.int .u8 m.d,.int .u8 m.e,.int .u8 m.f] 25)).alloc (.cells #[.int .u8 a,.int .u8 b,.int .u8 c,.string (bs f),.slice vx vn vk] 115)) w.heap.size #[.int .u8 m.a,.int .u8 m.b,.int .u8 m.c,.int .u8 m.d,.int .u8 m.e,.int .u8 m.f]:=(GB.new 25 w #[.int .u8 m.a,.int .u8 m.b,.int .u8 m.c,.int .u8 m.d,.int .u8 m.e,.int .u8 m.f]).later (bA _)
 have pb:PB 115 ((w.alloc (.cells #[.int .u8 m.a,.int .u8 m.b,.int .u8 m.c,.int .u8 m.d,.int .u8 m.e,.int .u8 m.f] 25)).alloc (.cells #[.int .u8 a,.int .u8 b,.int .u8 c,.string (bs f),.slice vx vn vk] 115)) (w.heap.size+1) a b c f (.slice vx vn vk):=by
  have:=PB.new 115 (w.alloc (.cells #[.int .u8 m.a,.int .u8 m.b,.int .u8 m.c,.int .u8 m.d,.int .u8 m.e,.int .u8 m.f] 25)) a b c f (.slice vx vn vk)
  rw[show(w.alloc (.cells #[.int .u8 m.a,.int .u8 m.b,.int .u8 m.c,.int .u8 m.d,.int .u8 m.e,.int .u8 m.f] 25)).heap.size=w.heap.size+1 by simp] at this
  exact this
 obtain⟨w0,hw0⟩:∃ k,(w.alloc (.cells #[.int .u8 m.a,.int .u8 m.b,.int .u8 m.c,.int .u8 m.d,.int .u8 m.e,.int .u8 m.f] 25)).alloc (.cells #[.int .u8 a,.int .u8 b,.int .u8 c,.string (bs f),.slice vx vn vk] 115)=k:=⟨_,rfl⟩
 rw[hw0] at hb0 g0 pb ⊢
 have c0:=pb.c0
 have c1:=pb.c1
 have c2:=pb.c2
 have c3:=pb.c3
 have c4:=pb.c4
 have S0:=hd0 (And.intro hb0 g0)
 clear hw0 hb0 g0 pb
 go_wp2_with fail
 with_reducible refine(PU.out _ (HV.out.later S0.out.1)).mono ?_
 rintro en w1 ⟨rfl,hb1⟩
 have S1:=hd0 (And.intro (S0.out.1.trans (hb1.mono S0.out.1.size)) (S0.out.2.later hb1))
 clear hb1 S0 c0 c1 c2 c3 c4
 by_cases he:E=0
 ·have HZ:Hid (R=[⟨m,P⟩]):=hd0 (by rw[HR.out,if_pos he])
  subst he
  have d0:w1.cell? ⟨w.heap.size,0,none⟩=some (.int .u8 m.a):=S1.out.2.c 0 _ rfl
  have d1:w1.cell? ⟨w.heap.size,1,none⟩=some (.int .u8 m.b):=S1.out.2.c 1 _ rfl
  have d2:w1.cell? ⟨w.heap.size,2,none⟩=some (.int .u8 m.c):=S1.out.2.c 2 _ rfl
  have d3:w1.cell? ⟨w.heap.size,3,none⟩=some (.int .u8 m.d):=S1.out.2.c 3 _ rfl
  have d4:w1.cell? ⟨w.heap.size,4,none⟩=some (.int .u8 m.e):=S1.out.2.c 4 _ rfl
  have d5:w1.cell? ⟨w.heap.size,5,none⟩=some (.int .u8 m.f):=S1.out.2.c 5 _ rfl
  go_wp2
  go_ret
  exact⟨_,rfl,by rw[HZ.out];exact Ow.lit snC_len w1 w.heap.size ⟨m,P⟩ _ rfl S1.out.1.size,S1.out.1.alloc S1.out.1.size _⟩
 ·have e1:(E==0)=false:=by rw[beq_eq_false_iff_ne];exact he
  have HZ:Hid (R=[]):=hd0 (by rw[HR.out,if_neg he])
  clear he
  go_wp2
  go_ret
  exact⟨_,rfl,by rw[HZ.out];exact Ow.none _ _,S1.out.1⟩
theorem next_any (n:Int)(hn:0≤n∧n<1000000)(w:World):Calls Tryz.prog 46 #[.int .u32 n] w fun en w'=>en=.returned (.int .u32 (n+1))∧w'=w:=by
 have h1:IntKind.u32.wrap (n+1)=n+1:=IntWalk.u32_in _ (by omega)
 have h2:max (n+1) 1=n+1:=by omega
 go_enter Tryz.func46,Tryz.ntmps46
 go_wp2
 go_ret
 exact⟨rfl,rfl⟩
open Go.Maps (Keyed int_keyed keyOf_int_mk)
structure OV where
 l:Int
 r:Bool
def mkO (c:OV):Value:=.agg #[.int .i64 c.l,.bool c.r]
theorem rEl_shape (v:Value)(y:DataW Unit × List MemPlace)(h:rEl v=some y):∃ c,v=mkO c:=by
 unfold rEl at h
 split at h
 ·rename_i cs
  split at h
  ·rename_i a b hcs
   exact⟨⟨a,b⟩,by rw[show cs=cs.toList.toArray from rfl,hcs];rfl⟩
  ·cases h
 ·cases h
theorem vElD_inj {a b:Int}{y:Int × Int}(h:vElD y.1 y.2=vElD a b)(hy:y.2=0∨y.2=1)(hb:b=0∨b=1):y=(a,b):=by
 unfold vElD at h
 simp at h
 exact Prod.ext (by show y.1=a;omega) (by show y.2=b;omega)
theorem vFind_elem {V:List Vn}(hr:Rising V){k:Int}{y:Int × Int}(h:vFind V k=some y):(k,y)∈V:=by
 obtain⟨x,hx,hk⟩:=List.mem_map.1 ((vFind_mem V k).1 (by rw[h];rfl))
 have h2:=vFind_of_mem hr hx
 rw[hk,h] at h2
 have h3:=Option.some.inj h2
 rw[h3,← hk]
 exact hx
theorem tick_any (q m:Nat)(a:Ow8)(V:List Vn)(bd cr:Int)(w:World)(hs:MC w q a m V bd cr)(hB:Bnd V bd cr):Calls Tryz.prog 33 #[.pointer (some ⟨q,0,none⟩)] w fun en w'=>en=.returned (.tuple #[])∧MC w' q a m (tickV V) (dn1 bd) (dn1 cr)∧Two q m w w':=by
 have HB:=hd0 hB
 have HRI:=hd0 hs.ri
 have HVL:=hd0 hs.vl
 have HNE:=hd0 hs.ne
 have HLT:=hd0 (And.intro hs.lt hs.om.lt)
 have hWF:=hd0 hs.om.wf
 have LT:Hid (∀ T,Calls Tryz.prog 75 #[.slice (some ⟨w.heap.size,0,none⟩) 2 2] (w.alloc (.cells #[.pointer (some ⟨q,5,none⟩),.pointer (some ⟨q,6,none⟩)] T)).drew fun en w'=>en=.returned (.tuple #[])∧MC w' q a m V (dn1 bd) (dn1 cr)∧Two q m w w'):=hd0 fun T=>by
  have hb:Below w.heap.size w (w.alloc (.cells #[.pointer (some ⟨q,5,none⟩),.pointer (some ⟨q,6,none⟩)] T)).drew:=(bA _).drew
  have M:=hs.later hb
  refine(lessTwo_any w.heap.size q bd cr _ hB.b hB.c ?_ ?_ M.c5 (M.fr 5) M.c6 (M.fr 6) (by have:=hs.lt;omega)).mono ?_
  ·show(w.alloc _).cell? _=_
   simp only[World.cell?,heap_alloc_new];rfl
  ·show(w.alloc _).cell? _=_
   simp only[World.cell?,heap_alloc_new];rfl
  ·rintro e w' ⟨rfl,rfl⟩
   exact⟨rfl,(M.s5 _).s6 _,(Two.of_below hb).trans ((Two.of_left (Only.set q _ 5 _)).trans (Two.of_left (Only.set q _ 6 _)))⟩
 go_enter Tryz.func33,Tryz.ntmps33
 go_upto_region 1 with fail
 go_cut [] (fun wx=>Hid (MC wx q a m V (dn1 bd) (dn1 cr)∧Two q m w wx))
 case first =>
  go_region_with (go_at_call 75;with_reducible refine(LT.out _).mono ?_;rintro e w' ⟨rfl,hm,ht⟩)
  go_wp2_with fail
  go_meet
  exact hd0 ⟨hm,ht⟩
 case rest =>
  obtain⟨m1,t1⟩:=hcut.out
  have c4:=m1.c4
  clear hcut LT hs hB
  go_wp2_with (first|(at_range;refine wpList_range_own _ rfl _ 162 rfl 22 166 u16_keyed Tryz.underlying162 rEl m V.length (vD V) rfl m1.om.own ?_;intro w0 hrg0 hg0 hs0)|go_in)
  go_frame
  go_loopw [2,3] (fun _ _ wr=>∃ left cnt,TKs w wr q m wc.heap.size a V (dn1 bd) (dn1 cr) left cnt) (fun _ _ wr=>wr.rangeLeft m wc.heap.size)
  case atStart =>
   refine⟨Maps.has (vD V),Maps.size (vD V),⟨(hg0.block q m1.lt (by simp)).trans m1.b,?_,t1.trans ⟨hg0.os,hg0.tape,hg0.output,by omega,fun k hk _ _=>hg0.block k hk (by simp)⟩,t1.size⟩⟩
   rw[tk_start];exact hrg0
  case round =>
   obtain⟨left,cnt,T⟩:=hrel
   have HT:=hd0 T
   go_wp2_with (first
    |(at_next;refine wpList_next_ranges _ rfl _ rfl 22 u16_keyed rEl encU mkO (fun key kl hk=>by obtain⟨x,hx,_⟩:=keyOf_u16 Tryz.underlying22 hk;exact⟨x,hx⟩) rEl_shape m wc.heap.size V.length _ _ _ rfl HT.out.rg ?_ ?_)
    | go_in)
   ·intro hc0 hl0
    have HE:Hid (MC wr q a m (tickV V) (dn1 bd) (dn1 cr)∧Two q m w wr):=hd0 (by
     have hrg:=T.rg
     rw[tk_end hl0] at hrg
     have hw:=hrg.owns
     refine⟨⟨T.b,⟨by have:=own_tightR hw;exact this,?_⟩,HNE.out,by unfold tickV;rw[List.length_map];exact HVL.out,by unfold Rising;rw[tickV_keys];exact HRI.out⟩,T.two⟩
     intro x hx
     obtain⟨y,hy,rfl⟩:=List.mem_map.1 hx
     exact hWF.out y hy)
    clear T HT
    go_wp2
    go_end0
    exact⟨rfl,HE.out⟩
   ·intro x c kl ya yb w2 cnt2 hkey hlk hv hat hrg2 hlt hg2 hs2 hen
    obtain⟨x',ex,rfl⟩:=keyOf_u16 Tryz.underlying22 hkey
    obtain rfl:x=x':=by simpa [encU] using ex
    obtain⟨e,b⟩:=c
    have hf:vFind V x=some (e,if b=true then 1 else 0):=by
     have e1:ya=vElD e (if b=true then 1 else 0):=by rw[show mkO ⟨e,b⟩=.agg #[.int .i64 e,.bool b] from rfl,rEl_mk] at hv;injection hv with hv;injection hv with hv _;exact hv.symm
     rw[e1] at hat
     have h0:=hat (vElD 0 0)
     have h1:=hat (vElD 1 0)
     rw[vD_at,tk_find left hlk] at h0 h1
     cases hfx:vFind V x with
     | none=>rw[hfx] at h0 h1;exact absurd (h0.trans h1.symm) vElD_ne
     | some y =>
      rw[hfx] at h0
      exact congrArg some (vElD_inj h0 (hWF.out _ (vFind_elem HRI.out hfx)) (by cases b;exact .inl rfl;exact .inr rfl))
    have hy:=vFind_elem HRI.out hf
    have HE:=hd0 (show 0≤e∧e≤1000 from HB.out.v _ hy)
    have HX:=hd0 (show 0≤x∧x<65536 from HB.out.k _ hy)
    have HSTEP:=hd0 (tk_step HRI.out hlk hf)
    have HIN:Hid (Maps.has (vD (V.map (tkOne left))) (.int .u16 x)=true):=hd0 (by rw[vD_has,tk_find left hlk,hf];rfl)
    have HR2:=hd0 hrg2
    have HLE:=hd0 (show cnt2<wr.rangeLeft m wc.heap.size by rw[T.rg.left_eq];exact hlt)
    have hb2:w2.heap[q]?=some (.cells (mcA a m (dn1 bd) (dn1 cr)) 164 (0,0)):=(hg2.block q (by have:=T.two.size;have:=HLT.out;omega) (by have:=T.rl;have:=HLT.out;intro h;injection h with h;omega)).trans T.b
    have HB2:=hd0 hb2
    have ht2:Two q m w w2:=⟨hg2.os.trans T.two.os,hg2.tape.trans T.two.tape,hg2.output.trans T.two.output,by rw[hs2];exact T.two.size,fun k hk h1 h2=>(hg2.block k (by have:=T.two.size;omega) (by have:=T.rl;intro h;injection h with h;omega)).trans (T.two.block k hk h1 h2)⟩
    have HT2:=hd0 ht2
    have HRL:=hd0 T.rl
    have HSZ:=hd0 (And.intro T.two.size hs2)
    unfold mkO at hen
    clear hf hy hat hv hrg2 hlt hb2 ht2 T HT hg2 hkey hlk ex
    go_upto_region 5 with fail
    clear hen
    obtain⟨wb,hwb⟩:∃ z,w2.alloc (.cells #[.int .i64 e,.bool b] 166)=z:=⟨_,rfl⟩
    rw[hwb]
    have LO:Hid (∀ T,Calls Tryz.prog 75 #[.slice (some ⟨wb.heap.size,0,none⟩) 1 1] (wb.alloc (.cells #[.pointer (some ⟨wr.heap.size,0,none⟩)] T)) fun en w'=>en=.returned (.tuple #[])∧w'.heap[wr.heap.size]?=some (.cells #[.int .i64 (dn1 e),.bool b] 166 (0,0))∧w2.grownBy w' none):=hd0 fun T=>by
     have hwr:wr.heap.size<(w2.alloc (.cells #[.int .i64 e,.bool b] 166)).heap.size:=by rw[World.size_alloc,hs2];omega
     have hne:wb.heap.size≠wr.heap.size:=by rw[←hwb];omega
     have hbb:(wb.alloc (.cells #[.pointer (some ⟨wr.heap.size,0,none⟩)] T)).heap[wr.heap.size]?=some (.cells #[.int .i64 e,.bool b] 166 (0,0)):=by
      rw[((Below.refl wb.heap.size wb).alloc (Nat.le_refl _) (.cells #[.pointer (some ⟨wr.heap.size,0,none⟩)] T)).block _ (by rw[←hwb];exact hwr),← hwb,← hs2]
      exact heap_alloc_new _ _
     refine(lessOne_any wb.heap.size wr.heap.size 0 e _ HE.out ?_ ?_ ?_ hne).mono ?_
     ·simp only[World.cell?,heap_alloc_new];rfl
     ·simp only[World.cell?,hbb];rfl
     ·simp only[World.frozen?,hbb];rfl
     ·rintro en w' ⟨rfl,rfl⟩
      refine⟨rfl,by simp[World.setCell,Array.getElem?_modify,hbb],?_⟩
      have g1:w2.grownBy (w2.alloc (.cells #[.int .i64 e,.bool b] 166)) none:=World.grownBy_alloc _ _ _
      rw[hwb] at g1
      have g2:=g1.andThen (World.grownBy_alloc wb (.cells #[.pointer (some ⟨wr.heap.size,0,none⟩)] T) none) (by simp)
      exact g2.andThen (row':=some wr.heap.size) (Only.set wr.heap.size _ 0 _) (fun j hj=>by injection hj with hj;exact .inl (by rw[hs2,← hj];exact Nat.le_refl _))
    clear hwb
    go_upto_region 6 with(go_at_call 75;with_reducible refine(LO.out _).mono ?_;rintro en w5 ⟨rfl,hbx,hg5⟩)
    have hb5:w5.heap[q]?=some (.cells (mcA a m (dn1 bd) (dn1 cr)) 164 (0,0)):=(hg5.block q (by have:=HSZ.out;have:=HLT.out;omega) (by simp)).trans HB2.out
    have ht5:Two q m w w5:=HT2.out.trans ⟨hg5.os,hg5.tape,hg5.output,hg5.size,fun k hk _ _=>hg5.block k hk (by simp)⟩
    have hr5:=HR2.out.kept hg5 (by simp) (by simp)
    clear hg5 HR2 HB2 HT2 LO
    have c4':w5.cell? ⟨q,4,none⟩=some (.map (some m)):=by simp[World.cell?,hb5,mcA]
    have o0:w5.cell? ⟨wr.heap.size,0,none⟩=some (.int .i64 (dn1 e)):=by simp[World.cell?,hbx]
    have o1:w5.cell? ⟨wr.heap.size,1,none⟩=some (.bool b):=by simp[World.cell?,hbx]
    obtain⟨w6,hrun,hr6,hg6⟩:=ranges_put (hr5.kept (w':=w5.drew) (row:=none) ⟨rfl,rfl,rfl,Nat.le_refl _,fun _ _ _=>rfl⟩ (by simp) (by simp)) u16_keyed Tryz.underlying162 (Nat.lt_of_le_of_lt HVL.out (by decide)) (key:=encU x) (val:=.agg #[.int .i64 (dn1 e),.bool b]) (keyOf_int_mk Tryz.underlying22 (u16_wf HX.out)) (rEl_mk (dn1 e) b) HIN.out
    have e1:(vD (V.map (tkOne left))).put (.int .u16 x) (vElD (dn1 e) (if b=true then 1 else 0))=vD (V.map (tkOne fun z=>left z&&!z.sameKey (.int .u16 x))):=by
     have:=vD_put (V.map (tkOne left)) (x,dn1 e,if b=true then 1 else 0)
     simp only at this
     rw[this,HSTEP.out]
    rw[e1] at hr6
    have TN:Hid (TKs w w6 q m wc.heap.size a V (dn1 bd) (dn1 cr) (fun z=>left z&&!z.sameKey (.int .u16 x)) cnt2):=hd0
     ⟨(hg6.block q (World.block_lt_of_cell? w5 _ c4') (by intro h;injection h with h;exact HNE.out h)).trans hb5,hr6,ht5.drew.trans (Two.of_right hg6),HRL.out⟩
    clear e1 hr6 hg6 hr5 ht5 hb5
    go_region
    go_wp2_with fail
    go_roundw
    case rel=>exact⟨_,_,TN.out⟩
    case measure=>rw[TN.out.rg.left_eq];exact HLE.out
theorem below_drewN (w:World)(n:Nat):Below w.heap.size w (w.drewN n):=⟨rfl,rfl,rfl,Nat.le_refl _,fun _ _=>rfl⟩
def refC (a:Ow8)(xlv xiv xme:Int)(xm:List UInt8):Bool:=!mayC xlv xiv xme xm||decide (a.lv<xlv)
def hearC (a:Ow8)(V:List Vn)(bd cr:Int)(xlv:Int)(xrd:Bool)(xiv xme:Int)(xm:List UInt8):List Vn × Int × Int :=
 if refC a xlv xiv xme xm=true then(V,bd,cr)
 else if xlv<a.lv∨xm≠a.md then(V,bd,max cr (lastC xiv))
 else if (vFind V xme).isSome=false∨xiv≠a.iv then(V,max bd (lastC xiv),cr)
 else(vPut V (xme,lastC xiv,if xrd=true then 1 else 0),bd,cr)
structure HK (w W:World)(q m:Nat)(a:Ow8)(V:List Vn)(bd cr:Int)(xlv:Int)(xrd:Bool)(xiv xsq xme:Int)(xm:List UInt8):Prop where
 mc:MC W q a m V bd cr
 cb:CB 107 W w.heap.size xlv xrd xiv xsq xme xm
 bel:Below w.heap.size w W
section
variable {w W W':World} {q m:Nat} {a:Ow8} {V:List Vn} {bd cr:Int} {xlv:Int} {xrd:Bool} {xiv xsq xme:Int} {xm:List UInt8}
theorem HK.later (h:HK w W q m a V bd cr xlv xrd xiv xsq xme xm)(hb:Below W.heap.size W W'):HK w W' q m a V bd cr xlv xrd xiv xsq xme xm:=⟨h.mc.later hb,h.cb.later hb,h.bel.trans (hb.mono h.bel.size)⟩
theorem MC.drew (h:MC W q a m V bd cr):MC W.drew q a m V bd cr:=h.later (Below.refl _ _).drew
theorem HK.drew (h:HK w W q m a V bd cr xlv xrd xiv xsq xme xm):HK w W.drew q m a V bd cr xlv xrd xiv xsq xme xm:=h.later (Below.refl _ _).drew
end
theorem hear_any (q m:Nat)(a:Ow8)(V:List Vn)(bd cr:Int)(xlv:Int)(xrd:Bool)(xiv xsq xme:Int)(xm:List UInt8)(w:World)(hs:MC w q a m V bd cr)(hB:Bnd V bd cr)(hm:xm.length≤1000)(hsq:0≤xsq∧xsq<4294967296)(hme:0≤xme∧xme<65536) :
  Calls Tryz.prog 124 #[.pointer (some ⟨q,0,none⟩),.agg #[.int .u8 xlv,.bool xrd,.int .u8 xiv,.int .u32 xsq,.int .u16 xme,.string (bs xm)]] w fun en w'=>en=.returned (.tuple #[])∧MC w' q a m (hearC a V bd cr xlv xrd xiv xme xm).1 (hearC a V bd cr xlv xrd xiv xme xm).2.1 (hearC a V bd cr xlv xrd xiv xme xm).2.2∧Two q m w w':=by
 obtain⟨R,hR⟩:∃ R,hearC a V bd cr xlv xrd xiv xme xm=R:=⟨_,rfl⟩
 rw[hR]
 obtain⟨G,hG⟩:∃ G,refC a xlv xiv xme xm=G:=⟨_,rfl⟩
 obtain⟨K,hK⟩:∃ K,mayC xlv xiv xme xm=K:=⟨_,rfl⟩
 have MY:Hid (∀ w,Calls Tryz.prog 72 #[.agg #[.int .u8 xlv,.bool xrd,.int .u8 xiv,.int .u32 xsq,.int .u16 xme,.string (bs xm)]] w fun en w'=>en=.returned (.bool K)∧Below w.heap.size w w'):=hd0 fun w=>by rw[←hK];exact rmay_any xlv xrd xiv xsq xme xm w hm hsq hme
 have HR:=hd0 hR
 have HG:Hid (G=(!K||decide (a.lv<xlv))):=hd0 (by rw[←hG,← hK];rfl)
 have HGR:=hd0 hG
 have HB:=hd0 hB
 have HX:=hd0 (And.intro hm (And.intro hsq hme))
 clear hR hG hK hm hsq hme hB
 go_enter Tryz.func124,Tryz.ntmps124
 go_upto_region 1 with fail
 have h0:HK w (w.alloc (.cells #[.int .u8 xlv,.bool xrd,.int .u8 xiv,.int .u32 xsq,.int .u16 xme,.string (bs xm)] 107)) q m a V bd cr xlv xrd xiv xsq xme xm:=⟨hs.later (bA _),CB.new _ _ ..,bA _⟩
 obtain⟨w0,hw0⟩:∃ k,w.alloc (.cells #[.int .u8 xlv,.bool xrd,.int .u8 xiv,.int .u32 xsq,.int .u16 xme,.string (bs xm)] 107)=k:=⟨_,rfl⟩
 rw[hw0] at h0 ⊢
 have S:=hd0 h0
 clear hw0 h0 hs
 go_cut [23] (fun s23 wx=>s23=.bool G∧Hid (HK w wx q m a V bd cr xlv xrd xiv xsq xme xm))
 case first =>
  have MB:∀ kk:Later w0,Calls Tryz.prog 72 #[.agg #[.int .u8 xlv,.bool xrd,.int .u8 xiv,.int .u32 xsq,.int .u16 xme,.string (bs xm)]] kk.out fun e w'=>e=.returned (.bool K)∧Below kk.out.heap.size kk.out w':=fun kk=>MY.out _
  have c0:∀ kk:Later w0,kk.out.cell? ⟨w.heap.size,0,none⟩=some (.int .u8 xlv):=fun kk=>(S.out.later kk.h).cb.c0
  have c1:∀ kk:Later w0,kk.out.cell? ⟨w.heap.size,1,none⟩=some (.bool xrd):=fun kk=>(S.out.later kk.h).cb.c1
  have c2:∀ kk:Later w0,kk.out.cell? ⟨w.heap.size,2,none⟩=some (.int .u8 xiv):=fun kk=>(S.out.later kk.h).cb.c2
  have c3:∀ kk:Later w0,kk.out.cell? ⟨w.heap.size,3,none⟩=some (.int .u32 xsq):=fun kk=>(S.out.later kk.h).cb.c3
  have c4:∀ kk:Later w0,kk.out.cell? ⟨w.heap.size,4,none⟩=some (.int .u16 xme):=fun kk=>(S.out.later kk.h).cb.c4
  have c5:∀ kk:Later w0,kk.out.cell? ⟨w.heap.size,5,none⟩=some (.string (bs xm)):=fun kk=>(S.out.later kk.h).cb.c5
  have d0:∀ kk:Later w0,kk.out.cell? ⟨q,0,none⟩=some (.int .u8 a.lv):=fun kk=>(S.out.later kk.h).mc.c0
  cases K
  ·have HG2:Hid (G=true):=HG
   refine wp_region_later (by kernel_rfl) (by kernel_rfl) ?_
   repeat (go_big_quiet_step (first|(go_at_call 72;exact Calls.later (MB _))))
   refine wpQuiet_nil ?_
   rintro _ ⟨kk,rfl⟩
   go_wp2_with fail
   go_meet
   exact⟨by rw[HG2.out],hd0 (S.out.later kk.h)⟩
  ·have HG2:Hid (G=decide (a.lv<xlv)):=HG
   refine wp_region_later (by kernel_rfl) (by kernel_rfl) ?_
   repeat (go_big_quiet_step (first|(go_at_call 72;exact Calls.later (MB _))))
   refine wpQuiet_nil ?_
   rintro _ ⟨kk,rfl⟩
   go_wp2_with fail
   go_meet
   exact⟨by rw[HG2.out],hd0 (S.out.later kk.h)⟩
 case rest =>
  obtain⟨rfl,HS⟩:=hcut
  cases G
  rotate_left
  ·have HR2:Hid (R=(V,bd,cr)):=hd0 (by rw[←HR.out];unfold hearC;rw[if_pos HGR.out])
   clear HR HGR HG MY S HX
   go_wp2
   refine bodyPost_ret (v:=.tuple #[]) (results_none rfl _ _ _) rfl ?_
   exact⟨rfl,by rw[HR2.out];exact HS.out.mc,Two.of_below HS.out.bel⟩
  ·have hg:=HG.out
   have hK:K=true:=by
    cases K
    ·simp at hg
    ·rfl
   have hlv:¬ a.lv<xlv:=by rw[hK] at hg;simpa using hg.symm
   have HR2:=hd0 (by have h:=HR.out;unfold hearC at h;rw[if_neg (by rw[HGR.out];decide)] at h;exact h)
   obtain⟨N,hN⟩:∃ N,lastC xiv=N:=⟨_,rfl⟩
   rw[hN] at HR2
   have LA:=hd0 (fun w=>lasts_any xiv w)
   rw[hN] at LA
   have HN:Hid (0≤N∧N≤1000):=hd0 (by rw[←hN];unfold lastC;repeat' split;all_goals omega)
   obtain⟨F1,hF1⟩:∃ F,(vFind V xme).isSome=F:=⟨_,rfl⟩
   obtain⟨y1,hy1⟩:∃ y,(vGet V xme).1=y:=⟨_,rfl⟩
   obtain⟨y2,hy2⟩:∃ y,(vGet V xme).2=y:=⟨_,rfl⟩
   rw[hF1] at HR2
   have LK:Hid (∀ W,HK w W q m a V bd cr xlv xrd xiv xsq xme xm→(Instr.lookup 162 (.map (some m)) (.int .u16 xme) true).run Tryz.prog W=.ok (.tuple #[.agg #[.int .i64 y1,.bool (decide (y2=1))],.bool F1]) W):=hd0 fun W h=>by
    have l:=h.mc.om.look xme HX.out.2.2
    rw[hF1,hy1,hy2] at l;exact l
   have HF1:=hd0 hF1
   clear hg hK hN hF1 hy1 hy2 HR HGR HG MY S
   have c2:=HS.out.cb.c2
   go_upto_region 3 with(go_at_call 25;with_reducible refine(LA.out _).mono ?_;rintro en wz ⟨rfl,rfl⟩)
   clear c2 LA
   go_cut [5,6] (fun s5 s6 wx=>(∃ b,s5=.pointer (some ⟨b,0,none⟩))∧s6=.bool F1∧Hid (HK w wx q m a V bd cr xlv xrd xiv xsq xme xm))
   case first =>
    have ST:∀ W,HK w W q m a V bd cr xlv xrd xiv xsq xme xm→(W.cell? ⟨q,4,none⟩=some (.map (some m))∧W.cell? ⟨w.heap.size,4,none⟩=some (.int .u16 xme)∧(Instr.lookup 162 (.map (some m)) (.int .u16 xme) true).run Tryz.prog W=.ok (.tuple #[.agg #[.int .i64 y1,.bool (decide (y2=1))],.bool F1]) W):=fun W h=>⟨h.mc.c4,h.cb.c4,LK.out W h⟩
    refine wp_region_held_drew (S:=fun W=>W.cell? ⟨q,4,none⟩=some (.map (some m))∧W.cell? ⟨w.heap.size,4,none⟩=some (.int .u16 xme)∧(Instr.lookup 162 (.map (some m)) (.int .u16 xme) true).run Tryz.prog W=.ok (.tuple #[.agg #[.int .i64 y1,.bool (decide (y2=1))],.bool F1]) W) (by kernel_rfl) (ST _ HS.out.drew) (fun hHeld=>?_)
    refine tkH 0 ?_ ?h ?_
    case h=>(intro w hSw;go_simp;try with_reducible rfl)
    try simp only[Act.put,List.setIfInBounds_toArray,List.set_cons_zero,List.set_cons_succ,List.getElem_toArray,List.getElem_cons_zero]
    refine tkH 1 ?_ ?h ?_
    case h=>(intro w hSw;go_simp;try with_reducible rfl)
    try simp only[Act.put,List.setIfInBounds_toArray,List.set_cons_zero,List.set_cons_succ,List.getElem_toArray,List.getElem_cons_zero]
    refine tkH 2 ?_ ?h ?_
    case h=>(intro w hSw;go_simp;try with_reducible rfl)
    try simp only[Act.put,List.setIfInBounds_toArray,List.set_cons_zero,List.set_cons_succ,List.getElem_toArray,List.getElem_cons_zero]
    refine tkH 3 ?_ ?h ?_
    case h=>(intro w hSw;go_simp;try with_reducible rfl)
    try simp only[Act.put,List.setIfInBounds_toArray,List.set_cons_zero,List.set_cons_succ,List.getElem_toArray,List.getElem_cons_zero]
    refine tkH 4 ?_ ?h ?_
    case h=>(intro w hSw;go_simp;try with_reducible rfl)
    try simp only[Act.put,List.setIfInBounds_toArray,List.set_cons_zero,List.set_cons_succ,List.getElem_toArray,List.getElem_cons_zero]
    refine tkH 5 ?_ ?h ?_
    case h=>(intro w hSw;go_simp;try with_reducible rfl)
    try simp only[Act.put,List.setIfInBounds_toArray,List.set_cons_zero,List.set_cons_succ,List.getElem_toArray,List.getElem_cons_zero]
    refine tkH 6 ?_ ?h ?_
    case h=>(intro w hSw;go_simp;try with_reducible rfl)
    try simp only[Act.put,List.setIfInBounds_toArray,List.set_cons_zero,List.set_cons_succ,List.getElem_toArray,List.getElem_cons_zero]
    refine tkH 7 ?_ ?h ?_
    case h=>(intro w hSw;go_simp;try with_reducible rfl)
    try simp only[Act.put,List.setIfInBounds_toArray,List.set_cons_zero,List.set_cons_succ,List.getElem_toArray,List.getElem_cons_zero]
    refine tkH 8 ?_ ?h ?_
    case h=>(intro w hSw;go_simp;try with_reducible rfl)
    try simp only[Act.put,List.setIfInBounds_toArray,List.set_cons_zero,List.set_cons_succ,List.getElem_toArray,List.getElem_cons_zero]
    refine tkH 9 ?_ ?h ?_
    case h=>(intro w hSw;go_simp;try with_reducible rfl)
    try simp only[Act.put,List.setIfInBounds_toArray,List.set_cons_zero,List.set_cons_succ,List.getElem_toArray,List.getElem_cons_zero]
    refine wpAnyH_ready (rs:=[10]) (by kernel_rfl) (by simp) (AllReadyH.cons rfl (fun K hK=>?main) AllReadyH.nil)
    case main =>
     go_simp
     have hb1:Below wz.heap.size wz (wz.alloc (.cells #[.int .i64 0,.bool false] 166)).drew:=(bA _).drew
     have hth:GB 166 (wz.alloc (.cells #[.int .i64 0,.bool false] 166)).drew wz.heap.size #[.int .i64 0,.bool false]:=heap_alloc_new _ _
     have HT:=hd0 (hth.there (n:=2) (Nat.le_refl _))
     have HS3:=hd0 (HS.out.later (below_cellsG (t:=wz.heap.size) (Nat.le_refl _) [Value.int .i64 y1,.bool (decide (y2=1))] 0 _ hb1))
     have HS2:=hd0 (HS.out.later hb1)
     clear hb1 hth
     refine hK.out _ _ (ST _ HS2.out) (fun hHeld=>?_)
     clear hK K
     try simp only[Act.put,List.setIfInBounds_toArray,List.set_cons_zero,List.set_cons_succ,List.getElem_toArray,List.getElem_cons_zero]
     refine rdH 11 fun K hK=>?_
     rw[if_pos (by rfl)]
     refine wp_store_mid 166 (.tmp 5) (.tmp 35) rfl wz.heap.size 0 #[.int .i64 y1,.bool (decide (y2=1))] rfl rfl HT.out (by kernel_rfl) (by simp[Value.oneCell']) ?_
     refine hK.out _ _ (ST _ HS3.out) (fun hHeld=>?_)
     clear hK K
     try simp only[Act.put,List.setIfInBounds_toArray,List.set_cons_zero,List.set_cons_succ,List.getElem_toArray,List.getElem_cons_zero]
     refine tkH 12 ?_ ?h ?_
     case h=>(intro w hSw;go_simp;try with_reducible rfl)
     try simp only[Act.put,List.setIfInBounds_toArray,List.set_cons_zero,List.set_cons_succ,List.getElem_toArray,List.getElem_cons_zero]
     refine wpAnyH_done (by kernel_rfl) ?_ _
     go_wp2_with fail
     go_meet
     exact⟨⟨_,rfl⟩,rfl,HS3⟩
   case rest =>
    obtain⟨⟨bx,rfl⟩,rfl,HS2⟩:=hcut
    clear HS LK
    have c0:=HS2.out.cb.c0
    have c1:=HS2.out.cb.c1
    have c2:=HS2.out.cb.c2
    have c4:=HS2.out.cb.c4
    have c5:=HS2.out.cb.c5
    have d0:=HS2.out.mc.c0
    have d2:=HS2.out.mc.c2
    have d3:=HS2.out.mc.c3
    have d4:=HS2.out.mc.c4
    have d5:=HS2.out.mc.c5
    have d6:=HS2.out.mc.c6
    have f5:=HS2.out.mc.fr 5
    have f6:=HS2.out.mc.fr 6
    have FIN:Hid (∀ nq:Nat,(∀ X,R=(V,bd,X)→MC ((wc.drewN nq).setCell ⟨q,6,none⟩ (.int .i64 X)) q a m R.1 R.2.1 R.2.2∧Two q m w ((wc.drewN nq).setCell ⟨q,6,none⟩ (.int .i64 X)))∧(∀ X,R=(V,X,cr)→MC ((wc.drewN nq).setCell ⟨q,5,none⟩ (.int .i64 X)) q a m R.1 R.2.1 R.2.2∧Two q m w ((wc.drewN nq).setCell ⟨q,5,none⟩ (.int .i64 X)))):=hd0 fun nq=>by
     have hb:Below w.heap.size w (wc.drewN nq):=HS2.out.bel.trans ((below_drewN wc nq).mono HS2.out.bel.size)
     have hm:MC (wc.drewN nq) q a m V bd cr:=HS2.out.mc.later (below_drewN wc nq)
     exact⟨fun X hX=>by rw[hX];exact⟨hm.s6 X,(Two.of_below hb).trans (Two.of_left (Only.set q _ 6 _))⟩,fun X hX=>by rw[hX];exact⟨hm.s5 X,(Two.of_below hb).trans (Two.of_left (Only.set q _ 5 _))⟩⟩
    by_cases h1:xlv<a.lv
    ·have t1:decide (xlv<a.lv)=true:=decide_eq_true h1
     have HR3:Hid (R=(V,bd,max cr N)):=hd0 (by rw[←HR2.out,if_pos (.inl h1)])
     clear h1 HR2
     go_upto_region 5 with fail
     go_quiet (fail)
     go_wp2_with fail
     all_goals
      go_end0
      exact⟨rfl,(FIN.out _).1 _ (by rw[HR3.out];congr 2;omega)⟩
    ·have t1:decide (xlv<a.lv)=false:=decide_eq_false h1
     by_cases h2:xm=a.md
     rotate_left
     ·have t2:((bs xm).toList==(bs a.md).toList)=false:=by rw[bs_tl,bs_tl,beq_eq_false_iff_ne];exact h2
      have HR3:Hid (R=(V,bd,max cr N)):=hd0 (by rw[←HR2.out,if_pos (.inr h2)])
      clear h1 HR2 h2
      go_upto_region 5 with fail
      go_quiet (fail)
      go_wp2_with fail
      all_goals
       go_end0
       exact⟨rfl,(FIN.out _).1 _ (by rw[HR3.out];congr 2;omega)⟩
     ·have t2:((bs xm).toList==(bs a.md).toList)=true:=by rw[h2];simp
      have HR3:=hd0 (by have h:=HR2.out;rw[if_neg (by rintro (h|h);exact h1 h;exact h h2)] at h;exact h)
      clear h1 HR2 h2
      go_upto_region 5 with fail
      go_quiet (fail)
      cases F1
      ·have HR4:Hid (R=(V,max bd N,cr)):=hd0 (by rw[←HR3.out,if_pos (.inl rfl)])
       clear HR3
       go_upto_region 7 with fail
       go_quiet (fail)
       go_wp2_with fail
       all_goals
        go_end0
        exact⟨rfl,(FIN.out _).2 _ (by rw[HR4.out];congr 2;omega)⟩
      ·by_cases h3:xiv=a.iv
       rotate_left
       ·have t3:(xiv==a.iv)=false:=by rw[beq_eq_false_iff_ne];exact h3
        have t4:(xiv != a.iv)=true:=by rw[bne_iff_ne];exact h3
        have HR4:Hid (R=(V,max bd N,cr)):=hd0 (by rw[←HR3.out,if_pos (.inr h3)])
        clear HR3 h3
        go_upto_region 7 with fail
        go_quiet (fail)
        go_wp2_with fail
        all_goals
         go_end0
         exact⟨rfl,(FIN.out _).2 _ (by rw[HR4.out];congr 2;omega)⟩
       ·have t4:(xiv != a.iv)=false:=by rw[h3];simp
        have HR4:Hid (R=(vPut V (xme,N,if xrd=true then 1 else 0),bd,cr)):=hd0 (by rw[←HR3.out,if_neg (by rintro (h|h);cases h;exact h h3)])
        clear HR3 h3
        go_upto_region 7 with fail
        go_quiet (fail)
        go_upto_region 4 with fail
        rename_i nq0
        have h4:=hd0 (HS2.out.later ((below_drewN wc nq0).trans (below_drewN (wc.drewN nq0) nq)))
        obtain⟨w4,hw4⟩:∃ z,(wc.drewN nq0).drewN nq=z:=⟨_,rfl⟩
        rw[hw4] at h4 ⊢
        clear c0 c1 c2 c4 c5 d0 d2 d3 d4 d5 d6 f5 f6 hw4 HS2 FIN
        have c1:=h4.out.cb.c1
        have c4:=h4.out.cb.c4
        have d4:=h4.out.mc.c4
        obtain⟨w6,hrun,om6,hg6⟩:=h4.out.mc.drew.om.update (by have:=h4.out.mc.vl;omega) xme N xrd HX.out.2.2
        have hlen:(vPut V (xme,N,if xrd=true then 1 else 0)).length=V.length:=by
         rw[vPut_map h4.out.mc.ri ((vFind_mem V xme).1 HF1.out),List.length_map]
        have FN:Hid (MC w6 q a m R.1 R.2.1 R.2.2∧Two q m w w6):=hd0 (by
         rw[HR4.out]
         have M:=h4.out.mc.drew
         exact⟨⟨(hg6.block q M.lt (by intro e;injection e with e;exact M.ne e)).trans M.b,om6,M.ne,by rw[hlen];exact M.vl,M.ri.put _⟩,(Two.of_below h4.out.drew.bel).trans (Two.of_right hg6)⟩)
        clear om6 hg6 hlen h4
        go_region
        go_wp2_with fail
        go_end0
        exact⟨rfl,FN.out⟩
end Go.Proofs.YtlkdfofpnmpidaaGreat
