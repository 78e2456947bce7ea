/- ZQ20 -/
import Derived.Test.YtlkdfofpnmpidaaGreatZQ19
set_option linter.unusedVariables false
set_option linter.unusedSimpArgs false
set_option maxRecDepth 100000
set_option maxHeartbeats 16000000
namespace Go.Proofs.YtlkdfofpnmpidaaGreat
open Go.RowKit
theorem TlR.blk {w w':World}{B:Nat}{v:Value}{l:List Th}(h:TlR w B v l)(ho:∀ g,B≤g→w'.heap[g]?=w.heap[g]?):TlR w' B v l:=by
 obtain⟨h1,h2⟩:=h
 refine⟨h1,?_⟩
 rcases h2 with h2|⟨g,cap,cur,hv,hg,hh,r⟩
 ·exact .inl h2
 ·exact .inr ⟨g,cap,cur,hv,hg,by rw[ho g hg];exact hh,r⟩
theorem TlR.set {w:World}{B p o:Nat}{v:Value}{l:List Th}(h:TlR w B v l)(hp:p<B)(x:Value):TlR (w.setCell ⟨p,o,Option.none⟩ x) B v l :=
 h.blk fun g hg=>Below.heap_setCell _ _ _ _ (by intro e;simp at e;omega)
theorem TlR.drew {w:World}{B:Nat}{v:Value}{l:List Th}(h:TlR w B v l):TlR w.drew B v l:=h.blk fun _ _=>rfl
theorem refTake12_any (s:List UInt8)(w:World)(hl:s.length≤100000):Calls Tryz.prog 56 #[.string (bs s)] w fun en w' =>
  ∃ v',en=.returned (.tuple #[.agg #[.int .u8 (tkP s).1,.int .u8 (tkP s).2.1,.int .u8 (tkP s).2.2.1,.string (bs (tkP s).2.2.2.1),v'],.int .i64 (tkP s).2.2.2.2.2])∧TlR w' w.heap.size v' (tkP s).2.2.2.2.1∧Below w.heap.size w w':=by
 have hsz:=bs_size s
 obtain⟨R,hR⟩:∃ R,tkP s=R:=⟨_,rfl⟩
 have HR:=hd0 hR
 rw[hR];clear hR
 by_cases h4:s.length<4
 ·have d4:decide ((s.length:Int)<4)=true:=decide_eq_true (by omega)
  have hRR:R=(0,0,0,[],[],3):=by rw[←HR.out];exact tkP_short s h4
  have HRR:=hd0 hRR
  clear hRR h4
  go_enter Tryz.func56,Tryz.ntmps56
  go_wp2_with fail
  refine bodyPost_ret (v:=.tuple #[.agg #[.int .u8 0,.int .u8 0,.int .u8 0,.string (bs []),.slice none 0 0],.int .i64 3]) (by simp[results,Tryz.results56,go_sem];rfl) rfl ⟨.slice none 0 0,by rw[HRR.out],by rw[HRR.out];exact TlR.none _ _,bA _⟩
 have d4:decide ((s.length:Int)<4)=false:=decide_eq_false (by omega)
 obtain⟨x,y,z,n,r,hs⟩:=list4 s (by omega)
 obtain⟨X,eX⟩:∃ i:Int,(x.toNat:Int)=i:=⟨_,rfl⟩
 have gX:=bsAt s 0 x X (by rw[hs];rfl) eX
 have xb:0≤X∧X<256:=by have:=x.toNat_lt;omega
 have wm:IntKind.u8.wrap (X.tmod 32)=X % 32:=by rw[Int.tmod_eq_emod_of_nonneg xb.1];exact IntWalk.u8_in _ (by omega)
 have wm2:X.tmod 32=X % 32:=Int.tmod_eq_emod_of_nonneg xb.1
 have L4:4≤s.length:=by omega
 by_cases hx:X % 32=0
 rotate_left
 ·have dx:(X % 32 != 0)=true:=by rw[bne_iff_ne];exact hx
  have hRR:R=(0,0,0,[],[],4):=by rw[←HR.out,hs,tkP_cons,if_pos (by omega)]
  have HRR:=hd0 hRR
  clear hRR h4 hs hx
  go_enter Tryz.func56,Tryz.ntmps56
  go_wp2_with fail
  refine bodyPost_ret (v:=.tuple #[.agg #[.int .u8 0,.int .u8 0,.int .u8 0,.string (bs []),.slice none 0 0],.int .i64 4]) (by simp[results,Tryz.results56,go_sem];rfl) rfl ⟨.slice none 0 0,by rw[HRR.out],by rw[HRR.out];exact TlR.none _ _,bA _⟩
 have dx:(X % 32 != 0)=false:=by rw[hx];rfl
 obtain⟨Y,eY⟩:∃ i:Int,(y.toNat:Int)=i:=⟨_,rfl⟩
 obtain⟨Z,eZ⟩:∃ i:Int,(z.toNat:Int)=i:=⟨_,rfl⟩
 obtain⟨m,em⟩:∃ i:Nat,n.toNat=i:=⟨_,rfl⟩
 have gY:=bsAt s 1 y Y (by rw[hs];rfl) eY
 have gZ:=bsAt s 2 z Z (by rw[hs];rfl) eZ
 have gN:=bsAt s 3 n (m:Int) (by rw[hs];rfl) (by rw[em])
 have yb:0≤Y∧Y<256:=by have:=y.toNat_lt;omega
 have zb:0≤Z∧Z<256:=by have:=z.toNat_lt;omega
 have nb:m<256:=by have:=n.toNat_lt;omega
 have sl:s.length=4+r.length:=by rw[hs];simp;omega
 have w3:IntKind.i64.wrap (m:Int)=(m:Int):=IntWalk.i64_in _ (by omega)
 by_cases hn:r.length<m
 ·have dn:decide ((s.length:Int)<4+(m:Int))=true:=decide_eq_true (by omega)
  have hRR:R=(0,0,0,[],[],3):=by rw[←HR.out,hs,tkP_cons,if_neg (by omega),if_pos (by omega)]
  have HRR:=hd0 hRR
  clear hRR h4 hs hx hn sl
  go_enter Tryz.func56,Tryz.ntmps56
  go_wp2_with fail
  refine bodyPost_ret (v:=.tuple #[.agg #[.int .u8 0,.int .u8 0,.int .u8 0,.string (bs []),.slice none 0 0],.int .i64 3]) (by simp[results,Tryz.results56,go_sem];rfl) rfl ⟨.slice none 0 0,by rw[HRR.out],by rw[HRR.out];exact TlR.none _ _,bA _⟩
 have dn:decide ((s.length:Int)<4+(m:Int))=false:=decide_eq_false (by omega)
 have ex1:(bs s).extract (4+m) s.length=bs (r.drop m):=by
  rw[bs_drop _ _ _ (Nat.le_refl _),hs,show 4+m=m+4 by omega];rfl
 have ex2:(bs s).extract 4 (4+m)=bs (r.take m):=by
  rw[bs_extract,hs,show 4+m-4=m by omega];rfl
 obtain⟨L,t7,g,h7⟩:∃ a b c,takeT (r.drop m)=(a,b,c):=⟨_,_,_,rfl⟩
 have K7:∀ w,Calls Tryz.prog 100 #[.string (bs (r.drop m))] w fun en w'=>∃ v',en=.returned (.tuple #[v',.string (bs t7),.int .i64 g])∧TlR w' w.heap.size v' L∧Below w.heap.size w w':=fun w=>by
  have h:=refTake11_any _ (r.drop m) w (Nat.le_refl _) (by simp;omega)
  rw[h7] at h;exact h
 have hRR:(g=0∧R=(X / 32,Y,Z,r.take m,L,0))∨(g≠0∧R=(0,0,0,[],[],g)):=by
  rw[←HR.out,hs,tkP_cons,if_neg (by omega),if_neg (by omega),eX,eY,eZ,em,h7]
  by_cases hg:g=0
  ·left;rw[if_pos hg];exact⟨hg,rfl⟩
  ·right;rw[if_neg hg];exact⟨hg,rfl⟩
 obtain⟨F,hF⟩:∃ F,r.take m=F:=⟨_,rfl⟩
 obtain⟨D,hD⟩:∃ D,r.drop m=D:=⟨_,rfl⟩
 rw[hF] at ex2 hRR
 rw[hD] at ex1 K7
 have HRR:=hd0 hRR
 have KK7:=hd0 K7
 have wq:IntKind.u8.wrap (X.tdiv 32)=X / 32:=by rw[Int.tdiv_eq_ediv_of_nonneg xb.1];exact IntWalk.u8_in _ (by omega)
 have hmr:4+m≤s.length:=by omega
 clear hRR K7 h4 hs hx eX eY eZ em hn h7 hF hD sl
 go_enter Tryz.func56,Tryz.ntmps56
 go_wp2_with fail
 have pz:=PB.new 115 w 0 0 0 [] (.slice none 0 0)
 have hb0:Below w.heap.size w (w.alloc (.cells yU 115)):=bA _
 obtain⟨w0,hw0⟩:∃ w0,w.alloc (.cells yU 115)=w0:=⟨_,rfl⟩
 have pz0:PB 115 w0 w.heap.size 0 0 0 [] (.slice none 0 0):=by rw[←hw0];exact pz
 rw[hw0] at hb0 ⊢
 clear hw0 pz
 with_reducible refine(KK7.out _).mono ?_
 rintro en w1 ⟨v',rfl,hown,hb1⟩
 have pz1:=pz0.later hb1
 have hz0:=pz0.lt
 have HO:=hd0 hown
 have HB1:=hd0 (hb0.trans (hb1.mono hb0.size))
 have HZ0:=hd0 hz0
 obtain⟨sa,sc,rfl,_⟩:=hown.tls.shape
 have z0:=pz1.c0
 have z1:=pz1.c1
 have z2:=pz1.c2
 have z3:=pz1.c3
 have z4:=pz1.c4
 have y0:=pz1.fr 0
 have y1:=pz1.fr 1
 have y2:=pz1.fr 2
 have y3:=pz1.fr 3
 have y4:=pz1.fr 4
 clear pz0 pz1 hb0 hb1 hown hz0
 rcases HRR.out with⟨h0,h3⟩|⟨h0,h3⟩
 ·have d0:(g != 0)=false:=by rw[h0];rfl
  have H3:=hd0 h3
  clear h0 h3
  go_wp2_with fail
  go_region
  all_goals go_wp2_with fail
  all_goals refine bodyPost_ret (v:=.tuple #[.agg #[.int .u8 (X / 32),.int .u8 Y,.int .u8 Z,.string (bs F),.slice sa L.length sc],.int .i64 0]) (by simp[results,Tryz.results56,go_sem,z0,z1,z2,z3,z4]) rfl ⟨.slice sa L.length sc,by rw[H3.out],?_,Below.drew (below_set (below_set (below_set (below_set (below_set HB1.out (Nat.le_refl _) _) (Nat.le_refl _) _) (Nat.le_refl _) _) (Nat.le_refl _) _) (Nat.le_refl _) _)⟩
  all_goals rw[H3.out]
  all_goals exact(TlR.drew (((((HO.out.set HZ0.out _).set HZ0.out _).set HZ0.out _).set HZ0.out _).set HZ0.out _)).mono (by have:=HZ0.out;omega)
 ·have d0:(g != 0)=true:=by rw[bne_iff_ne];exact h0
  have H3:=hd0 h3
  clear h0 h3
  go_wp2_with fail
  refine bodyPost_ret (v:=.tuple #[.agg #[.int .u8 0,.int .u8 0,.int .u8 0,.string (bs []),.slice none 0 0],.int .i64 g]) (by simp[results,Tryz.results56,go_sem,z0,z1,z2,z3,z4];rfl) rfl ⟨.slice none 0 0,by rw[H3.out],by rw[H3.out];exact TlR.none _ _,below_set (below_set (below_set (below_set (below_set HB1.out (Nat.le_refl _) _) (Nat.le_refl _) _) (Nat.le_refl _) _) (Nat.le_refl _) _) (Nat.le_refl _) _⟩
structure TQ (w W:World)(o:Ow20)(ov:Value)(x:Mp)(s:Ms)(wv wv':Value)(sr ds:Mc):Prop where
 mm:MM W o ov x s wv'
 b4:GB 31 W w.heap.size #[.pointer (some ⟨x.p,0,none⟩)]
 b5:GB 25 W (w.heap.size+1) #[.int .u8 sr.a,.int .u8 sr.b,.int .u8 sr.c,.int .u8 sr.d,.int .u8 sr.e,.int .u8 sr.f]
 b6:GB 25 W (w.heap.size+2) #[.int .u8 ds.a,.int .u8 ds.b,.int .u8 ds.c,.int .u8 ds.d,.int .u8 ds.e,.int .u8 ds.f]
 fr:Fr (x.D wv) w W
 ob:∀ g,wv'.ownBlock=some g→wv.ownBlock=some g∨w.heap.size+3≤g
section
variable {w W W':World} {o:Ow20} {ov:Value} {x:Mp} {s s' s0:Ms} {wv wv' wv'':Value} {sr ds:Mc}
theorem TQ.later (h:TQ w W o ov x s wv wv' sr ds)(hb:Below W.heap.size W W'):TQ w W' o ov x s wv wv' sr ds :=
 ⟨h.mm.later hb,h.b4.later hb,h.b5.later hb,h.b6.later hb,h.fr.trans (.of_below hb),h.ob⟩
theorem TQ.begin (h:MM w o ov x s wv):TQ w (((w.alloc (.cells #[.pointer (some ⟨x.p,0,none⟩)] 31)).alloc (.cells #[.int .u8 sr.a,.int .u8 sr.b,.int .u8 sr.c,.int .u8 sr.d,.int .u8 sr.e,.int .u8 sr.f] 25)).alloc (.cells #[.int .u8 ds.a,.int .u8 ds.b,.int .u8 ds.c,.int .u8 ds.d,.int .u8 ds.e,.int .u8 ds.f] 25)) o ov x s wv wv sr ds:=by
 have h1:Below w.heap.size w (w.alloc (.cells #[.pointer (some ⟨x.p,0,none⟩)] 31)):=bA _
 have h2:Below w.heap.size w ((w.alloc (.cells #[.pointer (some ⟨x.p,0,none⟩)] 31)).alloc (.cells #[.int .u8 sr.a,.int .u8 sr.b,.int .u8 sr.c,.int .u8 sr.d,.int .u8 sr.e,.int .u8 sr.f] 25)):=h1.alloc h1.size _
 have h3:Below w.heap.size w (((w.alloc (.cells #[.pointer (some ⟨x.p,0,none⟩)] 31)).alloc (.cells #[.int .u8 sr.a,.int .u8 sr.b,.int .u8 sr.c,.int .u8 sr.d,.int .u8 sr.e,.int .u8 sr.f] 25)).alloc (.cells #[.int .u8 ds.a,.int .u8 ds.b,.int .u8 ds.c,.int .u8 ds.d,.int .u8 ds.e,.int .u8 ds.f] 25)):=h2.alloc h2.size _
 refine⟨h.later h3,?_,?_,?_,.of_below h3,fun g hg=>.inl hg⟩
 ·exact((GB.new _ w _).later (bA _)).later (bA _)
 ·have:=(GB.new 25 (w.alloc (.cells #[.pointer (some ⟨x.p,0,none⟩)] 31)) #[.int .u8 sr.a,.int .u8 sr.b,.int .u8 sr.c,.int .u8 sr.d,.int .u8 sr.e,.int .u8 sr.f]).later (bA (.cells #[.int .u8 ds.a,.int .u8 ds.b,.int .u8 ds.c,.int .u8 ds.d,.int .u8 ds.e,.int .u8 ds.f] 25))
  rw[show(w.alloc (.cells #[.pointer (some ⟨x.p,0,none⟩)] 31)).heap.size=w.heap.size+1 by simp] at this
  exact this
 ·have:=GB.new 25 ((w.alloc (.cells #[.pointer (some ⟨x.p,0,none⟩)] 31)).alloc (.cells #[.int .u8 sr.a,.int .u8 sr.b,.int .u8 sr.c,.int .u8 sr.d,.int .u8 sr.e,.int .u8 sr.f] 25)) #[.int .u8 ds.a,.int .u8 ds.b,.int .u8 ds.c,.int .u8 ds.d,.int .u8 ds.e,.int .u8 ds.f]
  rw[show((w.alloc (.cells #[.pointer (some ⟨x.p,0,none⟩)] 31)).alloc (.cells #[.int .u8 sr.a,.int .u8 sr.b,.int .u8 sr.c,.int .u8 sr.d,.int .u8 sr.e,.int .u8 sr.f] 25)).heap.size=w.heap.size+2 by simp] at this
  exact this
theorem TQ.step (h0:MM w o ov x s0 wv)(h:TQ w W o ov x s wv wv' sr ds)(hm:MM W' o ov x s' wv'')(hf:Fr (x.D wv') W W')(hb:∀ g,wv''.ownBlock=some g→wv'.ownBlock=some g∨W.heap.size≤g):TQ w W' o ov x s' wv wv'' sr ds:=by
 have hs:=h.b6.lt
 have nD:∀ k,w.heap.size≤k→k<w.heap.size+3→¬ x.D wv' k:=by
  rintro k hk hk3 (rfl|rfl|rfl|rfl|hk')
  ·have:=h0.ltD (.inl rfl);omega
  ·have:=h0.ltD (.inr (.inl rfl));omega
  ·have:=h0.ltD (.inr (.inr (.inl rfl)));omega
  ·have:=h0.ltD (.inr (.inr (.inr (.inl rfl))));omega
  ·rcases h.ob k hk' with e|e
   ·have:=h0.ltD (.inr (.inr (.inr (.inr e))));omega
   ·omega
 refine⟨hm,h.b4.fr' hf (nD _ (by omega) (by omega)),h.b5.fr' hf (nD _ (by omega) (by omega)),h.b6.fr' hf (nD _ (by omega) (by omega)),?_,fun g hg=>?_⟩
 ·refine⟨hf.os.trans h.fr.os,hf.tape.trans h.fr.tape,hf.output.trans h.fr.output,Nat.le_trans h.fr.size hf.size,fun k hk hd=>(hf.block k (Nat.lt_of_lt_of_le hk h.fr.size) ?_).trans (h.fr.block k hk hd)⟩
  rintro (e|e|e|e|e)
  ·exact hd (.inl e)
  ·exact hd (.inr (.inl e))
  ·exact hd (.inr (.inr (.inl e)))
  ·exact hd (.inr (.inr (.inr (.inl e))))
  ·rcases h.ob k e with e|e
   ·exact hd (.inr (.inr (.inr (.inr e))))
   ·omega
 ·rcases hb g hg with e|e
  ·exact h.ob g e
  ·exact .inr (by omega)
end
theorem takeT_b:∀ (n:Nat)(s:List UInt8),s.length≤n→∀ x∈(takeT s).1,x.2.length≤s.length
 | _,[],_=>by rw[takeT_nil];simp
 | n+1,c::s,hn=>by
  have ih:=takeT_b n (s.drop (2+((s.getD 0 0).toNat*256+(s.getD 1 0).toNat))) (by simp at hn ⊢;omega)
  rw[takeT]
  split
  ·simp
  ·split
   ·simp
   ·split
    ·simp
    ·split
     ·intro x hx
      rcases List.mem_cons.1 hx with rfl|hx
      ·simp only[List.length_take,List.length_drop,List.length_cons];omega
      ·have:=ih x hx
       simp only[List.length_drop] at this
       simp only[List.length_cons];omega
     ·simp
theorem takeT_len3:∀ (n:Nat)(s:List UInt8),s.length≤n→3*(takeT s).1.length≤s.length
 | _,[],_=>by rw[takeT_nil];simp
 | n+1,c::s,hn=>by
  have ih:=takeT_len3 n (s.drop (2+((s.getD 0 0).toNat*256+(s.getD 1 0).toNat))) (by simp at hn ⊢;omega)
  simp only[List.length_drop] at ih
  rw[takeT]
  split
  ·simp
  ·split
   ·simp
   ·rename_i h2
    split
    ·simp
    ·split
     ·simp only[List.length_cons];omega
     ·simp
theorem tkP_b (d:List UInt8)(hd:d.length≤1600):PdB (tkP d).1 (tkP d).2.1 (tkP d).2.2.1 (tkP d).2.2.2.1 (tkP d).2.2.2.2.1:=by
 have hz:∀ e:Int,PdB ((0,0,0,[],[],e):Int × Int × Int × List UInt8 × List Th × Int).1 0 0 [] []:=fun e=>⟨by simp,by simp,by simp,by simp,by simp,by simp,by simp[putT]⟩
 unfold tkP
 split
 ·rename_i a b c n r
  split
  ·exact hz _
  ·split
   ·exact hz _
   ·split
    ·have h1:=takeT_len3 (r.drop n.toNat).length (r.drop n.toNat) (Nat.le_refl _)
     have h2:=takeT_b (r.drop n.toNat).length (r.drop n.toNat) (Nat.le_refl _)
     have h3:(r.drop n.toNat).length≤1600:=by simp only[List.length_drop,List.length_cons] at hd ⊢;omega
     have ha:=a.toNat_lt
     have hb:=b.toNat_lt
     have hc:=c.toNat_lt
     have hn:=n.toNat_lt
     have hps:∀ x∈(takeT (r.drop n.toNat)).1,x.2.length≤2000:=fun x hx=>by have:=h2 x hx;omega
     exact⟨by simp only;omega,by simp only;omega,by simp only;omega,by simp only[List.length_take];omega,by simp only;omega,hps,putT_pm (by simp only;omega) hps⟩
    ·exact hz _
 ·exact hz _
theorem mtake_any (o:Ow20)(ho:o.Ok)(hlv:o.a.lv<8)(ov:Value)(x:Mp)(s:Ms)(wv:Value)(hs:s.Ok)(sr ds:Mc)(hsr:sr.Ok)(d:List UInt8)(hd:d.length≤1600)(w:World)(h:MM w o ov x s wv)(hbd:∀ p,(opM o s sr ds (tkP d).1 (tkP d).2.1 (tkP d).2.2.1 (tkP d).2.2.2.1 (tkP d).2.2.2.2.1).1.bad=p→0≤p∧p≤1000000) :
  Calls Tryz.prog 18 #[.pointer (some ⟨x.p,0,none⟩),.agg #[.int .u8 sr.a,.int .u8 sr.b,.int .u8 sr.c,.int .u8 sr.d,.int .u8 sr.e,.int .u8 sr.f],.agg #[.int .u8 ds.a,.int .u8 ds.b,.int .u8 ds.c,.int .u8 ds.d,.int .u8 ds.e,.int .u8 ds.f],.string (bs d)] w fun en w' =>
  ∃ u wv',en=.returned u∧Ow 7 snC 55 w' w.heap.size u (takeM o s sr ds d).2∧MM w' o ov x (takeM o s sr ds d).1 wv'∧Fr (x.D wv) w w'∧∀ g,wv'.ownBlock=some g→wv.ownBlock=some g∨w.heap.size≤g:=by
 have hpb:=tkP_b d hd
 obtain⟨⟨a,b,c,f,l,e⟩,ht⟩:∃ z,tkP d=z:=⟨_,rfl⟩
 rw[ht] at hpb hbd
 have HPB:Hid (PdB a b c f l):=hd0 hpb
 have TK:Hid (∀ W,Calls Tryz.prog 53 #[.string (bs d)] W fun en w'=>∃ v',en=.returned (.tuple #[.agg #[.int .u8 a,.int .u8 b,.int .u8 c,.string (bs f),v'],.int .i64 e])∧TlT w' W.heap.size v' l∧Below W.heap.size W w'):=hd0 fun W=>by
  have h:=ctake_any d W (by omega)
  rw[ht] at h;exact h
 obtain⟨Q,hQ⟩:∃ z,opM o s sr ds a b c f l=z:=⟨_,rfl⟩
 obtain⟨N,hN⟩:∃ z,hndN b=z:=⟨_,rfl⟩
 obtain⟨R,hR⟩:∃ R,takeM o s sr ds d=R:=⟨_,rfl⟩
 have HR:Hid (R=if e=0∧a=o.a.lv∧N≠0 then(badM Q.1 Q.2.2,Q.2.1) else(badM s (decide (e=0)),[])):=hd0 (by rw[←hR,← hN,← hQ];unfold takeM;rw[ht])
 have OP:Hid (N≠0→∀ (v:Value) (W:World),MM W o ov x s wv→Tls W v l→Calls Tryz.prog N #[.pointer (some ⟨x.p,0,none⟩),.agg #[.int .u8 sr.a,.int .u8 sr.b,.int .u8 sr.c,.int .u8 sr.d,.int .u8 sr.e,.int .u8 sr.f,.int .u8 ds.a,.int .u8 ds.b,.int .u8 ds.c,.int .u8 ds.d,.int .u8 ds.e,.int .u8 ds.f,.int .u8 a,.int .u8 b,.int .u8 c,.string (bs f),v]] W fun en w' =>
  ∃ u wv',en=.returned (.tuple #[u,.bool Q.2.2])∧Ow 7 snC 55 w' W.heap.size u Q.2.1∧MM w' o ov x Q.1 wv'∧Fr (x.D wv) W w'∧∀ g,wv'.ownBlock=some g→wv.ownBlock=some g∨W.heap.size≤g):=hd0 fun hN0 v W hW hv=>by
  have h:=mop_any o ho hlv ov x s wv hs sr ds hsr a b c f v l (by rw[hN];exact hN0) HPB.out W hW hv
  rw[hQ,hN] at h;exact h
 have LK:Hid (∀ (W:World) (q:Nat),FMap W q→(Instr.lookup 138 (.map (some q)) (.int .u8 b) true).run Tryz.prog W=.ok (.tuple #[(if N=0 then .nilFunc else .func (.func N) #[] #[]),.bool (decide (N≠0))]) W):=hd0 fun W q hq=>by
  have h:=fmap_look hq b HPB.out.pb
  unfold hndV at h
  rw[hN] at h;exact h
 have HQB:=hd0 (show 0≤Q.1.bad∧Q.1.bad≤1000000 by rw[←hQ];exact hbd _ rfl)
 have HSB:=hd0 hs.bad
 have H0:=hd0 h
 rw[hR]
 have T0:=hd0 (TQ.begin (sr:=sr) (ds:=ds) h)
 have hsz:=bs_size d
 have HNC:Hid (N≠0→N=95∨N=97∨N=96∨N=99∨N=98):=hd0 (by
  intro h0
  rw[←hN] at h0 ⊢
  rcases hndN_cases h0 with rfl|rfl|rfl|rfl|rfl
  ·exact .inl rfl
  ·exact .inr (.inl rfl)
  ·exact .inr (.inr (.inl rfl))
  ·exact .inr (.inr (.inr (.inl rfl)))
  ·exact .inr (.inr (.inr (.inr rfl))))
 clear hR hN hQ ht hpb hbd ho hlv hs hsr h
 go_enter Tryz.func18,Tryz.ntmps18
 go_upto_region 1 with fail
 obtain⟨w0,hw0⟩:∃ z,(((w.alloc (.cells #[.pointer (some ⟨x.p,0,none⟩)] 31)).alloc (.cells #[.int .u8 sr.a,.int .u8 sr.b,.int .u8 sr.c,.int .u8 sr.d,.int .u8 sr.e,.int .u8 sr.f] 25)).alloc (.cells #[.int .u8 ds.a,.int .u8 ds.b,.int .u8 ds.c,.int .u8 ds.d,.int .u8 ds.e,.int .u8 ds.f] 25))=z:=⟨_,rfl⟩
 rw[hw0] at T0 ⊢
 clear hw0
 have c4:w0.cell? ⟨w.heap.size,0,none⟩=some (.pointer (some ⟨x.p,0,none⟩)):=T0.out.b4.c 0 _ rfl
 go_wp2_with fail
 with_reducible refine(TK.out _).mono ?_
 rintro en w1 ⟨v,rfl,htl,hb1⟩
 have T1:=hd0 (T0.out.later hb1)
 obtain⟨ax,cx,hvx,-⟩:=htl.tls.shape
 obtain⟨n1,hn1⟩:∃ n,l.length=n:=⟨_,rfl⟩
 rw[hn1] at hvx
 subst hvx
 have V1:=hd0 htl.tls
 clear htl hb1 T0 c4 hn1
 go_upto_region 4 with fail
 have g2:=PB.new 103 w1 a b c f (.slice ax n1 cx)
 have hal:=(Below.refl w1.heap.size w1).alloc (Nat.le_refl _) (.cells #[.int .u8 a,.int .u8 b,.int .u8 c,.string (bs f),.slice ax n1 cx] 103)
 have T2:=hd0 (T1.out.later hal)
 have V2:=hd0 (V1.out.later hal)
 obtain⟨w2,hw2⟩:∃ z,w1.alloc (.cells #[.int .u8 a,.int .u8 b,.int .u8 c,.string (bs f),.slice ax n1 cx] 103)=z:=⟨_,rfl⟩
 obtain⟨t,htt⟩:∃ z,w1.heap.size=z:=⟨_,rfl⟩
 rw[hw2] at T2 V2 g2 ⊢
 rw[htt] at g2 ⊢
 have G2:=hd0 g2
 clear hw2 htt g2 hal T1 V1
 obtain⟨E,hE⟩:∃ E,decide (e=0)=E:=⟨_,rfl⟩
 have e1:(e==0)=E:=by rw[←hE];by_cases h:e=0 <;> simp[h]
 have HE:=hd0 hE
 clear hE
 go_upto_region 6 with fail
 clear e1
 obtain⟨FV,hFV⟩:∃ z:Value,(if N=0 then Value.nilFunc else .func (.func N) #[] #[])=z:=⟨_,rfl⟩
 obtain⟨I,hI⟩:∃ z,decide (N≠0)=z:=⟨_,rfl⟩
 rw[hFV,hI] at LK
 have HFI:=hd0 (And.intro hFV hI)
 clear hFV hI
 go_cut [13,14] (fun s13 s14 wx=>s13=FV∧s14=.bool I∧Hid (TQ w wx o ov x s wv wv sr ds∧Tls wx (.slice ax n1 cx) l∧PB 103 wx t a b c f (.slice ax n1 cx)))
 case first =>
  have hbd:Below w2.heap.size w2 w2.drew:=(Below.refl _ _).drew
  have f1:=(G2.out.later hbd).c1
  go_region_law
   (first
    |(go_simp;go_at_call 54;(with_reducible refine(takes_any _).mono ?_);rintro en wx ⟨qm,rfl,hmx,hbx⟩;have hbw:=hbd.trans hbx;have f1x:=(G2.out.later hbw).c1;have hlk:=LK.out _ _ hmx))
  all_goals go_wp2_with fail
  all_goals go_meet
  all_goals exact⟨by trivial,by trivial,hd0 ⟨T2.out.later hbw,V2.out.later hbw,G2.out.later hbw⟩⟩
 case rest =>
  obtain⟨h13,rfl,HC⟩:=hcut
  rw[h13]
  clear h13
  have T3:=hd0 HC.out.1
  have V3:=hd0 HC.out.2.1
  have G3:=hd0 HC.out.2.2
  clear HC T2 V2 G2 LK
  obtain⟨LV,hLV⟩:∃ z,(a==o.a.lv)=z:=⟨_,rfl⟩
  have HLV:=hd0 hLV
  go_upto_region 7 with fail
  go_cut [45] (fun s45 wx=>s45=.bool (I&&(E&&LV))∧Hid (TQ w wx o ov x s wv wv sr ds∧Tls wx (.slice ax n1 cx) l∧PB 103 wx t a b c f (.slice ax n1 cx)))
  case first =>
   have c4:∀ kk:Later wc,kk.out.cell? ⟨w.heap.size,0,none⟩=some (.pointer (some ⟨x.p,0,none⟩)):=fun kk=>(T3.out.later kk.h).b4.c 0 _ rfl
   have f0:∀ kk:Later wc,kk.out.cell? ⟨t,0,none⟩=some (.int .u8 a):=fun kk=>(G3.out.later kk.h).c0
   have l0:∀ kk:Later wc,kk.out.cell? ⟨x.p,0,none⟩=some (.int .u8 o.a.lv):=fun kk=>(T3.out.later kk.h).mm.clv
   have LH:=hd0 (fun kk:Later wc=>And.intro (T3.out.later kk.h) (And.intro (V3.out.later kk.h) (G3.out.later kk.h)))
   cases I with
   | false =>
    refine wp_region_later (by kernel_rfl) (by kernel_rfl) ?_
    repeat (go_big_quiet_step (fail))
    refine wpQuiet_nil ?_
    rintro _ ⟨kk,rfl⟩
    go_wp2_with fail
    go_meet
    exact⟨by trivial,hd0 (LH.out kk)⟩
   | true =>
    cases E with
    | false =>
     refine wp_region_later (by kernel_rfl) (by kernel_rfl) ?_
     repeat (go_big_quiet_step (fail))
     refine wpQuiet_nil ?_
     rintro _ ⟨kk,rfl⟩
     go_wp2_with fail
     go_meet
     exact⟨by trivial,hd0 (LH.out kk)⟩
    | true =>
     refine wp_region_later (by kernel_rfl) (by kernel_rfl) ?_
     repeat (go_big_quiet_step (fail))
     refine wpQuiet_nil ?_
     rintro _ ⟨kk,rfl⟩
     go_wp2_with fail
     go_meet
     exact⟨by trivial,hd0 (LH.out kk)⟩
  case rest =>
   obtain⟨rfl,HC⟩:=hcut
   have T4:=hd0 HC.out.1
   have V4:=hd0 HC.out.2.1
   have G4:=hd0 HC.out.2.2
   clear HC T3 V3 G3
   obtain⟨VV,hVV⟩:∃ z,(I&&(E&&LV))=z:=⟨_,rfl⟩
   have HRV:Hid (R=if VV=true then(badM Q.1 Q.2.2,Q.2.1) else(badM s E,[])):=hd0 (by
    rw[HR.out,← hVV,← HE.out,← HLV.out,← HFI.out.2]
    by_cases h1:e=0 <;> by_cases h2:a=o.a.lv <;> by_cases h3:N=0 <;> simp[h1,h2,h3])
   have HNV:Hid (VV=true→N≠0):=hd0 (by
    intro h
    rw[←hVV] at h
    simp only[Bool.and_eq_true] at h
    exact of_decide_eq_true (HFI.out.2.trans h.1))
   rw[hVV]
   clear hVV HR hLV
   cases VV with
   | false =>
    have HZ:=hd0 (show R=(badM s E,[]) by rw[HRV.out];rfl)
    have CN:=hd0 (fun W (hW:TQ w W o ov x s wv wv sr ds)=>mcount_any o ov x s wv E w.heap.size W hW.mm HSB.out hW.b4)
    clear HRV HNV OP
    go_wp2_with fail
    with_reducible refine(CN.out _ T4.out).mono ?_
    rintro en w5 ⟨rfl,hm5,ho5⟩
    have M5:=hd0 (And.intro hm5 (T4.out.fr.trans (.of_only ho5 (.inl rfl))))
    clear hm5 ho5 T4 V4 G4
    go_wp2
    go_ret
    exact⟨.slice none 0 0,wv,rfl,by rw[HZ.out];exact Ow.none _ _,by rw[HZ.out];exact M5.out.1,M5.out.2,fun g hg=>.inl hg⟩
   | true =>
    have HZ:=hd0 (show R=(badM Q.1 Q.2.2,Q.2.1) by rw[HRV.out];rfl)
    have hF:FV=.func (.func N) #[] #[]:=by rw[←HFI.out.1,if_neg (HNV.out rfl)]
    have OP2:=hd0 (OP.out (HNV.out rfl))
    rw[hF]
    have c4:wc.cell? ⟨w.heap.size,0,none⟩=some (.pointer (some ⟨x.p,0,none⟩)):=T4.out.b4.c 0 _ rfl
    have s0:wc.cell? ⟨w.heap.size+1,0,none⟩=some (.int .u8 sr.a):=T4.out.b5.c 0 _ rfl
    have s1:wc.cell? ⟨w.heap.size+1,1,none⟩=some (.int .u8 sr.b):=T4.out.b5.c 1 _ rfl
    have s2:wc.cell? ⟨w.heap.size+1,2,none⟩=some (.int .u8 sr.c):=T4.out.b5.c 2 _ rfl
    have s3:wc.cell? ⟨w.heap.size+1,3,none⟩=some (.int .u8 sr.d):=T4.out.b5.c 3 _ rfl
    have s4:wc.cell? ⟨w.heap.size+1,4,none⟩=some (.int .u8 sr.e):=T4.out.b5.c 4 _ rfl
    have s5:wc.cell? ⟨w.heap.size+1,5,none⟩=some (.int .u8 sr.f):=T4.out.b5.c 5 _ rfl
    have d0:wc.cell? ⟨w.heap.size+1+1,0,none⟩=some (.int .u8 ds.a):=T4.out.b6.c 0 _ rfl
    have d1:wc.cell? ⟨w.heap.size+1+1,1,none⟩=some (.int .u8 ds.b):=T4.out.b6.c 1 _ rfl
    have d2:wc.cell? ⟨w.heap.size+1+1,2,none⟩=some (.int .u8 ds.c):=T4.out.b6.c 2 _ rfl
    have d3:wc.cell? ⟨w.heap.size+1+1,3,none⟩=some (.int .u8 ds.d):=T4.out.b6.c 3 _ rfl
    have d4:wc.cell? ⟨w.heap.size+1+1,4,none⟩=some (.int .u8 ds.e):=T4.out.b6.c 4 _ rfl
    have d5:wc.cell? ⟨w.heap.size+1+1,5,none⟩=some (.int .u8 ds.f):=T4.out.b6.c 5 _ rfl
    have f0:=G4.out.c0
    have f1:=G4.out.c1
    have f2:=G4.out.c2
    have f3:=G4.out.c3
    have f4:=G4.out.c4
    have hnc:=HNC.out (HNV.out rfl)
    clear HRV HNV OP hF HNC HFI
    rcases hnc with rfl|rfl|rfl|rfl|rfl
    all_goals
     go_wp2_with fail
     with_reducible refine(OP2.out (.slice ax n1 cx) _ T4.out.mm V4.out).mono ?_
     rintro en w5 ⟨u,wv',rfl,hu,hm5,hf5,hb5⟩
     have T5:=hd0 (TQ.step H0.out T4.out hm5 hf5 hb5)
     have HU:=hd0 (And.intro (Ow.mono hu T4.out.fr.size) (fun g (hg:u.ownBlock=some g)=>Nat.lt_of_lt_of_le T4.out.mm.lp (Ow.lt hu hg).1))
     clear hu hm5 hf5 hb5 T4 V4 G4 OP2 c4 s0 s1 s2 s3 s4 s5 d0 d1 d2 d3 d4 d5 f0 f1 f2 f3 f4
     have CN:=hd0 (fun W (hW:TQ w W o ov x Q.1 wv wv' sr ds)=>mcount_any o ov x Q.1 wv' Q.2.2 w.heap.size W hW.mm HQB.out hW.b4)
     obtain⟨G,hG⟩:∃ z,Q.2.2=z:=⟨_,rfl⟩
     rw[hG] at CN HZ ⊢
     clear hG
     go_wp2_with fail
     with_reducible refine(CN.out _ T5.out).mono ?_
     rintro en w6 ⟨rfl,hm6,ho6⟩
     have M6:=hd0 (And.intro hm6 (T5.out.fr.trans (.of_only ho6 (.inl rfl))))
     have U6:Hid (Ow 7 snC 55 w6 w.heap.size u Q.2.1):=hd0 (Ow.fr HU.out.1 (Fr.of_only (D:=fun k=>k=x.p) ho6 rfl) (fun g hg e=>by have h1:=HU.out.2 g hg;have h2:g=x.p:=e;omega))
     have O6:=hd0 T5.out.ob
     clear hm6 ho6 T5 HU CN
     go_wp2
     go_ret
     exact⟨u,wv',rfl,by rw[HZ.out];exact U6.out,by rw[HZ.out];exact M6.out.1,M6.out.2,fun g hg=>by
      rcases O6.out g hg with e|e
      ·exact .inl e
      ·exact .inr (by omega)⟩
def sn0:Sn:=⟨mc0,[]⟩
def loopP (lv n:Int)(d:List UInt8):List UInt8 × Int:=putP (putL lv false n d).1 (putL lv false n d).2.1 0 (putL lv false n d).2.2.1 (putL lv false n d).2.2.2.1
def loopM (o:Ow20)(s:Ms)(ds:Mc)(d:List UInt8):Ms × Sn × Int :=
 if hostV ds=false then(s,sn0,2) else if 64<d.length then(s,sn0,5)
 else({ s with lp:=s.lp+1,dat:=d,rep:=0,ali:=0 },⟨ds,(loopP o.a.lv (s.lp+1) d).1⟩,(loopP o.a.lv (s.lp+1) d).2)
structure LQ (w W:World)(o:Ow20)(ov:Value)(x:Mp)(s:Ms)(wv wv':Value)(ds:Mc):Prop where
 mm:MM W o ov x s wv'
 b4:GB 25 W w.heap.size #[.int .u8 ds.a,.int .u8 ds.b,.int .u8 ds.c,.int .u8 ds.d,.int .u8 ds.e,.int .u8 ds.f]
 b6:GB 55 W (w.heap.size+1) #[.int .u8 0,.int .u8 0,.int .u8 0,.int .u8 0,.int .u8 0,.int .u8 0,.string { data:=#[] }]
 fr:Fr (x.D wv) w W
section
variable {w W W':World} {o:Ow20} {ov:Value} {x:Mp} {s s' s0:Ms} {wv wv' wv'':Value} {ds:Mc}
theorem LQ.later (h:LQ w W o ov x s wv wv' ds)(hb:Below W.heap.size W W'):LQ w W' o ov x s wv wv' ds :=
 ⟨h.mm.later hb,h.b4.later hb,h.b6.later hb,h.fr.trans (.of_below hb)⟩
theorem LQ.drew (h:LQ w W o ov x s wv wv' ds):LQ w W.drew o ov x s wv wv' ds:=h.later (Below.refl _ _).drew
theorem LQ.alloc (h:LQ w W o ov x s wv wv' ds)(b:Obj):LQ w (W.alloc b) o ov x s wv wv' ds:=h.later (bA b)
theorem LQ.begin (h:MM w o ov x s wv):LQ w ((w.alloc (.cells #[.int .u8 ds.a,.int .u8 ds.b,.int .u8 ds.c,.int .u8 ds.d,.int .u8 ds.e,.int .u8 ds.f] 25)).alloc (.cells yS 55)) o ov x s wv wv ds:=by
 have h1:Below w.heap.size w (w.alloc (.cells #[.int .u8 ds.a,.int .u8 ds.b,.int .u8 ds.c,.int .u8 ds.d,.int .u8 ds.e,.int .u8 ds.f] 25)):=bA _
 have h2:Below w.heap.size w ((w.alloc (.cells #[.int .u8 ds.a,.int .u8 ds.b,.int .u8 ds.c,.int .u8 ds.d,.int .u8 ds.e,.int .u8 ds.f] 25)).alloc (.cells yS 55)):=h1.alloc h1.size _
 refine⟨h.later h2,(GB.new _ w _).later (bA _),?_,.of_below h2⟩
 have:=GB.new 55 (w.alloc (.cells #[.int .u8 ds.a,.int .u8 ds.b,.int .u8 ds.c,.int .u8 ds.d,.int .u8 ds.e,.int .u8 ds.f] 25)) #[.int .u8 0,.int .u8 0,.int .u8 0,.int .u8 0,.int .u8 0,.int .u8 0,.string { data:=#[] }]
 rw[show(w.alloc (.cells #[.int .u8 ds.a,.int .u8 ds.b,.int .u8 ds.c,.int .u8 ds.d,.int .u8 ds.e,.int .u8 ds.f] 25)).heap.size=w.heap.size+1 by simp] at this
 exact this
theorem LQ.st (h0:MM w o ov x s0 wv)(h:LQ w W o ov x s wv wv' ds)(j:Nat)(v:Value)(hm:MM (W.setCell ⟨x.p,j,none⟩ v) o ov x s' wv''):LQ w (W.setCell ⟨x.p,j,none⟩ v) o ov x s' wv wv'' ds:=by
 have hp:=h0.gb.lt
 exact⟨hm,h.b4.other (by omega) v,h.b6.other (by omega) v,h.fr.trans (.set (.inl rfl) _ _)⟩
theorem LQ.five {W0:World}(h:LQ w W o ov x s wv wv' ds)(h0:LQ w W0 o ov x s wv wv' ds){t:Nat}(ht:W0.heap.size≤t)(v0 v1 v2 v3 v4:Value) :
  LQ w (((((W.setCell ⟨t,0,none⟩ v0).setCell ⟨t,1,none⟩ v1).setCell ⟨t,2,none⟩ v2).setCell ⟨t,3,none⟩ v3).setCell ⟨t,4,none⟩ v4) o ov x s wv wv' ds:=by
 have h6:=h0.b6.lt
 have hw:=h0.fr.size
 refine⟨h.mm.five h0.mm ht v0 v1 v2 v3 v4,h.b4.five (t:=t) (by omega) v0 v1 v2 v3 v4,h.b6.five (t:=t) (by omega) v0 v1 v2 v3 v4,?_⟩
 have hb:Below w.heap.size W (((((W.setCell ⟨t,0,none⟩ v0).setCell ⟨t,1,none⟩ v1).setCell ⟨t,2,none⟩ v2).setCell ⟨t,3,none⟩ v3).setCell ⟨t,4,none⟩ v4):=below_five ((Below.refl W.heap.size W).mono h.fr.size) (by omega)
 exact⟨hb.os.trans h.fr.os,hb.tape.trans h.fr.tape,hb.output.trans h.fr.output,Nat.le_trans h.fr.size hb.size,fun k hk hd=>(hb.block k hk).trans (h.fr.block k hk hd)⟩
theorem LQ.fill (h0:MM w o ov x s0 wv)(h:LQ w W o ov x s wv wv' ds)(hob:∀ g,wv'.ownBlock=some g→g≠w.heap.size+1)(y:Sn) :
  MM (W.setCells (w.heap.size+1) 0 (snC y)) o ov x s wv'∧GB 55 (W.setCells (w.heap.size+1) 0 (snC y)) (w.heap.size+1) (snC y).toArray∧Fr (x.D wv) w (W.setCells (w.heap.size+1) 0 (snC y)):=by
 have hb:Below (w.heap.size+1) W (W.setCells (w.heap.size+1) 0 (snC y)):=below_cellsG (Nat.le_refl _) _ _ _ (Below.refl _ _)
 have hf:Fr (fun k=>k=w.heap.size+1) W (W.setCells (w.heap.size+1) 0 (snC y)):=by
  refine⟨hb.os,hb.tape,hb.output,hb.size,fun k hk hne=>?_⟩
  have:∀ (vs:List Value) (o:Nat) (W:World),(W.setCells (w.heap.size+1) o vs).heap[k]?=W.heap[k]?:=by
   intro vs
   induction vs with
   | nil=>intro o W;rfl
   | cons v r ih=>intro o W;exact(ih _ _).trans (Below.heap_setCell _ _ _ _ (by intro e;exact hne e))
  exact this _ _ _
 refine⟨h.mm.fr hf ?_,?_,?_⟩
 ·rintro k (rfl|rfl|rfl|rfl|hk) (e:_=w.heap.size+1)
  ·have:=h0.gb.lt;omega
  ·have:=h0.mc.lt;omega
  ·have:=h0.mc.om.lt;omega
  ·have:=GB.lt h0.al;omega
  ·exact hob _ hk e
 ·exact h.b6.store (A:=(snC y).toArray) rfl (by simp[snC,Value.oneCell'])
 ·have hb2:Below w.heap.size W (W.setCells (w.heap.size+1) 0 (snC y)):=hb.mono (by omega)
  exact⟨hb2.os.trans h.fr.os,hb2.tape.trans h.fr.tape,hb2.output.trans h.fr.output,Nat.le_trans h.fr.size hb2.size,fun k hk hd=>(hb2.block k hk).trans (h.fr.block k hk hd)⟩
end
theorem putL_ok {lv n:Int}{d:List UInt8}(hlv:0≤lv∧lv<256)(hd:d.length≤1000):PdB (putL lv false n d).1 (putL lv false n d).2.1 0 (putL lv false n d).2.2.1 (putL lv false n d).2.2.2.1:=by
 unfold putL
 split
 ·exact⟨by simp,by simp,by simp,by simp,by simp,by simp,by simp[putT]⟩
 ·split
  ·exact⟨by simp,by simp,by simp,by simp,by simp,by simp,by simp[putT]⟩
  ·have hl:(thL d).length≤1000:=by unfold thL;split <;> simp
   have hs:∀ x∈thL d,x.2.length≤2000:=by
    unfold thL
    split
    ·simp
    ·simp;omega
   exact⟨hlv,by simp,by simp,by simp[be_length],hl,hs,putT_pm hl hs⟩
theorem LQ.lp {w W:World}{o:Ow20}{ov:Value}{x:Mp}{s:Ms}{wv wv':Value}{ds:Mc}(h:LQ w W o ov x s wv wv' ds):W.cell? ⟨x.p,0,none⟩=some (.int .u8 o.a.lv)∧W.cell? ⟨x.p,17,none⟩=some (.int .u32 s.lp):=⟨h.mm.clv,h.mm.clpx⟩
theorem MM.ownNe {W:World}{o:Ow20}{ov:Value}{x:Mp}{s:Ms}{wv:Value}(h:MM W o ov x s wv){t:Nat}(ht:W.heap.size≤t):∀ g,wv.ownBlock=some g→g≠t:=fun g hg=>by
 have:=(Ow.lt h.wy hg).2;omega
theorem mloop_any (o:Ow20)(ho:o.Ok)(ov:Value)(x:Mp)(s:Ms)(wv:Value)(hs:0≤s.lp∧s.lp<1000000)(ds:Mc)(hds:ds.Ok)(d:List UInt8)(hd:d.length≤maxLen)(w:World)(h:MM w o ov x s wv) :
  Calls Tryz.prog 14 #[.pointer (some ⟨x.p,0,none⟩),.agg #[.int .u8 ds.a,.int .u8 ds.b,.int .u8 ds.c,.int .u8 ds.d,.int .u8 ds.e,.int .u8 ds.f],.string (bs d)] w fun en w' =>
  en=.returned (.tuple #[.agg (snC (loopM o s ds d).2.1).toArray,.int .i64 (loopM o s ds d).2.2])∧MM w' o ov x (loopM o s ds d).1 wv∧Fr (x.D wv) w w':=by
 obtain⟨R,hR⟩:∃ R,loopM o s ds d=R:=⟨_,rfl⟩
 have hsz:=bs_size d
 unfold maxLen at hd
 have HH:Hid (∀ w,Calls Tryz.prog 29 #[.agg #[.int .u8 ds.a,.int .u8 ds.b,.int .u8 ds.c,.int .u8 ds.d,.int .u8 ds.e,.int .u8 ds.f]] w fun en w'=>en=.returned (.bool (hostV ds))∧Below w.heap.size w w'):=hd0 fun w=>host_any ds hds w
 obtain⟨HV,hHV⟩:∃ z,hostV ds=z:=⟨_,rfl⟩
 have HR:Hid (R=if HV=false then(s,sn0,2) else if 64<d.length then(s,sn0,5) else({ s with lp:=s.lp+1,dat:=d,rep:=0,ali:=0 },⟨ds,(loopP o.a.lv (s.lp+1) d).1⟩,(loopP o.a.lv (s.lp+1) d).2)):=hd0 (by rw[←hR,← hHV];rfl)
 rw[hHV] at HH
 rw[hR]
 have H0:=hd0 h
 have OB:=hd0 (h.ownNe (t:=w.heap.size+1) (by omega))
 have L0:=hd0 (LQ.begin (ds:=ds) h)
 have HO:=hd0 ho
 have HSL:=hd0 hs
 have IT:=hd0 (show(Tryz.prog.info? 55).map (·.size)=some 7 by kernel_rfl)
 clear hR hHV h ho hs hds
 go_enter Tryz.func14,Tryz.ntmps14
 go_upto_region 1 with fail
 obtain⟨w0,hw0⟩:∃ z,((w.alloc (.cells #[.int .u8 ds.a,.int .u8 ds.b,.int .u8 ds.c,.int .u8 ds.d,.int .u8 ds.e,.int .u8 ds.f] 25)).alloc (.cells yS 55))=z:=⟨_,rfl⟩
 rw[hw0] at L0 ⊢
 clear hw0
 have d0:w0.cell? ⟨w.heap.size,0,none⟩=some (.int .u8 ds.a):=L0.out.b4.c 0 _ rfl
 have d1:w0.cell? ⟨w.heap.size,1,none⟩=some (.int .u8 ds.b):=L0.out.b4.c 1 _ rfl
 have d2:w0.cell? ⟨w.heap.size,2,none⟩=some (.int .u8 ds.c):=L0.out.b4.c 2 _ rfl
 have d3:w0.cell? ⟨w.heap.size,3,none⟩=some (.int .u8 ds.d):=L0.out.b4.c 3 _ rfl
 have d4:w0.cell? ⟨w.heap.size,4,none⟩=some (.int .u8 ds.e):=L0.out.b4.c 4 _ rfl
 have d5:w0.cell? ⟨w.heap.size,5,none⟩=some (.int .u8 ds.f):=L0.out.b4.c 5 _ rfl
 go_wp2_with fail
 with_reducible refine(HH.out _).mono ?_
 rintro en w1 ⟨rfl,hb1⟩
 have L1:=hd0 (L0.out.later hb1)
 clear hb1 L0 d0 d1 d2 d3 d4 d5 HH
 obtain⟨A0,hA0⟩:∃ A:Array Value,A=(snC sn0).toArray:=⟨_,rfl⟩
 have HA0:=hd0 hA0
 have SA0:=hd0 (show A0.size=7 by rw[hA0];rfl)
 have OA0:=hd0 (show A0.all (·.oneCell')=true by rw[hA0];simp[snC,Value.oneCell'])
 have IA0:=hd0 (show(Tryz.prog.info? 55).map (·.size)=some A0.size by rw[SA0.out];exact IT.out)
 have TA0:=hd0 (show A0.toList=snC sn0 by rw[hA0])
 clear hA0
 cases HV with
 | false =>
  have HZ:=hd0 (show R=(s,sn0,2) by rw[HR.out];rfl)
  clear HR
  have TH:=hd0 (L1.out.b6.there (n:=A0.size) (Nat.le_of_eq SA0.out))
  go_wp2_with ((with_reducible refine wpList_store_mid rfl 55 (.tmp 6) (.tmp 20) rfl (w.heap.size+1) 0 A0 ?hx ?hy TH.out IA0.out OA0.out ?_);(case hx=>rfl);(case hy=>(rw[HA0.out];rfl)))
  rw[TA0.out]
  obtain⟨F1,F2,F3⟩:=LQ.fill H0.out L1.out OB.out sn0
  exact bodyPost_ret (v:=.tuple #[.agg (snC sn0).toArray,.int .i64 2]) (res_two (p:=6) (u:=7) (d:=_) rfl rfl Tryz.underlying55 _ _ (w.heap.size+1) _ rfl F2 IT.out) rfl ⟨by rw[HZ.out],by rw[HZ.out];exact F1,F3⟩
 | true =>
  by_cases h64:64<d.length
  ·have d64:decide ((64:Int)<(d.length:Int))=true:=decide_eq_true (by omega)
   have HZ:=hd0 (show R=(s,sn0,5) by rw[HR.out,if_neg (by decide),if_pos h64])
   clear HR h64
   have TH:=hd0 (L1.out.b6.there (n:=A0.size) (Nat.le_of_eq SA0.out))
   go_wp2_with ((with_reducible refine wpList_store_mid rfl 55 (.tmp 6) (.tmp 25) rfl (w.heap.size+1) 0 A0 ?hx ?hy TH.out IA0.out OA0.out ?_);(case hx=>rfl);(case hy=>(rw[HA0.out];rfl)))
   rw[TA0.out]
   obtain⟨F1,F2,F3⟩:=LQ.fill H0.out L1.out OB.out sn0
   exact bodyPost_ret (v:=.tuple #[.agg (snC sn0).toArray,.int .i64 5]) (res_two (p:=6) (u:=7) (d:=_) rfl rfl Tryz.underlying55 _ _ (w.heap.size+1) _ rfl F2 IT.out) rfl ⟨by rw[HZ.out],by rw[HZ.out];exact F1,F3⟩
  ·have d64:decide ((64:Int)<(d.length:Int))=false:=decide_eq_false (by omega)
   have HZ:=hd0 (show R=({ s with lp:=s.lp+1,dat:=d,rep:=0,ali:=0 },⟨ds,(loopP o.a.lv (s.lp+1) d).1⟩,(loopP o.a.lv (s.lp+1) d).2) by rw[HR.out,if_neg (by decide),if_neg h64])
   have HD:=hd0 (show d.length≤64 by omega)
   clear HR h64
   have c17:w1.cell? ⟨x.p,17,none⟩=some (.int .u32 s.lp):=L1.out.mm.clpx
   have c18:=L1.out.mm.cdat
   have c19:=L1.out.mm.crep
   have c20:=L1.out.mm.cali
   have f17:=L1.out.mm.fz 17
   have f18:=L1.out.mm.fz 18
   have f19:=L1.out.mm.fz 19
   have f20:=L1.out.mm.fz 20
   have NX:Hid (∀ w,Calls Tryz.prog 46 #[.int .u32 s.lp] w fun en w'=>en=.returned (.int .u32 (s.lp+1))∧w'=w):=hd0 fun w=>next_any s.lp HSL.out w
   obtain⟨n1,hn1⟩:∃ z,s.lp+1=z:=⟨_,rfl⟩
   rw[hn1] at NX HZ
   go_upto_region 8 with(go_at_call 46;with_reducible refine(NX.out _).mono ?_;rintro e wt ⟨rfl,rfl⟩)
   have L2:=hd0 (LQ.st H0.out (LQ.st H0.out (LQ.st H0.out (LQ.st H0.out L1.out 17 _ (L1.out.mm.sLp n1)) 18 _ ((L1.out.mm.sLp n1).sDat d)) 19 _ (((L1.out.mm.sLp n1).sDat d).sRep 0)) 20 _ ((((L1.out.mm.sLp n1).sDat d).sRep 0).sAli 0))
   obtain⟨w2,hw2⟩:∃ z,((((wt.setCell ⟨x.p,17,none⟩ (.int .u32 n1)).setCell ⟨x.p,18,none⟩ (.string (bs d))).setCell ⟨x.p,19,none⟩ (.int .i64 0)).setCell ⟨x.p,20,none⟩ (.int .i64 0))=z:=⟨_,rfl⟩
   obtain⟨s2,hs2⟩:∃ z:Ms,{ s with lp:=n1,dat:=d,rep:=0,ali:=0 }=z:=⟨_,rfl⟩
   have hl2:n1=s2.lp:=by rw[←hs2]
   rw[hw2] at L2 ⊢
   have L2':Hid (LQ w w2 o ov x s2 wv wv ds):=hd0 (by rw[←hs2];exact L2.out)
   rw[hs2] at HZ
   have HN:=hd0 (show 0≤n1∧n1<4294967296 by have:=HSL.out;omega)
   rw[hl2] at HZ HN
   clear L2 L1 hw2 hs2 c17 c18 c19 c20 f17 f18 f19 f20 NX hn1 hl2
   have HPB:=hd0 (putL_ok (n:=s2.lp) (d:=d) HO.out.a.lv (by have:=HD.out;omega))
   obtain⟨⟨p1,p2,P,L,pe⟩,hP⟩:∃ z,putL o.a.lv false s2.lp d=z:=⟨_,rfl⟩
   have PR:Hid (∀ W,Calls Tryz.prog 47 #[.agg #[.int .u8 o.a.lv,.bool false,.int .u32 s2.lp,.string (bs d)]] W fun en w' =>
     ∃ v',en=.returned (.tuple #[.agg #[.int .u8 p1,.int .u8 p2,.int .u8 0,.string (bs P),v'],.int .i64 pe])∧TlT w' W.heap.size v' L∧Below W.heap.size W w'):=hd0 fun W=>by
    have h:=lbput_any o.a.lv false s2.lp d W (by have:=HD.out;omega) HN.out
    rw[hP] at h;exact h
   rw[hP] at HPB
   have HPQ:Hid (PdB p1 p2 0 P L):=hd0 HPB.out
   obtain⟨⟨PS,PE⟩,hPS⟩:∃ z,putP p1 p2 0 P L=z:=⟨_,rfl⟩
   have HLP:Hid (loopP o.a.lv s2.lp d=(PS,PE)):=hd0 (by unfold loopP;rw[hP,← hPS])
   rw[HLP.out] at HZ
   have PU:Hid (∀ W v,Tls W v L→Calls Tryz.prog 48 #[.agg #[.int .u8 p1,.int .u8 p2,.int .u8 0,.string (bs P),v]] W fun en w'=>en=.returned (.tuple #[.string (bs PS),.int .i64 PE])∧Below W.heap.size W w'):=hd0 fun W v hv=>by
    have h:=cput_any v p1 p2 0 P L W hv (by have:=HPQ.out.pl;omega) (fun y hy=>by have:=HPQ.out.ps y hy;unfold maxLen;omega) (by have:=HPQ.out.pf;omega) HPQ.out.pm HPQ.out.pa HPQ.out.pb HPQ.out.pc
    rw[hPS] at h;exact h
   clear hP hPS HPB HLP HSL
   go_cut [8] (fun s8 wx=>∃ (bx:Nat) (v':Value),s8=.pointer (some ⟨bx,0,none⟩)∧Hid (PB 103 wx bx p1 p2 0 P v'∧Tls wx v' L∧LQ w wx o ov x s2 wv wv ds))
   case first =>
    have cd:LQ w w2.drew o ov x s2 wv wv ds:=L2'.out.drew
    have cal:∀ ob,LQ w (w2.alloc ob).drew o ov x s2 wv wv ds:=fun ob=>(L2'.out.alloc ob).drew
    have pzd:PB 103 (w2.alloc (.cells yU 103)).drew w2.heap.size 0 0 0 [] (.slice none 0 0):=PB.zero 103 w2
    have hle:w2.heap.size≤w2.heap.size:=Nat.le_refl _
    go_region_held3 (fun W=>W.cell? ⟨x.p,0,none⟩=some (.int .u8 o.a.lv)∧W.cell? ⟨x.p,17,none⟩=some (.int .u32 s2.lp))
     (first|with_reducible exact cd.lp|with_reducible exact(cal _).lp|with_reducible exact cx.lp|with_reducible exact(cx.five L2'.out hle _ _ _ _ _).lp|with_reducible exact(cx.alloc _).lp)
     (first
      | (go_at_call 47; (with_reducible refine (PR.out _).mono ?_); rintro en wx ⟨v', rfl, htl, hbx⟩; obtain ⟨ax, cx0, hvx, -⟩ := htl.tls.shape; obtain ⟨m1, hm1⟩ : ∃ n, L.length = n := ⟨_, rfl⟩; rw [hm1] at hvx; subst hvx; clear hm1
         have cx:LQ w wx o ov x s2 wv wv ds:=by with_reducible exact cd.later hbx
         have zy:=PB.zero 103 wx
         have q0:=zy.c0;have q1:=zy.c1;have q2:=zy.c2;have q3:=zy.c3;have q4:=zy.c4;have f0:=zy.fr 0;have f1:=zy.fr 1;have f2:=zy.fr 2;have f3:=zy.fr 3;have f4:=zy.fr 4)
      | (go_at_call 47; (with_reducible refine (PR.out _).mono ?_); rintro en wx ⟨v', rfl, htl, hbx⟩; obtain ⟨ax, cx0, hvx, -⟩ := htl.tls.shape; obtain ⟨m1, hm1⟩ : ∃ n, L.length = n := ⟨_, rfl⟩; rw [hm1] at hvx; subst hvx; clear hm1
         have cx:LQ w wx o ov x s2 wv wv ds:=by with_reducible exact(cal _).later hbx
         have zy:PB 103 wx w2.heap.size 0 0 0 [] (.slice none 0 0):=by with_reducible exact pzd.later hbx
         have q0:=zy.c0;have q1:=zy.c1;have q2:=zy.c2;have q3:=zy.c3;have q4:=zy.c4;have f0:=zy.fr 0;have f1:=zy.fr 1;have f2:=zy.fr 2;have f3:=zy.fr 3;have f4:=zy.fr 4))
    all_goals
     go_wp2
     go_meet
     refine⟨_,.slice ax m1 cx0,by with_reducible rfl,hd0 ⟨?ca,?cb,?cc⟩⟩
     case ca=>first|with_reducible exact PB.sets5G zy|exact PB.new _ _ _ _ _ _ _
     case cc=>first|with_reducible exact cx.five L2'.out hle _ _ _ _ _|with_reducible exact cx.alloc _
     case cb =>
      first
       | with_reducible exact htl.tls.later (bA _)
       | exact htl.tls.fr' (D:=fun k=>k=w2.heap.size) Fr.five (fun g hg e=>by
         have h1:=(World.ownsRow.lt htl g hg).1
         rw[World.size_drew,World.size_alloc] at h1
         have h2:g=w2.heap.size:=e
         omega)
   case rest =>
    obtain⟨bx,v',rfl,HC⟩:=hcut
    have L3:=hd0 HC.out.2.2
    have q0:=HC.out.1.c0
    have q1:=HC.out.1.c1
    have q2:=HC.out.1.c2
    have q3:=HC.out.1.c3
    have q4:=HC.out.1.c4
    have PU1:=hd0 (PU.out wc v' HC.out.2.1)
    clear HC L2' PR PU
    go_wp2_with fail
    with_reducible refine PU1.out.mono ?_
    rintro en w3 ⟨rfl,hb3⟩
    have L4:=hd0 (L3.out.later hb3)
    clear hb3 L3 PU1 q0 q1 q2 q3 q4
    have d0:w3.cell? ⟨w.heap.size,0,none⟩=some (.int .u8 ds.a):=L4.out.b4.c 0 _ rfl
    have d1:w3.cell? ⟨w.heap.size,1,none⟩=some (.int .u8 ds.b):=L4.out.b4.c 1 _ rfl
    have d2:w3.cell? ⟨w.heap.size,2,none⟩=some (.int .u8 ds.c):=L4.out.b4.c 2 _ rfl
    have d3:w3.cell? ⟨w.heap.size,3,none⟩=some (.int .u8 ds.d):=L4.out.b4.c 3 _ rfl
    have d4:w3.cell? ⟨w.heap.size,4,none⟩=some (.int .u8 ds.e):=L4.out.b4.c 4 _ rfl
    have d5:w3.cell? ⟨w.heap.size,5,none⟩=some (.int .u8 ds.f):=L4.out.b4.c 5 _ rfl
    obtain⟨A1,hA1⟩:∃ A:Array Value,A=(snC ⟨ds,PS⟩).toArray:=⟨_,rfl⟩
    have HA1:=hd0 hA1
    have SA1:=hd0 (show A1.size=7 by rw[hA1];rfl)
    have OA1:=hd0 (show A1.all (·.oneCell')=true by rw[hA1];simp[snC,Value.oneCell'])
    have IA1:=hd0 (show(Tryz.prog.info? 55).map (·.size)=some A1.size by rw[SA1.out];exact IT.out)
    have TA1:=hd0 (show A1.toList=snC ⟨ds,PS⟩ by rw[hA1])
    have TH:=hd0 (L4.out.b6.there (n:=A1.size) (Nat.le_of_eq SA1.out))
    clear hA1
    go_wp2_with ((with_reducible refine wpList_store_mid rfl 55 (.tmp 6) (.tmp 66) rfl (w.heap.size+1) 0 A1 ?hx ?hy TH.out IA1.out OA1.out ?_);(case hx=>rfl);(case hy=>(rw[HA1.out];rfl)))
    rw[TA1.out]
    obtain⟨F1,F2,F3⟩:=LQ.fill H0.out L4.out OB.out ⟨ds,PS⟩
    exact bodyPost_ret (v:=.tuple #[.agg (snC ⟨ds,PS⟩).toArray,.int .i64 PE]) (res_two (p:=6) (u:=7) (d:=_) rfl rfl Tryz.underlying55 _ _ (w.heap.size+1) _ rfl F2 IT.out) rfl ⟨by rw[HZ.out],by rw[HZ.out];exact F1,F3⟩
end Go.Proofs.YtlkdfofpnmpidaaGreat
