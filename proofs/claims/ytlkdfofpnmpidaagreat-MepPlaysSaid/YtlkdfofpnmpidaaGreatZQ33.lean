/- ZQ33 -/
import Derived.Test.YtlkdfofpnmpidaaGreatZQ31
import Derived.Test.YtlkdfofpnmpidaaGreatZQ32
set_option linter.unusedVariables false
set_option linter.unusedSimpArgs false
set_option maxRecDepth 100000
set_option maxHeartbeats 16000000
namespace Go.Proofs.YtlkdfofpnmpidaaGreat
open Go.RowKit
section
variable {w W:World} {R:Nat} {A:Array Value} {o:Ow20} {ov:Value} {x:Mp} {s:Ms} {wv:Value} {v:Rv} {r:Rf} {ks:List Int} {j:Nat}
theorem PM.mTick (h:PM w W R A o ov x s wv v r)(ho:o.Ok)(hlv:o.a.lv<8)(hs:s.Ok) :
  Calls Tryz.prog 11 #[.pointer (some ⟨x.p,0,none⟩)] W fun en w'=>∃ u,en=.returned (.tuple #[u,.int .u8 (tickM o s).2.2])∧PM w w' R A o ov x (tickM o s).1 wv v r∧Ow 7 snC 55 w' W.heap.size u (tickM o s).2.1∧Fr (x.D wv) W w' :=
 (mtick_any o ho hlv ov x s wv W h.mm hs).mono fun en w' ⟨u,he,hu,hm,hf⟩=>⟨u,he,h.mach hm hf (fun g hg=>.inl hg),hu,hf⟩
theorem PM.mTake (h:PM w W R A o ov x s wv v r)(ho:o.Ok)(hlv:o.a.lv<8)(hs:s.Ok)(hl:Rel o ks s r)(hr:RJ j r)(hj:j≤900)(sr ds:Mc)(hsr:sr.Ok)(d:List UInt8)(hd:d.length≤1600) :
  Calls Tryz.prog 18 #[.pointer (some ⟨x.p,0,none⟩),.agg #[.int .u8 sr.a,.int .u8 sr.b,.int .u8 sr.c,.int .u8 sr.d,.int .u8 sr.e,.int .u8 sr.f],.agg #[.int .u8 ds.a,.int .u8 ds.b,.int .u8 ds.c,.int .u8 ds.d,.int .u8 ds.e,.int .u8 ds.f],.string (bs d)] W fun en w'=>∃ u wv',en=.returned u∧PM w w' R A o ov x (takeM o s sr ds d).1 wv' v r∧Ow 7 snC 55 w' W.heap.size u (takeM o s sr ds d).2∧Fr (x.D wv) W w' :=
 (mtake_any o ho hlv ov x s wv hs sr ds hsr d hd W h.mm (by
  intro p hp
  rw[(opM_al o s sr ds _ _ _ _ _).2,hl.bad] at hp
  have:=hr.bad
  omega)).mono fun en w' ⟨u,wv',he,hu,hm,hf,hw⟩=>⟨u,wv',he,h.mach hm hf hw,hu,hf⟩
theorem PM.mLoop (h:PM w W R A o ov x s wv v r)(ho:o.Ok)(hs:0≤s.lp∧s.lp<1000000)(ds:Mc)(hds:ds.Ok)(d:List UInt8)(hd:d.length≤1600) :
  Calls Tryz.prog 14 #[.pointer (some ⟨x.p,0,none⟩),.agg #[.int .u8 ds.a,.int .u8 ds.b,.int .u8 ds.c,.int .u8 ds.d,.int .u8 ds.e,.int .u8 ds.f],.string (bs d)] W fun en w'=>en=.returned (.tuple #[.agg (snC (loopM o s ds d).2.1).toArray,.int .i64 (loopM o s ds d).2.2])∧PM w w' R A o ov x (loopM o s ds d).1 wv v r∧Fr (x.D wv) W w' :=
 (mloop_any o ho ov x s wv hs ds hds d (by unfold maxLen;omega) W h.mm).mono fun en w' ⟨he,hm,hf⟩=>⟨he,h.mach hm hf (fun g hg=>.inl hg),hf⟩
theorem PM.mTrace (h:PM w W R A o ov x s wv v r)(ho:o.Ok)(hlv:o.a.lv<8)(hs:0≤s.tr∧s.tr<1000000)(ds:Mc)(hds:ds.Ok)(tl:Int)(htl:0≤tl∧tl<256) :
  Calls Tryz.prog 16 #[.pointer (some ⟨x.p,0,none⟩),.agg #[.int .u8 ds.a,.int .u8 ds.b,.int .u8 ds.c,.int .u8 ds.d,.int .u8 ds.e,.int .u8 ds.f],.int .u8 tl] W fun en w'=>∃ wv',en=.returned (.tuple #[.agg (snC (traceM o s ds tl).2.1).toArray,.int .i64 (traceM o s ds tl).2.2])∧PM w w' R A o ov x (traceM o s ds tl).1 wv' v r∧Fr (x.D wv) W w' :=
 (mtrace_any o ho hlv ov x s wv hs ds hds tl htl W h.mm).mono fun en w' ⟨he,⟨wv',hm,hw⟩,hf⟩=>⟨wv',he,h.mach hm hf (fun g hg=>.inl (hw g hg)),hf⟩
theorem PM.rTick (h:PM w W R A o ov x s wv v r)(hk:Rw 1 u1 w ov ks)(ho:o.Ok)(hlv:o.a.lv<8)(hkl:ks.length≤1000)(hkb:∀ x∈ks,1≤x∧x≤8191)(hr:RJ j r)(hj:j≤900) :
  Calls Tryz.prog 12 #[.agg (rfA o v r)] W fun en w'=>∃ v' u,en=.returned (.tuple #[.agg (rfA o v' (tick20 o ks r).1),u,.int .u8 (tick20 o ks r).2.2])∧(PM w w' R A o ov x s wv v' (tick20 o ks r).1∧(rfA o v' (tick20 o ks r).1).all (·.oneCell')=true)∧Ow 7 snC 58 w' W.heap.size u (tick20 o ks r).2.1∧Below W.heap.size W w' :=
 (tick20_any o ho hlv ks hkl hkb v r (hr.rk hj).ok (by have:=hr.nw;omega) (by have:=hr.wl;omega) W (h.rx hk)).mono fun en w' ⟨s',u,he,hs,hu,hb⟩=>by
  have h1:PM w w' R A o ov x s wv { v with sv:=s' } (tick20 o ks r).1:=h.ref hb rfl (.inl ⟨rfl,rfl⟩) (.inr hs) (.inl ⟨rfl,rfl⟩)
  exact⟨_,u,he,⟨h1,h1.one hk⟩,hu,hb⟩
theorem PM.rTake (h:PM w W R A o ov x s wv v r)(hk:Rw 1 u1 w ov ks)(ho:o.Ok)(hlv:o.a.lv<8)(hr:RJ j r)(hj:j≤900)(sr ds:Mc)(hsr:sr.Ok)(hds:ds.Ok)(d:List UInt8)(hd:d.length≤1600) :
  Calls Tryz.prog 19 #[.agg (rfA o v r),.agg #[.int .u8 sr.a,.int .u8 sr.b,.int .u8 sr.c,.int .u8 sr.d,.int .u8 sr.e,.int .u8 sr.f],.agg #[.int .u8 ds.a,.int .u8 ds.b,.int .u8 ds.c,.int .u8 ds.d,.int .u8 ds.e,.int .u8 ds.f],.string (bs d)] W fun en w'=>∃ v' u,en=.returned (.tuple #[.agg (rfA o v' (take20 o r sr ds d).1),u])∧(PM w w' R A o ov x s wv v' (take20 o r sr ds d).1∧(rfA o v' (take20 o r sr ds d).1).all (·.oneCell')=true)∧Ow 7 snC 58 w' W.heap.size u (take20 o r sr ds d).2∧Below W.heap.size W w' :=
 (take20_any o ho hlv ks v r (hr.rk hj) sr ds hsr hds d hd W (h.rx hk)).mono fun en w' ⟨v',u,he,hv,hu,hb⟩=>by
  have h1:PM w w' R A o ov x s wv v' (take20 o r sr ds d).1:=h.ref hb hv.ov hv.hd (.inl ⟨hv.sv,hv.ws⟩) hv.wy
  exact⟨v',u,he,⟨h1,h1.one hk⟩,hu,hb⟩
theorem ask20_same (o:Ow20)(r:Rf)(m:Mc)(d:List UInt8):(ask20 o r m d).1.hd=r.hd∧(ask20 o r m d).1.ws=r.ws∧(ask20 o r m d).1.way=r.way:=by
 unfold ask20
 (repeat' split) <;> exact⟨rfl,rfl,rfl⟩
theorem PM.rAsk (h:PM w W R A o ov x s wv v r)(hk:Rw 1 u1 w ov ks)(ho:o.Ok)(hlv:o.a.lv<8)(hr:RJ j r)(hj:j≤900)(ds:Mc)(hds:ds.Ok)(d:List UInt8)(hd:d.length≤1600) :
  Calls Tryz.prog 15 #[.agg (rfA o v r),.agg #[.int .u8 ds.a,.int .u8 ds.b,.int .u8 ds.c,.int .u8 ds.d,.int .u8 ds.e,.int .u8 ds.f],.string (bs d)] W fun en w'=>∃ v',en=.returned (.tuple #[.agg (rfA o v' (ask20 o r ds d).1),.agg (snC (ask20 o r ds d).2.1).toArray,.int .i64 (ask20 o r ds d).2.2])∧(PM w w' R A o ov x s wv v' (ask20 o r ds d).1∧(rfA o v' (ask20 o r ds d).1).all (·.oneCell')=true)∧Below W.heap.size W w' :=
 (ask20_any o ho hlv ks v r (hr.rk hj).ok (by have:=hr.lp;omega) ds hds d hd W (h.rx hk)).mono fun en w' ⟨he,hb⟩=>by
  obtain⟨a1,a2,a3⟩:=ask20_same o r ds d
  have h1:PM w w' R A o ov x s wv v (ask20 o r ds d).1:=h.ref hb rfl (.inl ⟨rfl,a1⟩) (.inl ⟨rfl,a2⟩) (.inl ⟨rfl,a3⟩)
  exact⟨v,he,⟨h1,h1.one hk⟩,hb⟩
theorem PM.rSeek (h:PM w W R A o ov x s wv v r)(hk:Rw 1 u1 w ov ks)(ho:o.Ok)(hlv:o.a.lv<8)(hr:RJ j r)(hj:j≤900)(ds:Mc)(hds:ds.Ok)(tl:Int)(htl:0≤tl∧tl<256) :
  Calls Tryz.prog 17 #[.agg (rfA o v r),.agg #[.int .u8 ds.a,.int .u8 ds.b,.int .u8 ds.c,.int .u8 ds.d,.int .u8 ds.e,.int .u8 ds.f],.int .u8 tl] W fun en w'=>∃ v',en=.returned (.tuple #[.agg (rfA o v' (seek20 o r ds tl).1),.agg (snC (seek20 o r ds tl).2.1).toArray,.int .i64 (seek20 o r ds tl).2.2])∧(PM w w' R A o ov x s wv v' (seek20 o r ds tl).1∧(rfA o v' (seek20 o r ds tl).1).all (·.oneCell')=true)∧Below W.heap.size W w' :=
 (seek20_any o ho hlv ks v r (hr.rk hj).ok (by have:=hr.tr;omega) ds hds tl htl W (h.rx hk)).mono fun en w' ⟨v',he,hv,hb⟩=>by
  have h1:PM w w' R A o ov x s wv v' (seek20 o r ds tl).1:=h.ref hb hv.ov hv.hd (.inl ⟨hv.sv,hv.ws⟩) hv.wy
  exact⟨v',he,⟨h1,h1.one hk⟩,hb⟩
theorem PM.box (h:PM w W R A o ov x s wv v r)(h1:(rfA o v r).all (·.oneCell')=true):PM w (((W.alloc (.cells yP 44)).setCells W.heap.size 0 (rfA o v r).toList).setCells R 0 (rfA o v r).toList) R (rfA o v r) o ov x s wv v r∧Below W.heap.size W ((W.alloc (.cells yP 44)).setCells W.heap.size 0 (rfA o v r).toList)∧GB 44 ((W.alloc (.cells yP 44)).setCells W.heap.size 0 (rfA o v r).toList) W.heap.size (rfA o v r):=by
 have hb:=below_cellsG (Nat.le_refl _) (rfA o v r).toList 0 _ ((Below.refl W.heap.size W).alloc (Nat.le_refl _) (.cells yP 44))
 exact⟨(h.later hb).put h1,hb,(GB.new 44 W #[.int .u8 0,.int .u8 0,.string { data:=#[] },.int .u16 0,.slice none 0 0,.int .u8 0,.int .u8 0,.int .u8 0,.int .u8 0,.int .u8 0,.int .u8 0,.int .u8 0,.slice none 0 0,.int .i64 0,.slice none 0 0,.int .u64 0,.int .u32 0,.string { data:=#[] },.int .i64 0,.int .i64 0,.int .u32 0,.slice none 0 0]).store (by rfl) h1⟩
theorem PM.box2 (h:PM w W R A o ov x s wv v r)(h1:(rfA o v r).all (·.oneCell')=true)(y:Sn) :
  ∃ wc,wc=(((W.alloc (.cells yP 44)).alloc (.cells yS 58)).setCells W.heap.size 0 (rfA o v r).toList).setCells (W.heap.size+1) 0 (snC y) ∧
  PM w (wc.setCells R 0 (rfA o v r).toList) R (rfA o v r) o ov x s wv v r∧Below W.heap.size W wc∧GB 44 wc W.heap.size (rfA o v r)∧GB 58 (wc.setCells R 0 (rfA o v r).toList) (W.heap.size+1) (snC y).toArray:=by
 have hR:=h.gb.lt
 have g1:=GB.new 58 (W.alloc (.cells yP 44)) #[.int .u8 0,.int .u8 0,.int .u8 0,.int .u8 0,.int .u8 0,.int .u8 0,.string { data:=#[] }]
 rw[show(W.alloc (.cells yP 44)).heap.size=W.heap.size+1 by simp] at g1
 have g0:=(GB.new 44 W #[.int .u8 0,.int .u8 0,.string { data:=#[] },.int .u16 0,.slice none 0 0,.int .u8 0,.int .u8 0,.int .u8 0,.int .u8 0,.int .u8 0,.int .u8 0,.int .u8 0,.slice none 0 0,.int .i64 0,.slice none 0 0,.int .u64 0,.int .u32 0,.string { data:=#[] },.int .i64 0,.int .i64 0,.int .u32 0,.slice none 0 0]).later (bA (.cells yS 58))
 have hb:Below W.heap.size W ((W.alloc (.cells yP 44)).alloc (.cells yS 58)):=(bA _).alloc (by simp) _
 have hb2:=below_cellsG (Nat.le_refl _) (rfA o v r).toList 0 _ hb
 have hb3:=below_cellsG (show W.heap.size≤W.heap.size+1 by omega) (snC y) 0 _ hb2
 have g2:GB 44 _ W.heap.size (rfA o v r):=g0.store (by rfl) h1
 have g3:=GB.cellsOther (show W.heap.size≠W.heap.size+1 by omega) (rfA o v r).toList 0 _ g1
 have g4:=g3.store (A:=(snC y).toArray) rfl (snA_one y)
 rw[List.toList_toArray] at g4
 exact⟨_,rfl,(h.later hb3).put h1,hb3,GB.cellsOther (by omega) (snC y) 0 _ g2,GB.cellsOther (by omega) _ _ _ g4⟩
theorem PM.box1 (h:PM w W R A o ov x s wv v r)(y:Sn) :
  ∃ wc,wc=(W.alloc (.cells yS 55)).setCells W.heap.size 0 (snC y)∧PM w wc R A o ov x s wv v r∧Below W.heap.size W wc∧GB 55 wc W.heap.size (snC y).toArray:=by
 have g1:=GB.new 55 W #[.int .u8 0,.int .u8 0,.int .u8 0,.int .u8 0,.int .u8 0,.int .u8 0,.string { data:=#[] }]
 have hb3:=below_cellsG (Nat.le_refl _) (snC y) 0 _ ((Below.refl W.heap.size W).alloc (Nat.le_refl _) (.cells yS 55))
 have g4:=g1.store (A:=(snC y).toArray) rfl (snA_one y)
 rw[List.toList_toArray] at g4
 exact⟨_,rfl,h.later hb3,hb3,g4⟩
end
theorem info_sm:(Tryz.prog.info? 55).map (·.size)=some 7:=by kernel_rfl
theorem act15 {T:TypeId}{W:World}{C:Nat}{y:Ac}(h:GB T W C (acC y).toArray):W.cell? ⟨C,0,none⟩=some (.int .u8 y.dq)∧W.cell? ⟨C,1,none⟩=some (.int .u8 y.sr.a)∧W.cell? ⟨C,2,none⟩=some (.int .u8 y.sr.b)∧W.cell? ⟨C,3,none⟩=some (.int .u8 y.sr.c)∧W.cell? ⟨C,4,none⟩=some (.int .u8 y.sr.d)∧W.cell? ⟨C,5,none⟩=some (.int .u8 y.sr.e)∧W.cell? ⟨C,6,none⟩=some (.int .u8 y.sr.f)∧W.cell? ⟨C,7,none⟩=some (.int .u8 y.ds.a)∧W.cell? ⟨C,8,none⟩=some (.int .u8 y.ds.b)∧W.cell? ⟨C,9,none⟩=some (.int .u8 y.ds.c)∧W.cell? ⟨C,10,none⟩=some (.int .u8 y.ds.d)∧W.cell? ⟨C,11,none⟩=some (.int .u8 y.ds.e)∧W.cell? ⟨C,12,none⟩=some (.int .u8 y.ds.f)∧W.cell? ⟨C,13,none⟩=some (.string (bs y.dt))∧W.cell? ⟨C,14,none⟩=some (.int .u8 y.tl) :=
 ⟨h.c 0 _ rfl,h.c 1 _ rfl,h.c 2 _ rfl,h.c 3 _ rfl,h.c 4 _ rfl,h.c 5 _ rfl,h.c 6 _ rfl,h.c 7 _ rfl,h.c 8 _ rfl,h.c 9 _ rfl,h.c 10 _ rfl,h.c 11 _ rfl,h.c 12 _ rfl,h.c 13 _ rfl,h.c 14 _ rfl⟩
theorem sent7 {T:TypeId}{W:World}{C:Nat}{y:Sn}(h:GB T W C (snC y).toArray):W.cell? ⟨C,0,none⟩=some (.int .u8 y.m.a)∧W.cell? ⟨C,1,none⟩=some (.int .u8 y.m.b)∧W.cell? ⟨C,2,none⟩=some (.int .u8 y.m.c)∧W.cell? ⟨C,3,none⟩=some (.int .u8 y.m.d)∧W.cell? ⟨C,4,none⟩=some (.int .u8 y.m.e)∧W.cell? ⟨C,5,none⟩=some (.int .u8 y.m.f)∧W.cell? ⟨C,6,none⟩=some (.string (bs y.d)) :=
 ⟨h.c 0 _ rfl,h.c 1 _ rfl,h.c 2 _ rfl,h.c 3 _ rfl,h.c 4 _ rfl,h.c 5 _ rfl,h.c 6 _ rfl⟩
theorem there_two (W:World)(L S:Array Value)(hs:S.size=7):World.there (((W.alloc (.cells yP 44)).alloc (.cells yS 58)).setCells W.heap.size 0 L.toList) (W.heap.size+1) 0 S.size:=by
 have g1:=GB.new 58 (W.alloc (.cells yP 44)) #[.int .u8 0,.int .u8 0,.int .u8 0,.int .u8 0,.int .u8 0,.int .u8 0,.string { data:=#[] }]
 rw[show(W.alloc (.cells yP 44)).heap.size=W.heap.size+1 by simp] at g1
 exact(GB.cellsOther (show W.heap.size≠W.heap.size+1 by omega) L.toList 0 _ g1).there (by rw[hs];exact Nat.le_refl _)
theorem rowOne (W:World)(y:Sn):Calls Tryz.prog 13 #[.slice (some ⟨W.heap.size,0,none⟩) 1 1,.slice (some ⟨W.heap.size+1,0,none⟩) 1 1] ((W.alloc (.cells #[.int .u8 y.m.a,.int .u8 y.m.b,.int .u8 y.m.c,.int .u8 y.m.d,.int .u8 y.m.e,.int .u8 y.m.f,.string (bs y.d)] 55)).alloc (.cells #[.int .u8 y.m.a,.int .u8 y.m.b,.int .u8 y.m.c,.int .u8 y.m.d,.int .u8 y.m.e,.int .u8 y.m.f,.string (bs y.d)] 58)) fun en w'=>en=.returned (.bool true)∧Below W.heap.size W w':=by
 have h1:=(Ow.lit (E:=55) snC_len W 0 y #[.int .u8 y.m.a,.int .u8 y.m.b,.int .u8 y.m.c,.int .u8 y.m.d,.int .u8 y.m.e,.int .u8 y.m.f,.string (bs y.d)] rfl (Nat.zero_le _)).later (bA (.cells #[.int .u8 y.m.a,.int .u8 y.m.b,.int .u8 y.m.c,.int .u8 y.m.d,.int .u8 y.m.e,.int .u8 y.m.f,.string (bs y.d)] 58))
 have h2:=Ow.lit (E:=58) snC_len (W.alloc (.cells #[.int .u8 y.m.a,.int .u8 y.m.b,.int .u8 y.m.c,.int .u8 y.m.d,.int .u8 y.m.e,.int .u8 y.m.f,.string (bs y.d)] 55)) 0 y #[.int .u8 y.m.a,.int .u8 y.m.b,.int .u8 y.m.c,.int .u8 y.m.d,.int .u8 y.m.e,.int .u8 y.m.f,.string (bs y.d)] rfl (Nat.zero_le _)
 rw[show(W.alloc (.cells #[.int .u8 y.m.a,.int .u8 y.m.b,.int .u8 y.m.c,.int .u8 y.m.d,.int .u8 y.m.e,.int .u8 y.m.f,.string (bs y.d)] 55)).heap.size=W.heap.size+1 by simp] at h2
 have hb:Below W.heap.size W ((W.alloc (.cells #[.int .u8 y.m.a,.int .u8 y.m.b,.int .u8 y.m.c,.int .u8 y.m.d,.int .u8 y.m.e,.int .u8 y.m.f,.string (bs y.d)] 55)).alloc (.cells #[.int .u8 y.m.a,.int .u8 y.m.b,.int .u8 y.m.c,.int .u8 y.m.d,.int .u8 y.m.e,.int .u8 y.m.f,.string (bs y.d)] 58)):=(bA _).alloc (by simp) _
 exact(row20_any _ _ [y] [y] _ (h1.rw snC_len) (h2.rw snC_len) (by simp) rfl).mono fun en w' ⟨he,h⟩=>⟨he,hb.trans (h.mono hb.size)⟩
open Go.ChangeShapes Go.WideShapes Go.ChangeAt Go.RowKit Go.Deep
theorem rd_rows {α:Type}{k:Nat}{f:α→List Value}{Ok:α→Prop}{S E:TypeId}(hu:Tryz.prog.underlying S=some (.slice E))(ce:Tryz.prog.cellsOf E=k)(hf:∀ x,(f x).length=k)(hk:0<k) [Inhabited α]
  {H:Type} {enc:TypeId × Value→H} {w:World} {r:Reach} {b0 base:Nat} {spare:Nat→Bool} {held:Bool} {v:Value} {d:DataW H} {p:List MemPlace}
  (hel:∀ (n:Nat) (cs:List Value) (y:DataW H × List MemPlace),cs.length=k→DataW.trod enc Tryz.prog w base spare held n E cs=some y→∃ q:α,cs=f q∧Ok q)
  (hv:Value.okWide Tryz.prog w r b0 S v) (h:DataW.Trod enc Tryz.prog w base spare held S v d p):∃ (l:List α),v=v∧(Rw k f w v l∧l.length≤maxLen∧∀ x∈l,Ok x):=by
 obtain⟨a,len,cap,rfl⟩:=okWide_slice hu hv
 obtain⟨fuel,hF⟩:=h
 rcases open_slice hu hF with⟨hcs,_⟩|⟨x,len',cap',m,n,D,Pl,hcs,_,hl,hm,hmm,_,hi⟩
 ·simp[Value.cells] at hcs
  obtain⟨rfl,rfl,rfl⟩:=hcs
  exact⟨[],rfl,Rw.nil w,Nat.zero_le _,by simp⟩
 ·simp[Value.cells] at hcs
  obtain⟨rfl,rfl,rfl⟩:=hcs
  have hlm:len≤m:=by rw[hmm];split <;> omega
  have el:∀ i,i<len→∃ q:α,(∀ c,c<k→w.cell? ((x.add (i*k)).add c)=(f q)[c]?)∧Ok q:=by
   intro i hil
   obtain⟨cs',hc,ht'⟩:=hi i (by omega)
   rw[ce] at hc
   obtain⟨_,hcl,hat⟩:=World.cells?_some hc
   obtain⟨q,rfl,hok⟩:=hel _ cs' _ hcl ht'
   exact⟨q,fun c hck=>hat c hck,hok⟩
  obtain⟨g,hfl⟩:=choose_lt el
  by_cases hz:len=0
  ·subst hz
   exact⟨[],rfl,.inr ⟨x,cap,rfl,.inl rfl⟩,Nat.zero_le _,by simp⟩
  ·obtain⟨b,off,spot⟩:=x
   have hspot:spot=Option.none:=by
    have h0:=(hfl 0 (by omega)).1 0 hk
    rw[List.getElem?_eq_getElem (by rw[hf];exact hk)] at h0
    simpa [Addr.add] using World.cell?_spot h0
   subst hspot
   refine⟨(List.range len).map g,rfl,.inr ⟨⟨b,off,Option.none⟩,cap,by simp,.inr ⟨b,off,rfl,fun j hj i hik=>?_⟩⟩,by simp;omega,fun y hy=>?_⟩
   rotate_left
   ·obtain⟨j,hj,rfl⟩:=List.mem_map.1 hy
    exact(hfl j (List.mem_range.1 hj)).2
   have hj':j<len:=by simpa using hj
   have a1:=(hfl j hj').1 i hik
   rw[add_plain,add_plain] at a1
   simpa using a1
open Go.ChangeShapes Go.WideShapes Go.ChangeAt Go.RowKit Go.Joins
def wfM (a b c d e f:Int):Prop:=(0≤a∧a<256)∧(0≤b∧b<256)∧(0≤c∧c<256)∧(0≤d∧d<256)∧(0≤e∧e<256)∧(0≤f∧f<256)
theorem six_of_cells {H:Type}{enc:TypeId × Value→H}{P:Program}{w:World}{base:Nat}{spare:Nat→Bool}{held:Bool}{fuel:Nat}{t e:TypeId}{cs:List Value}{x:DataW H × List MemPlace}
  (ht:P.underlying t=some (.array 6 e)) (he:P.underlying e=some (.int .u8)) (hce:P.cellsOf e=1) (hct:P.cellsOf t=6)
  (h:DataW.trod enc P w base spare held fuel t cs=some x) :
  ∃ a b c d e f:Int,cs=[.int .u8 a,.int .u8 b,.int .u8 c,.int .u8 d,.int .u8 e,.int .u8 f]∧wfM a b c d e f:=by
 obtain⟨xs,m,_,_,hl,hxs,hi⟩:=DataW.trod_array ht h
 rw[hct] at hl
 match cs,hl with
 |[c0,c1,c2,c3,c4,c5],_ =>
  have g:∀ (i:Nat),i<6→(xs[i]?).isSome=true:=fun i h=>by simp[hxs,h]
  have h0:=hi 0 (by omega)
  have h1:=hi 1 (by omega)
  have h2:=hi 2 (by omega)
  have h3:=hi 3 (by omega)
  have h4:=hi 4 (by omega)
  have h5:=hi 5 (by omega)
  rw[hce] at h0 h1 h2 h3 h4 h5
  obtain⟨a0,rfl,w0⟩:=trod_int1 he (by simpa using h0) (g 0 (by omega))
  obtain⟨a1,rfl,w1⟩:=trod_int1 he (by simpa using h1) (g 1 (by omega))
  obtain⟨a2,rfl,w2⟩:=trod_int1 he (by simpa using h2) (g 2 (by omega))
  obtain⟨a3,rfl,w3⟩:=trod_int1 he (by simpa using h3) (g 3 (by omega))
  obtain⟨a4,rfl,w4⟩:=trod_int1 he (by simpa using h4) (g 4 (by omega))
  obtain⟨a5,rfl,w5⟩:=trod_int1 he (by simpa using h5) (g 5 (by omega))
  refine⟨a0,a1,a2,a3,a4,a5,rfl,?_⟩
  have:=bounds_u8 w0;have:=bounds_u8 w1;have:=bounds_u8 w2;have:=bounds_u8 w3;have:=bounds_u8 w4;have:=bounds_u8 w5
  unfold wfM;omega
open Go.ChangeShapes Go.WideShapes Go.ChangeAt Go.RowKit Go.Deep Go.Joins
theorem rd_rowsS {α:Type}{k:Nat}{f:α→List Value}{Ok:α→Prop}{S E:TypeId}(hu:Tryz.prog.underlying S=some (.slice E))(ce:Tryz.prog.cellsOf E=k)(hf:∀ x,(f x).length=k)(hk:0<k) [Inhabited α]
  {H:Type} {enc:TypeId × Value→H} {w:World} {base:Nat} {spare:Nat→Bool} {held:Bool} {v:Value} {d:DataW H} {p:List MemPlace}
  (hel:∀ (n:Nat) (cs:List Value) (y:DataW H × List MemPlace),cs.length=k→DataW.trod enc Tryz.prog w base spare held n E cs=some y→∃ q:α,cs=f q∧Ok q)
  (hv:∃ a len cap,v=.slice a len cap) (h:DataW.Trod enc Tryz.prog w base spare held S v d p):∃ (l:List α),v=v∧(Rw k f w v l∧l.length≤maxLen∧∀ x∈l,Ok x):=by
 obtain⟨a,len,cap,rfl⟩:=hv
 obtain⟨fuel,hF⟩:=h
 rcases open_slice hu hF with⟨hcs,_⟩|⟨x,len',cap',m,n,D,Pl,hcs,_,hl,hm,hmm,_,hi⟩
 ·simp[Value.cells] at hcs
  obtain⟨rfl,rfl,rfl⟩:=hcs
  exact⟨[],rfl,Rw.nil w,Nat.zero_le _,by simp⟩
 ·simp[Value.cells] at hcs
  obtain⟨rfl,rfl,rfl⟩:=hcs
  have hlm:len≤m:=by rw[hmm];split <;> omega
  have el:∀ i,i<len→∃ q:α,(∀ c,c<k→w.cell? ((x.add (i*k)).add c)=(f q)[c]?)∧Ok q:=by
   intro i hil
   obtain⟨cs',hc,ht'⟩:=hi i (by omega)
   rw[ce] at hc
   obtain⟨_,hcl,hat⟩:=World.cells?_some hc
   obtain⟨q,rfl,hok⟩:=hel _ cs' _ hcl ht'
   exact⟨q,fun c hck=>hat c hck,hok⟩
  obtain⟨g,hfl⟩:=choose_lt el
  by_cases hz:len=0
  ·subst hz
   exact⟨[],rfl,.inr ⟨x,cap,rfl,.inl rfl⟩,Nat.zero_le _,by simp⟩
  ·obtain⟨b,off,spot⟩:=x
   have hspot:spot=Option.none:=by
    have h0:=(hfl 0 (by omega)).1 0 hk
    rw[List.getElem?_eq_getElem (by rw[hf];exact hk)] at h0
    simpa [Addr.add] using World.cell?_spot h0
   subst hspot
   refine⟨(List.range len).map g,rfl,.inr ⟨⟨b,off,Option.none⟩,cap,by simp,.inr ⟨b,off,rfl,fun j hj i hik=>?_⟩⟩,by simp;omega,fun y hy=>?_⟩
   rotate_left
   ·obtain⟨j,hj,rfl⟩:=List.mem_map.1 hy
    exact(hfl j (List.mem_range.1 hj)).2
   have hj':j<len:=by simpa using hj
   have a1:=(hfl j hj').1 i hik
   rw[add_plain,add_plain] at a1
   simpa using a1
theorem list12o {α:Type}(l:List α)(h:l.length=12):∃ c0 c1 c2 c3 c4 c5 c6 c7 c8 c9 c10 c11,l=[c0,c1,c2,c3,c4,c5,c6,c7,c8,c9,c10,c11]:=by
 match l,h with
 |[c0,c1,c2,c3,c4,c5,c6,c7,c8,c9,c10,c11],_=>exact⟨c0,c1,c2,c3,c4,c5,c6,c7,c8,c9,c10,c11,rfl⟩
theorem list7o {α:Type}(l:List α)(h:l.length=7):∃ c0 c1 c2 c3 c4 c5 c6,l=[c0,c1,c2,c3,c4,c5,c6]:=by
 match l,h with
 |[c0,c1,c2,c3,c4,c5,c6],_=>exact⟨c0,c1,c2,c3,c4,c5,c6,rfl⟩
theorem list5o {α:Type}(l:List α)(h:l.length=5):∃ c0 c1 c2 c3 c4,l=[c0,c1,c2,c3,c4]:=by
 match l,h with
 |[c0,c1,c2,c3,c4],_=>exact⟨c0,c1,c2,c3,c4,rfl⟩
theorem list15o {α:Type}(l:List α)(h:l.length=15):∃ c0 c1 c2 c3 c4 c5 c6 c7 c8 c9 c10 c11 c12 c13 c14,l=[c0,c1,c2,c3,c4,c5,c6,c7,c8,c9,c10,c11,c12,c13,c14]:=by
 match l,h with
 |[c0,c1,c2,c3,c4,c5,c6,c7,c8,c9,c10,c11,c12,c13,c14],_=>exact⟨c0,c1,c2,c3,c4,c5,c6,c7,c8,c9,c10,c11,c12,c13,c14,rfl⟩
instance:Inhabited Ac:=⟨⟨0,mc0,mc0,[],0⟩⟩
instance:Inhabited Int:=⟨0⟩
def OwE (w:World)(o:Ow20)(ov:Value)(ks:List Int):Prop:=((0≤o.a.lv∧o.a.lv<256)∧(0≤o.a.mp∧o.a.mp<65536)∧(0≤o.a.iv∧o.a.iv<256)∧o.a.md.length≤maxLen)∧o.mc.Ok∧(0≤o.lw∧o.lw<256)∧Rw 1 u1 w ov ks∧ks.length≤maxLen∧∀ x∈ks,0≤x∧x<65536
theorem wfM_ok {a b c d e f:Int}(h:wfM a b c d e f):(⟨a,b,c,d,e,f⟩:Mc).Ok:=by
 unfold wfM at h
 exact⟨h.1,h.2.1,h.2.2.1,h.2.2.2.1,h.2.2.2.2.1,h.2.2.2.2.2⟩
theorem rd_ref20_Own {H:Type}{enc:TypeId × Value→H}{w:World}{r:Reach}{b0 base:Nat}{spare:Nat→Bool}{held:Bool}{v:Value}{d:DataW H}{p:List MemPlace}
  (hv:Value.okWide Tryz.prog w r b0 27 v) (h:DataW.Trod enc Tryz.prog w base spare held 27 v d p):∃ (o:Ow20) (ov:Value) (ks:List Int),v=.agg #[.int .u8 o.a.lv,.int .u8 o.a.iv,.string (bs o.a.md),.int .u16 o.a.mp,ov,.int .u8 o.mc.a,.int .u8 o.mc.b,.int .u8 o.mc.c,.int .u8 o.mc.d,.int .u8 o.mc.e,.int .u8 o.mc.f,.int .u8 o.lw]∧OwE w o ov ks:=by
 obtain⟨cs,rfl,hsz⟩:=okWide_struct Tryz.underlying27 hv
 rw[show Tryz.prog.cellsOf 27=12 by kernel_rfl] at hsz
 obtain⟨fuel,hf⟩:=h
 obtain⟨xs,n,_,_,_,hlen,hi⟩:=DataW.trod_struct Tryz.underlying27 hf
 obtain⟨y0,y1,y2,y3,y4,y5,y6,rfl⟩:=list7o xs hlen
 obtain⟨c0,c1,c2,c3,c4,c5,c6,c7,c8,c9,c10,c11,hcs⟩:=list12o cs.toList (by rw[Array.length_toList,hsz])
 have k8:Tryz.prog.cellsOf 5=1:=by kernel_rfl
 have k16:Tryz.prog.cellsOf 22=1:=by kernel_rfl
 have ks':Tryz.prog.cellsOf 9=1:=by kernel_rfl
 have kl:Tryz.prog.cellsOf 23=1:=by kernel_rfl
 have km:Tryz.prog.cellsOf 25=6:=by kernel_rfl
 have h0:DataW.trod enc Tryz.prog w base spare held n 5 ((cs.toList.drop 0).take (Tryz.prog.cellsOf 5))=some y0:=hi 0 _ rfl
 have h1:DataW.trod enc Tryz.prog w base spare held n 5 ((cs.toList.drop 1).take (Tryz.prog.cellsOf 5))=some y1:=hi 1 _ rfl
 have h2:DataW.trod enc Tryz.prog w base spare held n 9 ((cs.toList.drop 2).take (Tryz.prog.cellsOf 9))=some y2:=hi 2 _ rfl
 have h3:DataW.trod enc Tryz.prog w base spare held n 22 ((cs.toList.drop 3).take (Tryz.prog.cellsOf 22))=some y3:=hi 3 _ rfl
 have h4:DataW.trod enc Tryz.prog w base spare held n 23 ((cs.toList.drop 4).take (Tryz.prog.cellsOf 23))=some y4:=hi 4 _ rfl
 have h5:DataW.trod enc Tryz.prog w base spare held n 25 ((cs.toList.drop 5).take (Tryz.prog.cellsOf 25))=some y5:=hi 5 _ rfl
 have h6:DataW.trod enc Tryz.prog w base spare held n 5 ((cs.toList.drop 11).take (Tryz.prog.cellsOf 5))=some y6:=hi 6 _ rfl
 rw[hcs,k8] at h0 h1 h6
 rw[hcs,ks'] at h2
 rw[hcs,k16] at h3
 rw[hcs,kl] at h4
 rw[hcs,km] at h5
 obtain⟨a0,e0,w0⟩:=trod_int1 Tryz.underlying5 h0 rfl
 obtain⟨a1,e1,w1⟩:=trod_int1 Tryz.underlying5 h1 rfl
 obtain⟨s,e2,_,w2⟩:=DataW.trod_string Tryz.underlying9 h2
 obtain⟨a3,e3,w3⟩:=trod_int1 Tryz.underlying22 h3 rfl
 have h4':DataW.trod enc Tryz.prog w base spare held n 23 [c4]=some y4:=h4
 have hsh:∃ a len cap,c4=.slice a len cap:=by
  rcases open_slice Tryz.underlying23 h4' with⟨hcs',_⟩|⟨x,len',cap',m,n',D,Pl,hcs',_⟩
  ·injection hcs' with hh _;exact⟨_,_,_,hh⟩
  ·injection hcs' with hh _;exact⟨_,_,_,hh⟩
 obtain⟨a',len,cap,rfl⟩:=hsh
 obtain⟨l,_,hl1,hl2,hl3⟩:=rd_rowsS (Ok:=fun x:Int=>0≤x∧x<65536) (f:=u1) Tryz.underlying23 (by kernel_rfl) u1_len (by decide) (fun n cs y hl ht=>by
  obtain⟨c,rfl⟩:=List.length_eq_one_iff.1 hl
  obtain⟨a0,e0,w0⟩:=trod_int1 Tryz.underlying22 ht rfl
  have b0:=bounds_u16 w0
  subst e0
  exact⟨a0,rfl,by omega⟩) ⟨_,_,_,rfl⟩ (show DataW.Trod enc Tryz.prog w base spare held 23 (.slice a' len cap) y4.1 y4.2 from⟨n,h4'⟩)
 obtain⟨m0,m1,m2,m3,m4,m5,e5,hw5⟩:=six_of_cells Tryz.underlying25 Tryz.underlying5 (by kernel_rfl) (by kernel_rfl) h5
 obtain⟨a6,e6,w6⟩:=trod_int1 Tryz.underlying5 h6 rfl
 refine⟨⟨⟨a0,a3,a1,s.data.toList⟩,⟨m0,m1,m2,m3,m4,m5⟩,a6⟩,.slice a' len cap,l,?_,?_⟩
 ·simp only[←bs_of s]
  simp only[List.drop,List.take,List.cons.injEq,and_true] at e2 e5
  obtain⟨rfl,rfl,rfl,rfl,rfl,rfl⟩:=e5
  subst e0 e1 e2 e3 e6
  rw[show cs=cs.toList.toArray from rfl,hcs]
 ·have:=bounds_u8 w0;have:=bounds_u8 w1;have:=bounds_u16 w3;have:=bounds_u8 w6
  have h6:=bs_size s.data.toList
  rw[←bs_of s] at h6
  exact⟨⟨by show 0≤a0∧a0<256;omega,by show 0≤a3∧a3<65536;omega,by show 0≤a1∧a1<256;omega,by show s.data.toList.length≤maxLen;omega⟩,wfM_ok hw5,by show 0≤a6∧a6<256;omega,hl1,hl2,hl3⟩
theorem rd_sl_law20_Act {H:Type}{enc:TypeId × Value→H}{w:World}{r:Reach}{b0 base:Nat}{spare:Nat→Bool}{held:Bool}{v:Value}{d:DataW H}{p:List MemPlace}
  (hv:Value.okWide Tryz.prog w r b0 28 v) (h:DataW.Trod enc Tryz.prog w base spare held 28 v d p):∃ (l:List Ac),v=v∧(Rw 15 acC w v l∧l.length≤maxLen∧∀ x∈l,x.Ok):=by
 refine rd_rows Tryz.underlying28 (by kernel_rfl) acC_len (by decide) (fun n cs y hl ht=>?_) hv h
 obtain⟨xs,n',_,_,_,hlen,hi⟩:=DataW.trod_struct Tryz.underlying46 ht
 obtain⟨y0,y1,y2,y3,y4,rfl⟩:=list5o xs hlen
 obtain⟨c0,c1,c2,c3,c4,c5,c6,c7,c8,c9,c10,c11,c12,c13,c14,rfl⟩:=list15o cs hl
 have k8:Tryz.prog.cellsOf 5=1:=by kernel_rfl
 have ks':Tryz.prog.cellsOf 9=1:=by kernel_rfl
 have km:Tryz.prog.cellsOf 25=6:=by kernel_rfl
 have h0:DataW.trod enc Tryz.prog w base spare held n' 5 (([c0,c1,c2,c3,c4,c5,c6,c7,c8,c9,c10,c11,c12,c13,c14].drop 0).take (Tryz.prog.cellsOf 5))=some y0:=hi 0 _ rfl
 have h1:DataW.trod enc Tryz.prog w base spare held n' 25 (([c0,c1,c2,c3,c4,c5,c6,c7,c8,c9,c10,c11,c12,c13,c14].drop 1).take (Tryz.prog.cellsOf 25))=some y1:=hi 1 _ rfl
 have h2:DataW.trod enc Tryz.prog w base spare held n' 25 (([c0,c1,c2,c3,c4,c5,c6,c7,c8,c9,c10,c11,c12,c13,c14].drop 7).take (Tryz.prog.cellsOf 25))=some y2:=hi 2 _ rfl
 have h3:DataW.trod enc Tryz.prog w base spare held n' 9 (([c0,c1,c2,c3,c4,c5,c6,c7,c8,c9,c10,c11,c12,c13,c14].drop 13).take (Tryz.prog.cellsOf 9))=some y3:=hi 3 _ rfl
 have h4:DataW.trod enc Tryz.prog w base spare held n' 5 (([c0,c1,c2,c3,c4,c5,c6,c7,c8,c9,c10,c11,c12,c13,c14].drop 14).take (Tryz.prog.cellsOf 5))=some y4:=hi 4 _ rfl
 rw[k8] at h0 h4
 rw[km] at h1 h2
 rw[ks'] at h3
 obtain⟨a0,e0,w0⟩:=trod_int1 Tryz.underlying5 h0 rfl
 obtain⟨m0,m1,m2,m3,m4,m5,e1,hw1⟩:=six_of_cells Tryz.underlying25 Tryz.underlying5 (by kernel_rfl) (by kernel_rfl) h1
 obtain⟨q0,q1,q2,q3,q4,q5,e2,hw2⟩:=six_of_cells Tryz.underlying25 Tryz.underlying5 (by kernel_rfl) (by kernel_rfl) h2
 obtain⟨s,e3,_,w3⟩:=DataW.trod_string Tryz.underlying9 h3
 obtain⟨a4,e4,w4⟩:=trod_int1 Tryz.underlying5 h4 rfl
 refine⟨⟨a0,⟨m0,m1,m2,m3,m4,m5⟩,⟨q0,q1,q2,q3,q4,q5⟩,s.data.toList,a4⟩,?_,?_⟩
 ·unfold acC
  simp only[←bs_of s]
  simp only[List.drop,List.take,List.cons.injEq,and_true] at e1 e2 e3
  obtain⟨rfl,rfl,rfl,rfl,rfl,rfl⟩:=e1
  obtain⟨rfl,rfl,rfl,rfl,rfl,rfl⟩:=e2
  subst e0 e3 e4
  rfl
 ·have:=bounds_u8 w0;have:=bounds_u8 w4
  have h6:=bs_size s.data.toList
  rw[←bs_of s] at h6
  exact⟨by show 0≤a0∧a0<256;omega,wfM_ok hw1,wfM_ok hw2,by show s.data.toList.length≤maxLen;omega,by show 0≤a4∧a4<256;omega⟩
theorem maid20_any (w:World):Calls Tryz.prog 26 #[] w fun en w'=>en=.returned (.string (bs mdM))∧Below w.heap.size w w':=by
 have R1:Hid (∀ w,Calls Tryz.prog 70 #[.string { data:=#[] },.string { data:=#[97] }] w fun en w'=>en=.returned (.tuple #[.string (bs mdM),.int .i64 0])∧Below w.heap.size w w'):=fun w=>by
  have h:=refPut10_any [] [97] w (by decide) (by decide)
  rw[mdM_put] at h;exact h
 go_enter Tryz.func26,Tryz.ntmps26
 go_wp2_with fail
 with_reducible refine(R1.out _).mono ?_
 rintro en w1 ⟨rfl,hb1⟩
 go_wp2
 go_ret
 exact⟨rfl,hb1⟩
def owM:Ow20:=⟨owK,⟨2,0,0,0,0,0⟩,2⟩
theorem owM_ok:owM.Ok:=⟨owK_ok,⟨by decide,by decide,by decide,by decide,by decide,by decide⟩,by decide⟩
theorem tickW:(tickM owM (ms0 [(2,4,0)])).2.2=0:=by decide
def ckW:List UInt8:=((tickM owM (ms0 [(2,4,0)])).2.1.map Sn.d).headD []
theorem tickW1:(tickM owM (ms0 [(2,4,0)])).2.1=[⟨⟨1,128,194,0,0,51⟩,ckW⟩]:=rfl
def lpW:Ms:=(loopM owM (tickM owM (ms0 [(2,4,0)])).1 ⟨2,9,0,0,0,0⟩ [97,98]).1
theorem loopW:(loopM owM (tickM owM (ms0 [(2,4,0)])).1 ⟨2,9,0,0,0,0⟩ [97,98]).2=(⟨⟨2,9,0,0,0,0⟩,[96,3,0,4,0,0,0,1,3,0,2,97,98,0]⟩,0):=rfl
structure KQ (w W:World)(ov:Value)(x:Mp)(s:Ms)(v:Value):Prop where
 mm:MM W owM ov x s (.slice none 0 0)
 rw:Rw 7 snC W v [⟨⟨1,128,194,0,0,51⟩,ckW⟩]
 aw:∀ g,v.ownBlock=some g→¬ x.D (.slice none 0 0) g
 lo:w.heap.size≤x.p∧w.heap.size≤x.q∧w.heap.size≤x.m∧w.heap.size≤x.r
 bel:Below w.heap.size w W
theorem KQ.later {w W W':World}{ov:Value}{x:Mp}{s:Ms}{v:Value}(h:KQ w W ov x s v)(hb:Below W.heap.size W W'):KQ w W' ov x s v :=
 ⟨h.mm.later hb,h.rw.later snC_len hb,h.aw,h.lo,h.bel.trans (hb.mono h.bel.size)⟩
theorem D_none {x:Mp}{B:Nat}(lo:B≤x.p∧B≤x.q∧B≤x.m∧B≤x.r):∀ k,k<B→¬ x.D (.slice none 0 0) k:=by
 rintro k hk (rfl|rfl|rfl|rfl|h)
 ·omega
 ·omega
 ·omega
 ·omega
 ·cases h
theorem ms0_ok:(ms0 [(2,4,0)]).Ok:=⟨bnd_one (by decide) (by decide) (by decide) (by decide),⟨by decide,by decide,by decide⟩,by decide,by decide,by decide,by decide,by decide,by decide,by decide,by decide,by decide,by simp[ms0]⟩
theorem wakes20_any (w:World):Calls Tryz.prog 7 #[] w fun en w'=>en=.returned (.bool true)∧Below w.heap.size w w':=by
 have MD:Hid (∀ w,Calls Tryz.prog 26 #[] w fun en w'=>en=.returned (.string (bs mdM))∧Below w.heap.size w w'):=hd0 maid20_any
 have NW:Hid (∀ (g:Nat) w,w.cell? ⟨g,0,none⟩=some (.int .u16 2)→Calls Tryz.prog 8 #[.agg #[.int .u8 3,.int .u8 4,.string (bs mdM),.int .u16 1,.slice (some ⟨g,0,none⟩) 1 1,.int .u8 2,.int .u8 0,.int .u8 0,.int .u8 0,.int .u8 0,.int .u8 0,.int .u8 2]] w fun en w' =>
   ∃ x,en=.returned (.tuple #[.pointer (some ⟨x.p,0,none⟩),.int .i64 0])∧MM w' owM (.slice (some ⟨g,0,none⟩) 1 1) x (ms0 [(2,4,0)]) (.slice none 0 0)∧(w.heap.size≤x.p∧w.heap.size≤x.q∧w.heap.size≤x.m∧w.heap.size≤x.r)∧Below w.heap.size w w'):=hd0 fun g w hc=>by
  refine(mnew_any owM owM_ok (.slice (some ⟨g,0,none⟩) 1 1) [2] (by simp) w (.inr ⟨⟨g,0,none⟩,1,rfl,.inr ⟨g,0,rfl,fun j hj i hi=>?_⟩⟩) (by simp)).mono ?_
  ·have hj0:j=0:=by simpa using hj
   have hi0:i=0:=by omega
   subst hj0 hi0
   exact hc
  ·rintro en w' (⟨h|h|h,_⟩|⟨V,x,hV,-,-,he,hm,hl,hb⟩)
   ·rw[show owM.a=owK from rfl,newV_K] at h;cases h
   ·exact absurd (show 1≤owM.lw∧owM.lw≤4 by decide) h
   ·exact absurd h (by decide)
   ·rw[show owM.a=owK from rfl,newV_K] at hV;cases hV;exact⟨x,he,hm,hl,hb⟩
 have TK:Hid (∀ (ov:Value) (x:Mp) (W:World),MM W owM ov x (ms0 [(2,4,0)]) (.slice none 0 0)→w.heap.size≤W.heap.size→Below w.heap.size w W→(w.heap.size≤x.p∧w.heap.size≤x.q∧w.heap.size≤x.m∧w.heap.size≤x.r)→Calls Tryz.prog 11 #[.pointer (some ⟨x.p,0,none⟩)] W fun en w' =>
   ∃ b off c,en=.returned (.tuple #[.slice (some ⟨b,off,none⟩) 1 c,.int .u8 0])∧KQ w w' ov x (tickM owM (ms0 [(2,4,0)])).1 (.slice (some ⟨b,off,none⟩) 1 c)):=hd0 fun ov x W hm hz hbw hl=>by
  refine(mtick_any owM owM_ok (by decide) ov x _ _ W hm ms0_ok).mono ?_
  rintro en w' ⟨v,he,ho,hm',hf⟩
  rw[tickW] at he
  rw[tickW1] at ho
  have hr:=ho.rw snC_len
  obtain⟨a,c,hv,h|⟨b,off,ha,-⟩⟩:=hr.shape
  ·cases h
  ·subst ha
   have hv':v=.slice (some ⟨b,off,none⟩) 1 c:=hv
   subst hv'
   refine⟨b,off,c,he,hm',hr,fun g hg hd=>?_,hl,hbw.trans (hf.below hz (D_none hl))⟩
   have h1:=(Ow.lt ho hg).1
   have h2:=hm.ltD hd
   omega
 have LO:Hid (∀ (ov:Value) (x:Mp) (v:Value) (W:World),KQ w W ov x (tickM owM (ms0 [(2,4,0)])).1 v→Calls Tryz.prog 14 #[.pointer (some ⟨x.p,0,none⟩),.agg #[.int .u8 2,.int .u8 9,.int .u8 0,.int .u8 0,.int .u8 0,.int .u8 0],.string { data:=#[97,98] }] W fun en w' =>
   en=.returned (.tuple #[.agg #[.int .u8 2,.int .u8 9,.int .u8 0,.int .u8 0,.int .u8 0,.int .u8 0,.string { data:=#[96,3,0,4,0,0,0,1,3,0,2,97,98,0] }],.int .i64 0])∧KQ w w' ov x lpW v):=hd0 fun ov x v W h=>by
  refine(mloop_any owM owM_ok ov x _ _ ⟨by decide,by decide⟩ ⟨2,9,0,0,0,0⟩ ⟨by decide,by decide,by decide,by decide,by decide,by decide⟩ [97,98] (by decide) W h.mm).mono ?_
  rintro en w' ⟨he,hm',hf⟩
  rw[loopW] at he
  exact⟨he,hm',h.rw.fr snC_len hf h.aw,h.aw,h.lo,h.bel.trans (hf.below h.bel.size (D_none h.lo))⟩
 have EQ1:∀ w,(binOp .eql 25 (.agg #[.int .u8 1,.int .u8 128,.int .u8 194,.int .u8 0,.int .u8 0,.int .u8 51]) (.agg #[.int .u8 1,.int .u8 128,.int .u8 194,.int .u8 0,.int .u8 0,.int .u8 51])).run Tryz.prog w=.ok (.bool true) w:=fun w=>eql_macG ⟨1,128,194,0,0,51⟩ ⟨1,128,194,0,0,51⟩ w
 have EQ2:∀ w,(binOp .eql 25 (.agg #[.int .u8 2,.int .u8 9,.int .u8 0,.int .u8 0,.int .u8 0,.int .u8 0]) (.agg #[.int .u8 2,.int .u8 9,.int .u8 0,.int .u8 0,.int .u8 0,.int .u8 0])).run Tryz.prog w=.ok (.bool true) w:=fun w=>eql_macG ⟨2,9,0,0,0,0⟩ ⟨2,9,0,0,0,0⟩ w
 go_enter Tryz.func7,Tryz.ntmps7
 go_wp2_with fail
 with_reducible refine(MD.out _).mono ?_
 rintro en w1 ⟨rfl,hb1⟩
 have B1:=hd0 hb1
 clear hb1
 go_wp2_with fail
 with_reducible refine(NW.out _ _ ?_).mono ?_
 ·simp only[World.cell?,heap_alloc_new];rfl
 rintro en w2 ⟨x,rfl,hm,hl,hb⟩
 have Q0:=hd0 (And.intro hm (And.intro (show w.heap.size≤x.p∧w.heap.size≤x.q∧w.heap.size≤x.m∧w.heap.size≤x.r by have:=B1.out.size;simp at hl;omega) (B1.out.trans (((bA _).trans (hb.mono (by simp))).mono B1.out.size))))
 obtain⟨ov,hov⟩:∃ z,Value.slice (some ⟨w1.heap.size,0,none⟩) 1 1=z:=⟨_,rfl⟩
 rw[hov] at Q0
 clear hm hl hb B1 NW hov
 go_wp2_with fail
 with_reducible refine(TK.out _ _ _ Q0.out.1 Q0.out.2.2.size Q0.out.2.2 Q0.out.2.1).mono ?_
 rintro en w3 ⟨b,off,c,rfl,hq⟩
 have Q3:=hd0 hq
 clear hq Q0 TK
 go_wp2_with fail
 with_reducible refine(LO.out _ _ _ _ Q3.out).mono ?_
 rintro en w4 ⟨rfl,hq⟩
 have Q4:=hd0 hq
 clear hq Q3 LO
 go_upto_region 6 with fail
 have hb5:Below w4.heap.size w4 (w4.alloc (.cells #[.int .u8 2,.int .u8 9,.int .u8 0,.int .u8 0,.int .u8 0,.int .u8 0,.string { data:=#[96,3,0,4,0,0,0,1,3,0,2,97,98,0] }] 55)):=bA _
 have q5:=Q4.out.later hb5
 have g5:GB 55 (w4.alloc (.cells #[.int .u8 2,.int .u8 9,.int .u8 0,.int .u8 0,.int .u8 0,.int .u8 0,.string { data:=#[96,3,0,4,0,0,0,1,3,0,2,97,98,0] }] 55)) w4.heap.size #[.int .u8 2,.int .u8 9,.int .u8 0,.int .u8 0,.int .u8 0,.int .u8 0,.string { data:=#[96,3,0,4,0,0,0,1,3,0,2,97,98,0] }]:=heap_alloc_new _ _
 obtain⟨w5,hw5⟩:∃ z,w4.alloc (.cells #[.int .u8 2,.int .u8 9,.int .u8 0,.int .u8 0,.int .u8 0,.int .u8 0,.string { data:=#[96,3,0,4,0,0,0,1,3,0,2,97,98,0] }] 55)=z:=⟨_,rfl⟩
 rw[hw5] at q5 g5 ⊢
 clear hw5 hb5
 have d0:w5.cell? ⟨w4.heap.size,0,none⟩=some (.int .u8 2):=g5.c 0 _ rfl
 have d1:w5.cell? ⟨w4.heap.size,1,none⟩=some (.int .u8 9):=g5.c 1 _ rfl
 have d2:w5.cell? ⟨w4.heap.size,2,none⟩=some (.int .u8 0):=g5.c 2 _ rfl
 have d3:w5.cell? ⟨w4.heap.size,3,none⟩=some (.int .u8 0):=g5.c 3 _ rfl
 have d4:w5.cell? ⟨w4.heap.size,4,none⟩=some (.int .u8 0):=g5.c 4 _ rfl
 have d5:w5.cell? ⟨w4.heap.size,5,none⟩=some (.int .u8 0):=g5.c 5 _ rfl
 have d6:w5.cell? ⟨w4.heap.size,6,none⟩=some (.string { data:=#[96,3,0,4,0,0,0,1,3,0,2,97,98,0] }):=g5.c 6 _ rfl
 obtain⟨a,c',hv,h|⟨b',off',ha,hc⟩⟩:=q5.rw.shape
 ·cases h
 have e1:b=b'∧off=off':=by
  subst ha
  have h:=hv
  injection h with h1 h2 h3
  injection h1 with h1
  injection h1 with h1 h2
  exact⟨h1,h2⟩
 obtain⟨rfl,rfl⟩:=e1
 have e0:w5.cell? ⟨b,off,none⟩=some (.int .u8 1):=hc 0 (by decide) 0 (by decide)
 have e1:w5.cell? ⟨b,off+1,none⟩=some (.int .u8 128):=hc 0 (by decide) 1 (by decide)
 have e2:w5.cell? ⟨b,off+2,none⟩=some (.int .u8 194):=hc 0 (by decide) 2 (by decide)
 have e3:w5.cell? ⟨b,off+3,none⟩=some (.int .u8 0):=hc 0 (by decide) 3 (by decide)
 have e4:w5.cell? ⟨b,off+4,none⟩=some (.int .u8 0):=hc 0 (by decide) 4 (by decide)
 have e5:w5.cell? ⟨b,off+5,none⟩=some (.int .u8 51):=hc 0 (by decide) 5 (by decide)
 have e6:w5.cell? ⟨b,off+6,none⟩=some (.string (bs ckW)):=hc 0 (by decide) 6 (by decide)
 have Q5:=hd0 q5.bel
 have hsz:(bs ckW).size=75:=by rw[bs_size];rfl
 clear q5 g5 hv hc ha Q4
 go_wp2
 go_ret
 exact⟨rfl,Q5.out⟩
end Go.Proofs.YtlkdfofpnmpidaaGreat
