/- ZR33 -/
import Derived.Test.YtghaobakpdninaaGreatDoorZR32
import Derived.WalkMore
set_option linter.unusedVariables false
set_option linter.unusedSimpArgs false
set_option maxRecDepth 100000
set_option maxHeartbeats 16000000
namespace Go.Proofs.YtghaobakpdninaaGreatDoor
open Go.RowKit
abbrev sw (TA TB:TM)(o:List Int)(V:List Vn)(B0 B1:List Value):NSt:=⟨TA,TB,o,o,V,V,false,false,B0,B1⟩
structure WF (e:Int)(x:Bp):Prop where
 ok:x.Ok
 may:mayB x=true
 pt:(putF 1 128 194 0 0 0 0 0 0 0 0 e false 0 0 19779 (byB x)).2=0
 tk:tkB (byB x)=(x,0)
 tf:tkF (fwB e x)=(#[.int .u8 1,.int .u8 128,.int .u8 194,.int .u8 0,.int .u8 0,.int .u8 0,.int .u8 0,.int .u8 0,.int .u8 0,.int .u8 0,.int .u8 0,.int .u8 e,.bool false,.int .u8 0,.int .u16 0,.int .u16 19779,.string (bs (byB x))],0)
 le:(fwB e x).length≤1522
theorem wf1:WF 18 (wD 16 true):=⟨⟨by decide,by decide,by decide,by decide,by decide,by decide,by decide,by decide⟩,by decide,by decide +kernel,by kernel_rfl,by kernel_rfl,by decide +kernel⟩
theorem wf2:WF 34 (wD 32 true):=⟨⟨by decide,by decide,by decide,by decide,by decide,by decide,by decide,by decide⟩,by decide,by decide +kernel,by kernel_rfl,by kernel_rfl,by decide +kernel⟩
theorem wf3:WF 18 (wD 16 false):=⟨⟨by decide,by decide,by decide,by decide,by decide,by decide,by decide,by decide⟩,by decide,by decide +kernel,by kernel_rfl,by kernel_rfl,by decide +kernel⟩
theorem wf4:WF 34 (wR):=⟨⟨by decide,by decide,by decide,by decide,by decide,by decide,by decide,by decide⟩,by decide,by decide +kernel,by kernel_rfl,by kernel_rfl,by decide +kernel⟩
theorem NZ.le {W:World}{N:NPos}{s:NSt}(h:NZ W N s):(N.a0≤N.a1∧N.a1≤W.heap.size)∧N.b0≤N.b1∧N.b1≤W.heap.size:=by
 obtain⟨_,_,ha⟩:=NZ.A h
 obtain⟨_,_,hb⟩:=NZ.B h
 have a:=ha.bi.b
 have b:=hb.bi.b
 exact⟨⟨Nat.le_of_lt (Nat.lt_of_le_of_lt a.1 a.2),(NZ.tops h).1⟩,Nat.le_of_lt (Nat.lt_of_le_of_lt b.1 b.2),(NZ.tops h).2⟩
section
variable {N:NPos} {TA TB:TM} {o:List Int} {V:List Vn} {B0 B1:List Value}
theorem tickA (T':TM)(hT:TA.id=16)(hT':T'.id=16)(x:Bp)(hx:WF 18 x)
  (TK:∀ m g cap t W,TR W m g cap t TA→Calls Tryz.prog 93 #[.pointer (some ⟨m,0,none⟩)] W fun en w'=>∃ gs cs,en=.returned (.slice (some ⟨gs,0,none⟩) 1 cs)∧w'.rangeAt gs 0 (stW x)∧W.heap.size≤gs∧TR w' m g cap t T'∧Fr (D2 m g) W w')
  (W:World) (h:NZ W N (sw TA TB o V B0 B1)):Calls Tryz.prog 69 #[.pointer (some ⟨N.A.b,0,none⟩)] W fun en w'=>∃ v,en=.returned (.tuple #[v,.slice none 0 0])∧SQ w' N (sw ({ T' with fl:=0 }) (TB) o V B0 B1) v (some (1,fwB 18 x))∧Fr (NK N) W w':=by
 refine(btickN16 _ _ _ _ _ (by have:=h.le;omega) TA T' hT hT' x hx.ok hx.may hx.pt (fun W=>TK _ _ _ _ W) W (by have:=h.le;omega) (NZ.A0 h rfl)).mono ?_
 rintro en w' ⟨⟨g,c,rfl,hr,-⟩,hB,hf⟩
 exact⟨_,rfl,⟨⟨g,c,rfl,hr⟩,NZ.setA h hB hf (fun _=>rfl)⟩,hf.mono fun k _ hk=>Or.inl hk⟩
theorem recvA (T':TM)(hid:T'.id=TA.id)(x:Bp)(e:Int)(hx:WF e x)(ρ:Int)(h0:(ρ==0)=false)(h5:(ρ==5)=false)
  (RO:∀ m g cap t W,TR W m g cap t TA→Calls Tryz.prog 78 #[.pointer (some ⟨m,0,none⟩),.int .u8 1] W fun en w'=>en=.returned (.int .u8 ρ)∧Below W.heap.size W w')
  (HE:∀ m g cap t W,TR W m g cap t TA→Calls Tryz.prog 150 #[.pointer (some ⟨m,0,none⟩),.int .u8 1,.agg #[.int .u64 x.rt,.int .u32 x.co,.int .u64 x.br,.int .u8 x.po,.int .u8 x.ho,.int .u64 x.ve,.int .u8 x.ro,.bool x.pr,.bool x.ag,.bool x.tp,.int .u64 x.ec]] W fun en w'=>en=.returned (.slice none 0 0)∧TR w' m g cap t T'∧Fr (D2 m g) W w')
  (W:World) (h:NZ W N (sw TA TB o V B0 B1)):Calls Tryz.prog 76 #[.pointer (some ⟨N.A.b,0,none⟩),.int .u8 1,.string (bs (fwB e x))] W fun en w'=>∃ v,en=.returned v∧SQ w' N (sw ({ T' with fl:=0 }) (TB) o V B0 B1) v none∧Fr (NK N) W w':=by
 refine(brecvN _ _ _ _ _ TA x e ρ h0 (by have:=hx.le;omega) hx.tf (fun W=>RO _ _ _ _ W) (fun v w'=>SQ w' N (sw ({ T' with fl:=0 }) (TB) o V B0 B1) v none∧Fr (NK N) W w') W (fun W1 hW1=>?_) (NZ.A0 h rfl)).mono fun _ _ h=>h
 have h1:=h.later hW1
 refine(bhear0N _ _ _ _ _ TA T' hid x ρ h5 hx.tk (fun W=>RO _ _ _ _ W) (fun W=>HE _ _ _ _ W) W1 (by have:=h1.le;omega) (NZ.A0 h1 rfl)).mono ?_
 rintro en w' ⟨v,rfl,rfl,hB,hf⟩
 exact⟨_,rfl,⟨rfl,NZ.setA h1 hB hf (fun _=>rfl)⟩,(Fr.of_below hW1).trans (hf.mono fun k _ hk=>Or.inl hk)⟩
theorem tickB (T':TM)(hT:TB.id=32)(hT':T'.id=32)(x:Bp)(hx:WF 34 x)
  (TK:∀ m g cap t W,TR W m g cap t TB→Calls Tryz.prog 93 #[.pointer (some ⟨m,0,none⟩)] W fun en w'=>∃ gs cs,en=.returned (.slice (some ⟨gs,0,none⟩) 1 cs)∧w'.rangeAt gs 0 (stW x)∧W.heap.size≤gs∧TR w' m g cap t T'∧Fr (D2 m g) W w')
  (W:World) (h:NZ W N (sw TA TB o V B0 B1)):Calls Tryz.prog 69 #[.pointer (some ⟨N.B.b,0,none⟩)] W fun en w'=>∃ v,en=.returned (.tuple #[v,.slice none 0 0])∧SQ w' N (sw (TA) ({ T' with fl:=0 }) o V B0 B1) v (some (1,fwB 34 x))∧Fr (NK N) W w':=by
 refine(btickN32 _ _ _ _ _ (by have:=h.le;omega) TB T' hT hT' x hx.ok hx.may hx.pt (fun W=>TK _ _ _ _ W) W (by have:=h.le;omega) (NZ.B0 h rfl)).mono ?_
 rintro en w' ⟨⟨g,c,rfl,hr,-⟩,hB,hf⟩
 exact⟨_,rfl,⟨⟨g,c,rfl,hr⟩,NZ.setB h hB hf (fun _=>rfl)⟩,hf.mono fun k _ hk=>Or.inr (Or.inl hk)⟩
theorem recvB (T':TM)(hid:T'.id=TB.id)(x:Bp)(e:Int)(hx:WF e x)(ρ:Int)(h0:(ρ==0)=false)(h5:(ρ==5)=false)
  (RO:∀ m g cap t W,TR W m g cap t TB→Calls Tryz.prog 78 #[.pointer (some ⟨m,0,none⟩),.int .u8 1] W fun en w'=>en=.returned (.int .u8 ρ)∧Below W.heap.size W w')
  (HE:∀ m g cap t W,TR W m g cap t TB→Calls Tryz.prog 150 #[.pointer (some ⟨m,0,none⟩),.int .u8 1,.agg #[.int .u64 x.rt,.int .u32 x.co,.int .u64 x.br,.int .u8 x.po,.int .u8 x.ho,.int .u64 x.ve,.int .u8 x.ro,.bool x.pr,.bool x.ag,.bool x.tp,.int .u64 x.ec]] W fun en w'=>en=.returned (.slice none 0 0)∧TR w' m g cap t T'∧Fr (D2 m g) W w')
  (W:World) (h:NZ W N (sw TA TB o V B0 B1)):Calls Tryz.prog 76 #[.pointer (some ⟨N.B.b,0,none⟩),.int .u8 1,.string (bs (fwB e x))] W fun en w'=>∃ v,en=.returned v∧SQ w' N (sw (TA) ({ T' with fl:=0 }) o V B0 B1) v none∧Fr (NK N) W w':=by
 refine(brecvN _ _ _ _ _ TB x e ρ h0 (by have:=hx.le;omega) hx.tf (fun W=>RO _ _ _ _ W) (fun v w'=>SQ w' N (sw (TA) ({ T' with fl:=0 }) o V B0 B1) v none∧Fr (NK N) W w') W (fun W1 hW1=>?_) (NZ.B0 h rfl)).mono fun _ _ h=>h
 have h1:=h.later hW1
 refine(bhear0N _ _ _ _ _ TB T' hid x ρ h5 hx.tk (fun W=>RO _ _ _ _ W) (fun W=>HE _ _ _ _ W) W1 (by have:=h1.le;omega) (NZ.B0 h1 rfl)).mono ?_
 rintro en w' ⟨v,rfl,rfl,hB,hf⟩
 exact⟨_,rfl,⟨rfl,NZ.setB h1 hB hf (fun _=>rfl)⟩,(Fr.of_below hW1).trans (hf.mono fun k _ hk=>Or.inr (Or.inl hk))⟩
theorem recvR (T':TM)(hid:T'.id=TB.id)(hT':T'.id=32)(x:Bp)(e:Int)(hx:WF e x)(ρ:Int)(h0:(ρ==0)=false)(h5:(ρ==5)=false)
  (RO:∀ m g cap t W,TR W m g cap t TB→Calls Tryz.prog 78 #[.pointer (some ⟨m,0,none⟩),.int .u8 1] W fun en w'=>en=.returned (.int .u8 ρ)∧Below W.heap.size W w')
  (HE:∀ m g cap t W,TR W m g cap t TB→Calls Tryz.prog 150 #[.pointer (some ⟨m,0,none⟩),.int .u8 1,.agg #[.int .u64 x.rt,.int .u32 x.co,.int .u64 x.br,.int .u8 x.po,.int .u8 x.ho,.int .u64 x.ve,.int .u8 x.ro,.bool x.pr,.bool x.ag,.bool x.tp,.int .u64 x.ec]] W fun en w'=>(∃ gs,en=.returned (.slice (some ⟨gs,0,none⟩) 1 1)∧w'.rangeAt gs 0 (stW wR)∧W.heap.size≤gs)∧TR w' m g cap t T'∧Fr (D2 m g) W w')
  (W:World) (h:NZ W N (sw TA TB o V B0 B1)):Calls Tryz.prog 76 #[.pointer (some ⟨N.B.b,0,none⟩),.int .u8 1,.string (bs (fwB e x))] W fun en w'=>∃ v,en=.returned v∧SQ w' N (sw TA { T' with fl:=0 } o V B0 B1) v (some (1,fwB 34 wR))∧Fr (NK N) W w':=by
 refine(brecvN _ _ _ _ _ TB x e ρ h0 (by have:=hx.le;omega) hx.tf (fun W=>RO _ _ _ _ W) (fun v w'=>SQ w' N (sw TA { T' with fl:=0 } o V B0 B1) v (some (1,fwB 34 wR))∧Fr (NK N) W w') W (fun W1 hW1=>?_) (NZ.B0 h rfl)).mono fun _ _ h=>h
 have h1:=h.later hW1
 refine(bhear1N _ _ _ _ _ TB T' hid hT' (by have:=h1.le;omega) x ρ h5 hx.tk (fun W=>RO _ _ _ _ W) (fun W=>HE _ _ _ _ W) W1 (by have:=h1.le;omega) (NZ.B0 h1 rfl)).mono ?_
 rintro en w' ⟨v,rfl,⟨g,c,rfl,hr,-⟩,hB,hf⟩
 exact⟨_,rfl,⟨⟨g,c,rfl,hr⟩,NZ.setB h1 hB hf (fun _=>rfl)⟩,(Fr.of_below hW1).trans (hf.mono fun k _ hk=>Or.inr (Or.inl hk))⟩
end
theorem ncome0 (N:NPos)(s:NSt)(x:Value)(hx:∃ d,x=.string d)(W:World)(h:NZ W N { s with B0:=x::s.B0,B1:=s.B1 }):Calls Tryz.prog 98 #[.pointer (some ⟨N.l,0,none⟩),.int .i64 0] W fun en w'=>en=.returned (.tuple #[x,.int .i64 0])∧NZ w' N s∧Fr (NK N) W w':=by
 refine(lcome0 _ _ _ _ _ _ _ x hx W (NZ.lk h)).mono ?_
 rintro en w' ⟨rfl,hl,hf⟩
 exact⟨rfl,NZ.setL h hl hf (by simp),hf.mono fun k _ hk=>by subst hk;simp[NK]⟩
theorem ncome1 (N:NPos)(s:NSt)(x:Value)(hx:∃ d,x=.string d)(W:World)(h:NZ W N { s with B0:=s.B0,B1:=x::s.B1 }):Calls Tryz.prog 98 #[.pointer (some ⟨N.l,0,none⟩),.int .i64 1] W fun en w'=>en=.returned (.tuple #[x,.int .i64 0])∧NZ w' N s∧Fr (NK N) W w':=by
 refine(lcome1 _ _ _ _ _ _ _ x hx W (NZ.lk h)).mono ?_
 rintro en w' ⟨rfl,hl,hf⟩
 exact⟨rfl,NZ.setL h hl hf (by simp),hf.mono fun k _ hk=>by subst hk;simp[NK]⟩
def qe (s:NSt)(e:Nat):List Value:=if e=0 then s.B0 else s.B1
def CM (N:NPos)(e:Nat)(s:NSt)(l:List (Int × Int × List UInt8))(s':NSt):Prop:=∀ W,NZ W N s→Calls Tryz.prog 72 #[.pointer (some ⟨N.n,0,none⟩),.pointer (some ⟨N.ls,0,none⟩),.int .i64 (e:Nat)] W fun en w'=>∃ v,en=.returned (.agg #[.int .i64 0,.int .i64 0,v,.slice none 0 0])∧OV w' W.heap.size v l∧NZ w' N s'∧Fr (NK N) W w'
def Vis (N:NPos)(e:Nat)(s:NSt)(l:List (Int × Int × List UInt8))(s':NSt)(b:Bool):Prop :=
 (b=false∧qe s e=[]∧l=[]∧s'=s)∨(b=true∧(∃ x t,qe s e=x::t)∧CM N e s l s')
theorem NZ.len {W:World}{N:NPos}{s:NSt}(h:NZ W N s)(e:Nat)(he:e<2)(b:Bool)(hb:b=!(qe s e).isEmpty):Calls Tryz.prog 26 #[.pointer (some ⟨N.l,0,none⟩),.int .i64 (e:Nat)] W fun en w'=>∃ z:Int,en=.returned (.int .i64 z)∧(z==0)=!b∧Below W.heap.size W w':=by
 have k:∀ l:List Value,b=!l.isEmpty→(((l.length:Nat):Int)==0)=!b:=fun l hl=>by
  subst hl
  cases l with
  | nil=>rfl
  | cons x t=>simp;omega
 rcases(show e=0∨e=1 by omega) with rfl|rfl
 ·exact(llen0 _ _ _ _ _ _ _ true W (NZ.lk h)).mono fun en w' h=>⟨_,h.1,k _ hb,h.2⟩
 ·exact(llen1 _ _ _ _ _ _ _ true W (NZ.lk h)).mono fun en w' h=>⟨_,h.1,k _ hb,h.2⟩
theorem ndrain (N:NPos)(m:Nat)(hm:1≤m∧m≤10)(st:Nat→NSt)(ll:Nat→List (Int × Int × List UInt8))(bb:Nat→Nat→Bool)(hl:∀ j,(ll j).length<1000)
  (hv:∀ r e,r<m→e<2→Vis N e (st (2*r+e)) (ll (2*r+e)) (st (2*r+e+1)) (bb r e)) (hb:∀ r,r<m→(bb r 0||bb r 1)=decide (r+1<m))
  (A:Array Value) (w:World) (h:NZ w N (st 0)):Calls Tryz.prog 47 #[.pointer (some ⟨N.n,0,none⟩),.agg A] w fun en w'=>∃ v,en=.returned (.agg #[.int .i64 0,.int .i64 0,v,.slice none 0 0])∧OV w' w.heap.size v (LL ll (2*m))∧NZ w' N (st (2*m))∧Fr (NK N) w w':=by
 have b1:=(Below.refl w.heap.size w).alloc (Nat.le_refl _) (.cells A 57)
 have z1:(w.alloc (.cells A 57)).heap.size=w.heap.size+1:=by simp
 obtain⟨wa,hwa⟩:∃ z,w.alloc (.cells A 57)=z:=⟨_,rfl⟩
 rw[hwa] at b1 z1
 have b2:=(Below.refl wa.heap.size wa).alloc (Nat.le_refl _) (.cells #[.int .i64 0,.int .i64 0,.slice none 0 0,.slice none 0 0] 49)
 have g2:=GB.new 49 wa #[.int .i64 0,.int .i64 0,.slice none 0 0,.slice none 0 0]
 have z2:(wa.alloc (.cells #[.int .i64 0,.int .i64 0,.slice none 0 0,.slice none 0 0] 49)).heap.size=wa.heap.size+1:=by simp
 obtain⟨wb,hwb⟩:∃ z,wa.alloc (.cells #[.int .i64 0,.int .i64 0,.slice none 0 0,.slice none 0 0] 49)=z:=⟨_,rfl⟩
 rw[hwb] at b2 g2 z2
 have b3:=(Below.refl wb.heap.size wb).alloc (Nat.le_refl _) (.cells #[.int .i64 0,.int .i64 0,.slice none 0 0,.slice none 0 0] 49)
 have g3:=GB.new 49 wb #[.int .i64 0,.int .i64 0,.slice none 0 0,.slice none 0 0]
 have z3:(wb.alloc (.cells #[.int .i64 0,.int .i64 0,.slice none 0 0,.slice none 0 0] 49)).heap.size=wb.heap.size+1:=by simp
 obtain⟨wc,hwc⟩:∃ z,wb.alloc (.cells #[.int .i64 0,.int .i64 0,.slice none 0 0,.slice none 0 0] 49)=z:=⟨_,rfl⟩
 rw[hwc] at b3 g3 z3
 have b13:=b1.trans ((b2.trans (b3.mono b2.size)).mono b1.size)
 have hn:=h.later b13
 have D0:Hid (TD w wc N (st 0) wa.heap.size wb.heap.size wc.heap.size (.slice none 0 0) (LL ll (2*0))):=hd0 ⟨g2.later b3,g3,Ow.none _ _,hn,Fr.of_below b13,by omega,by omega,by omega,Nat.le_refl _,fun k hk=>h.nk hk⟩
 have HV:=hd0 hv
 have HBB:=hd0 hb
 have HL:=hd0 (LL_len ll hl)
 have HL1:=hd0 hl
 have H0:=hd0 h
 clear b1 z1 b2 g2 z2 b3 g3 z3 b13 hn h hv hb hl
 go_enter Tryz.func47,Tryz.ntmps47
 go_wp2_with fail
 go_step3
 go_wp2_with fail
 go_step3
 go_wp2_with fail
 go_loopw [6] (fun L wr=>∃ r:Nat,∃ z:Int,r<m∧L=.int .i64 z∧20000-2*(r:Int)≤z∧z≤20000∧∃ v,Hid (TD w wr N (st (2*r)) wa.heap.size wb.heap.size wc.heap.size v (LL ll (2*r)))) (fun L _=>(intOf L).toNat)
 case atStart=>exact⟨0,20000,by omega,rfl,by decide,by decide,_,D0⟩
 case round =>
  obtain⟨r,z,hr,rfl,hz1,hz2,v,hD⟩:=hrel
  clear D0 hwa hwb hwc
  have c1:wr.cell? ⟨N.n,1,none⟩=some (.slice (some ⟨N.ls,0,none⟩) 1 N.lc):=(NZ.gn hD.out.nz).c 1 _ rfl
  go_wp2_with fail
  refine wp_loop_rounds 2 ?_
  rw[rounds_succ]
  go_wp2_with fail
  go_loopw [18,6,7] (fun i L b wr2=>∃ e:Nat,∃ z':Int,∃ bv:Bool,e≤2∧i=.int .i64 e∧L=.int .i64 z'∧b=.bool bv∧z-e≤z'∧z'≤z∧(bv=true→z'<z)∧bv=((decide (0<e)&&bb r 0)||(decide (1<e)&&bb r 1))∧∃ v,Hid (TD w wr2 N (st (2*r+e)) wa.heap.size wb.heap.size wc.heap.size v (LL ll (2*r+e)))) (fun i _ _ _=>2-(intOf i).toNat)
  case atStart=>exact⟨0,z,false,by omega,rfl,rfl,rfl,by omega,by omega,(fun h=>by cases h),rfl,v,hD⟩
  case round =>
   obtain⟨e,z',bv,he2,rfl,rfl,rfl,hy1,hy2,hy3,hy4,v',hD'⟩:=hrel
   have HY4:=hd0 hy4
   clear hD c1 hy4
   by_cases he:e<2
   ·have de:decide ((e:Int)<2)=true:=decide_eq_true (by omega)
    have z0:(z'==0)=false:=by simp;omega
    have c1:=hd0 fun(W:World) (h:NZ W N (st (2*r+e)))=>show W.cell? ⟨N.n,1,none⟩=some (.slice (some ⟨N.ls,0,none⟩) 1 N.lc) from(NZ.gn h).c 1 _ rfl
    have c2:=hd0 fun(W:World) (h:NZ W N (st (2*r+e)))=>show W.cell? ⟨N.ls,0,none⟩=some (.pointer (some ⟨N.l,0,none⟩)) from NZ.rl h 0 _ rfl
    have k1:=c1.out _ hD'.out.nz
    have k2:=c2.out _ hD'.out.nz
    rcases HV.out r e hr he with⟨hb,hq,hl0,hs⟩|⟨hb,⟨x,t,hq⟩,hcm⟩
    ·have LE:=hd0 (hD'.out.nz.len e he false (by rw[hq];rfl))
     go_wp2_with fail
     with_reducible refine LE.out.mono ?_
     rintro en w1 ⟨n1,rfl,hn1,hb1⟩
     have hn2:(n1==0)=true:=hn1
     have D1:=hd0 (hD'.out.later hb1)
     clear hn1 hb1 hD' k1 k2 LE
     go_wp2_with fail
     go_roundw
     case rel=>exact⟨e+1,z',bv,by omega,by go_num,rfl,rfl,by omega,by omega,hy3,by rw[HY4.out];rcases(show e=0∨e=1 by omega) with rfl|rfl <;> simp[hb],v',by rw[←hs] at D1;rw[show LL ll (2*r+(e+1))=LL ll (2*r+e)++ll (2*r+e) from rfl,hl0,List.append_nil];exact D1⟩
     case measure=>simp[intOf];omega
    ·have LE:=hd0 (hD'.out.nz.len e he true (by rw[hq];rfl))
     unfold CM at hcm
     have CM0:=hd0 hcm
     go_wp2_with fail
     with_reducible refine LE.out.mono ?_
     rintro en w1 ⟨n1,rfl,hn1,hb1⟩
     have hn2:(n1==0)=false:=hn1
     have HD1:=hd0 (hD'.out.later hb1)
     have K1:Hid (∀ W,TD w W N (st (2*r+e+1)) wa.heap.size wb.heap.size wc.heap.size v' (LL ll (2*r+e))→W.cell? ⟨N.n,1,none⟩=some (.slice (some ⟨N.ls,0,none⟩) 1 N.lc)):=hd0 fun W h=>(NZ.gn h.nz).c 1 _ rfl
     have LN:Hid (N.n<wc.heap.size):=hd0 (by have:=(NZ.gn H0.out).lt;have:=hD'.out.lt;omega)
     have LB:Hid (N.n<wb.heap.size):=hd0 (by have:=(NZ.gn H0.out).lt;have:=hD'.out.lt;omega)
     have k0:w1.drew.cell? ⟨N.n,1,none⟩=some (.slice (some ⟨N.ls,0,none⟩) 1 N.lc):=c1.out _ (HD1.out.nz.later (Below.refl _ _).drew)
     have hlen:(LL ll (2*r+e)).length+(ll (2*r+e)).length≤100000000000:=by have:=HL.out (2*r+e);have:=HL1.out (2*r+e);omega
     have ct:w1.drew.cell? ⟨wb.heap.size,2,none⟩=some v':=HD1.out.gt.c 2 _ rfl
     clear hn1 hb1 hD' k1 k2 LE hcm hq
     go_upto_region 14 with fail
     refine wp_region_held_drew (S:=fun W=>W.cell? ⟨N.n,1,none⟩=some (.slice (some ⟨N.ls,0,none⟩) 1 N.lc)) (by kernel_rfl) k0 (fun hHeld=>?_)
     refine tkH 0 ?_ ?h ?_
     case h=>(intro w hSw;go_simp;try with_reducible rfl)
     try simp only[Act.put,zz]
     refine tkH 2 ?_ ?h ?_
     case h=>(intro w hSw;go_simp;try with_reducible rfl)
     try simp only[Act.put,zz]
     refine tkH 3 ?_ ?h ?_
     case h=>(intro w hSw;go_simp;try with_reducible rfl)
     try simp only[Act.put,zz]
     refine tkH 4 ?_ ?h ?_
     case h=>(intro w hSw;go_simp;try with_reducible rfl)
     try simp only[Act.put,zz]
     refine tkH 5 ?_ ?h ?_
     case h=>(intro w hSw;go_simp;try with_reducible rfl)
     try simp only[Act.put,zz]
     refine tkH 6 ?_ ?h ?_
     case h=>(intro w hSw;go_simp;try with_reducible rfl)
     try simp only[Act.put,zz]
     refine tkH 7 ?_ ?h ?_
     case h=>(intro w hSw;go_simp;try with_reducible rfl)
     try simp only[Act.put,zz]
     refine tkH 8 ?_ ?h ?_
     case h=>(intro w hSw;go_simp;try with_reducible rfl)
     try simp only[Act.put,zz]
     refine tkH 9 ?_ ?h ?_
     case h=>(intro w hSw;go_simp;try with_reducible rfl)
     try simp only[Act.put,zz]
     refine wpAnyH_ready (rs:=[1,10]) (by kernel_rfl) (by simp) (AllReadyH.cons rfl (fun K hK=>?_) (AllReadyH.cons rfl (fun K hK=>?_) AllReadyH.nil))
     ·(go_simp;refine hK.out _ _ hHeld (fun hHeld=>?_);clear hK K;try simp only[Act.put,zz])
      refine rdH 10 fun K hK=>?_
      (go_simp;go_at_call 72;(with_reducible refine(CM0.out _ (HD1.out.nz.later (Below.refl _ _).drew)).mono ?_);rintro en' w2 ⟨v2,rfl,ho2,hn2',hf2⟩;have T2:=hd0 ((HD1.out.later (Below.refl _ _).drew).turn hn2' hf2);have O2:=hd0 ho2.1;clear ho2 hn2' hf2;have q1:=K1.out _ T2.out;refine hK.out _ _ q1 (fun hHeld=>?_);clear hK K;try simp only[Act.put,zz])
      refine wpAnyH_take (i:=11) (v:=v2) rfl (by kernel_rfl) (by kernel_rfl) (by kernel_rfl) (fun _ _ _ h=>h) (Or.inl ⟨by rfl,?hy11⟩) (by assumption) ?_
      case hy11=>(intro W hSw;kernel_rfl)
      try simp only[Act.put,zz]
      refine rdH 12 fun K hK=>?_
      (rw[if_pos (by rfl)];refine wp_append_rw outC_len outC_one 87 46 _ 32 Tryz.underlying46 info_out rfl (by decide) (by decide) (.tmp 37) (.tmp 47) rfl wc.heap.size v' (LL ll (2*r+e)) rfl T2.out.ow v2 (ll (2*r+e)) rfl O2.out hlen T2.out.lt.2.2.2.1 ?_;intro v3 w3 ho3 hb3;refine hK.out _ _ (((hb3.cell (p:=⟨N.n,1,none⟩) LN.out)).trans q1) (fun hHeld=>?_);clear hK K;try simp only[Act.put,zz])
      obtain⟨a3,n3,m3,rfl⟩:=ho3.shape
      have g3:=T2.out.gt.below T2.out.lt.2.2.1 hb3
      have c3:=g3.c 2 _ rfl
      have f3:=g3.fr 2
      refine tkH 13 ?_ ?h ?_
      case h=>(intro w hSw;go_simp;try with_reducible rfl)
      try simp only[Act.put,zz]
      refine rdH 14 fun K hK=>?_
      (go_simp;refine hK.out _ _ (by rw[World.cell?_setCell_far _ _ _ _ (by show wb.heap.size≠N.n;have:=LB.out;omega)];exact hHeld) (fun hHeld=>?_);clear hK K;try simp only[Act.put,zz])
      refine wpAnyH_done (by kernel_rfl) ?_ _
      go_wp2_with fail
      go_roundw
      case rel=>exact⟨e+1,z'-1,true,by omega,by go_num,rfl,rfl,by omega,by omega,(fun _=>by omega),by rcases(show e=0∨e=1 by omega) with rfl|rfl <;> simp[hb],_,hd0 (T2.out.put H0.out rfl ho3 hb3)⟩
      case measure=>simp[intOf];omega
     ·(go_simp;go_at_call 72;(with_reducible refine(CM0.out _ (HD1.out.nz.later (Below.refl _ _).drew)).mono ?_);rintro en' w2 ⟨v2,rfl,ho2,hn2',hf2⟩;have T2:=hd0 ((HD1.out.later (Below.refl _ _).drew).turn hn2' hf2);have O2:=hd0 ho2.1;clear ho2 hn2' hf2;have q1:=K1.out _ T2.out;refine hK.out _ _ q1 (fun hHeld=>?_);clear hK K;try simp only[Act.put,zz])
      have ct2:=T2.out.gt.c 2 _ rfl
      refine wpAnyH_take (i:=11) (v:=v2) rfl (by kernel_rfl) (by kernel_rfl) (by kernel_rfl) (fun _ _ _ h=>h) (Or.inl ⟨by rfl,?hy11⟩) (by assumption) ?_
      case hy11=>(intro W hSw;kernel_rfl)
      try simp only[Act.put,zz]
      refine rdH 1 fun K hK=>?_
      (go_simp;refine hK.out _ _ hHeld (fun hHeld=>?_);clear hK K;try simp only[Act.put,zz])
      refine rdH 12 fun K hK=>?_
      (rw[if_pos (by rfl)];refine wp_append_rw outC_len outC_one 87 46 _ 32 Tryz.underlying46 info_out rfl (by decide) (by decide) (.tmp 37) (.tmp 47) rfl wc.heap.size v' (LL ll (2*r+e)) rfl T2.out.ow v2 (ll (2*r+e)) rfl O2.out hlen T2.out.lt.2.2.2.1 ?_;intro v3 w3 ho3 hb3;refine hK.out _ _ (((hb3.cell (p:=⟨N.n,1,none⟩) LN.out)).trans q1) (fun hHeld=>?_);clear hK K;try simp only[Act.put,zz])
      obtain⟨a3,n3,m3,rfl⟩:=ho3.shape
      have g3:=T2.out.gt.below T2.out.lt.2.2.1 hb3
      have c3:=g3.c 2 _ rfl
      have f3:=g3.fr 2
      refine tkH 13 ?_ ?h ?_
      case h=>(intro w hSw;go_simp;try with_reducible rfl)
      try simp only[Act.put,zz]
      refine rdH 14 fun K hK=>?_
      (go_simp;refine hK.out _ _ (by rw[World.cell?_setCell_far _ _ _ _ (by show wb.heap.size≠N.n;have:=LB.out;omega)];exact hHeld) (fun hHeld=>?_);clear hK K;try simp only[Act.put,zz])
      refine wpAnyH_done (by kernel_rfl) ?_ _
      go_wp2_with fail
      go_roundw
      case rel=>exact⟨e+1,z'-1,true,by omega,by go_num,rfl,rfl,by omega,by omega,(fun _=>by omega),by rcases(show e=0∨e=1 by omega) with rfl|rfl <;> simp[hb],_,hd0 (T2.out.put H0.out rfl ho3 hb3)⟩
      case measure=>simp[intOf];omega
   ·obtain rfl:e=2:=by omega
    have de:decide (((2:Nat):Int)<2)=false:=rfl
    have hbv:bv=decide (r+1<m):=by rw[HY4.out];have:=HBB.out r hr;simpa using this
    go_wp2_with fail
    rw[rounds_succ]
    by_cases hm2:r+1<m
    ·obtain rfl:bv=true:=by rw[hbv];simp[hm2]
     clear hbv
     go_wp2_with fail
     go_roundw
     case rel=>exact⟨r+1,z',hm2,rfl,by omega,by omega,v',hD'⟩
     case measure=>simp[intOf];have:=hy3 rfl;omega
    ·obtain rfl:bv=false:=by rw[hbv];simp[hm2]
     clear hbv
     obtain⟨q,hq⟩:∃ q,2*m=q:=⟨_,rfl⟩
     have hqr:2*r+2=q:=by omega
     rw[hqr] at hD'
     obtain⟨a4,n4,m4,rfl⟩:=hD'.out.ow.shape
     have F4:=hd0 (hD'.out.fin H0.out rfl)
     have r4:wr.rangeAt wb.heap.size 0 [.int .i64 0,.int .i64 0,.slice a4 n4 m4,.slice none 0 0]:=hD'.out.gt.range
     have IL:Hid ((Tryz.prog.info? 49).map (·.size)=some [Value.int .i64 0,Value.int .i64 0,Value.slice a4 n4 m4,Value.slice none 0 0].length):=hd0 told_il
     have TH:Hid (wr.there wa.heap.size 0 (#[.int .i64 0,.int .i64 0,.slice a4 n4 m4,.slice none 0 0]:Array Value).size):=hd0 (hD'.out.gr.there (n:=4) (Nat.le_refl _))
     have IT:Hid ((Tryz.prog.info? 49).map (·.size)=some (#[.int .i64 0,.int .i64 0,.slice a4 n4 m4,.slice none 0 0]:Array Value).size):=hd0 told_il
     have O4:=hd0 (told_o a4 n4 m4)
     clear hD'
     go_wp2_with (first
      |((with_reducible refine wpList_load_mid rfl 49 (.tmp 5) rfl wb.heap.size 0 ?hx _ _ r4 Tryz.underlying49 ?hu IL.out ?_);(case hx=>rfl);(case hu=>rfl))
      |((with_reducible refine wpList_store_mid rfl 49 (.tmp 4) (.tmp 54) rfl wa.heap.size 0 #[.int .i64 0,.int .i64 0,.slice a4 n4 m4,.slice none 0 0] ?hx ?hy TH.out IT.out O4.out ?_);(case hx=>rfl);(case hy=>rfl)))
     rw[Exit.noGoto_ret]
     refine bodyPost_ret (v:=.agg #[.int .i64 0,.int .i64 0,.slice a4 n4 m4,.slice none 0 0]) (res_one (p:=4) (d:=_) rfl rfl Tryz.underlying49 _ _ wa.heap.size _ rfl F4.out.1 told_il) rfl ?_
     rw[hq]
     exact⟨_,rfl,F4.out.2⟩
end Go.Proofs.YtghaobakpdninaaGreatDoor
