/- ZR22 -/
import Derived.Test.YtghaobakpdninaaGreatDoorZR21
set_option linter.unusedVariables false
set_option linter.unusedSimpArgs false
set_option maxRecDepth 100000
set_option maxHeartbeats 16000000
namespace Go.Proofs.YtghaobakpdninaaGreatDoor
open Go.RowKit
def bt1 (s:List UInt8):=rdText s 0 2
def bt2 (s:List UInt8):=rdText (bt1 s).2.1 (bt1 s).2.2 1
def bt3 (s:List UInt8):=rdText (bt2 s).2.1 (bt2 s).2.2 1
def bt4 (s:List UInt8):=rdText (bt3 s).2.1 (bt3 s).2.2 8
def bt5 (s:List UInt8):=rdText (bt4 s).2.1 (bt4 s).2.2 4
def bt6 (s:List UInt8):=rdText (bt5 s).2.1 (bt5 s).2.2 8
def bt7 (s:List UInt8):=rdText (bt6 s).2.1 (bt6 s).2.2 1
def bt8 (s:List UInt8):=rdText (bt7 s).2.1 (bt7 s).2.2 1
def bt9 (s:List UInt8):=rdText (bt8 s).2.1 (bt8 s).2.2 8
def bt10 (s:List UInt8):=rdText (bt9 s).2.1 (bt9 s).2.2 8
def btR (s:List UInt8):=rdRest (bt10 s).2.1 (bt10 s).2.2
def bpOf (s:List UInt8):Bp:=⟨numOf (bt4 s).1,numOf (bt5 s).1,numOf (bt6 s).1,numOf (bt7 s).1,numOf (bt8 s).1,numOf (bt9 s).1,numOf (bt2 s).1,decide (numOf (bt3 s).1 % 2=1),decide (numOf (bt3 s).1 / 2 % 2=1),decide (numOf (bt3 s).1 / 4 % 2=1),numOf (bt10 s).1⟩
def goodB (s:List UInt8):Bool:=decide (numOf (bt1 s).1=17229)&&(decide (numOf (bt3 s).1≤7)&&(mayB (bpOf s)&&decide (stL 0 (stR 0 (btR s).1)=[])))
def errB (s:List UInt8):Int:=if goodB s=true then(btR s).2.2 else(rdFail (btR s).2.1 (btR s).2.2 4).2
def tkB (s:List UInt8):Bp × Int:=if errB s=0 then(bpOf s,0) else(bp0,errB s)
theorem bits_ok (n:Int)(h0:0≤n)(h1:n<256):decide ((0:Int)<bits .and .u8 n 1)=decide (n % 2=1)∧decide ((0:Int)<bits .and .u8 n 2)=decide (n / 2 % 2=1)∧decide ((0:Int)<bits .and .u8 n 4)=decide (n / 4 % 2=1):=by
 obtain⟨m,rfl⟩:∃ m:Nat,n=m:=⟨n.toNat,by omega⟩
 have key:∀ i,m &&& 2 ^ i=m / 2 ^ i % 2*2 ^ i:=by
  intro i
  apply Nat.eq_of_testBit_eq
  intro j
  rw[Nat.testBit_and,Nat.testBit_two_pow]
  have h2:m / 2 ^ i % 2=0∨m / 2 ^ i % 2=1:=by omega
  by_cases hi:i=j
  ·subst hi
   rcases h2 with h2|h2
   ·rw[Nat.testBit_eq_decide_div_mod_eq,h2];simp
   ·rw[Nat.testBit_eq_decide_div_mod_eq,h2];simp
  ·rw[decide_eq_false hi,Bool.and_false]
   rcases h2 with h2|h2
   ·rw[h2];simp
   ·rw[h2,Nat.one_mul,Nat.testBit_two_pow,decide_eq_false hi]
 have k0:(m:Int).toNat &&& (1:Int).toNat=m / 2 ^ 0 % 2*2 ^ 0:=key 0
 have k1:(m:Int).toNat &&& (2:Int).toNat=m / 2 ^ 1 % 2*2 ^ 1:=key 1
 have k2:(m:Int).toNat &&& (4:Int).toNat=m / 2 ^ 2 % 2*2 ^ 2:=key 2
 rw[u8_and (m:Int) 1 (by omega) (by omega) (by omega) (by omega),u8_and (m:Int) 2 (by omega) (by omega) (by omega) (by omega),u8_and (m:Int) 4 (by omega) (by omega) (by omega) (by omega),k0,k1,k2]
 refine⟨?_,?_,?_⟩ <;> (rw[decide_eq_decide];omega)
structure BT (w W:World)(x q:Nat)(l:List UInt8)(e:Int)(b:Bp):Prop where
 rd:Rd W x l e
 z:GB 212 W w.heap.size #[.int .u64 0,.int .u32 0,.int .u64 0,.int .u8 0,.int .u8 0,.int .u64 0,.int .u8 0,.bool false,.bool false,.bool false,.int .u64 0]
 bb:BB 212 W q b
 bel:Below w.heap.size w W
 hx:w.heap.size<x
 hq:x<q
section
variable {w W W':World} {x q:Nat} {l l':List UInt8} {e e':Int} {b b':Bp}
theorem BT.next (h:BT w W x q l e b)(hr:Rd W' x l' e')(ho:Only x W W'):BT w W' x q l' e' b :=
 ⟨hr,h.z.only ho (by have:=h.hx;omega),h.bb.only ho (by have:=h.hq;omega),h.bel.trans (ho.below (by have:=h.hx;omega) h.bel.size),h.hx,h.hq⟩
theorem BT.later (h:BT w W x q l e b)(hb:Below W.heap.size W W'):BT w W' x q l e b :=
 ⟨h.rd.later hb,h.z.later hb,h.bb.later hb,h.bel.trans (hb.mono h.bel.size),h.hx,h.hq⟩
theorem BT.put (h:BT w W x q l e b)(o:Nat)(v:Value)(hb:BB 212 (W.setCell ⟨q,o,none⟩ v) q b'):BT w (W.setCell ⟨q,o,none⟩ v) x q l e b' :=
 ⟨h.rd.setOther (by have:=h.hq;omega) _,h.z.other (by have:=h.hq;have:=h.hx;omega) _,hb,below_set h.bel (by have:=h.hq;have:=h.hx;omega) _,h.hx,h.hq⟩
end
theorem btake_any (s:List UInt8)(w:World)(hl:s.length≤100000):Calls Tryz.prog 149 #[.string (bs s)] w fun en w' =>
  en=.returned (.tuple #[.agg #[.int .u64 (tkB s).1.rt,.int .u32 (tkB s).1.co,.int .u64 (tkB s).1.br,.int .u8 (tkB s).1.po,.int .u8 (tkB s).1.ho,.int .u64 (tkB s).1.ve,.int .u8 (tkB s).1.ro,.bool (tkB s).1.pr,.bool (tkB s).1.ag,.bool (tkB s).1.tp,.int .u64 (tkB s).1.ec],.int .i64 (tkB s).2])∧Below w.heap.size w w':=by
 obtain⟨R,hR⟩:∃ R,tkB s=R:=⟨_,rfl⟩
 rw[hR]
 obtain⟨y1,l1,e1,h1⟩:∃ y l e,numOf (bt1 s).1=y∧(bt1 s).2.1=l∧(bt1 s).2.2=e:=⟨_,_,_,rfl,rfl,rfl⟩
 obtain⟨y2,l2,e2,h2⟩:∃ y l e,numOf (bt2 s).1=y∧(bt2 s).2.1=l∧(bt2 s).2.2=e:=⟨_,_,_,rfl,rfl,rfl⟩
 obtain⟨y3,l3,e3,h3⟩:∃ y l e,numOf (bt3 s).1=y∧(bt3 s).2.1=l∧(bt3 s).2.2=e:=⟨_,_,_,rfl,rfl,rfl⟩
 obtain⟨y4,l4,e4,h4⟩:∃ y l e,numOf (bt4 s).1=y∧(bt4 s).2.1=l∧(bt4 s).2.2=e:=⟨_,_,_,rfl,rfl,rfl⟩
 obtain⟨y5,l5,e5,h5⟩:∃ y l e,numOf (bt5 s).1=y∧(bt5 s).2.1=l∧(bt5 s).2.2=e:=⟨_,_,_,rfl,rfl,rfl⟩
 obtain⟨y6,l6,e6,h6⟩:∃ y l e,numOf (bt6 s).1=y∧(bt6 s).2.1=l∧(bt6 s).2.2=e:=⟨_,_,_,rfl,rfl,rfl⟩
 obtain⟨y7,l7,e7,h7⟩:∃ y l e,numOf (bt7 s).1=y∧(bt7 s).2.1=l∧(bt7 s).2.2=e:=⟨_,_,_,rfl,rfl,rfl⟩
 obtain⟨y8,l8,e8,h8⟩:∃ y l e,numOf (bt8 s).1=y∧(bt8 s).2.1=l∧(bt8 s).2.2=e:=⟨_,_,_,rfl,rfl,rfl⟩
 obtain⟨y9,l9,e9,h9⟩:∃ y l e,numOf (bt9 s).1=y∧(bt9 s).2.1=l∧(bt9 s).2.2=e:=⟨_,_,_,rfl,rfl,rfl⟩
 obtain⟨y10,l10,e10,h10⟩:∃ y l e,numOf (bt10 s).1=y∧(bt10 s).2.1=l∧(bt10 s).2.2=e:=⟨_,_,_,rfl,rfl,rfl⟩
 obtain⟨T,lr,er,hr⟩:∃ y l e,(btR s).1=y∧(btR s).2.1=l∧(btR s).2.2=e:=⟨_,_,_,rfl,rfl,rfl⟩
 have q2:rdText l1 e1 1=bt2 s:=by unfold bt2;rw[h1.2.1,h1.2.2]
 have q3:rdText l2 e2 1=bt3 s:=by unfold bt3;rw[h2.2.1,h2.2.2]
 have q4:rdText l3 e3 8=bt4 s:=by unfold bt4;rw[h3.2.1,h3.2.2]
 have q5:rdText l4 e4 4=bt5 s:=by unfold bt5;rw[h4.2.1,h4.2.2]
 have q6:rdText l5 e5 8=bt6 s:=by unfold bt6;rw[h5.2.1,h5.2.2]
 have q7:rdText l6 e6 1=bt7 s:=by unfold bt7;rw[h6.2.1,h6.2.2]
 have q8:rdText l7 e7 1=bt8 s:=by unfold bt8;rw[h7.2.1,h7.2.2]
 have q9:rdText l8 e8 8=bt9 s:=by unfold bt9;rw[h8.2.1,h8.2.2]
 have q10:rdText l9 e9 8=bt10 s:=by unfold bt10;rw[h9.2.1,h9.2.2]
 have qr:rdRest l10 e10=btR s:=by unfold btR;rw[h10.2.1,h10.2.2]
 have n1:l1.length≤s.length:=by have:=rd_le s 0 2;rw[show rdText s 0 2=bt1 s from rfl,h1.2.1] at this;exact this
 have n2:l2.length≤l1.length:=by have:=rd_le l1 e1 1;rw[q2,h2.2.1] at this;exact this
 have n3:l3.length≤l2.length:=by have:=rd_le l2 e2 1;rw[q3,h3.2.1] at this;exact this
 have n4:l4.length≤l3.length:=by have:=rd_le l3 e3 8;rw[q4,h4.2.1] at this;exact this
 have n5:l5.length≤l4.length:=by have:=rd_le l4 e4 4;rw[q5,h5.2.1] at this;exact this
 have n6:l6.length≤l5.length:=by have:=rd_le l5 e5 8;rw[q6,h6.2.1] at this;exact this
 have n7:l7.length≤l6.length:=by have:=rd_le l6 e6 1;rw[q7,h7.2.1] at this;exact this
 have n8:l8.length≤l7.length:=by have:=rd_le l7 e7 1;rw[q8,h8.2.1] at this;exact this
 have n9:l9.length≤l8.length:=by have:=rd_le l8 e8 8;rw[q9,h9.2.1] at this;exact this
 have n10:l10.length≤l9.length:=by have:=rd_le l9 e9 8;rw[q10,h10.2.1] at this;exact this
 have nT:T.length≤l10.length:=by have:=rd_le1 l10 e10 l10.length;rw[show rdText l10 e10 l10.length=rdRest l10 e10 from rfl,qr,hr.1] at this;exact this
 have U1:Hid (∀ w p,Rd w p s 0→Calls Tryz.prog 145 #[.pointer (some ⟨p,0,none⟩)] w fun en w'=>en=.returned (.int .u16 y1)∧Rd w' p l1 e1∧Only p w w'):=hd0 fun w p hr=>by
  have h:=U16_any p s 0 w hr (by omega)
  rw[show rdText s 0 2=bt1 s from rfl,h1.1,h1.2.1,h1.2.2] at h;exact h
 have U2:Hid (∀ w p,Rd w p l1 e1→Calls Tryz.prog 197 #[.pointer (some ⟨p,0,none⟩)] w fun en w'=>en=.returned (.int .u8 y2)∧Rd w' p l2 e2∧Only p w w'):=hd0 fun w p hr=>by
  have h:=U8_any p l1 e1 w hr (by omega)
  rw[q2,h2.1,h2.2.1,h2.2.2] at h;exact h
 have U3:Hid (∀ w p,Rd w p l2 e2→Calls Tryz.prog 197 #[.pointer (some ⟨p,0,none⟩)] w fun en w'=>en=.returned (.int .u8 y3)∧Rd w' p l3 e3∧Only p w w'):=hd0 fun w p hr=>by
  have h:=U8_any p l2 e2 w hr (by omega)
  rw[q3,h3.1,h3.2.1,h3.2.2] at h;exact h
 have U4:Hid (∀ w p,Rd w p l3 e3→Calls Tryz.prog 198 #[.pointer (some ⟨p,0,none⟩)] w fun en w'=>en=.returned (.int .u64 y4)∧Rd w' p l4 e4∧Only p w w'):=hd0 fun w p hr=>by
  have h:=U64_any p l3 e3 w hr (by omega)
  rw[q4,h4.1,h4.2.1,h4.2.2] at h;exact h
 have U5:Hid (∀ w p,Rd w p l4 e4→Calls Tryz.prog 199 #[.pointer (some ⟨p,0,none⟩)] w fun en w'=>en=.returned (.int .u32 y5)∧Rd w' p l5 e5∧Only p w w'):=hd0 fun w p hr=>by
  have h:=U32_any p l4 e4 w hr (by omega)
  rw[q5,h5.1,h5.2.1,h5.2.2] at h;exact h
 have U6:Hid (∀ w p,Rd w p l5 e5→Calls Tryz.prog 198 #[.pointer (some ⟨p,0,none⟩)] w fun en w'=>en=.returned (.int .u64 y6)∧Rd w' p l6 e6∧Only p w w'):=hd0 fun w p hr=>by
  have h:=U64_any p l5 e5 w hr (by omega)
  rw[q6,h6.1,h6.2.1,h6.2.2] at h;exact h
 have U7:Hid (∀ w p,Rd w p l6 e6→Calls Tryz.prog 197 #[.pointer (some ⟨p,0,none⟩)] w fun en w'=>en=.returned (.int .u8 y7)∧Rd w' p l7 e7∧Only p w w'):=hd0 fun w p hr=>by
  have h:=U8_any p l6 e6 w hr (by omega)
  rw[q7,h7.1,h7.2.1,h7.2.2] at h;exact h
 have U8:Hid (∀ w p,Rd w p l7 e7→Calls Tryz.prog 197 #[.pointer (some ⟨p,0,none⟩)] w fun en w'=>en=.returned (.int .u8 y8)∧Rd w' p l8 e8∧Only p w w'):=hd0 fun w p hr=>by
  have h:=U8_any p l7 e7 w hr (by omega)
  rw[q8,h8.1,h8.2.1,h8.2.2] at h;exact h
 have U9:Hid (∀ w p,Rd w p l8 e8→Calls Tryz.prog 198 #[.pointer (some ⟨p,0,none⟩)] w fun en w'=>en=.returned (.int .u64 y9)∧Rd w' p l9 e9∧Only p w w'):=hd0 fun w p hr=>by
  have h:=U64_any p l8 e8 w hr (by omega)
  rw[q9,h9.1,h9.2.1,h9.2.2] at h;exact h
 have U10:Hid (∀ w p,Rd w p l9 e9→Calls Tryz.prog 198 #[.pointer (some ⟨p,0,none⟩)] w fun en w'=>en=.returned (.int .u64 y10)∧Rd w' p l10 e10∧Only p w w'):=hd0 fun w p hr=>by
  have h:=U64_any p l9 e9 w hr (by omega)
  rw[q10,h10.1,h10.2.1,h10.2.2] at h;exact h
 have UR:Hid (∀ w p,Rd w p l10 e10→Calls Tryz.prog 147 #[.pointer (some ⟨p,0,none⟩)] w fun en w'=>en=.returned (.string (bs T))∧Rd w' p lr er∧Only p w w'):=hd0 fun w p hrd=>by
  have h:=rest_any p l10 e10 w hrd (by omega)
  rw[qr,hr.1,hr.2.1,hr.2.2] at h;exact h
 have hy3:0≤y3∧y3<256:=by
  rw[←h3.1]
  refine⟨(numOf_bd _).1,numOf_lt _ 1 256 (by rw[←q3];exact rdText_len _ _ 1) (by decide)⟩
 obtain⟨P1,hP1⟩:∃ X,decide (y3 % 2=1)=X:=⟨_,rfl⟩
 obtain⟨P2,hP2⟩:∃ X,decide (y3 / 2 % 2=1)=X:=⟨_,rfl⟩
 obtain⟨P4,hP4⟩:∃ X,decide (y3 / 4 % 2=1)=X:=⟨_,rfl⟩
 have bo:=bits_ok y3 hy3.1 hy3.2
 rw[hP1,hP2,hP4] at bo
 obtain⟨B,hB⟩:∃ B:Bp,(⟨y4,y5,y6,y7,y8,y9,y2,P1,P2,P4,y10⟩:Bp)=B:=⟨_,rfl⟩
 have hbp:bpOf s=B:=by unfold bpOf;rw[h2.1,h3.1,h4.1,h5.1,h6.1,h7.1,h8.1,h9.1,h10.1,hP1,hP2,hP4,hB]
 have hBok:B.Ok:=by
  rw[←hB]
  refine⟨?_,?_,?_,?_,?_,?_,?_,?_⟩
  ·show 0≤y4∧y4<18446744073709551616;rw[←h4.1];exact⟨(numOf_bd _).1,numOf_lt _ 8 18446744073709551616 (by rw[←q4];exact rdText_len _ _ 8) (by decide)⟩
  ·show 0≤y5∧y5<4294967296;rw[←h5.1];exact⟨(numOf_bd _).1,numOf_lt _ 4 4294967296 (by rw[←q5];exact rdText_len _ _ 4) (by decide)⟩
  ·show 0≤y6∧y6<18446744073709551616;rw[←h6.1];exact⟨(numOf_bd _).1,numOf_lt _ 8 18446744073709551616 (by rw[←q6];exact rdText_len _ _ 8) (by decide)⟩
  ·show 0≤y7∧y7<256;rw[←h7.1];exact⟨(numOf_bd _).1,numOf_lt _ 1 256 (by rw[←q7];exact rdText_len _ _ 1) (by decide)⟩
  ·show 0≤y8∧y8<256;rw[←h8.1];exact⟨(numOf_bd _).1,numOf_lt _ 1 256 (by rw[←q8];exact rdText_len _ _ 1) (by decide)⟩
  ·show 0≤y9∧y9<18446744073709551616;rw[←h9.1];exact⟨(numOf_bd _).1,numOf_lt _ 8 18446744073709551616 (by rw[←q9];exact rdText_len _ _ 8) (by decide)⟩
  ·show 0≤y2∧y2<256;rw[←h2.1];exact⟨(numOf_bd _).1,numOf_lt _ 1 256 (by rw[←q2];exact rdText_len _ _ 1) (by decide)⟩
  ·show 0≤y10∧y10<18446744073709551616;rw[←h10.1];exact⟨(numOf_bd _).1,numOf_lt _ 8 18446744073709551616 (by rw[←q10];exact rdText_len _ _ 8) (by decide)⟩
 obtain⟨M,hM⟩:∃ M,mayB B=M:=⟨_,rfl⟩
 obtain⟨Z,hZ⟩:∃ Z,decide (stL 0 (stR 0 T)=[])=Z:=⟨_,rfl⟩
 obtain⟨S,hS⟩:∃ S,stL 0 (stR 0 T)=S:=⟨_,rfl⟩
 have HRG:Hid (R=if (if (decide (y1=17229)&&(decide (y3≤7)&&(M&&Z)))=true then er else(rdFail lr er 4).2)=0 then(B,0) else(bp0,if (decide (y1=17229)&&(decide (y3≤7)&&(M&&Z)))=true then er else(rdFail lr er 4).2)):=hd0 (by
  rw[←hR];unfold tkB errB goodB;rw[hbp,hM,h1.1,h3.1,hr.1,hr.2.1,hr.2.2,hZ])
 obtain⟨A,hA⟩:∃ A:Array Value,A=#[.int .u64 B.rt,.int .u32 B.co,.int .u64 B.br,.int .u8 B.po,.int .u8 B.ho,.int .u64 B.ve,.int .u8 B.ro,.bool B.pr,.bool B.ag,.bool B.tp,.int .u64 B.ec]:=⟨_,rfl⟩
 have MY:Hid (∀ w,Calls Tryz.prog 175 #[.agg A] w fun en w'=>en=.returned (.bool M)∧Below w.heap.size w w'):=hd0 fun w=>by
  have h:=bmay_any B w hBok
  rw[hM] at h;rw[hA];exact h
 have TR:Hid (∀ w,Calls Tryz.prog 200 #[.string (bs T),.string { data:=#[0] }] w fun en w'=>en=.returned (.string (bs S))∧Below w.heap.size w w'):=hd0 fun w=>by
  have h:=trim0_any T w (by omega)
  rw[hS] at h;exact h
 have hie:(bs S).toList.isEmpty=Z:=by
  rw[bs_tl,← hZ,hS];cases S with|nil=>rfl|cons a b=>rfl
 have hs:A.size=11:=by rw[hA];rfl
 have o1:A.all (·.oneCell')=true:=by rw[hA];simp[Value.oneCell']
 have HI:Hid ((Tryz.prog.info? 212).map (·.size)=some A.size):=hd0 (by rw[hs];kernel_rfl)
 have HIL:Hid ((Tryz.prog.info? 212).map (·.size)=some A.toList.length):=hd0 (by rw[Array.length_toList];exact HI.out)
 have HS:=hd0 hs
 have O1:=hd0 o1
 have HA:=hd0 hA
 have HB:=hd0 hB
 have BO:=hd0 bo
 have HIE:=hd0 hie
 clear hR hr qr nT hy3 hP1 hP2 hP4 bo hB hbp hBok hM hZ hS hA hie hs o1 h1 n1 h2 n2 h3 n3 h4 n4 h5 n5 h6 n6 h7 n7 h8 n8 h9 n9 h10 n10 q2 q3 q4 q5 q6 q7 q8 q9 q10
 go_enter Tryz.func149,Tryz.ntmps149
 go_upto_region 1 with fail
 have z0:=GB.new 212 w #[.int .u64 0,.int .u32 0,.int .u64 0,.int .u8 0,.int .u8 0,.int .u64 0,.int .u8 0,.bool false,.bool false,.bool false,.int .u64 0]
 have hb0:Below w.heap.size w (w.alloc (.cells #[.int .u64 0,.int .u32 0,.int .u64 0,.int .u8 0,.int .u8 0,.int .u64 0,.int .u8 0,.bool false,.bool false,.bool false,.int .u64 0] 212)):=bAo _
 obtain⟨w0,hw0⟩:∃ k,w.alloc (.cells #[.int .u64 0,.int .u32 0,.int .u64 0,.int .u8 0,.int .u8 0,.int .u64 0,.int .u8 0,.bool false,.bool false,.bool false,.int .u64 0] 212)=k:=⟨_,rfl⟩
 rw[hw0] at z0 hb0 ⊢
 have Z0:=hd0 z0
 have HB0:=hd0 hb0
 clear hw0 z0 hb0
 go_wp2_with fail
 with_reducible refine(of_any s w0).mono ?_
 rintro en w1 ⟨rfl,hr1,hb1,hlt1⟩
 have Z1:=hd0 (Z0.out.later hb1)
 have HB1:=hd0 (HB0.out.trans (hb1.mono HB0.out.size))
 obtain⟨x,hx⟩:∃ x,w0.heap.size=x:=⟨_,rfl⟩
 rw[hx] at hr1 ⊢
 have HX:=hd0 (show w.heap.size<x by have:=Z0.out.lt;omega)
 have RD1:=hd0 hr1
 clear hr1 hb1 hlt1 Z0 HB0 hx
 go_upto_region 3 with fail
 have bb:Below w1.heap.size w1 (w1.alloc (.cells #[.int .u64 0,.int .u32 0,.int .u64 0,.int .u8 0,.int .u8 0,.int .u64 0,.int .u8 0,.bool false,.bool false,.bool false,.int .u64 0] 212)):=bAo _
 have nb:=BB.new 212 w1 bp0
 have r2:=RD1.out.later bb
 have z2:=Z1.out.later bb
 have b2:=HB1.out.trans (bb.mono HB1.out.size)
 have HQ:=hd0 (show x<w1.heap.size from RD1.out.lt)
 obtain⟨q,hq⟩:∃ k,w1.heap.size=k:=⟨_,rfl⟩
 obtain⟨w2,hw2⟩:∃ k,w1.alloc (.cells #[.int .u64 0,.int .u32 0,.int .u64 0,.int .u8 0,.int .u8 0,.int .u64 0,.int .u8 0,.bool false,.bool false,.bool false,.int .u64 0] 212)=k:=⟨_,rfl⟩
 have nb':BB 212 w2 q bp0:=by rw[←hw2,← hq];exact nb
 rw[hw2] at r2 z2 b2 ⊢
 rw[hq] at HQ ⊢
 have T2:Hid (BT w w2 x q s 0 bp0):=hd0 ⟨r2,z2,nb',b2,HX.out,HQ.out⟩
 clear bb nb r2 z2 b2 hw2 hq nb' Z1 HB1 RD1 HX HQ
 go_wp2_with fail
 with_reducible refine(U1.out _ _ T2.out.rd).mono ?_
 rintro en w3 ⟨rfl,rd_,ho_⟩
 have T3:=hd0 (T2.out.next rd_ ho_)
 clear rd_ ho_ T2 U1
 go_wp2_with fail
 with_reducible refine(U2.out _ _ T3.out.rd).mono ?_
 rintro en w4 ⟨rfl,rd_,ho_⟩
 have T4:=hd0 (T3.out.next rd_ ho_)
 clear rd_ ho_ T3 U2
 have c_:=T4.out.bb.c6
 have f_:=T4.out.bb.fr 6
 go_upto_region 5 with fail
 have nb:BB 212 (w4.setCell ⟨q,6,none⟩ (.int .u8 y2)) q ⟨0,0,0,0,0,0,y2,false,false,false,0⟩:=T4.out.bb.s6 y2
 have T5:=hd0 (T4.out.put 6 _ nb)
 obtain⟨w5,hw⟩:∃ k,w4.setCell ⟨q,6,none⟩ (.int .u8 y2)=k:=⟨_,rfl⟩
 rw[hw] at T5 ⊢
 clear nb hw c_ f_ T4
 go_wp2_with fail
 with_reducible refine(U3.out _ _ T5.out.rd).mono ?_
 rintro en w6 ⟨rfl,rd_,ho_⟩
 have T6:=hd0 (T5.out.next rd_ ho_)
 clear rd_ ho_ T5 U3
 have c7:=T6.out.bb.c7
 have c8:=T6.out.bb.c8
 have c9:=T6.out.bb.c9
 have f7:=T6.out.bb.fr 7
 have f8:=T6.out.bb.fr 8
 have f9:=T6.out.bb.fr 9
 obtain⟨bo1,bo2,bo4⟩:=BO.out
 go_upto_region 7 with fail
 have nb1:BB 212 (w6.setCell ⟨q,7,none⟩ (.bool P1)) q ⟨0,0,0,0,0,0,y2,P1,false,false,0⟩:=T6.out.bb.s7 P1
 have nb2:BB 212 ((w6.setCell ⟨q,7,none⟩ (.bool P1)).setCell ⟨q,8,none⟩ (.bool P2)) q ⟨0,0,0,0,0,0,y2,P1,P2,false,0⟩:=nb1.s8 P2
 have nb3:BB 212 (((w6.setCell ⟨q,7,none⟩ (.bool P1)).setCell ⟨q,8,none⟩ (.bool P2)).setCell ⟨q,9,none⟩ (.bool P4)) q ⟨0,0,0,0,0,0,y2,P1,P2,P4,0⟩:=nb2.s9 P4
 have T7:=hd0 (((T6.out.put 7 _ nb1).put 8 _ nb2).put 9 _ nb3)
 obtain⟨w7,hw⟩:∃ k,((w6.setCell ⟨q,7,none⟩ (.bool P1)).setCell ⟨q,8,none⟩ (.bool P2)).setCell ⟨q,9,none⟩ (.bool P4)=k:=⟨_,rfl⟩
 rw[hw] at T7 ⊢
 clear nb1 nb2 nb3 hw c7 c8 c9 f7 f8 f9 bo1 bo2 bo4 BO T6
 go_wp2_with fail
 with_reducible refine(U4.out _ _ T7.out.rd).mono ?_
 rintro en w8 ⟨rfl,rd_,ho_⟩
 have T8:=hd0 (T7.out.next rd_ ho_)
 clear rd_ ho_ T7 U4
 have c_:=T8.out.bb.c0
 have f_:=T8.out.bb.fr 0
 go_upto_region 8 with fail
 have nb:BB 212 (w8.setCell ⟨q,0,none⟩ (.int .u64 y4)) q ⟨y4,0,0,0,0,0,y2,P1,P2,P4,0⟩:=T8.out.bb.s0 y4
 have T9:=hd0 (T8.out.put 0 _ nb)
 obtain⟨w9,hw⟩:∃ k,w8.setCell ⟨q,0,none⟩ (.int .u64 y4)=k:=⟨_,rfl⟩
 rw[hw] at T9 ⊢
 clear nb hw c_ f_ T8
 go_wp2_with fail
 with_reducible refine(U5.out _ _ T9.out.rd).mono ?_
 rintro en w10 ⟨rfl,rd_,ho_⟩
 have T10:=hd0 (T9.out.next rd_ ho_)
 clear rd_ ho_ T9 U5
 have c_:=T10.out.bb.c1
 have f_:=T10.out.bb.fr 1
 go_upto_region 9 with fail
 have nb:BB 212 (w10.setCell ⟨q,1,none⟩ (.int .u32 y5)) q ⟨y4,y5,0,0,0,0,y2,P1,P2,P4,0⟩:=T10.out.bb.s1 y5
 have T11:=hd0 (T10.out.put 1 _ nb)
 obtain⟨w11,hw⟩:∃ k,w10.setCell ⟨q,1,none⟩ (.int .u32 y5)=k:=⟨_,rfl⟩
 rw[hw] at T11 ⊢
 clear nb hw c_ f_ T10
 go_wp2_with fail
 with_reducible refine(U6.out _ _ T11.out.rd).mono ?_
 rintro en w12 ⟨rfl,rd_,ho_⟩
 have T12:=hd0 (T11.out.next rd_ ho_)
 clear rd_ ho_ T11 U6
 have c_:=T12.out.bb.c2
 have f_:=T12.out.bb.fr 2
 go_upto_region 10 with fail
 have nb:BB 212 (w12.setCell ⟨q,2,none⟩ (.int .u64 y6)) q ⟨y4,y5,y6,0,0,0,y2,P1,P2,P4,0⟩:=T12.out.bb.s2 y6
 have T13:=hd0 (T12.out.put 2 _ nb)
 obtain⟨w13,hw⟩:∃ k,w12.setCell ⟨q,2,none⟩ (.int .u64 y6)=k:=⟨_,rfl⟩
 rw[hw] at T13 ⊢
 clear nb hw c_ f_ T12
 go_wp2_with fail
 with_reducible refine(U7.out _ _ T13.out.rd).mono ?_
 rintro en w14 ⟨rfl,rd_,ho_⟩
 have T14:=hd0 (T13.out.next rd_ ho_)
 clear rd_ ho_ T13 U7
 have c_:=T14.out.bb.c3
 have f_:=T14.out.bb.fr 3
 go_upto_region 11 with fail
 have nb:BB 212 (w14.setCell ⟨q,3,none⟩ (.int .u8 y7)) q ⟨y4,y5,y6,y7,0,0,y2,P1,P2,P4,0⟩:=T14.out.bb.s3 y7
 have T15:=hd0 (T14.out.put 3 _ nb)
 obtain⟨w15,hw⟩:∃ k,w14.setCell ⟨q,3,none⟩ (.int .u8 y7)=k:=⟨_,rfl⟩
 rw[hw] at T15 ⊢
 clear nb hw c_ f_ T14
 go_wp2_with fail
 with_reducible refine(U8.out _ _ T15.out.rd).mono ?_
 rintro en w16 ⟨rfl,rd_,ho_⟩
 have T16:=hd0 (T15.out.next rd_ ho_)
 clear rd_ ho_ T15 U8
 have c_:=T16.out.bb.c4
 have f_:=T16.out.bb.fr 4
 go_upto_region 12 with fail
 have nb:BB 212 (w16.setCell ⟨q,4,none⟩ (.int .u8 y8)) q ⟨y4,y5,y6,y7,y8,0,y2,P1,P2,P4,0⟩:=T16.out.bb.s4 y8
 have T17:=hd0 (T16.out.put 4 _ nb)
 obtain⟨w17,hw⟩:∃ k,w16.setCell ⟨q,4,none⟩ (.int .u8 y8)=k:=⟨_,rfl⟩
 rw[hw] at T17 ⊢
 clear nb hw c_ f_ T16
 go_wp2_with fail
 with_reducible refine(U9.out _ _ T17.out.rd).mono ?_
 rintro en w18 ⟨rfl,rd_,ho_⟩
 have T18:=hd0 (T17.out.next rd_ ho_)
 clear rd_ ho_ T17 U9
 have c_:=T18.out.bb.c5
 have f_:=T18.out.bb.fr 5
 go_upto_region 13 with fail
 have nb:BB 212 (w18.setCell ⟨q,5,none⟩ (.int .u64 y9)) q ⟨y4,y5,y6,y7,y8,y9,y2,P1,P2,P4,0⟩:=T18.out.bb.s5 y9
 have T19:=hd0 (T18.out.put 5 _ nb)
 obtain⟨w19,hw⟩:∃ k,w18.setCell ⟨q,5,none⟩ (.int .u64 y9)=k:=⟨_,rfl⟩
 rw[hw] at T19 ⊢
 clear nb hw c_ f_ T18
 go_wp2_with fail
 with_reducible refine(U10.out _ _ T19.out.rd).mono ?_
 rintro en w20 ⟨rfl,rd_,ho_⟩
 have T20:=hd0 (T19.out.next rd_ ho_)
 clear rd_ ho_ T19 U10
 have c_:=T20.out.bb.c10
 have f_:=T20.out.bb.fr 10
 go_upto_region 14 with fail
 have nb:BB 212 (w20.setCell ⟨q,10,none⟩ (.int .u64 y10)) q ⟨y4,y5,y6,y7,y8,y9,y2,P1,P2,P4,y10⟩:=T20.out.bb.s10 y10
 have T21:=hd0 (T20.out.put 10 _ nb)
 obtain⟨w21,hw⟩:∃ k,w20.setCell ⟨q,10,none⟩ (.int .u64 y10)=k:=⟨_,rfl⟩
 rw[hw] at T21 ⊢
 clear nb hw c_ f_ T20
 rw[HB.out] at T21
 go_wp2_with fail
 with_reducible refine(UR.out _ _ T21.out.rd).mono ?_
 rintro en w22 ⟨rfl,rd_,ho_⟩
 have TT:=hd0 (T21.out.next rd_ ho_)
 clear rd_ ho_ T21 UR
 obtain⟨W0,hW0⟩:∃ k,w22=k:=⟨_,rfl⟩
 rw[hW0] at TT ⊢
 clear hW0
 have HG:=hd0 (show W0.rangeAt q 0 A.toList by rw[HA.out];exact TT.out.bb.gb.range)
 by_cases h1:y1=17229
 rotate_left
 ·have d1:(y1 != 17229)=true:=by rw[bne_iff_ne];exact h1
  have HBAD:Hid (R=if (rdFail lr er 4).2=0 then(B,0) else(bp0,(rdFail lr er 4).2)):=hd0 (by rw[HRG.out,decide_eq_false h1];rfl)
  clear h1 HRG
  go_wp2_with fail
  with_reducible refine(bad_any x lr er _ TT.out.rd).mono ?_
  rintro en wb ⟨rfl,rd_,ho_⟩
  have TB:=hd0 (TT.out.next rd_ ho_)
  obtain⟨lf,ef,hf⟩:∃ l e,rdFail lr er 4=(l,e):=⟨_,_,rfl⟩
  have he:ef≠0:=by
   have h:=congrArg Prod.snd hf
   unfold rdFail at h
   by_cases h0:er=0
   ·rw[if_pos h0] at h;intro h2;rw[h2] at h;exact absurd (show(4:Int)=0 from h) (by decide)
   ·rw[if_neg h0] at h;intro h2;rw[h2] at h;exact h0 h
  have HR2:Hid (R=(bp0,ef)):=hd0 (by rw[HBAD.out,hf];exact if_neg he)
  rw[hf] at TB
  have de:(ef != 0)=true:=by rw[bne_iff_ne];exact he
  clear rd_ ho_ TT hf he HBAD
  go_wp2_with fail
  with_reducible refine(err_any x lf ef _ TB.out.rd).mono ?_
  rintro en _ ⟨rfl,rfl⟩
  obtain⟨AZ,hAZ⟩:∃ A:Array Value,A=#[.int .u64 0,.int .u32 0,.int .u64 0,.int .u8 0,.int .u8 0,.int .u64 0,.int .u8 0,.bool false,.bool false,.bool false,.int .u64 0]:=⟨_,rfl⟩
  have hsz:AZ.size=11:=by rw[hAZ];rfl
  have oz:AZ.all (·.oneCell')=true:=by rw[hAZ];simp[Value.oneCell']
  have IZ:Hid ((Tryz.prog.info? 212).map (·.size)=some AZ.size):=hd0 (by rw[hsz];kernel_rfl)
  have TH:=hd0 (TB.out.z.there (n:=AZ.size) (by rw[hsz];exact Nat.le_refl _))
  have G1:=hd0 (TB.out.z.store (A:=AZ) (by rw[hsz];rfl) oz)
  have OZ:=hd0 oz
  have HAZ:=hd0 hAZ
  clear hAZ hsz oz
  go_wp2_with ((with_reducible refine wpList_store_mid rfl 212 (.tmp 2) (.tmp 80) rfl w.heap.size 0 AZ ?hx ?hy TH.out IZ.out OZ.out ?_);(case hx=>rfl);(case hy=>(rw[HAZ.out];rfl)))
  exact bodyPost_ret (v:=.tuple #[.agg AZ,.int .i64 ef]) (res_two (p:=2) (u:=3) (d:=_) rfl rfl Tryz.underlying212 _ _ w.heap.size _ rfl G1.out IZ.out) rfl ⟨by rw[HAZ.out,HR2.out];rfl,below_cellsG (Nat.le_refl _) _ _ _ TB.out.bel⟩
 have d1:(y1 != 17229)=false:=by rw[h1];rfl
 by_cases h7:y3≤7
 rotate_left
 ·have d7:decide ((7:Int)<y3)=true:=decide_eq_true (by omega)
  have HBAD:Hid (R=if (rdFail lr er 4).2=0 then(B,0) else(bp0,(rdFail lr er 4).2)):=hd0 (by rw[HRG.out,decide_eq_false h7,Bool.false_and,Bool.and_false];rfl)
  clear h1 h7 HRG
  go_wp2_with fail
  with_reducible refine(bad_any x lr er _ TT.out.rd).mono ?_
  rintro en wb ⟨rfl,rd_,ho_⟩
  have TB:=hd0 (TT.out.next rd_ ho_)
  obtain⟨lf,ef,hf⟩:∃ l e,rdFail lr er 4=(l,e):=⟨_,_,rfl⟩
  have he:ef≠0:=by
   have h:=congrArg Prod.snd hf
   unfold rdFail at h
   by_cases h0:er=0
   ·rw[if_pos h0] at h;intro h2;rw[h2] at h;exact absurd (show(4:Int)=0 from h) (by decide)
   ·rw[if_neg h0] at h;intro h2;rw[h2] at h;exact h0 h
  have HR2:Hid (R=(bp0,ef)):=hd0 (by rw[HBAD.out,hf];exact if_neg he)
  rw[hf] at TB
  have de:(ef != 0)=true:=by rw[bne_iff_ne];exact he
  clear rd_ ho_ TT hf he HBAD
  go_wp2_with fail
  with_reducible refine(err_any x lf ef _ TB.out.rd).mono ?_
  rintro en _ ⟨rfl,rfl⟩
  obtain⟨AZ,hAZ⟩:∃ A:Array Value,A=#[.int .u64 0,.int .u32 0,.int .u64 0,.int .u8 0,.int .u8 0,.int .u64 0,.int .u8 0,.bool false,.bool false,.bool false,.int .u64 0]:=⟨_,rfl⟩
  have hsz:AZ.size=11:=by rw[hAZ];rfl
  have oz:AZ.all (·.oneCell')=true:=by rw[hAZ];simp[Value.oneCell']
  have IZ:Hid ((Tryz.prog.info? 212).map (·.size)=some AZ.size):=hd0 (by rw[hsz];kernel_rfl)
  have TH:=hd0 (TB.out.z.there (n:=AZ.size) (by rw[hsz];exact Nat.le_refl _))
  have G1:=hd0 (TB.out.z.store (A:=AZ) (by rw[hsz];rfl) oz)
  have OZ:=hd0 oz
  have HAZ:=hd0 hAZ
  clear hAZ hsz oz
  go_wp2_with ((with_reducible refine wpList_store_mid rfl 212 (.tmp 2) (.tmp 80) rfl w.heap.size 0 AZ ?hx ?hy TH.out IZ.out OZ.out ?_);(case hx=>rfl);(case hy=>(rw[HAZ.out];rfl)))
  exact bodyPost_ret (v:=.tuple #[.agg AZ,.int .i64 ef]) (res_two (p:=2) (u:=3) (d:=_) rfl rfl Tryz.underlying212 _ _ w.heap.size _ rfl G1.out IZ.out) rfl ⟨by rw[HAZ.out,HR2.out];rfl,below_cellsG (Nat.le_refl _) _ _ _ TB.out.bel⟩
 have d7:decide ((7:Int)<y3)=false:=decide_eq_false (by omega)
 have HR1:Hid (R=if (if (M&&Z)=true then er else(rdFail lr er 4).2)=0 then(B,0) else(bp0,if (M&&Z)=true then er else(rdFail lr er 4).2)):=hd0 (by
  have h:=HRG.out
  rw[decide_eq_true h1,decide_eq_true h7,Bool.true_and,Bool.true_and] at h;exact h)
 clear h1 h7 HRG
 go_wp2_with ((with_reducible refine wpList_load_gH ?hw 212 (.tmp 5) rfl q 0 ?hx A.toList _ HG.out Tryz.underlying212 ?hu HIL.out ?_);(case hw=>rfl);(case hx=>rfl);(case hu=>rfl))
 with_reducible refine(MY.out _).mono ?_
 rintro en W1 ⟨rfl,hb_⟩
 have TU:=hd0 (TT.out.later hb_)
 clear hb_ TT HG
 have TT:=TU
 clear TU
 cases M with
 | false =>
  have HBAD:Hid (R=if (rdFail lr er 4).2=0 then(B,0) else(bp0,(rdFail lr er 4).2)):=hd0 (by rw[HR1.out];rfl)
  clear HR1
  go_wp2_with fail
  with_reducible refine(bad_any x lr er _ TT.out.rd).mono ?_
  rintro en wb ⟨rfl,rd_,ho_⟩
  have TB:=hd0 (TT.out.next rd_ ho_)
  obtain⟨lf,ef,hf⟩:∃ l e,rdFail lr er 4=(l,e):=⟨_,_,rfl⟩
  have he:ef≠0:=by
   have h:=congrArg Prod.snd hf
   unfold rdFail at h
   by_cases h0:er=0
   ·rw[if_pos h0] at h;intro h2;rw[h2] at h;exact absurd (show(4:Int)=0 from h) (by decide)
   ·rw[if_neg h0] at h;intro h2;rw[h2] at h;exact h0 h
  have HR2:Hid (R=(bp0,ef)):=hd0 (by rw[HBAD.out,hf];exact if_neg he)
  rw[hf] at TB
  have de:(ef != 0)=true:=by rw[bne_iff_ne];exact he
  clear rd_ ho_ TT hf he HBAD
  go_wp2_with fail
  with_reducible refine(err_any x lf ef _ TB.out.rd).mono ?_
  rintro en _ ⟨rfl,rfl⟩
  obtain⟨AZ,hAZ⟩:∃ A:Array Value,A=#[.int .u64 0,.int .u32 0,.int .u64 0,.int .u8 0,.int .u8 0,.int .u64 0,.int .u8 0,.bool false,.bool false,.bool false,.int .u64 0]:=⟨_,rfl⟩
  have hsz:AZ.size=11:=by rw[hAZ];rfl
  have oz:AZ.all (·.oneCell')=true:=by rw[hAZ];simp[Value.oneCell']
  have IZ:Hid ((Tryz.prog.info? 212).map (·.size)=some AZ.size):=hd0 (by rw[hsz];kernel_rfl)
  have TH:=hd0 (TB.out.z.there (n:=AZ.size) (by rw[hsz];exact Nat.le_refl _))
  have G1:=hd0 (TB.out.z.store (A:=AZ) (by rw[hsz];rfl) oz)
  have OZ:=hd0 oz
  have HAZ:=hd0 hAZ
  clear hAZ hsz oz
  go_wp2_with ((with_reducible refine wpList_store_mid rfl 212 (.tmp 2) (.tmp 80) rfl w.heap.size 0 AZ ?hx ?hy TH.out IZ.out OZ.out ?_);(case hx=>rfl);(case hy=>(rw[HAZ.out];rfl)))
  exact bodyPost_ret (v:=.tuple #[.agg AZ,.int .i64 ef]) (res_two (p:=2) (u:=3) (d:=_) rfl rfl Tryz.underlying212 _ _ w.heap.size _ rfl G1.out IZ.out) rfl ⟨by rw[HAZ.out,HR2.out];rfl,below_cellsG (Nat.le_refl _) _ _ _ TB.out.bel⟩
 | true =>
 go_wp2_with fail
 with_reducible refine(TR.out _).mono ?_
 rintro en W2 ⟨rfl,hb_⟩
 have TU:=hd0 (TT.out.later hb_)
 clear hb_ TT
 have TT:=TU
 clear TU
 have hie:=HIE.out
 cases Z with
 | false =>
  have HBAD:Hid (R=if (rdFail lr er 4).2=0 then(B,0) else(bp0,(rdFail lr er 4).2)):=hd0 (by rw[HR1.out];rfl)
  clear HR1
  go_wp2_with fail
  with_reducible refine(bad_any x lr er _ TT.out.rd).mono ?_
  rintro en wb ⟨rfl,rd_,ho_⟩
  have TB:=hd0 (TT.out.next rd_ ho_)
  obtain⟨lf,ef,hf⟩:∃ l e,rdFail lr er 4=(l,e):=⟨_,_,rfl⟩
  have he:ef≠0:=by
   have h:=congrArg Prod.snd hf
   unfold rdFail at h
   by_cases h0:er=0
   ·rw[if_pos h0] at h;intro h2;rw[h2] at h;exact absurd (show(4:Int)=0 from h) (by decide)
   ·rw[if_neg h0] at h;intro h2;rw[h2] at h;exact h0 h
  have HR2:Hid (R=(bp0,ef)):=hd0 (by rw[HBAD.out,hf];exact if_neg he)
  rw[hf] at TB
  have de:(ef != 0)=true:=by rw[bne_iff_ne];exact he
  clear rd_ ho_ TT hf he HBAD
  go_wp2_with fail
  with_reducible refine(err_any x lf ef _ TB.out.rd).mono ?_
  rintro en _ ⟨rfl,rfl⟩
  obtain⟨AZ,hAZ⟩:∃ A:Array Value,A=#[.int .u64 0,.int .u32 0,.int .u64 0,.int .u8 0,.int .u8 0,.int .u64 0,.int .u8 0,.bool false,.bool false,.bool false,.int .u64 0]:=⟨_,rfl⟩
  have hsz:AZ.size=11:=by rw[hAZ];rfl
  have oz:AZ.all (·.oneCell')=true:=by rw[hAZ];simp[Value.oneCell']
  have IZ:Hid ((Tryz.prog.info? 212).map (·.size)=some AZ.size):=hd0 (by rw[hsz];kernel_rfl)
  have TH:=hd0 (TB.out.z.there (n:=AZ.size) (by rw[hsz];exact Nat.le_refl _))
  have G1:=hd0 (TB.out.z.store (A:=AZ) (by rw[hsz];rfl) oz)
  have OZ:=hd0 oz
  have HAZ:=hd0 hAZ
  clear hAZ hsz oz
  go_wp2_with ((with_reducible refine wpList_store_mid rfl 212 (.tmp 2) (.tmp 80) rfl w.heap.size 0 AZ ?hx ?hy TH.out IZ.out OZ.out ?_);(case hx=>rfl);(case hy=>(rw[HAZ.out];rfl)))
  exact bodyPost_ret (v:=.tuple #[.agg AZ,.int .i64 ef]) (res_two (p:=2) (u:=3) (d:=_) rfl rfl Tryz.underlying212 _ _ w.heap.size _ rfl G1.out IZ.out) rfl ⟨by rw[HAZ.out,HR2.out];rfl,below_cellsG (Nat.le_refl _) _ _ _ TB.out.bel⟩
 | true =>
 have HR2:Hid (R=if er=0 then(B,0) else(bp0,er)):=hd0 (by rw[HR1.out];rfl)
 clear HR1
 go_wp2_with fail
 with_reducible refine(err_any x lr er _ TT.out.rd).mono ?_
 rintro en _ ⟨rfl,rfl⟩
 by_cases he:er=0
 rotate_left
 ·have de:(er != 0)=true:=by rw[bne_iff_ne];exact he
  have HR3:Hid (R=(bp0,er)):=hd0 (by rw[HR2.out,if_neg he])
  obtain⟨AZ,hAZ⟩:∃ A:Array Value,A=#[.int .u64 0,.int .u32 0,.int .u64 0,.int .u8 0,.int .u8 0,.int .u64 0,.int .u8 0,.bool false,.bool false,.bool false,.int .u64 0]:=⟨_,rfl⟩
  have hsz:AZ.size=11:=by rw[hAZ];rfl
  have oz:AZ.all (·.oneCell')=true:=by rw[hAZ];simp[Value.oneCell']
  have IZ:Hid ((Tryz.prog.info? 212).map (·.size)=some AZ.size):=hd0 (by rw[hsz];kernel_rfl)
  have TH:=hd0 (TT.out.z.there (n:=AZ.size) (by rw[hsz];exact Nat.le_refl _))
  have G1:=hd0 (TT.out.z.store (A:=AZ) (by rw[hsz];rfl) oz)
  have OZ:=hd0 oz
  have HAZ:=hd0 hAZ
  clear hAZ hsz oz he
  go_wp2_with ((with_reducible refine wpList_store_mid rfl 212 (.tmp 2) (.tmp 80) rfl w.heap.size 0 AZ ?hx ?hy TH.out IZ.out OZ.out ?_);(case hx=>rfl);(case hy=>(rw[HAZ.out];rfl)))
  exact bodyPost_ret (v:=.tuple #[.agg AZ,.int .i64 er]) (res_two (p:=2) (u:=3) (d:=_) rfl rfl Tryz.underlying212 _ _ w.heap.size _ rfl G1.out IZ.out) rfl ⟨by rw[HAZ.out,HR3.out];rfl,below_cellsG (Nat.le_refl _) _ _ _ TT.out.bel⟩
 have de:(er != 0)=false:=by rw[he];rfl
 have HR3:Hid (R=(B,0)):=hd0 (by rw[HR2.out,if_pos he])
 have HG:=hd0 (show W2.rangeAt q 0 A.toList by rw[HA.out];exact TT.out.bb.gb.range)
 have TH:=hd0 (TT.out.z.there (n:=A.size) (by rw[HS.out];exact Nat.le_refl _))
 have G1:=hd0 (TT.out.z.store (A:=A) (by rw[HS.out];rfl) O1.out)
 clear he
 go_wp2_with (first|((with_reducible refine wpList_load_mid rfl 212 (.tmp 5) rfl q 0 ?hx A.toList _ HG.out Tryz.underlying212 ?hu HIL.out ?_);(case hx=>rfl);(case hu=>rfl))|((with_reducible refine wpList_store_mid rfl 212 (.tmp 2) (.tmp 82) rfl w.heap.size 0 A ?hx ?hy TH.out HI.out O1.out ?_);(case hx=>rfl);(case hy=>rfl)))
 exact bodyPost_ret (v:=.tuple #[.agg A,.int .i64 0]) (res_two (p:=2) (u:=3) (d:=_) rfl rfl Tryz.underlying212 _ _ w.heap.size _ rfl G1.out HI.out) rfl ⟨by rw[HA.out,HR3.out],below_cellsG (Nat.le_refl _) _ _ _ TT.out.bel⟩
end Go.Proofs.YtghaobakpdninaaGreatDoor
