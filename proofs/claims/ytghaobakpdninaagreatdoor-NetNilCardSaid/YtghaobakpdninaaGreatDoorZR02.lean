/- ZR02 -/
import Derived.Test.YtghaobakpdninaaGreatDoorZR01
import Derived.Deep.RegionHeld3
import Derived.OpenShut
import Derived.ShutString
import Derived.Lib.SmallJoins
import Derived.Deep.RegionLaw
import Derived.Lib.LazyBuf
import Derived.Deep.MidRow
import Derived.Laws.ResultCell
import Derived.Laws.CopyRow
import Derived.Laws.StructEq
import Derived.Deep.DeepCutAuto
import Derived.Deep.CutBlock
set_option linter.unusedVariables false
set_option linter.unusedSimpArgs false
set_option maxRecDepth 100000
set_option maxHeartbeats 16000000
namespace Go.Proofs.YtghaobakpdninaaGreatDoor
open Go.RowKit
def rdText (l:List UInt8)(e n:Int):List UInt8 × List UInt8 × Int :=
 if n≤0∨e≠0 then([],l,e) else if (l.length:Int)<n then([],[],3) else(l.take n.toNat,l.drop n.toNat,e)
theorem text_any (p:Nat)(l:List UInt8)(e n:Int)(w:World)(hr:Rd w p l e)(hl:l.length≤9223372036854775807) :
  Calls Tryz.prog 144 #[.pointer (some ⟨p,0,none⟩),.int .i64 n] w fun en w'=>en=.returned (.string (bs (rdText l e n).1))∧Rd w' p (rdText l e n).2.1 (rdText l e n).2.2∧Only p w w':=by
 have c0:=hr.c0
 have c1:=hr.c1
 have f0:=hr.f0
 have f1:=hr.f1
 have HR:=hd0 hr;clear hr
 have hsz:=bs_size l
 by_cases hn:n≤0
 ·have hv:rdText l e n=([],l,e):=by unfold rdText;rw[if_pos (.inl hn)]
  rw[hv];clear hv
  go_enter Tryz.func144,Tryz.ntmps144
  go_wp2
  go_ret
  exact⟨rfl,HR.out,Only.refl _ _⟩
 by_cases he:e=0
 ·subst he
  by_cases hln:(l.length:Int)<n
  ·have hv:rdText l 0 n=([],[],3):=by unfold rdText;rw[if_neg (by simp;omega),if_pos hln]
   rw[hv];clear hv
   go_enter Tryz.func144,Tryz.ntmps144
   go_wp2_with (go_at_call 194;refine(fail_any p l 0 3 _ HR.out).mono ?_;rintro en w' ⟨rfl,hr',ho'⟩)
   go_ret
   exact⟨rfl,hr',ho'⟩
  ·have hv:rdText l 0 n=(l.take n.toNat,l.drop n.toNat,0):=by unfold rdText;rw[if_neg (by simp;omega),if_neg hln]
   rw[hv];clear hv
   go_enter Tryz.func144,Tryz.ntmps144
   go_wp2
   go_ret
   refine⟨?_,?_,Only.set p w 0 _⟩
   ·rw[←bs_take];rfl
   ·rw[bs_drop l n.toNat l.length (by omega)];exact HR.out.set0 _
 ·have hv:rdText l e n=([],l,e):=by unfold rdText;rw[if_pos (.inr he)]
  have he':(e != 0)=true:=by simp[he]
  rw[hv];clear hv he
  go_enter Tryz.func144,Tryz.ntmps144
  go_wp2
  go_ret
  exact⟨rfl,HR.out,Only.refl _ _⟩
theorem left_any (p:Nat)(l:List UInt8)(e:Int)(w:World)(hr:Rd w p l e)(hl:l.length≤9223372036854775807) :
  Calls Tryz.prog 196 #[.pointer (some ⟨p,0,none⟩)] w fun en w'=>en=.returned (.int .i64 l.length)∧w=w':=by
 have c0:=hr.c0
 have hsz:=bs_size l
 clear hr
 go_enter Tryz.func196,Tryz.ntmps196
 go_wp2
 go_ret
 exact⟨rfl,rfl⟩
theorem err_any (p:Nat)(l:List UInt8)(e:Int)(w:World)(hr:Rd w p l e) :
  Calls Tryz.prog 148 #[.pointer (some ⟨p,0,none⟩)] w fun en w'=>en=.returned (.int .i64 e)∧w=w':=by
 have c1:=hr.c1
 clear hr
 go_enter Tryz.func148,Tryz.ntmps148
 go_wp2
 go_ret
 exact⟨rfl,rfl⟩
theorem bad_any (p:Nat)(l:List UInt8)(e:Int)(w:World)(hr:Rd w p l e) :
  Calls Tryz.prog 146 #[.pointer (some ⟨p,0,none⟩)] w fun en w'=>en=.returned (.tuple #[])∧Rd w' p (rdFail l e 4).1 (rdFail l e 4).2∧Only p w w':=by
 have HR:=hd0 hr;clear hr
 go_enter Tryz.func146,Tryz.ntmps146
 go_wp2_with (go_at_call 194;refine(fail_any p l e 4 _ HR.out).mono ?_;rintro en w' ⟨rfl,hr',ho'⟩)
 go_end0
 exact⟨rfl,hr',ho'⟩
def rdRest (l:List UInt8)(e:Int):List UInt8 × List UInt8 × Int:=rdText l e l.length
theorem rest_any (p:Nat)(l:List UInt8)(e:Int)(w:World)(hr:Rd w p l e)(hl:l.length≤9223372036854775807) :
  Calls Tryz.prog 147 #[.pointer (some ⟨p,0,none⟩)] w fun en w'=>en=.returned (.string (bs (rdRest l e).1))∧Rd w' p (rdRest l e).2.1 (rdRest l e).2.2∧Only p w w':=by
 have HR:=hd0 hr;clear hr
 go_enter Tryz.func147,Tryz.ntmps147
 go_wp2_with (first|(go_at_call 196;refine(left_any p l e _ HR.out hl).mono ?_;rintro en w' ⟨rfl,rfl⟩)|(go_at_call 144;refine(text_any p l e _ _ HR.out hl).mono ?_;rintro en w' ⟨rfl,hr',ho'⟩))
 go_ret
 exact⟨rfl,hr',ho'⟩
def numOf (t:List UInt8):Int:=t.foldl (fun n b=>n*256+(b.toNat:Int)) 0
theorem numOf_snoc (t:List UInt8)(b:UInt8):numOf (t++[b])=numOf t*256+(b.toNat:Int):=by simp[numOf]
theorem numFrom_bd:∀ (t:List UInt8) (a:Int),0≤a→0≤t.foldl (fun n b=>n*256+(b.toNat:Int)) a∧t.foldl (fun n b=>n*256+(b.toNat:Int)) a<(a+1)*256 ^ t.length
 |[],a,h=>by simp;omega
 | b::t,a,h=>by
  have hb:=b.toNat_lt
  have ih:=numFrom_bd t (a*256+(b.toNat:Int)) (by omega)
  simp only[List.foldl_cons,List.length_cons,Int.pow_succ]
  refine⟨ih.1,Int.lt_of_lt_of_le ih.2 ?_⟩
  have h1:(0:Int)≤256 ^ t.length:=Int.le_of_lt (Int.pow_pos (by decide))
  have h2:(a*256+(b.toNat:Int)+1)*256 ^ t.length≤((a+1)*256)*256 ^ t.length:=Int.mul_le_mul_of_nonneg_right (by omega) h1
  rw[Int.mul_comm (256 ^ t.length) 256,← Int.mul_assoc]
  exact h2
theorem numOf_bd (t:List UInt8):0≤numOf t∧numOf t<256 ^ t.length:=by
 have:=numFrom_bd t 0 (by omega)
 simpa [numOf] using this
theorem numOf_lt (t:List UInt8)(K:Nat)(M:Int)(h:t.length≤K)(hM:(256:Int) ^ K=M):numOf t<M:=by
 have h1:=(numOf_bd t).2
 have h2:((256 ^ t.length:Nat):Int)≤((256 ^ K:Nat):Int):=Int.ofNat_le.2 (Nat.pow_le_pow_right (by decide) h)
 rw[Int.natCast_pow,Int.natCast_pow] at h2
 rw[←hM]
 exact Int.lt_of_lt_of_le h1 h2
theorem or_byte (x:Int)(b:UInt8)(h0:0≤x)(h1:x<72057594037927936):bits BinOp.or IntKind.u64 (x*256) (IntKind.u64.wrap (b.toNat:Int))=x*256+(b.toNat:Int):=by
 have hb:=b.toNat_lt
 have e1:IntKind.u64.wrap (b.toNat:Int)=(b.toNat:Int):=IntWalk.u64_in _ (by omega)
 rw[e1]
 obtain⟨n,rfl⟩:=Int.eq_ofNat_of_zero_le h0
 have e2:bits BinOp.or IntKind.u64 ((n:Int)*256) (b.toNat:Int)=((n*256 ||| b.toNat:Nat):Int):=by
  have:=u64_or ((n:Int)*256) (b.toNat:Int) (by omega) (by omega) (by omega) (by omega)
  rw[this]
  congr 2
 rw[e2]
 have e3:n*256 ||| b.toNat=n*256+b.toNat:=by
  have:=Nat.two_pow_add_eq_or_of_lt (i:=8) (b:=b.toNat) (by omega) n
  rw[show n*256=2 ^ 8*n by omega]
  exact this.symm
 rw[e3]
 simp
theorem numOf_step (t:List UInt8)(k:Nat)(h:k<t.length)(h':k<(bs t).size)(hK:k≤7) :
  bits BinOp.or IntKind.u64 (numOf (t.take k)*256) (IntKind.u64.wrap (((bs t)[k]'h').toNat:Int))=numOf (t.take (k+1)):=by
 rw[bs_get t k h' h,or_byte _ _ (numOf_bd _).1 (numOf_lt _ 7 _ (by simp;omega) (by decide)),← numOf_snoc,List.take_append_getElem]
theorem rdText_len (l:List UInt8)(e:Int)(K:Nat):(rdText l e K).1.length≤K:=by
 unfold rdText
 repeat' split
 all_goals simp
 omega
theorem read_uint8 (p:Nat)(l:List UInt8)(e:Int)(w:World)(hr:Rd w p l e)(hl:l.length≤9223372036854775807) :
  Calls Tryz.prog 254 #[.pointer (some ⟨p,0,none⟩)] w fun en w'=>en=.returned (.int .u8 (numOf (rdText l e 1).1))∧Rd w' p (rdText l e 1).2.1 (rdText l e 1).2.2∧Only p w w':=by
 have HR:=hd0 hr;clear hr
 have hlen:(rdText l e 1).1.length≤1:=rdText_len l e 1
 generalize hrt:rdText l e 1=rt at *
 obtain⟨t,l',e'⟩:=rt
 have HT:=hd0 hrt;clear hrt
 simp only at hlen ⊢
 have hsz:(bs t).size=t.length:=bs_size t
 have hN:=numOf_lt t 1 256 hlen (by decide)
 have hN0:=(numOf_bd t).1
 go_enter Tryz.func254,Tryz.ntmps254
 go_wp2_with (first|(go_at_call 304;refine(width_uint8 _).mono ?_;rintro en w' ⟨rfl,rfl⟩)|(go_at_call 144;refine(text_any p l e 1 _ HR.out hl).mono ?_;rw[HT.out];rintro en w' ⟨rfl,hr',ho'⟩))
 go_loop [4,11] (fun n i=>∃ k:Nat,k≤t.length∧i=.int .i64 k∧n=.int .u64 (numOf (t.take k))) (fun _ i=>t.length-(intOf i).toNat)
 case atStart=>exact⟨0,by omega,rfl,rfl⟩
 case round =>
  obtain⟨k,hk,rfl,rfl⟩:=hrel
  by_cases hlt:k<t.length
  ·have hb2:numOf (t.take k)<72057594037927936:=numOf_lt _ 7 _ (by simp;omega) (by decide)
   have hb1:=(numOf_bd (t.take k)).1
   go_wp2
   go_round
   case rel=>exact⟨k+1,by omega,by go_num,by rw[numOf_step t k hlt _ (by omega)]⟩
   case measure=>simp[intOf];omega
  ·obtain rfl:k=t.length:=by omega
   have HX:Hid (numOf (t.take t.length)=numOf t):=by show _=_;rw[List.take_length]
   rw[HX.out]
   go_wp2
   go_ret
   exact⟨rfl,hr',ho'⟩
theorem read_uint16 (p:Nat)(l:List UInt8)(e:Int)(w:World)(hr:Rd w p l e)(hl:l.length≤9223372036854775807) :
  Calls Tryz.prog 195 #[.pointer (some ⟨p,0,none⟩)] w fun en w'=>en=.returned (.int .u16 (numOf (rdText l e 2).1))∧Rd w' p (rdText l e 2).2.1 (rdText l e 2).2.2∧Only p w w':=by
 have HR:=hd0 hr;clear hr
 have hlen:(rdText l e 2).1.length≤2:=rdText_len l e 2
 generalize hrt:rdText l e 2=rt at *
 obtain⟨t,l',e'⟩:=rt
 have HT:=hd0 hrt;clear hrt
 simp only at hlen ⊢
 have hsz:(bs t).size=t.length:=bs_size t
 have hN:=numOf_lt t 2 65536 hlen (by decide)
 have hN0:=(numOf_bd t).1
 go_enter Tryz.func195,Tryz.ntmps195
 go_wp2_with (first|(go_at_call 237;refine(width_uint16 _).mono ?_;rintro en w' ⟨rfl,rfl⟩)|(go_at_call 144;refine(text_any p l e 2 _ HR.out hl).mono ?_;rw[HT.out];rintro en w' ⟨rfl,hr',ho'⟩))
 go_loop [4,11] (fun n i=>∃ k:Nat,k≤t.length∧i=.int .i64 k∧n=.int .u64 (numOf (t.take k))) (fun _ i=>t.length-(intOf i).toNat)
 case atStart=>exact⟨0,by omega,rfl,rfl⟩
 case round =>
  obtain⟨k,hk,rfl,rfl⟩:=hrel
  by_cases hlt:k<t.length
  ·have hb2:numOf (t.take k)<72057594037927936:=numOf_lt _ 7 _ (by simp;omega) (by decide)
   have hb1:=(numOf_bd (t.take k)).1
   go_wp2
   go_round
   case rel=>exact⟨k+1,by omega,by go_num,by rw[numOf_step t k hlt _ (by omega)]⟩
   case measure=>simp[intOf];omega
  ·obtain rfl:k=t.length:=by omega
   have HX:Hid (numOf (t.take t.length)=numOf t):=by show _=_;rw[List.take_length]
   rw[HX.out]
   go_wp2
   go_ret
   exact⟨rfl,hr',ho'⟩
theorem read_uint32 (p:Nat)(l:List UInt8)(e:Int)(w:World)(hr:Rd w p l e)(hl:l.length≤9223372036854775807) :
  Calls Tryz.prog 256 #[.pointer (some ⟨p,0,none⟩)] w fun en w'=>en=.returned (.int .u32 (numOf (rdText l e 4).1))∧Rd w' p (rdText l e 4).2.1 (rdText l e 4).2.2∧Only p w w':=by
 have HR:=hd0 hr;clear hr
 have hlen:(rdText l e 4).1.length≤4:=rdText_len l e 4
 generalize hrt:rdText l e 4=rt at *
 obtain⟨t,l',e'⟩:=rt
 have HT:=hd0 hrt;clear hrt
 simp only at hlen ⊢
 have hsz:(bs t).size=t.length:=bs_size t
 have hN:=numOf_lt t 4 4294967296 hlen (by decide)
 have hN0:=(numOf_bd t).1
 go_enter Tryz.func256,Tryz.ntmps256
 go_wp2_with (first|(go_at_call 239;refine(width_uint32 _).mono ?_;rintro en w' ⟨rfl,rfl⟩)|(go_at_call 144;refine(text_any p l e 4 _ HR.out hl).mono ?_;rw[HT.out];rintro en w' ⟨rfl,hr',ho'⟩))
 go_loop [4,11] (fun n i=>∃ k:Nat,k≤t.length∧i=.int .i64 k∧n=.int .u64 (numOf (t.take k))) (fun _ i=>t.length-(intOf i).toNat)
 case atStart=>exact⟨0,by omega,rfl,rfl⟩
 case round =>
  obtain⟨k,hk,rfl,rfl⟩:=hrel
  by_cases hlt:k<t.length
  ·have hb2:numOf (t.take k)<72057594037927936:=numOf_lt _ 7 _ (by simp;omega) (by decide)
   have hb1:=(numOf_bd (t.take k)).1
   go_wp2
   go_round
   case rel=>exact⟨k+1,by omega,by go_num,by rw[numOf_step t k hlt _ (by omega)]⟩
   case measure=>simp[intOf];omega
  ·obtain rfl:k=t.length:=by omega
   have HX:Hid (numOf (t.take t.length)=numOf t):=by show _=_;rw[List.take_length]
   rw[HX.out]
   go_wp2
   go_ret
   exact⟨rfl,hr',ho'⟩
theorem read_uint64 (p:Nat)(l:List UInt8)(e:Int)(w:World)(hr:Rd w p l e)(hl:l.length≤9223372036854775807) :
  Calls Tryz.prog 255 #[.pointer (some ⟨p,0,none⟩)] w fun en w'=>en=.returned (.int .u64 (numOf (rdText l e 8).1))∧Rd w' p (rdText l e 8).2.1 (rdText l e 8).2.2∧Only p w w':=by
 have HR:=hd0 hr;clear hr
 have hlen:(rdText l e 8).1.length≤8:=rdText_len l e 8
 generalize hrt:rdText l e 8=rt at *
 obtain⟨t,l',e'⟩:=rt
 have HT:=hd0 hrt;clear hrt
 simp only at hlen ⊢
 have hsz:(bs t).size=t.length:=bs_size t
 have hN:=numOf_lt t 8 18446744073709551616 hlen (by decide)
 have hN0:=(numOf_bd t).1
 go_enter Tryz.func255,Tryz.ntmps255
 go_wp2_with (first|(go_at_call 117;refine(width_uint64 _).mono ?_;rintro en w' ⟨rfl,rfl⟩)|(go_at_call 144;refine(text_any p l e 8 _ HR.out hl).mono ?_;rw[HT.out];rintro en w' ⟨rfl,hr',ho'⟩))
 go_loop [4,11] (fun n i=>∃ k:Nat,k≤t.length∧i=.int .i64 k∧n=.int .u64 (numOf (t.take k))) (fun _ i=>t.length-(intOf i).toNat)
 case atStart=>exact⟨0,by omega,rfl,rfl⟩
 case round =>
  obtain⟨k,hk,rfl,rfl⟩:=hrel
  by_cases hlt:k<t.length
  ·have hb2:numOf (t.take k)<72057594037927936:=numOf_lt _ 7 _ (by simp;omega) (by decide)
   have hb1:=(numOf_bd (t.take k)).1
   go_wp2
   go_round
   case rel=>exact⟨k+1,by omega,by go_num,by rw[numOf_step t k hlt _ (by omega)]⟩
   case measure=>simp[intOf];omega
  ·obtain rfl:k=t.length:=by omega
   have HX:Hid (numOf (t.take t.length)=numOf t):=by show _=_;rw[List.take_length]
   rw[HX.out]
   go_wp2
   go_ret
   exact⟨rfl,hr',ho'⟩
theorem U8_any (p:Nat)(l:List UInt8)(e:Int)(w:World)(hr:Rd w p l e)(hl:l.length≤9223372036854775807) :
  Calls Tryz.prog 197 #[.pointer (some ⟨p,0,none⟩)] w fun en w'=>en=.returned (.int .u8 (numOf (rdText l e 1).1))∧Rd w' p (rdText l e 1).2.1 (rdText l e 1).2.2∧Only p w w':=by
 have HR:=hd0 hr;clear hr
 go_enter Tryz.func197,Tryz.ntmps197
 go_wp2_with (go_at_call 254;refine(read_uint8 p l e _ HR.out hl).mono ?_;rintro en w' ⟨rfl,hr',ho'⟩)
 go_ret
 exact⟨rfl,hr',ho'⟩
theorem U16_any (p:Nat)(l:List UInt8)(e:Int)(w:World)(hr:Rd w p l e)(hl:l.length≤9223372036854775807) :
  Calls Tryz.prog 145 #[.pointer (some ⟨p,0,none⟩)] w fun en w'=>en=.returned (.int .u16 (numOf (rdText l e 2).1))∧Rd w' p (rdText l e 2).2.1 (rdText l e 2).2.2∧Only p w w':=by
 have HR:=hd0 hr;clear hr
 go_enter Tryz.func145,Tryz.ntmps145
 go_wp2_with (go_at_call 195;refine(read_uint16 p l e _ HR.out hl).mono ?_;rintro en w' ⟨rfl,hr',ho'⟩)
 go_ret
 exact⟨rfl,hr',ho'⟩
theorem U32_any (p:Nat)(l:List UInt8)(e:Int)(w:World)(hr:Rd w p l e)(hl:l.length≤9223372036854775807) :
  Calls Tryz.prog 199 #[.pointer (some ⟨p,0,none⟩)] w fun en w'=>en=.returned (.int .u32 (numOf (rdText l e 4).1))∧Rd w' p (rdText l e 4).2.1 (rdText l e 4).2.2∧Only p w w':=by
 have HR:=hd0 hr;clear hr
 go_enter Tryz.func199,Tryz.ntmps199
 go_wp2_with (go_at_call 256;refine(read_uint32 p l e _ HR.out hl).mono ?_;rintro en w' ⟨rfl,hr',ho'⟩)
 go_ret
 exact⟨rfl,hr',ho'⟩
theorem U64_any (p:Nat)(l:List UInt8)(e:Int)(w:World)(hr:Rd w p l e)(hl:l.length≤9223372036854775807) :
  Calls Tryz.prog 198 #[.pointer (some ⟨p,0,none⟩)] w fun en w'=>en=.returned (.int .u64 (numOf (rdText l e 8).1))∧Rd w' p (rdText l e 8).2.1 (rdText l e 8).2.2∧Only p w w':=by
 have HR:=hd0 hr;clear hr
 go_enter Tryz.func198,Tryz.ntmps198
 go_wp2_with (go_at_call 255;refine(read_uint64 p l e _ HR.out hl).mono ?_;rintro en w' ⟨rfl,hr',ho'⟩)
 go_ret
 exact⟨rfl,hr',ho'⟩

open Go.ChangeShapes Go.WideShapes Go.ChangeAt Go.RowKit Go.Joins
open Go.ChangeMaps (open_string shut_string)
section
variable {H:Type} {enc:TypeId × Value→H} {P:Program} {w:World} {r:Reach} {b0 base:Nat} {spare:Nat→Bool} {held:Bool} {t:TypeId} {v:Value} {d:DataW H} {p:List MemPlace}
end
open Go.ChangeShapes Go.WideShapes Go.ChangeAt Go.RowKit
def Src (w:World)(v:Value)(l:List UInt8):Prop :=
 (v=.slice none 0 0∧l=[])∨∃ ad c,v=.slice (some ad) l.length c∧∀ j (hj:j<l.length),w.cell? (ad.add j)=some (byteV l[j])
theorem Bys.src {w:World}{B:Nat}{v:Value}{l:List UInt8}(h:Bys w B v l):Src w v l:=by
 rcases h.shape with⟨h1,h2⟩|⟨g,cap,rfl,_⟩
 ·exact .inl ⟨h1,h2⟩
 ·refine .inr ⟨_,cap,rfl,fun j hj=>?_⟩
  have h2:(⟨g,0,Option.none⟩:Addr).add j=⟨g,j,Option.none⟩:=by cases j <;> simp[Addr.add]
  rw[h2];exact h.cell j hj
section
variable {w:World} {ops:Array Oper} {rest:List Oper} {o:Oper} {a:Act} {Q:Exit→Act→World→Prop} {K:Act→World→Prop}
theorem wp_append_src (s x:Operand)(ho:o.op=.call { callee:=.builtin .append,args:=#[s,x],argTypes:=#[78,78] })
  (B:Nat) (v:Value) (l:List UInt8) (hs:a.eval s=v) (hown:Bys w B v l) (u:Value) (t:List UInt8) (hx:a.eval x=u) (hsrc:Src w u t)
  (hsz:l.length+t.length≤1099511627776) (hB:B≤w.heap.size)
  (h:∀ v' w',Bys w' B v' (l++t)→Below B w w'→K (a.put o.dst v') w'):o.wp Tryz.prog a w K Q:=by
 obtain⟨i,hi,hz0,hz1,hz2⟩:=info_parts info_u8
 rcases hsrc with⟨rfl,rfl⟩|⟨ad,c,rfl,hnews⟩
 ·have hrun:=run_append_owned_none (P:=Tryz.prog) w B 78 o.type 5 i 1 Tryz.underlying78 hi v l.length (l.map byteV) hown
  unfold Oper.wp
  simp[execOp,ho,resolve,invoke,builtin,hs,hx,hrun,Result.andThen]
  exact h _ _ (by simpa using hown) (Below.refl _ _)
 ·refine wp_append_own w s x 78 ho B 5 i (.int .u8 0) 1 1 Tryz.underlying78 hi hz0 hz1 hz2 rfl (by decide) v l.length (l.map byteV) hs hown ad t.length c (t.map byteV) hx (by simp)
   (fun j u hj=>?_) (fun u hu=>?_) (by unfold maxLen;omega) (by omega) hB (fun v' w' h1 h2 _=>?_)
  ·have hj':j<t.length:=by have:=(List.getElem?_eq_some_iff.1 hj).1;simpa using this
   rw[hnews j hj']
   simp[hj'] at hj
   rw[hj]
  ·obtain⟨b,_,rfl⟩:=List.mem_map.1 hu
   rfl
  ·exact h v' w' (by unfold Bys;simpa using h1) ((Below.refl _ _).grown h2 hB (fun k hk=>(World.ownsRow.lt hown k hk).1))
theorem step_append_src {E:Prop}(hgd:o.guard=Option.none)(s x:Operand)(ho:o.op=.call { callee:=.builtin .append,args:=#[s,x],argTypes:=#[78,78] })
  (B:Nat) (v:Value) (l:List UInt8) (hs:a.eval s=v) (hown:Bys w B v l) (u:Value) (t:List UInt8) (hx:a.eval x=u) (hsrc:Src w u t)
  (hsz:l.length+t.length≤1099511627776) (hB:B≤w.heap.size)
  (h:∀ v' w',Bys w' B v' (l++t)→Below B w w'→K (a.put o.dst v') w'):if Region.wanted o (yielded ops a.tmps)=true then Oper.wp Tryz.prog o a w K Q else E:=by
 rw[if_pos (by simp[Region.wanted,hgd])]
 exact wp_append_src s x ho B v l hs hown u t hx hsrc hsz hB h
end
theorem bs_tl (l:List UInt8):(bs l).toList=l:=by rw[ByteArray.toList_eq];simp[bs]
theorem bs_tl_eq (a b:List UInt8):((bs a).toList==(bs b).toList)=decide (a=b):=by
 rw[bs_tl,bs_tl,Bool.eq_iff_iff];simp
theorem below_set {B b o:Nat}{w W:World}(h:Below B w W)(hb:B≤b)(v:Value):Below B w (W.setCell ⟨b,o,none⟩ v):=h.setCell (p:=⟨b,o,none⟩) hb v
theorem Only.cell {p q o:Nat}{w w':World}(h:Only p w w')(hq:q<w.heap.size)(hne:q≠p):w'.cell? ⟨q,o,none⟩=w.cell? ⟨q,o,none⟩:=by
 simp[World.cell?,h.block q hq (by simpa using hne)]
theorem Only.setNew {p t o:Nat}{w W:World}(h:Only p w W)(ht:w.heap.size≤t)(v:Value):Only p w (W.setCell ⟨t,o,none⟩ v) :=
 ⟨h.os,h.tape,h.output,by simpa [World.setCell] using h.size,fun k hk hne=>(Below.heap_setCell _ _ _ _ (by intro e;simp at e;omega)).trans (h.block k hk hne)⟩
theorem Rd.setOther {p t o:Nat}{W:World}{l:List UInt8}{e:Int}(h:Rd W p l e)(ht:t≠p)(v:Value):Rd (W.setCell ⟨t,o,none⟩ v) p l e:=by
 unfold Rd;rw[Below.heap_setCell _ _ _ _ (by intro e;simp at e;omega)];exact h
theorem Only.undrew {p:Nat}{w w':World}(h:Only p w.drew w'):Only p w w':=⟨h.os,h.tape,h.output,h.size,h.block⟩
theorem rd_le (l:List UInt8)(e n:Int):(rdText l e n).2.1.length≤l.length:=by
 unfold rdText
 repeat' split
 all_goals simp
theorem rd_le1 (l:List UInt8)(e n:Int):(rdText l e n).1.length≤l.length:=by
 unfold rdText
 repeat' split
 all_goals simp
 all_goals omega
def TK (w:World)(q:Nat)(W:World)(l:List UInt8)(e:Int):Prop:=Rd W w.heap.size l e∧W.cell? ⟨q,0,none⟩=some (.pointer (some ⟨w.heap.size,0,none⟩))∧Below w.heap.size w W∧q<W.heap.size∧w.heap.size<q
theorem TK.next {w W W':World}{q:Nat}{l l':List UInt8}{e e':Int}(h:TK w q W l e)(hr:Rd W' w.heap.size l' e')(ho:Only w.heap.size W W'):TK w q W' l' e':=by
 obtain⟨h1,h2,h3,h4,h5⟩:=h
 exact⟨hr,(ho.cell h4 (by omega)).trans h2,h3.trans (ho.below (Nat.le_refl _) h3.size),Nat.lt_of_lt_of_le h4 ho.size,h5⟩
theorem TK.rd {w W:World}{q:Nat}{l:List UInt8}{e:Int}(h:TK w q W l e):Rd W w.heap.size l e:=h.1
theorem TK.ptr {w W:World}{q:Nat}{l:List UInt8}{e:Int}(h:TK w q W l e):W.cell? ⟨q,0,none⟩=some (.pointer (some ⟨w.heap.size,0,none⟩)):=h.2.1
theorem TK.lt {w W:World}{q:Nat}{l:List UInt8}{e:Int}(h:TK w q W l e):q<W.heap.size:=h.2.2.2.1
theorem TK.ne {w W:World}{q:Nat}{l:List UInt8}{e:Int}(h:TK w q W l e):q≠w.heap.size:=Nat.ne_of_gt h.2.2.2.2
def MB (W:World)(p:Nat)(a b c d e f:Int):Prop:=W.heap[p]?=some (.cells #[.int .u8 a,.int .u8 b,.int .u8 c,.int .u8 d,.int .u8 e,.int .u8 f] 24)
theorem MB.lt {W:World}{p:Nat}{a b c d e f:Int}(h:MB W p a b c d e f):p<W.heap.size:=by
 rcases Nat.lt_or_ge p W.heap.size with h1|h1
 ·exact h1
 ·unfold MB at h;rw[Array.getElem?_eq_none h1] at h;cases h
theorem MB.c0 {W:World}{p:Nat}{a b c d e f:Int}(h:MB W p a b c d e f):W.cell? ⟨p,0,none⟩=some (.int .u8 a):=by
 unfold MB at h;simp[World.cell?,h]
theorem MB.f0 {W:World}{p:Nat}{a b c d e f:Int}(h:MB W p a b c d e f):W.frozen? ⟨p,0,none⟩=false:=by
 unfold MB at h;simp[World.frozen?,h]
theorem MB.c1 {W:World}{p:Nat}{a b c d e f:Int}(h:MB W p a b c d e f):W.cell? ⟨p,1,none⟩=some (.int .u8 b):=by
 unfold MB at h;simp[World.cell?,h]
theorem MB.f1 {W:World}{p:Nat}{a b c d e f:Int}(h:MB W p a b c d e f):W.frozen? ⟨p,1,none⟩=false:=by
 unfold MB at h;simp[World.frozen?,h]
theorem MB.c2 {W:World}{p:Nat}{a b c d e f:Int}(h:MB W p a b c d e f):W.cell? ⟨p,2,none⟩=some (.int .u8 c):=by
 unfold MB at h;simp[World.cell?,h]
theorem MB.f2 {W:World}{p:Nat}{a b c d e f:Int}(h:MB W p a b c d e f):W.frozen? ⟨p,2,none⟩=false:=by
 unfold MB at h;simp[World.frozen?,h]
theorem MB.c3 {W:World}{p:Nat}{a b c d e f:Int}(h:MB W p a b c d e f):W.cell? ⟨p,3,none⟩=some (.int .u8 d):=by
 unfold MB at h;simp[World.cell?,h]
theorem MB.f3 {W:World}{p:Nat}{a b c d e f:Int}(h:MB W p a b c d e f):W.frozen? ⟨p,3,none⟩=false:=by
 unfold MB at h;simp[World.frozen?,h]
theorem MB.c4 {W:World}{p:Nat}{a b c d e f:Int}(h:MB W p a b c d e f):W.cell? ⟨p,4,none⟩=some (.int .u8 e):=by
 unfold MB at h;simp[World.cell?,h]
theorem MB.f4 {W:World}{p:Nat}{a b c d e f:Int}(h:MB W p a b c d e f):W.frozen? ⟨p,4,none⟩=false:=by
 unfold MB at h;simp[World.frozen?,h]
theorem MB.c5 {W:World}{p:Nat}{a b c d e f:Int}(h:MB W p a b c d e f):W.cell? ⟨p,5,none⟩=some (.int .u8 f):=by
 unfold MB at h;simp[World.cell?,h]
theorem MB.f5 {W:World}{p:Nat}{a b c d e f:Int}(h:MB W p a b c d e f):W.frozen? ⟨p,5,none⟩=false:=by
 unfold MB at h;simp[World.frozen?,h]
theorem MB.s0 {W:World}{p:Nat}{a b c d e f:Int}(h:MB W p a b c d e f)(y:Int):MB (W.setCell ⟨p,0,none⟩ (.int .u8 y)) p y b c d e f:=by
 unfold MB at *
 simp[World.setCell,Array.getElem?_modify,h]
theorem MB.s1 {W:World}{p:Nat}{a b c d e f:Int}(h:MB W p a b c d e f)(y:Int):MB (W.setCell ⟨p,1,none⟩ (.int .u8 y)) p a y c d e f:=by
 unfold MB at *
 simp[World.setCell,Array.getElem?_modify,h]
theorem MB.s2 {W:World}{p:Nat}{a b c d e f:Int}(h:MB W p a b c d e f)(y:Int):MB (W.setCell ⟨p,2,none⟩ (.int .u8 y)) p a b y d e f:=by
 unfold MB at *
 simp[World.setCell,Array.getElem?_modify,h]
theorem MB.s3 {W:World}{p:Nat}{a b c d e f:Int}(h:MB W p a b c d e f)(y:Int):MB (W.setCell ⟨p,3,none⟩ (.int .u8 y)) p a b c y e f:=by
 unfold MB at *
 simp[World.setCell,Array.getElem?_modify,h]
theorem MB.s4 {W:World}{p:Nat}{a b c d e f:Int}(h:MB W p a b c d e f)(y:Int):MB (W.setCell ⟨p,4,none⟩ (.int .u8 y)) p a b c d y f:=by
 unfold MB at *
 simp[World.setCell,Array.getElem?_modify,h]
theorem MB.s5 {W:World}{p:Nat}{a b c d e f:Int}(h:MB W p a b c d e f)(y:Int):MB (W.setCell ⟨p,5,none⟩ (.int .u8 y)) p a b c d e y:=by
 unfold MB at *
 simp[World.setCell,Array.getElem?_modify,h]
theorem MB.new (W:World)(a b c d e f:Int):MB (W.alloc (.cells #[.int .u8 a,.int .u8 b,.int .u8 c,.int .u8 d,.int .u8 e,.int .u8 f] 24)) W.heap.size a b c d e f:=by
 unfold MB
 show(W.heap.push _)[W.heap.size]?=_
 simp
theorem MB.new' {W:World}{p:Nat}(hp:W.heap.size=p)(a b c d e f:Int):MB (W.alloc (.cells #[.int .u8 a,.int .u8 b,.int .u8 c,.int .u8 d,.int .u8 e,.int .u8 f] 24)) p a b c d e f:=hp ▸ MB.new W a b c d e f
theorem MB.other {W:World}{p q:Nat}{o:Nat}{a b c d e f:Int}(h:MB W p a b c d e f)(hq:q≠p)(v:Value):MB (W.setCell ⟨q,o,none⟩ v) p a b c d e f:=by
 unfold MB at *
 simp[World.setCell,Array.getElem?_modify,h,hq]
theorem MB.later {q:Nat}{w w':World}{a b c d e f:Int}(hr:MB w q a b c d e f)(h:Below w.heap.size w w'):MB w' q a b c d e f:=by
 unfold MB;rw[h.block q hr.lt];exact hr
theorem MB.only {p q:Nat}{w w':World}{a b c d e f:Int}(hr:MB w q a b c d e f)(h:Only p w w')(hne:q≠p):MB w' q a b c d e f:=by
 unfold MB;rw[h.block q hr.lt (by simpa using hne)];exact hr
theorem MB.some {W:World}{p n:Nat}{a b c d e f:Int}(h:MB W p a b c d e f)(hn:n≤6):∀ j,j<n→(W.cell? ⟨p,0+j,none⟩).isSome=true:=fun j hj=>by
 rw[Nat.zero_add]
 have:j=0∨j=1∨j=2∨j=3∨j=4∨j=5:=by omega
 rcases this with rfl|rfl|rfl|rfl|rfl|rfl
 ·rw[h.c0];rfl
 ·rw[h.c1];rfl
 ·rw[h.c2];rfl
 ·rw[h.c3];rfl
 ·rw[h.c4];rfl
 ·rw[h.c5];rfl
theorem MB.free {W:World}{p n:Nat}{a b c d e f:Int}(h:MB W p a b c d e f)(hn:n≤6):∀ j,j<n→W.frozen? ⟨p,0+j,none⟩=false:=fun j hj=>by
 rw[Nat.zero_add]
 have:j=0∨j=1∨j=2∨j=3∨j=4∨j=5:=by omega
 rcases this with rfl|rfl|rfl|rfl|rfl|rfl
 ·exact h.f0
 ·exact h.f1
 ·exact h.f2
 ·exact h.f3
 ·exact h.f4
 ·exact h.f5
theorem MB.cells {W:World}{p:Nat}{a b c d e f:Int}(h:MB W p a b c d e f)(y0 y1 y2 y3 y4 y5:Int):MB (W.setCells p 0 [.int .u8 y0,.int .u8 y1,.int .u8 y2,.int .u8 y3,.int .u8 y4,.int .u8 y5]) p y0 y1 y2 y3 y4 y5 :=
 (((((h.s0 y0).s1 y1).s2 y2).s3 y3).s4 y4).s5 y5
theorem MB.cellsOther {p q:Nat}{a b c d e f:Int}(hq:q≠p):∀ (vs:List Value) (o:Nat) (W:World),MB W p a b c d e f→MB (W.setCells q o vs) p a b c d e f
 |[],_,_,h=>h
 | v::r,o,W,h=>MB.cellsOther hq r (o+1) _ (h.other hq v)
theorem Rd.cellsOther {p q:Nat}{l:List UInt8}{e:Int}(hq:q≠p):∀ (vs:List Value) (o:Nat) (W:World),Rd W p l e→Rd (W.setCells q o vs) p l e
 |[],_,_,h=>h
 | v::r,o,W,h=>Rd.cellsOther hq r (o+1) _ (h.setOther hq v)
theorem Only.cells {p t:Nat}{w:World}(ht:w.heap.size≤t):∀ (vs:List Value) (o:Nat) (W:World),Only p w W→Only p w (W.setCells t o vs)
 |[],_,_,h=>h
 | v::r,o,W,h=>Only.cells ht r (o+1) _ (h.setNew ht v)
def GB (T:TypeId)(W:World)(q:Nat)(A:Array Value):Prop:=W.heap[q]?=some (.cells A T (0,0))
section
variable {T:TypeId} {W W':World} {q:Nat} {A:Array Value}
theorem GB.lt (h:GB T W q A):q<W.heap.size:=by
 rcases Nat.lt_or_ge q W.heap.size with h1|h1
 ·exact h1
 ·unfold GB at h;rw[Array.getElem?_eq_none h1] at h;cases h
theorem GB.below {B:Nat}(h:GB T W q A)(hq:q<B)(hb:Below B W W'):GB T W' q A:=by
 unfold GB;rw[hb.block q hq];exact h
theorem GB.later (h:GB T W q A)(hb:Below W.heap.size W W'):GB T W' q A:=h.below h.lt hb
theorem GB.c (h:GB T W q A)(j:Nat)(v:Value)(hv:A[j]?=some v):W.cell? ⟨q,j,none⟩=some v:=by
 unfold GB at h;simp[World.cell?,h,hv]
theorem GB.fr (h:GB T W q A)(j:Nat):W.frozen? ⟨q,j,none⟩=false:=by unfold GB at h;simp[World.frozen?,h]
theorem GB.range (h:GB T W q A):W.rangeAt q 0 A.toList:=fun j v hv=>by
 rw[Nat.zero_add];exact h.c j v (by simpa using hv)
theorem GB.new (T:TypeId)(W:World)(A:Array Value):GB T (W.alloc (.cells A T)) W.heap.size A:=heap_alloc_new W _
theorem GB.other {t o:Nat}(h:GB T W q A)(ht:t≠q)(u:Value):GB T (W.setCell ⟨t,o,none⟩ u) q A:=by
 unfold GB;rw[Below.heap_setCell _ _ _ _ (by intro e;simp at e;omega)];exact h
theorem GB.only {p:Nat}(h:GB T W q A)(ho:Only p W W')(hne:q≠p):GB T W' q A:=by
 unfold GB;rw[ho.block q h.lt (by simpa using hne)];exact h
theorem GB.drew (h:GB T W q A):GB T W.drew q A:=by unfold GB at *;exact h
end
theorem GB.there {T:TypeId}{W:World}{q:Nat}{A:Array Value}{n:Nat}(h:GB T W q A)(hn:n≤A.size):W.there q 0 n:=fun j hj=>by
 rw[Nat.zero_add]
 refine⟨?_,h.fr j⟩
 rw[h.c j A[j] (by simp[show j<A.size by omega])];rfl
theorem GB.cellsOther {T:TypeId}{q t:Nat}{A:Array Value}(ht:t≠q):∀ (vs:List Value) (o:Nat) (W:World),GB T W q A→GB T (W.setCells t o vs) q A
 |[],_,_,h=>h
 | v::r,o,W,h=>GB.cellsOther ht r (o+1) _ (h.other ht v)
theorem below_cellsG {B t:Nat}{w:World}(ht:B≤t):∀ (vs:List Value) (o:Nat) (W:World),Below B w W→Below B w (W.setCells t o vs)
 |[],_,_,h=>h
 | v::r,o,W,h=>below_cellsG ht r (o+1) _ (below_set h ht v)
theorem GB.store {T:TypeId}{W:World}{b:Nat}{B A:Array Value}(h:GB T W b B)(hs:B.size=A.size)(h1:A.all (·.oneCell')=true):GB T (W.setCells b 0 A.toList) b A:=by
 have ht:=h.there (n:=A.size) (by omega)
 have r1:=run_storeCells_at Tryz.prog b 0 T A.toList 0 B W h (by simp;omega) (fun v hv=>(Array.all_eq_true_iff_forall_mem.1 h1) v (by simpa using hv))
 have r2:=run_storeCells_cells (P:=Tryz.prog) b 0 A.toList 0 W (fun j hj=>by simpa using (ht j (by simpa using hj)).1) (fun j hj=>by simpa using (ht j (by simpa using hj)).2)
  (fun v hv=>(Array.all_eq_true_iff_forall_mem.1 h1) v (by simpa using hv))
 simp only[Nat.add_zero] at r1 r2
 rw[r1] at r2
 have e:W.setRow b (B.toList.take 0++A.toList++B.toList.drop (0+A.toList.length)).toArray=W.setCells b 0 A.toList:=by
  injection r2
 unfold GB
 rw[←e]
 have e2:(B.toList.take 0++A.toList++B.toList.drop (0+A.toList.length)).toArray=A:=by
  rw[List.drop_of_length_le (by simp;omega)];simp
 rw[e2]
 exact setRow_heap W b _ _ _ _ h
theorem res_two {fn:Func}{ty:TypeId}{d:TypeDesc}{p u:Nat}(hf:fn.results=#[.cell p ty,.tmp u])(hd:(match d with|.struct _|.array _ _=>true|_=>false)=true)(hu:Tryz.prog.underlying ty=some d)(tmps:Array Value)(W:World)(b:Nat)(A:Array Value)(h2:tmps.getD p undef=.pointer (some ⟨b,0,none⟩))(hg:GB ty W b A)
  (hi:(Tryz.prog.info? ty).map (·.size)=some A.size):(results fn tmps).run Tryz.prog W=.ok (.tuple #[.agg A,tmps.getD u undef]) W:=by
 rw[results_cell_tmp (p:=p) (u:=u) (ty:=ty) hf,h2]
 simp[asAddr,run_loadVar_row W b ty ty A (0,0) _ hg hu (by cases d <;> first|rfl|exact hd) hi]
theorem res_one {fn:Func}{ty:TypeId}{d:TypeDesc}{p:Nat}(hf:fn.results=#[.cell p ty])(hd:(match d with|.struct _|.array _ _=>true|_=>false)=true)(hu:Tryz.prog.underlying ty=some d)(tmps:Array Value)(W:World)(b:Nat)(A:Array Value)(h2:tmps.getD p undef=.pointer (some ⟨b,0,none⟩))(hg:GB ty W b A)
  (hi:(Tryz.prog.info? ty).map (·.size)=some A.size):(results fn tmps).run Tryz.prog W=.ok (.agg A) W:=by
 have h3:tmps[p]?.getD undef=.pointer (some ⟨b,0,none⟩):=by simpa using h2
 simp only[results,hf]
 simp[h3,asAddr,run_loadVar_row W b ty ty A (0,0) _ hg hu (by cases d <;> first|rfl|exact hd) hi]
theorem wpList_load_gH {P:Program}{ops:Array Oper}{rest:List Oper}{op:Oper}{a:Act}{w:World}{Q:Exit→Act→World→Prop}(hw:Region.wanted op (yielded ops a.tmps)=true)(ty:TypeId)(x:Operand)(ho:op.op=.load ty x)
  (b o:Nat) (hx:a.eval x=.pointer (some ⟨b,o,none⟩)) (cs:List Value) (d:TypeDesc) (hc:w.rangeAt b o cs)
  (hu:P.underlying ty=some d) (hd:d.isRow=true) (hi:(P.info? ty).map (·.size)=some cs.length)
  (h:wpList P ops Q rest (a.put op.dst (.agg cs.toArray)) w):wpList P ops Q (op::rest) a w :=
 wpList_step fun _ hK=>by rw[if_pos hw];exact wp_load_mid ty x ho b o hx cs d hc hu hd hi (hK _ _ h)
end Go.Proofs.YtghaobakpdninaaGreatDoor
