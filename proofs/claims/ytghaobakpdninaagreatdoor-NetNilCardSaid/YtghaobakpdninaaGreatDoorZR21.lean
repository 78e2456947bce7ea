/- ZR21 -/
import Derived.Test.YtghaobakpdninaaGreatDoorZR16
set_option linter.unusedVariables false
set_option linter.unusedSimpArgs false
set_option maxRecDepth 100000
set_option maxHeartbeats 16000000
namespace Go.Proofs.YtghaobakpdninaaGreatDoor
open Go.RowKit
def stR (c:UInt8)(l:List UInt8):List UInt8:=(l.reverse.dropWhile (fun x=>x==c)).reverse
def stL (c:UInt8)(l:List UInt8):List UInt8:=l.dropWhile (fun x=>x==c)
theorem stR_snoc (c x:UInt8)(a:List UInt8):stR c (a++[x])=if x=c then stR c a else a++[x]:=by
 unfold stR
 rw[List.reverse_append,List.reverse_cons,List.reverse_nil,List.nil_append,List.singleton_append,List.dropWhile_cons]
 by_cases h:x=c
 ·rw[if_pos (by simpa using h),if_pos h]
 ·rw[if_neg (by simpa using h),if_neg h];simp
theorem stL_cons (c x:UInt8)(a:List UInt8):stL c (x::a)=if x=c then stL c a else x::a:=by
 unfold stL
 rw[List.dropWhile_cons]
 by_cases h:x=c
 ·rw[if_pos (by simpa using h),if_pos h]
 ·rw[if_neg (by simpa using h),if_neg h]
theorem stR_len (c:UInt8)(l:List UInt8):(stR c l).length≤l.length:=by
 unfold stR;rw[List.length_reverse]
 have:=(List.dropWhile_sublist (l:=l.reverse) (fun x=>x==c)).length_le
 rwa [List.length_reverse] at this
def strOf:Value→Nat|.string b=>b.size|_=>0
theorem trimRight_any (c:UInt8)(l:List UInt8)(w:World)(hl:l.length≤1000000):Calls Tryz.prog 258 #[.string (bs l),.int .u8 (c.toNat:Int)] w fun en w'=>en=.returned (.string (bs (stR c l)))∧w=w':=by
 obtain⟨R,hR⟩:∃ R,stR c l=R:=⟨_,rfl⟩
 rw[hR]
 have HR:=hd0 hR
 clear hR
 go_enter Tryz.func258,Tryz.ntmps258
 go_wp2_with fail
 go_loop [0] (fun s=>∃ m:List UInt8,m.length≤1000000∧s=.string (bs m)∧Hid (stR c m=R)) (fun s=>strOf s)
 case atStart=>exact⟨l,hl,rfl,HR⟩
 case round =>
  obtain⟨m,hm,rfl,HM⟩:=hrel
  rcases List.eq_nil_or_concat m with rfl|⟨a,x,hma⟩
  ·have hR0:R=[]:=HM.out.symm
   have HR0:=hd0 hR0
   clear hR0
   have hz:(bs ([]:List UInt8)).size=0:=rfl
   go_wp2
   go_ret
   exact⟨by rw[HR0.out];rfl,rfl⟩
  ·rw[List.concat_eq_append] at hma
   subst hma
   have hn:(bs (a++[x])).size=a.length+1:=by rw[bs_size];simp
   have hg:∀ h,(bs (a++[x]))[a.length]'h=x:=fun h=>by rw[bs_get _ _ h (by simp)];simp
   have hx0:(bs (a++[x])).extract 0 a.length=bs a:=by rw[bs_extract];simp
   have HS:=stR_snoc c x a
   obtain⟨n,hnn⟩:∃ n,a.length=n:=⟨_,rfl⟩
   have hnm:n≤1000000:=by rw[←hnn];simp at hm;omega
   rw[hnn] at hn hg hx0
   obtain⟨S,hS,hn,hg,hx0⟩:∃ S:ByteArray,bs (a++[x])=S∧S.size=n+1∧(∀ h:n<S.size,S[n]'h=x)∧S.extract 0 n=bs a:=⟨_,rfl,hn,hg,hx0⟩
   have HSS:=hd0 hS
   have HHS:=hd0 HS
   have HNN:=hd0 hnn
   rw[hS]
   clear hS HS hm hnn
   by_cases hxc:x=c
   ·have de:((x.toNat:Int)==(c.toNat:Int))=true:=by rw[hxc];exact beq_self_eq_true _
    have HM2:Hid (stR c a=R):=hd0 (by have h:=HM.out;rw[HHS.out,if_pos hxc] at h;exact h)
    clear hxc
    go_wp2
    go_round
    case rel=>exact⟨a,by rw[HNN.out];exact hnm,rfl,HM2⟩
    case measure=>simp only[strOf,hn];rw[bs_size,HNN.out];omega
   ·have de:((x.toNat:Int)==(c.toNat:Int))=false:=by
     rw[beq_eq_false_iff_ne];intro e;exact hxc (UInt8.toNat_inj.1 (by omega))
    have HM2:Hid (R=a++[x]):=hd0 (by have h:=HM.out;rw[HHS.out,if_neg hxc] at h;exact h.symm)
    clear hxc
    go_wp2
    go_ret
    exact⟨by rw[HM2.out,HSS.out];rfl,rfl⟩
theorem trimLeft_any (c:UInt8)(l:List UInt8)(w:World)(hl:l.length≤1000000):Calls Tryz.prog 257 #[.string (bs l),.int .u8 (c.toNat:Int)] w fun en w'=>en=.returned (.string (bs (stL c l)))∧w=w':=by
 obtain⟨R,hR⟩:∃ R,stL c l=R:=⟨_,rfl⟩
 rw[hR]
 have HR:=hd0 hR
 clear hR
 go_enter Tryz.func257,Tryz.ntmps257
 go_wp2_with fail
 go_loop [0] (fun s=>∃ m:List UInt8,m.length≤1000000∧s=.string (bs m)∧Hid (stL c m=R)) (fun s=>strOf s)
 case atStart=>exact⟨l,hl,rfl,HR⟩
 case round =>
  obtain⟨m,hm,rfl,HM⟩:=hrel
  cases m with
  | nil =>
   have hR0:R=[]:=HM.out.symm
   have HR0:=hd0 hR0
   clear hR0
   have hz:(bs ([]:List UInt8)).size=0:=rfl
   go_wp2
   go_ret
   exact⟨by rw[HR0.out];rfl,rfl⟩
  | cons x a =>
   have hn:(bs (x::a)).size=a.length+1:=by rw[bs_size];rfl
   have hg:∀ h:0<(bs (x::a)).size,(bs (x::a))[0]'h=x:=fun h=>by rw[bs_get _ _ h (by simp)];rfl
   have hx0:(bs (x::a)).extract 1 (a.length+1)=bs a:=by rw[bs_drop _ _ _ (by simp)];rfl
   have HS:=stL_cons c x a
   obtain⟨n,hnn⟩:∃ n,a.length=n:=⟨_,rfl⟩
   have hnm:n≤1000000:=by rw[←hnn];simp at hm;omega
   rw[hnn] at hn hx0
   obtain⟨S,hS,hn,hg,hx0⟩:∃ S:ByteArray,bs (x::a)=S∧S.size=n+1∧(∀ h:0<S.size,S[0]'h=x)∧S.extract 1 (n+1)=bs a:=⟨_,rfl,hn,hg,hx0⟩
   have HSS:=hd0 hS
   have HHS:=hd0 HS
   have HNN:=hd0 hnn
   rw[hS]
   clear hS HS hm hnn
   by_cases hxc:x=c
   ·have de:((x.toNat:Int)==(c.toNat:Int))=true:=by rw[hxc];exact beq_self_eq_true _
    have HM2:Hid (stL c a=R):=hd0 (by have h:=HM.out;rw[HHS.out,if_pos hxc] at h;exact h)
    clear hxc
    go_wp2
    go_round
    case rel=>exact⟨a,by rw[HNN.out];exact hnm,rfl,HM2⟩
    case measure=>simp only[strOf,hn];rw[bs_size,HNN.out];omega
   ·have de:((x.toNat:Int)==(c.toNat:Int))=false:=by
     rw[beq_eq_false_iff_ne];intro e;exact hxc (UInt8.toNat_inj.1 (by omega))
    have HM2:Hid (R=x::a):=hd0 (by have h:=HM.out;rw[HHS.out,if_neg hxc] at h;exact h.symm)
    clear hxc
    go_wp2
    go_ret
    exact⟨by rw[HM2.out,HSS.out];rfl,rfl⟩
theorem trim0_any (l:List UInt8)(w:World)(hl:l.length≤1000000):Calls Tryz.prog 200 #[.string (bs l),.string { data:=#[0] }] w fun en w'=>en=.returned (.string (bs (stL 0 (stR 0 l))))∧Below w.heap.size w w':=by
 obtain⟨R,hR⟩:∃ R,stL 0 (stR 0 l)=R:=⟨_,rfl⟩
 obtain⟨m,hm⟩:∃ m,stR 0 l=m:=⟨_,rfl⟩
 rw[hR]
 have hml:m.length≤1000000:=by rw[←hm];exact Nat.le_trans (stR_len 0 l) hl
 have T1:Hid (∀ w,Calls Tryz.prog 258 #[.string (bs l),.int .u8 0] w fun en w'=>en=.returned (.string (bs m))∧w=w'):=hd0 fun w=>by
  have h:=trimRight_any 0 l w hl
  rw[hm] at h;exact h
 have T2:Hid (∀ w,Calls Tryz.prog 257 #[.string (bs m),.int .u8 0] w fun en w'=>en=.returned (.string (bs R))∧w=w'):=hd0 fun w=>by
  have h:=trimLeft_any 0 m w hml
  rw[←hm,hR] at h;rw[←hm];exact h
 have hst:=bs_tl_eq l []
 have hst':((bs l).toList==({ data:=#[] } : ByteArray).toList)=decide (l=[]):=hst
 by_cases h0:l=[]
 ·have d0:decide (l=[])=true:=decide_eq_true h0
  have hie:(bs l).toList.isEmpty=true:=by rw[bs_tl,h0];rfl
  have HR0:Hid (R=l):=hd0 (by rw[←hR,h0];rfl)
  clear h0 hR hm hml hst
  go_enter Tryz.func200,Tryz.ntmps200
  go_wp2
  go_ret
  exact⟨by rw[HR0.out];rfl,Below.refl _ _⟩
 have d0:decide (l=[])=false:=decide_eq_false h0
 have hie:(bs l).toList.isEmpty=false:=by rw[bs_tl];cases l with|nil=>exact absurd rfl h0|cons x r=>rfl
 have h1:({ data:=#[0] } : ByteArray).size=1:=rfl
 have hE:(({ data:=#[0] } : ByteArray).toList==({ data:=#[] } : ByteArray).toList)=false:=(bs_tl_eq [0] []).trans (by decide)
 clear h0 hR hm hml hst
 go_enter Tryz.func200,Tryz.ntmps200
 go_wp2_with fail
 refine wp_region_held_drew (S:=fun _=>True) (by kernel_rfl) trivial (fun hHeld=>?_)
 refine tkH 0 ?_ ?h ?_
 case h=>(intro w hSw;go_simp;try with_reducible rfl)
 try simp only[Act.put,zz]
 refine tkH 1 ?_ ?h ?_
 case h=>(intro w hSw;go_simp;try with_reducible rfl)
 try simp only[Act.put,zz]
 refine tkH 2 ?_ ?h ?_
 case h=>(intro w hSw;go_simp;try with_reducible rfl)
 try simp only[Act.put,zz]
 refine tkH 4 ?_ ?h ?_
 case h=>(intro w hSw;go_simp;try with_reducible rfl)
 try simp only[Act.put,zz]
 refine tkH 5 ?_ ?h ?_
 case h=>(intro w hSw;go_simp;try with_reducible rfl)
 try simp only[Act.put,zz]
 refine rdH 3 fun K hK=>?_
 (go_simp;go_at_call 258;(refine(T1.out _).mono ?_);rintro en _ ⟨rfl,rfl⟩;refine hK.out _ _ trivial (fun hHeld=>?_);clear hK K;try simp only[Act.put,zz])
 refine rdH 6 fun K hK=>?_
 (go_simp;go_at_call 257;(refine(T2.out _).mono ?_);rintro en _ ⟨rfl,rfl⟩;refine hK.out _ _ trivial (fun hHeld=>?_);clear hK K;try simp only[Act.put,zz])
 refine tkH 7 ?_ ?h ?_
 case h=>(intro w hSw;go_simp;try with_reducible rfl)
 try simp only[Act.put,zz]
 refine wpAnyH_done (by kernel_rfl) ?_ _
 go_wp2_with fail
 go_ret
 exact⟨rfl,(Below.refl _ _).drew⟩
end Go.Proofs.YtghaobakpdninaaGreatDoor
