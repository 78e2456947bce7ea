/- ZQ04 -/
import Derived.Test.YtlkdfofpnmpidaaGreatZQ03
set_option linter.unusedVariables false
set_option linter.unusedSimpArgs false
set_option maxRecDepth 100000
set_option maxHeartbeats 16000000
namespace Go.Proofs.YtlkdfofpnmpidaaGreat
open Go.RowKit
def strSize:Value→Nat
 | .string b=>b.size
 | _=>0
theorem refPut10_any (d o:List UInt8)(w:World)(hd:d.length≤1000)(ho:o.length≤1000) :
  Calls Tryz.prog 70 #[.string (bs d),.string (bs o)] w fun en w'=>en=.returned (.tuple #[.string (bs (mPut d o).1),.int .i64 (mPut d o).2])∧Below w.heap.size w w':=by
 have hsd:=bs_size d
 have hso:=bs_size o
 have HC:Hid (∀ w,Calls Tryz.prog 109 #[.string (bs d),.bool true] w fun en w'=>en=.returned (.bool (plB d))∧w=w'):=fun w=>by
  have h:=refName_any d true w (by omega)
  rw[Bool.true_or,Bool.and_true] at h;exact h
 have HC2:Hid (∀ w,Calls Tryz.prog 109 #[.string (bs o),.bool false] w fun en w'=>en=.returned (.bool (plB o&&decide (0<o.length)))∧w=w'):=fun w=>by
  have h:=refName_any o false w (by omega)
  rw[Bool.false_or] at h;exact h
 obtain⟨p,hp⟩:∃ p,plB d=p:=⟨_,rfl⟩
 obtain⟨q,hq⟩:∃ q,(plB o&&decide (0<o.length))=q:=⟨_,rfl⟩
 rw[hp] at HC
 rw[hq] at HC2
 have hP:mPut d o=if p=true∧q=true then(if d.length+o.length≤44 then(padT (mBody d o),0) else([],5)) else([],2):=by
  have e:(o≠[]∧plB o=true∧plB d=true)↔(p=true∧q=true):=by
   rw[←hp,← hq];simp[List.length_pos_iff];constructor
   ·rintro ⟨h1,h2,h3⟩;exact⟨h3,h2,h1⟩
   ·rintro ⟨h1,h2,h3⟩;exact⟨h3,h2,h1⟩
  unfold mPut
  by_cases h:p=true∧q=true
  ·rw[if_pos h,if_pos (e.2 h)]
  ·rw[if_neg h,if_neg (fun hh=>h (e.1 hh))]
 rw[hP]
 clear hP
 cases p with
 | false =>
  rw[if_neg (by simp)]
  go_enter Tryz.func70,Tryz.ntmps70
  go_wp2_with fail
  with_reducible refine(HC.out _).mono ?_
  rintro en _ ⟨rfl,rfl⟩
  go_wp2
  refine bodyPost_ret (v:=.tuple #[.string (bs []),.int .i64 2]) (by simp[results,Tryz.results70,go_sem];rfl) rfl ⟨rfl,Below.refl _ _⟩
 | true =>
 cases q with
 | false =>
  rw[if_neg (by simp)]
  go_enter Tryz.func70,Tryz.ntmps70
  go_wp2_with fail
  with_reducible refine(HC.out _).mono ?_
  rintro en _ ⟨rfl,rfl⟩
  go_wp2_with fail
  with_reducible refine(HC2.out _).mono ?_
  rintro en _ ⟨rfl,rfl⟩
  go_wp2
  refine bodyPost_ret (v:=.tuple #[.string (bs []),.int .i64 2]) (by simp[results,Tryz.results70,go_sem];rfl) rfl ⟨rfl,Below.refl _ _⟩
 | true =>
 rw[if_pos ⟨rfl,rfl⟩]
 clear hp hq
 by_cases h3:d.length+o.length≤44
 rotate_left
 ·rw[if_neg h3]
  by_cases h4:44<d.length
  ·have d4:decide (44<(d.length:Int))=true:=decide_eq_true (by omega)
   go_enter Tryz.func70,Tryz.ntmps70
   go_wp2_with fail
   with_reducible refine(HC.out _).mono ?_
   rintro en _ ⟨rfl,rfl⟩
   go_wp2_with fail
   with_reducible refine(HC2.out _).mono ?_
   rintro en _ ⟨rfl,rfl⟩
   go_wp2
   refine bodyPost_ret (v:=.tuple #[.string (bs []),.int .i64 5]) (by simp[results,Tryz.results70,go_sem];rfl) rfl ⟨rfl,Below.refl _ _⟩
  ·have d4:decide (44<(d.length:Int))=false:=decide_eq_false (by omega)
   by_cases h5:44<o.length
   ·have d5:decide (44<(o.length:Int))=true:=decide_eq_true (by omega)
    go_enter Tryz.func70,Tryz.ntmps70
    go_wp2_with fail
    with_reducible refine(HC.out _).mono ?_
    rintro en _ ⟨rfl,rfl⟩
    go_wp2_with fail
    with_reducible refine(HC2.out _).mono ?_
    rintro en _ ⟨rfl,rfl⟩
    go_wp2
    refine bodyPost_ret (v:=.tuple #[.string (bs []),.int .i64 5]) (by simp[results,Tryz.results70,go_sem];rfl) rfl ⟨rfl,Below.refl _ _⟩
   ·have d5:decide (44<(o.length:Int))=false:=decide_eq_false (by omega)
    have d6:decide (44<(d.length:Int)+(o.length:Int))=true:=decide_eq_true (by omega)
    go_enter Tryz.func70,Tryz.ntmps70
    go_wp2_with fail
    with_reducible refine(HC.out _).mono ?_
    rintro en _ ⟨rfl,rfl⟩
    go_wp2_with fail
    with_reducible refine(HC2.out _).mono ?_
    rintro en _ ⟨rfl,rfl⟩
    go_wp2
    refine bodyPost_ret (v:=.tuple #[.string (bs []),.int .i64 5]) (by simp[results,Tryz.results70,go_sem];rfl) rfl ⟨rfl,Below.refl _ _⟩
 rw[if_pos h3]
 have d4:decide (44<(d.length:Int))=false:=decide_eq_false (by omega)
 have d5:decide (44<(o.length:Int))=false:=decide_eq_false (by omega)
 have d6:decide (44<(d.length:Int)+(o.length:Int))=false:=decide_eq_false (by omega)
 obtain⟨T,hT⟩:∃ T,mBody d o=T:=⟨_,rfl⟩
 have hbl:=mBody_len d o
 rw[hT] at hbl ⊢
 have HT:=hd0 hT
 have HBL:=hd0 hbl
 have hw1:=lenB_wrap d
 have hw2:=lenB_wrap o
 obtain⟨x,hx⟩:∃ x:Int,((lenB d).toNat:Int)=x:=⟨_,rfl⟩
 obtain⟨y,hy⟩:∃ y:Int,((lenB o).toNat:Int)=y:=⟨_,rfl⟩
 rw[hx] at hw1
 rw[hy] at hw2
 have hx0:0≤x∧x<256:=by have:=(lenB d).toNat_lt;omega
 have hy0:0≤y∧y<256:=by have:=(lenB o).toNat_lt;omega
 have hone1:=run_string_one x hx0.1 hx0.2
 have hone2:=run_string_one y hy0.1 hy0.2
 have hX:UInt8.ofNat x.toNat=lenB d:=by apply UInt8.toNat_inj.1;simp;omega
 have hY:UInt8.ofNat y.toNat=lenB o:=by apply UInt8.toNat_inj.1;simp;omega
 rw[hX] at hone1
 rw[hY] at hone2
 clear hT hbl hx hy hX hY
 by_cases h5:d=[]
 ·have e5:(bs d).toList.isEmpty=true:=by rw[empty_eq];exact decide_eq_true h5
  have hbody:mBody d o=[1]++2::lenB o::o:=by unfold mBody;rw[if_pos h5]
  have HBD:=hd0 hbody
  have hT48:T.length≤48:=by rw[HBL.out,if_pos h5];omega
  have a1:∀ W:World,(Op.stringOp .add ({ data:=#[1] } : ByteArray) { data:=#[2] }).run Tryz.prog W=.ok (.string (bs [1,2])) W:=run_add_bs [1] [2] (by simp)
  have a2:=run_add_bs [1,2] [lenB o] (by simp)
  have a3:=run_add_bs [1,2,lenB o] o (by simp;omega)
  clear hbody h5
  go_enter Tryz.func70,Tryz.ntmps70
  go_wp2_with fail
  with_reducible refine(HC.out _).mono ?_
  rintro en _ ⟨rfl,rfl⟩
  go_wp2_with fail
  with_reducible refine(HC2.out _).mono ?_
  rintro en _ ⟨rfl,rfl⟩
  go_wp2_with fail
  go_loop [6] (fun s=>∃ k:Nat,k≤48-T.length∧s=.string (bs (T++List.replicate k 0))) (fun s=>48-strSize s)
  case atStart=>exact⟨0,by omega,by rw[←HT.out,HBD.out];simp⟩
  case round =>
   obtain⟨k,hk,rfl⟩:=hrel
   obtain⟨L,hL⟩:∃ L,T++List.replicate k 0=L:=⟨_,rfl⟩
   have hLn:L.length=T.length+k:=by rw[←hL];simp
   have hLs:(bs L).size=T.length+k:=by rw[bs_size,hLn]
   have hpad:k=48-T.length→padT T=L:=fun h=>by rw[←hL,h];rfl
   have hnext:T++List.replicate (k+1) 0=L++[0]:=by rw[←hL,List.append_assoc,← List.replicate_succ']
   have HPAD:=hd0 hpad
   have HNX:=hd0 hnext
   rw[hL]
   have HL:=hd0 hL
   clear hL hpad hnext
   have a4:∀ W:World,(Op.stringOp .add (bs L) ({ data:=#[0] } : ByteArray)).run Tryz.prog W=.ok (.string (bs (L++[0]))) W:=run_add_bs L [0] (by simp;omega)
   by_cases hlt:T.length+k<48
   ·have dk:decide ((T.length:Int)+(k:Int)<48)=true:=decide_eq_true (by omega)
    go_wp2
    exact⟨⟨k+1,by omega,by rw[HNX.out]⟩,by simp[strSize,bs_size];omega⟩
   ·have dk:decide ((T.length:Int)+(k:Int)<48)=false:=decide_eq_false (by omega)
    have hp:=HPAD.out (by omega)
    go_wp2
    refine bodyPost_ret (v:=.tuple #[.string (bs L),.int .i64 0]) (by simp[results,Tryz.results70,go_sem]) rfl ⟨rfl,?_⟩
    exact bA _
 ·have e5:(bs d).toList.isEmpty=false:=by rw[empty_eq];exact decide_eq_false h5
  have hbody:mBody d o=(4::lenB d::d)++2::lenB o::o:=by unfold mBody;rw[if_neg h5]
  have HBD:=hd0 hbody
  have hT48:T.length≤48:=by rw[HBL.out,if_neg h5];omega
  obtain⟨A,hA⟩:∃ A,4::lenB d::d=A:=⟨_,rfl⟩
  have hAl:A.length=d.length+2:=by rw[←hA];simp
  have a1:∀ W:World,(Op.stringOp .add ({ data:=#[4] } : ByteArray) (bs [lenB d])).run Tryz.prog W=.ok (.string (bs [4,lenB d])) W:=run_add_bs [4] [lenB d] (by simp)
  have a2:∀ W:World,(Op.stringOp .add (bs [4,lenB d]) (bs d)).run Tryz.prog W=.ok (.string (bs A)) W:=by rw[←hA];exact run_add_bs [4,lenB d] d (by simp;omega)
  have a3:∀ W:World,(Op.stringOp .add (bs A) ({ data:=#[2] } : ByteArray)).run Tryz.prog W=.ok (.string (bs (A++[2]))) W:=run_add_bs A [2] (by simp;omega)
  have a5:=run_add_bs (A++[2]) [lenB o] (by simp;omega)
  have a6:=run_add_bs (A++[2]++[lenB o]) o (by simp;omega)
  rw[hA] at HBD
  simp only[List.append_assoc,List.cons_append,List.nil_append] at a5 a6
  clear hbody h5 hA
  go_enter Tryz.func70,Tryz.ntmps70
  go_wp2_with fail
  with_reducible refine(HC.out _).mono ?_
  rintro en _ ⟨rfl,rfl⟩
  go_wp2_with fail
  with_reducible refine(HC2.out _).mono ?_
  rintro en _ ⟨rfl,rfl⟩
  go_wp2_with fail
  go_loop [6] (fun s=>∃ k:Nat,k≤48-T.length∧s=.string (bs (T++List.replicate k 0))) (fun s=>48-strSize s)
  case atStart=>exact⟨0,by omega,by rw[←HT.out,HBD.out];simp⟩
  case round =>
   obtain⟨k,hk,rfl⟩:=hrel
   obtain⟨L,hL⟩:∃ L,T++List.replicate k 0=L:=⟨_,rfl⟩
   have hLn:L.length=T.length+k:=by rw[←hL];simp
   have hLs:(bs L).size=T.length+k:=by rw[bs_size,hLn]
   have hpad:k=48-T.length→padT T=L:=fun h=>by rw[←hL,h];rfl
   have hnext:T++List.replicate (k+1) 0=L++[0]:=by rw[←hL,List.append_assoc,← List.replicate_succ']
   have HPAD:=hd0 hpad
   have HNX:=hd0 hnext
   rw[hL]
   have HL:=hd0 hL
   clear hL hpad hnext
   have a4:∀ W:World,(Op.stringOp .add (bs L) ({ data:=#[0] } : ByteArray)).run Tryz.prog W=.ok (.string (bs (L++[0]))) W:=run_add_bs L [0] (by simp;omega)
   by_cases hlt:T.length+k<48
   ·have dk:decide ((T.length:Int)+(k:Int)<48)=true:=decide_eq_true (by omega)
    go_wp2
    exact⟨⟨k+1,by omega,by rw[HNX.out]⟩,by simp[strSize,bs_size];omega⟩
   ·have dk:decide ((T.length:Int)+(k:Int)<48)=false:=decide_eq_false (by omega)
    have hp:=HPAD.out (by omega)
    go_wp2
    refine bodyPost_ret (v:=.tuple #[.string (bs L),.int .i64 0]) (by simp[results,Tryz.results70,go_sem]) rfl ⟨rfl,?_⟩
    exact(bA _).alloc (by simp) _
theorem getD_append_right' (a b:List UInt8)(i:Nat)(h:a.length≤i):(a++b).getD i 0=b.getD (i-a.length) 0:=by
 simp[List.getD,List.getElem?_append_right h]
theorem mid_cut (A o Z:List UInt8)(n m:Nat)(hn:n=A.length)(hm:m=A.length+o.length):((A++(o++Z)).take m).drop n=o:=by
 subst hn;subst hm
 rw[←List.append_assoc,List.take_left' (by simp),List.drop_left' rfl]
def atR (l:List UInt8):Nat:=if ((l.getD 0 0).toNat:Int)=4 then 2+(l.getD 1 0).toNat else 1
def domR (l:List UInt8):List UInt8:=if ((l.getD 0 0).toNat:Int)=4 then(l.take (atR l)).drop 2 else[]
def endR (l:List UInt8):Nat:=atR l+2+(l.getD (atR l+1) 0).toNat
def ownR (l:List UInt8):List UInt8:=(l.take (endR l)).drop (atR l+2)
theorem lenB_nat (t:List UInt8)(h:t.length<256):(lenB t).toNat=t.length:=by unfold lenB;simp;omega
theorem ref_put {d o l:List UInt8}(h:mPut d o=(l,0)):atR l≤45∧endR l≤48∧domR l=d∧ownR l=o:=by
 obtain⟨ho0,_,_,hle,rfl⟩:=mPut_ok h
 have hop:0<o.length:=List.length_pos_iff.2 ho0
 obtain⟨Z,hZ⟩:∃ Z:List UInt8,List.replicate (48-(mBody d o).length) 0=Z:=⟨_,rfl⟩
 have hlo:=lenB_nat o (by omega)
 have hld:=lenB_nat d (by omega)
 by_cases h5:d=[]
 ·subst h5
  have e:padT (mBody [] o)=1::2::lenB o::(o++Z):=by
   unfold padT;rw[hZ];unfold mBody;simp
  rw[e]
  have ha:atR (1::2::lenB o::(o++Z))=1:=rfl
  have hd:domR (1::2::lenB o::(o++Z))=[]:=rfl
  have he:endR (1::2::lenB o::(o++Z))=3+o.length:=by
   unfold endR;rw[ha];simp[hlo]
  refine⟨by rw[ha];omega,by rw[he];simp at hle;omega,hd,?_⟩
  unfold ownR;rw[ha,he]
  simp[List.take_succ_cons,Nat.add_comm 3]
 ·have e:padT (mBody d o)=4::lenB d::(d++(2::lenB o::(o++Z))):=by
   unfold padT;rw[hZ];unfold mBody;simp[h5]
  rw[e]
  have ha:atR (4::lenB d::(d++(2::lenB o::(o++Z))))=2+d.length:=by
   show 2+(lenB d).toNat=_;rw[hld]
  have hd:domR (4::lenB d::(d++(2::lenB o::(o++Z))))=d:=by
   unfold domR;rw[ha];simp[Nat.add_comm 2]
  have hg:(4::lenB d::(d++(2::lenB o::(o++Z)))).getD (2+d.length+1) 0=lenB o:=by
   have:(4::lenB d::(d++(2::lenB o::(o++Z))))=(4::lenB d::d)++(2::lenB o::(o++Z)):=by simp
   rw[this,getD_append_right' _ _ _ (by simp;omega)]
   rw[show 2+d.length+1-(4::lenB d::d).length=1 by simp;omega];rfl
  have he:endR (4::lenB d::(d++(2::lenB o::(o++Z))))=4+d.length+o.length:=by
   unfold endR;rw[ha,hg,hlo];omega
  refine⟨by rw[ha];omega,by rw[he];omega,hd,?_⟩
  unfold ownR;rw[ha,he]
  have e2:(4::lenB d::(d++(2::lenB o::(o++Z))))=(4::lenB d::(d++[2,lenB o]))++(o++Z):=by simp
  have e3:(4::lenB d::(d++[2,lenB o])).length=2+d.length+2:=by simp;omega
  rw[e2];exact mid_cut _ o Z _ _ (by rw[e3]) (by rw[e3];omega)
theorem at_le (l:List UInt8)(x:Int)(hx:((l.getD 0 0).toNat:Int)=x):atR l=if x=4 then 2+(l.getD 1 0).toNat else 1:=by unfold atR;rw[hx]
theorem no_put_len {l:List UInt8}(h:l.length≠48):takeR l=([],[],4):=takeR_none fun d o hh=>h (mPut_len hh)
theorem no_put_at {l:List UInt8}(h:¬ atR l≤45):takeR l=([],[],4):=takeR_none fun d o hh=>h (ref_put hh).1
theorem no_put_end {l:List UInt8}(h:¬ endR l≤48):takeR l=([],[],4):=takeR_none fun d o hh=>h (ref_put hh).2.1
theorem takeR_ref (l A:List UInt8)(e:Int)(hP:mPut (domR l) (ownR l)=(A,e)):takeR l=if e=0∧A=l then(domR l,ownR l,0) else([],[],4):=by
 by_cases h:e=0∧A=l
 ·rw[if_pos h];exact takeR_of (by rw[hP,h.1,h.2])
 ·rw[if_neg h]
  refine takeR_none fun d o hh=>h ?_
  obtain⟨_,_,h1,h2⟩:=ref_put hh
  rw[h1,h2,hh] at hP
  exact⟨by simpa using (congrArg Prod.snd hP).symm,by simpa using (congrArg Prod.fst hP).symm⟩
theorem refTake10_any (l:List UInt8)(w:World)(hl:l.length≤1000):Calls Tryz.prog 110 #[.string (bs l)] w fun en w' =>
  en=.returned (.tuple #[.string (bs (takeR l).1),.string (bs (takeR l).2.1),.int .i64 (takeR l).2.2])∧Below w.heap.size w w':=by
 obtain⟨V,hV⟩:∃ V,(Value.tuple #[.string (bs (takeR l).1),.string (bs (takeR l).2.1),.int .i64 (takeR l).2.2])=V:=⟨_,rfl⟩
 have HV:=hd0 hV
 rw[hV];clear hV
 have hs:=bs_size l
 by_cases h48:l.length=48
 rotate_left
 ·have d0:((l.length:Int) != 48)=true:=by simp;omega
  have hVV:=HV.out
  rw[no_put_len h48] at hVV
  have HVV:=hd0 hVV
  clear h48 hVV
  go_enter Tryz.func110,Tryz.ntmps110
  go_wp2
  refine bodyPost_ret (v:=.tuple #[.string (bs []),.string (bs []),.int .i64 4]) (by simp[results,Tryz.results110,go_sem];rfl) rfl ⟨by rw[←HVV.out],Below.refl _ _⟩
 have d0:((l.length:Int) != 48)=false:=by simp;omega
 obtain⟨x,hx⟩:∃ x:Int,((l.getD 0 0).toNat:Int)=x:=⟨_,rfl⟩
 obtain⟨y,hy⟩:∃ y:Nat,(l.getD 1 0).toNat=y:=⟨_,rfl⟩
 have hy1:y<256:=by rw[←hy];exact(l.getD 1 0).toNat_lt
 have gx:∀ h':0<(bs l).size,(((bs l)[0]'h').toNat:Int)=x:=fun h'=>by
  rw[bs_get l 0 h' (by omega),← hx];simp[List.getD,show 0<l.length by omega]
 have gy:∀ h':1<(bs l).size,(((bs l)[1]'h').toNat:Int)=(y:Int):=fun h'=>by
  rw[bs_get l 1 h' (by omega),← hy];simp[List.getD,show 1<l.length by omega]
 obtain⟨a,ha⟩:∃ a,atR l=a:=⟨_,rfl⟩
 have hax:=at_le l x hx
 rw[ha,hy] at hax
 have hD:domR l=if x=4 then(l.take a).drop 2 else[]:=by unfold domR;rw[hx,ha]
 obtain⟨z,hz⟩:∃ z:Nat,(l.getD (a+1) 0).toNat=z:=⟨_,rfl⟩
 have hz1:z<256:=by rw[←hz];exact(l.getD _ 0).toNat_lt
 have gz:a≤45→∀ h':a+1<(bs l).size,(((bs l)[a+1]'h').toNat:Int)=(z:Int):=fun h h'=>by
  rw[bs_get l (a+1) h' (by omega),← hz];simp[List.getD,show a+1<l.length by omega]
 obtain⟨n,hn⟩:∃ n,endR l=n:=⟨_,rfl⟩
 have hna:n=a+2+z:=by rw[←hn];unfold endR;rw[ha,hz]
 have hO:ownR l=(l.take n).drop (a+2):=by unfold ownR;rw[hn,ha]
 obtain⟨d,hd⟩:∃ d,domR l=d:=⟨_,rfl⟩
 obtain⟨o,ho⟩:∃ o,ownR l=o:=⟨_,rfl⟩
 rw[hd] at hD
 rw[ho] at hO
 have nd:d.length≤1000:=by rw[hD];split <;> simp;omega
 have no:o.length≤1000:=by rw[hO];simp;omega
 obtain⟨A,e,hP⟩:∃ A e,mPut d o=(A,e):=⟨_,_,rfl⟩
 have C5:Hid (∀ w,Calls Tryz.prog 70 #[.string (bs d),.string (bs o)] w fun en w'=>en=.returned (.tuple #[.string (bs A),.int .i64 e])∧Below w.heap.size w w'):=fun w=>by
  have h:=refPut10_any d o w nd no
  rw[hP] at h;exact h
 have HR:Hid (takeR l=if e=0∧A=l then(d,o,0) else([],[],4)):=by
  have h:=takeR_ref l A e (by rw[hd,ho];exact hP)
  rw[hd,ho] at h;exact h
 have NA:¬ a≤45→takeR l=([],[],4):=fun h=>no_put_at (by rw[ha];exact h)
 have NE:¬ n≤48→takeR l=([],[],4):=fun h=>no_put_end (by rw[hn];exact h)
 have hlA:=bs_tl_eq A l
 have wy:IntKind.i64.wrap (y:Int)=(y:Int):=IntWalk.i64_in _ (by omega)
 have wz:IntKind.i64.wrap (z:Int)=(z:Int):=IntWalk.i64_in _ (by omega)
 clear hx hy ha hz hn hd ho nd no hP
 by_cases h4:x=4
 ·have d4:(x==4)=true:=by simpa using h4
  rw[if_pos h4] at hax hD
  have hA:(2:Int)+(y:Int)=(a:Int):=by omega
  have hE:(a:Int)+2+(z:Int)=(n:Int):=by omega
  have HN:=hd0 hna
  have HO:=hd0 hO
  have HX:=hd0 hax
  clear h4 hna hO
  have ha2:2≤a:=by omega
  clear hax
  by_cases h45:a≤45
  rotate_left
  ·have d45:decide ((45:Int)<(a:Int))=true:=decide_eq_true (by omega)
   have hVV:=HV.out
   rw[NA h45] at hVV
   have HVV:=hd0 hVV
   clear hVV NA NE h45 gz hD
   go_enter Tryz.func110,Tryz.ntmps110
   go_wp2
   refine bodyPost_ret (v:=.tuple #[.string (bs []),.string (bs []),.int .i64 4]) (by simp[results,Tryz.results110,go_sem];rfl) rfl ⟨by rw[←HVV.out],Below.refl _ _⟩
  have d45:decide ((45:Int)<(a:Int))=false:=decide_eq_false (by omega)
  have gz':=gz h45
  have hcut:(bs l).extract 2 a=bs d:=by rw[bs_extract,hD,List.drop_take]
  clear NA gz hD
  by_cases h48n:n≤48
  rotate_left
  ·have d48:decide ((48:Int)<(n:Int))=true:=decide_eq_true (by omega)
   have hVV:=HV.out
   rw[NE h48n] at hVV
   have HVV:=hd0 hVV
   clear hVV NE h48n
   go_enter Tryz.func110,Tryz.ntmps110
   go_wp2
   refine bodyPost_ret (v:=.tuple #[.string (bs []),.string (bs []),.int .i64 4]) (by simp[results,Tryz.results110,go_sem];rfl) rfl ⟨by rw[←HVV.out],Below.refl _ _⟩
  have d48:decide ((48:Int)<(n:Int))=false:=decide_eq_false (by omega)
  have hn2:a+2≤n:=by have:=HN.out;omega
  have hcut2:(bs l).extract (a+2) n=bs o:=by rw[bs_extract,HO.out,List.drop_take]
  clear NE HO
  go_enter Tryz.func110,Tryz.ntmps110
  go_wp2_with fail
  with_reducible refine(C5.out _).mono ?_
  rintro en w1 ⟨rfl,hb1⟩
  have HB:=hd0 hb1
  clear hb1
  by_cases he:e=0
  ·have de:(e==0)=true:=by simpa using he
   have de':(e != 0)=false:=by unfold bne;rw[de];rfl
   by_cases hA:A=l
   ·have dA:((bs A).toList==(bs l).toList)=true:=by rw[hlA];exact decide_eq_true hA
    have hVV:=HV.out
    rw[HR.out,if_pos ⟨he,hA⟩] at hVV
    have HVV:=hd0 hVV
    clear he hA hVV hlA
    go_wp2
    refine bodyPost_ret (v:=.tuple #[.string (bs d),.string (bs o),.int .i64 0]) (by simp[results,Tryz.results110,go_sem]) rfl ⟨by rw[←HVV.out],HB.out⟩
   ·have dA:((bs A).toList==(bs l).toList)=false:=by rw[hlA];exact decide_eq_false hA
    have hVV:=HV.out
    rw[HR.out,if_neg (fun h=>hA h.2)] at hVV
    have HVV:=hd0 hVV
    clear he hA hVV hlA
    go_wp2
    refine bodyPost_ret (v:=.tuple #[.string (bs []),.string (bs []),.int .i64 4]) (by simp[results,Tryz.results110,go_sem];rfl) rfl ⟨by rw[←HVV.out],HB.out⟩
  ·have de:(e==0)=false:=by simpa using he
   have de':(e != 0)=true:=by unfold bne;rw[de];rfl
   have hVV:=HV.out
   rw[HR.out,if_neg (fun h=>he h.1)] at hVV
   have HVV:=hd0 hVV
   clear he hVV hlA
   go_wp2
   refine bodyPost_ret (v:=.tuple #[.string (bs []),.string (bs []),.int .i64 4]) (by simp[results,Tryz.results110,go_sem];rfl) rfl ⟨by rw[←HVV.out],HB.out⟩
 ·have d4:(x==4)=false:=by simpa using h4
  rw[if_neg h4] at hax hD
  subst hax
  subst hD
  have gz':∀ h':2<(bs l).size,(((bs l)[2]'h').toNat:Int)=(z:Int):=gz (by omega)
  have hE:(3:Int)+(z:Int)=(n:Int):=by omega
  have HN:=hd0 hna
  have HO:=hd0 hO
  clear h4 hna hO NA gz
  by_cases h48n:n≤48
  rotate_left
  ·have d48:decide ((48:Int)<(n:Int))=true:=decide_eq_true (by omega)
   have hVV:=HV.out
   rw[NE h48n] at hVV
   have HVV:=hd0 hVV
   clear hVV NE h48n
   go_enter Tryz.func110,Tryz.ntmps110
   go_wp2
   refine bodyPost_ret (v:=.tuple #[.string (bs []),.string (bs []),.int .i64 4]) (by simp[results,Tryz.results110,go_sem];rfl) rfl ⟨by rw[←HVV.out],Below.refl _ _⟩
  have d48:decide ((48:Int)<(n:Int))=false:=decide_eq_false (by omega)
  have hn2:3≤n:=by have:=HN.out;omega
  have hcut2:(bs l).extract 3 n=bs o:=by rw[bs_extract,HO.out,List.drop_take]
  clear NE HO
  go_enter Tryz.func110,Tryz.ntmps110
  go_wp2_with fail
  refine(C5.out _).mono ?_
  rintro en w1 ⟨rfl,hb1⟩
  have HB:=hd0 hb1
  clear hb1
  by_cases he:e=0
  ·have de:(e==0)=true:=by simpa using he
   have de':(e != 0)=false:=by unfold bne;rw[de];rfl
   by_cases hA:A=l
   ·have dA:((bs A).toList==(bs l).toList)=true:=by rw[hlA];exact decide_eq_true hA
    have hVV:=HV.out
    rw[HR.out,if_pos ⟨he,hA⟩] at hVV
    have HVV:=hd0 hVV
    clear he hA hVV hlA
    go_wp2
    refine bodyPost_ret (v:=.tuple #[.string (bs []),.string (bs o),.int .i64 0]) (by simp[results,Tryz.results110,go_sem];rfl) rfl ⟨by rw[←HVV.out],HB.out⟩
   ·have dA:((bs A).toList==(bs l).toList)=false:=by rw[hlA];exact decide_eq_false hA
    have hVV:=HV.out
    rw[HR.out,if_neg (fun h=>hA h.2)] at hVV
    have HVV:=hd0 hVV
    clear he hA hVV hlA
    go_wp2
    refine bodyPost_ret (v:=.tuple #[.string (bs []),.string (bs []),.int .i64 4]) (by simp[results,Tryz.results110,go_sem];rfl) rfl ⟨by rw[←HVV.out],HB.out⟩
  ·have de:(e==0)=false:=by simpa using he
   have de':(e != 0)=true:=by unfold bne;rw[de];rfl
   have hVV:=HV.out
   rw[HR.out,if_neg (fun h=>he h.1)] at hVV
   have HVV:=hd0 hVV
   clear he hVV hlA
   go_wp2
   refine bodyPost_ret (v:=.tuple #[.string (bs []),.string (bs []),.int .i64 4]) (by simp[results,Tryz.results110,go_sem];rfl) rfl ⟨by rw[←HVV.out],HB.out⟩
def CB (T:TypeId)(W:World)(q:Nat)(xlv:Int)(xrd:Bool)(xiv xsq xme:Int)(xm:List UInt8):Prop:=W.heap[q]?=some (.cells #[.int .u8 xlv,.bool xrd,.int .u8 xiv,.int .u32 xsq,.int .u16 xme,.string (bs xm)] T (0,0))
section
variable {T:TypeId} {W W':World} {q:Nat} {xlv:Int} {xrd:Bool} {xiv xsq xme:Int} {xm:List UInt8}
theorem CB.lt (h:CB T W q xlv xrd xiv xsq xme xm):q<W.heap.size:=by
 rcases Nat.lt_or_ge q W.heap.size with h1|h1
 ·exact h1
 ·unfold CB at h;rw[Array.getElem?_eq_none h1] at h;cases h
theorem CB.later (h:CB T W q xlv xrd xiv xsq xme xm)(hb:Below W.heap.size W W'):CB T W' q xlv xrd xiv xsq xme xm:=by
 unfold CB;rw[hb.block q h.lt];exact h
theorem CB.below {B:Nat}(h:CB T W q xlv xrd xiv xsq xme xm)(hq:q<B)(hb:Below B W W'):CB T W' q xlv xrd xiv xsq xme xm:=by
 unfold CB;rw[hb.block q hq];exact h
theorem CB.only {p:Nat}(h:CB T W q xlv xrd xiv xsq xme xm)(ho:Only p W W')(hne:q≠p):CB T W' q xlv xrd xiv xsq xme xm:=by
 unfold CB;rw[ho.block q h.lt (by simpa using hne)];exact h
theorem CB.c0 (h:CB T W q xlv xrd xiv xsq xme xm):W.cell? ⟨q,0,none⟩=some (.int .u8 xlv):=by unfold CB at h;simp[World.cell?,h]
theorem CB.c1 (h:CB T W q xlv xrd xiv xsq xme xm):W.cell? ⟨q,1,none⟩=some (.bool xrd):=by unfold CB at h;simp[World.cell?,h]
theorem CB.c2 (h:CB T W q xlv xrd xiv xsq xme xm):W.cell? ⟨q,2,none⟩=some (.int .u8 xiv):=by unfold CB at h;simp[World.cell?,h]
theorem CB.c3 (h:CB T W q xlv xrd xiv xsq xme xm):W.cell? ⟨q,3,none⟩=some (.int .u32 xsq):=by unfold CB at h;simp[World.cell?,h]
theorem CB.c4 (h:CB T W q xlv xrd xiv xsq xme xm):W.cell? ⟨q,4,none⟩=some (.int .u16 xme):=by unfold CB at h;simp[World.cell?,h]
theorem CB.c5 (h:CB T W q xlv xrd xiv xsq xme xm):W.cell? ⟨q,5,none⟩=some (.string (bs xm)):=by unfold CB at h;simp[World.cell?,h]
theorem CB.fr (h:CB T W q xlv xrd xiv xsq xme xm)(o:Nat):W.frozen? ⟨q,o,none⟩=false:=by unfold CB at h;simp[World.frozen?,h]
theorem CB.new (T:TypeId)(W:World)(xlv:Int)(xrd:Bool)(xiv xsq xme:Int)(xm:List UInt8):CB T (W.alloc (.cells #[.int .u8 xlv,.bool xrd,.int .u8 xiv,.int .u32 xsq,.int .u16 xme,.string (bs xm)] T)) W.heap.size xlv xrd xiv xsq xme xm:=heap_alloc_new W _
end
def tickC (n:Int):Int:=if n=4 then 1 else if n=5 then 10 else 0
theorem ticks_any (n:Int)(w:World):Calls Tryz.prog 36 #[.int .u8 n] w fun en w'=>en=.returned (.int .i64 (tickC n))∧w=w':=by
 unfold tickC
 by_cases h4:n=4
 ·subst h4
  go_enter Tryz.func36,Tryz.ntmps36
  go_wp2
  go_ret
  exact⟨rfl,rfl⟩
 by_cases h5:n=5
 ·subst h5
  go_enter Tryz.func36,Tryz.ntmps36
  go_wp2
  go_ret
  exact⟨rfl,rfl⟩
 rw[if_neg h4,if_neg h5]
 have d4:(n==4)=false:=by rw[beq_eq_false_iff_ne];exact h4
 have d5:(n==5)=false:=by rw[beq_eq_false_iff_ne];exact h5
 clear h4 h5
 go_enter Tryz.func36,Tryz.ntmps36
 go_wp2
 go_ret
 exact⟨rfl,rfl⟩
def mayC (lv iv me:Int)(m:List UInt8):Bool:=decide (lv<8)&&(decide (0<tickC iv)&&(decide (1≤me)&&(decide (me≤8191)&&decide ((takeR m).2.2=0))))
theorem tick_pos (n:Int):0<tickC n↔n=4∨n=5:=by
 unfold tickC
 by_cases h4:n=4
 ·rw[if_pos h4];simp[h4]
 ·rw[if_neg h4]
  by_cases h5:n=5
  ·rw[if_pos h5];simp[h5]
  ·rw[if_neg h5];simp[h4,h5]
theorem may13_any (xlv:Int)(xrd:Bool)(xiv xsq xme:Int)(xm:List UInt8)(w:World)(hm:xm.length≤1000):Calls Tryz.prog 77 #[.agg #[.int .u8 xlv,.bool xrd,.int .u8 xiv,.int .u32 xsq,.int .u16 xme,.string (bs xm)]] w fun en w'=>en=.returned (.bool (mayC xlv xiv xme xm))∧Below w.heap.size w w':=by
 obtain⟨d,o,e,hT⟩:∃ d o e,takeR xm=(d,o,e):=⟨_,_,_,rfl⟩
 have T1:Hid (∀ w,Calls Tryz.prog 112 #[.string (bs xm)] w fun en w'=>en=.returned (.tuple #[.string (bs d),.string (bs o),.int .i64 e])∧Below w.heap.size w w'):=fun w=>by
  have h:=take10_any xm w hm
  rw[hT] at h;exact h
 have T2:Hid (∀ w,Calls Tryz.prog 36 #[.int .u8 xiv] w fun en w'=>en=.returned (.int .i64 (tickC xiv))∧w=w'):=fun w=>ticks_any xiv w
 obtain⟨K,hK⟩:∃ K,tickC xiv=K:=⟨_,rfl⟩
 obtain⟨R,hR⟩:∃ R,mayC xlv xiv xme xm=R:=⟨_,rfl⟩
 have hRR:R=(decide (xlv<8)&&(decide (0<K)&&(decide (1≤xme)&&(decide (xme≤8191)&&decide (e=0))))):=by rw[←hR,← hK];unfold mayC;rw[hT]
 rw[hR]
 rw[hK] at T2
 have HRR:=hd0 hRR
 clear hRR hR hK hT
 have cb0:=CB.new 107 w xlv xrd xiv xsq xme xm
 have hb0:Below w.heap.size w (w.alloc (.cells #[.int .u8 xlv,.bool xrd,.int .u8 xiv,.int .u32 xsq,.int .u16 xme,.string (bs xm)] 107)):=bA _
 have c5:=cb0.c5
 have HB0:=hd0 hb0
 have CB0:=hd0 cb0
 clear cb0 hb0
 go_enter Tryz.func77,Tryz.ntmps77
 go_wp2_with fail
 with_reducible refine(T1.out _).mono ?_
 rintro en w1 ⟨rfl,hb1⟩
 have cb1:=CB0.out.later hb1
 have HB1:=hd0 (HB0.out.trans (hb1.mono HB0.out.size))
 have c0:=cb1.c0
 have c2:=cb1.c2
 have c4:=cb1.c4
 clear hb1 cb1 CB0 HB0 c5
 cases h1:decide (xlv<8) with
 | false =>
  have hRf:R=false:=by rw[HRR.out,h1];rfl
  have RF:=hd0 hRf
  clear hRf
  go_wp2_with fail
  go_ret
  exact⟨by rw[RF.out];rfl,HB1.out⟩
 | true =>
 go_wp2_with fail
 with_reducible refine(T2.out _).mono ?_
 rintro en _ ⟨rfl,rfl⟩
 cases h2:decide (0<K) with
 | false =>
  have hRf:R=false:=by rw[HRR.out,h1,h2];rfl
  have RF:=hd0 hRf
  clear hRf
  go_wp2_with fail
  go_ret
  exact⟨by rw[RF.out];rfl,HB1.out⟩
 | true =>
 cases h3:decide (1≤xme) with
 | false =>
  have hRf:R=false:=by rw[HRR.out,h1,h2,h3];rfl
  have RF:=hd0 hRf
  clear hRf
  go_wp2_with fail
  go_ret
  exact⟨by rw[RF.out];rfl,HB1.out⟩
 | true =>
 cases h4:decide (xme≤8191) with
 | false =>
  have hRf:R=false:=by rw[HRR.out,h1,h2,h3,h4];rfl
  have RF:=hd0 hRf
  clear hRf
  go_wp2_with fail
  go_ret
  exact⟨by rw[RF.out];rfl,HB1.out⟩
 | true =>
 have h5:(e==0)=decide (e=0):=by rw[Bool.eq_iff_iff];simp
 have hRf:R=(e==0):=by rw[HRR.out,h1,h2,h3,h4,h5];rfl
 have RF:=hd0 hRf
 clear hRf h5
 go_wp2_with fail
 go_ret
 exact⟨by rw[RF.out];rfl,HB1.out⟩
theorem refMay13_any (xlv:Int)(xrd:Bool)(xiv xsq xme:Int)(xm:List UInt8)(w:World)(hm:xm.length≤1000):Calls Tryz.prog 74 #[.agg #[.int .u8 xlv,.bool xrd,.int .u8 xiv,.int .u32 xsq,.int .u16 xme,.string (bs xm)]] w fun en w'=>en=.returned (.bool (mayC xlv xiv xme xm))∧Below w.heap.size w w':=by
 obtain⟨d,o,e,hT⟩:∃ d o e,takeR xm=(d,o,e):=⟨_,_,_,rfl⟩
 have T1:Hid (∀ w,Calls Tryz.prog 110 #[.string (bs xm)] w fun en w'=>en=.returned (.tuple #[.string (bs d),.string (bs o),.int .i64 e])∧Below w.heap.size w w'):=fun w=>by
  have h:=refTake10_any xm w hm
  rw[hT] at h;exact h
 obtain⟨R,hR⟩:∃ R,mayC xlv xiv xme xm=R:=⟨_,rfl⟩
 have hRR:R=(decide (e=0)&&(decide (xlv<8)&&(decide (xiv=4∨xiv=5)&&(decide (0<xme)&&decide (xme<8192))))):=by
  rw[←hR];unfold mayC;rw[hT]
  have q1:decide (0<tickC xiv)=decide (xiv=4∨xiv=5):=decide_eq_decide.2 (tick_pos xiv)
  have q2:decide (1≤xme)=decide (0<xme):=decide_eq_decide.2 (by omega)
  have q3:decide (xme≤8191)=decide (xme<8192):=decide_eq_decide.2 (by omega)
  rw[q1,q2,q3]
  cases decide (e=0) <;> cases decide (xlv<8) <;> cases decide (xiv=4∨xiv=5) <;> cases decide (0<xme) <;> cases decide (xme<8192) <;> rfl
 rw[hR]
 have HRR:=hd0 hRR
 clear hRR hR hT
 have cb0:=CB.new 118 w xlv xrd xiv xsq xme xm
 have hb0:Below w.heap.size w (w.alloc (.cells #[.int .u8 xlv,.bool xrd,.int .u8 xiv,.int .u32 xsq,.int .u16 xme,.string (bs xm)] 118)):=bA _
 have c5:=cb0.c5
 have HB0:=hd0 hb0
 have CB0:=hd0 cb0
 clear cb0 hb0
 go_enter Tryz.func74,Tryz.ntmps74
 go_wp2_with fail
 with_reducible refine(T1.out _).mono ?_
 rintro en w1 ⟨rfl,hb1⟩
 have cb1:=CB0.out.later hb1
 have HB1:=hd0 (HB0.out.trans (hb1.mono HB0.out.size))
 have c0:=cb1.c0
 have c2:=cb1.c2
 have c4:=cb1.c4
 clear hb1 cb1 CB0 HB0 c5
 by_cases h1:e=0
 rotate_left
 ·have d1:(e==0)=false:=by rw[beq_eq_false_iff_ne];exact h1
  have hRf:R=false:=by rw[HRR.out,decide_eq_false h1];rfl
  have RF:=hd0 hRf
  clear hRf h1
  go_wp2_with fail
  go_ret
  exact⟨by rw[RF.out];rfl,HB1.out⟩
 have d1:(e==0)=true:=by rw[h1];rfl
 cases h2:decide (xlv<8) with
 | false =>
  have hRf:R=false:=by rw[HRR.out,decide_eq_true h1,h2];rfl
  have RF:=hd0 hRf
  clear hRf h1
  go_wp2_with fail
  go_ret
  exact⟨by rw[RF.out];rfl,HB1.out⟩
 | true =>
 by_cases h3:xiv=4∨xiv=5
 rotate_left
 ·have d4:(xiv==4)=false:=by rw[beq_eq_false_iff_ne];exact fun h=>h3 (Or.inl h)
  have d5:(xiv==5)=false:=by rw[beq_eq_false_iff_ne];exact fun h=>h3 (Or.inr h)
  have hRf:R=false:=by rw[HRR.out,decide_eq_true h1,h2,decide_eq_false h3];rfl
  have RF:=hd0 hRf
  clear hRf h1 h3
  go_wp2_with fail
  go_ret
  exact⟨by rw[RF.out];rfl,HB1.out⟩
 have hR3:R=(decide (0<xme)&&decide (xme<8192)):=by rw[HRR.out,decide_eq_true h1,h2,decide_eq_true h3];rfl
 have HR3:=hd0 hR3
 clear hR3
 cases h4:decide (0<xme) with
 | false =>
  have hRf:R=false:=by rw[HR3.out,h4];rfl
  have RF:=hd0 hRf
  clear hRf h1
  rcases h3 with rfl|rfl
  all_goals go_wp2_with fail
  all_goals go_ret
  all_goals exact⟨by rw[RF.out];rfl,HB1.out⟩
 | true =>
 have hRf:R=decide (xme<8192):=by rw[HR3.out,h4];rfl
 have RF:=hd0 hRf
 clear hRf h1
 rcases h3 with rfl|rfl
 all_goals go_wp2_with fail
 all_goals go_ret
 all_goals exact⟨by rw[RF.out];rfl,HB1.out⟩
theorem TlT.blk {w w':World}{B:Nat}{v:Value}{l:List Th}(h:TlT w B v l)(ho:∀ g,B≤g→w'.heap[g]?=w.heap[g]?):TlT w' B v l:=by
 obtain⟨h1,h2⟩:=h
 refine⟨h1,?_⟩
 rcases h2 with h2|⟨g,cap,cur,hv,hg,hh,r⟩
 ·exact .inl h2
 ·exact .inr ⟨g,cap,cur,hv,hg,by rw[ho g hg];exact hh,r⟩
theorem TlT.set {w:World}{B p o:Nat}{v:Value}{l:List Th}(h:TlT w B v l)(hp:p<B)(x:Value):TlT (w.setCell ⟨p,o,Option.none⟩ x) B v l :=
 h.blk fun g hg=>Below.heap_setCell _ _ _ _ (by intro e;simp at e;omega)
def NB (o:Obj):Prop:=∀ cs fr,o≠.cells cs 5 fr
def Kp (w w':World):Prop:=∀ (q:Nat) (o:Obj),w.heap[q]?=some o→NB o→w'.heap[q]?=some o
theorem Kp.refl (w:World):Kp w w:=fun _ _ h _=>h
theorem Kp.trans {a b c:World}(h:Kp a b)(k:Kp b c):Kp a c:=fun q o h1 h2=>k q o (h q o h1 h2) h2
theorem lt_of_heap {w:World}{q:Nat}{o:Obj}(h:w.heap[q]?=some o):q<w.heap.size:=by
 rcases Nat.lt_or_ge q w.heap.size with h1|h1
 ·exact h1
 ·rw[Array.getElem?_eq_none h1] at h;cases h
theorem Kp.alloc (w:World)(x:Obj):Kp w (w.alloc x):=fun q o h _=>(Below.heap_alloc w x q (lt_of_heap h)).trans h
theorem Kp.grown {w w':World}{B:Nat}{v:Value}{l:List UInt8}(hown:Bys w B v l)(h:w.grownBy w' v.ownBlock):Kp w w':=fun q o h1 h2=>by
 by_cases hq:some q=v.ownBlock
 ·exfalso
  rcases hown.2 with⟨rfl,_⟩|⟨g,cap,cur,rfl,_,hg,_⟩
  ·cases hq
  ·have:q=g:=by simpa [Value.ownBlock] using hq
   subst this
   rw[h1] at hg
   exact h2 _ _ (Option.some.inj hg)
 ·exact(h.block q (lt_of_heap h1) hq).trans h1
section
variable {w:World} {ops:Array Oper} {rest:List Oper} {o:Oper} {a:Act} {Q:Exit→Act→World→Prop} {K:Act→World→Prop}
theorem wpList_append_bysK (hgd:o.guard=Option.none)(s x:Operand)
  (ho:o.op=.call { callee:=.builtin .append,args:=#[s,x],argTypes:=#[39,39] })
  (B:Nat) (v:Value) (l:List UInt8) (hs:a.eval s=v) (hown:Bys w B v l)
  (ad:Addr) (c:Nat) (news:List UInt8) (m:Nat) (hm:m=news.length) (hx:a.eval x=.slice (some ad) m c) (hnews:∀ j (hj:j<news.length),w.cell? (ad.add j)=some (byteV news[j]))
  (hsz:l.length+news.length≤1099511627776) (hB:B≤w.heap.size)
  (h:∀ v' w',Bys w' B v' (l++news)→Below B w w'→Kp w w'→wpList Tryz.prog ops Q rest (a.put o.dst v') w'):wpList Tryz.prog ops Q (o::rest) a w:=by
 obtain⟨i,hi,hz0,hz1,hz2⟩:=info_parts info_u8
 subst hm
 refine wpList_append_own w hgd s x 39 ho B 5 i (.int .u8 0) 1 1 Tryz.underlying39 hi hz0 hz1 hz2 rfl (by decide) v l.length (l.map byteV) hs hown ad news.length c (news.map byteV) hx (by simp)
  (fun j u hj=>?_) (fun u hu=>?_) (by unfold maxLen;omega) (by omega) hB (fun v' w' h1 h2 _=>?_)
 ·have hj':j<news.length:=by have:=(List.getElem?_eq_some_iff.1 hj).1;simpa using this
  rw[hnews j hj']
  simp[hj'] at hj
  rw[hj]
 ·obtain⟨b,_,rfl⟩:=List.mem_map.1 hu
  rfl
 ·refine h v' w' (by unfold Bys;simpa using h1) ((Below.refl _ _).grown h2 hB (fun k hk=>?_)) (Kp.grown hown h2)
  exact(World.ownsRow.lt hown k hk).1
theorem wpList_append_byteK (hgd:o.guard=Option.none)(s x:Operand)
  (ho:o.op=.call { callee:=.builtin .append,args:=#[s,x],argTypes:=#[39,39] })
  (B:Nat) (v:Value) (l:List UInt8) (W:World) (n:Int) (hw:w=W.alloc (.cells #[.int .u8 n] 5)) (hs:a.eval s=v) (hown:Bys W B v l)
  (hx:a.eval x=.slice (some ⟨W.heap.size,0,Option.none⟩) 1 1) (hn:0≤n) (hn2:n<256)
  (hsz:l.length+1≤1099511627776) (hB:B≤W.heap.size)
  (h:∀ v' w',Bys w' B v' (l++[UInt8.ofNat n.toNat])→Below B W w'→Kp W w'→wpList Tryz.prog ops Q rest (a.put o.dst v') w'):wpList Tryz.prog ops Q (o::rest) a w:=by
 subst hw
 refine wpList_append_bysK hgd s x ho B v l hs (hown.alloc _) ⟨W.heap.size,0,Option.none⟩ 1 [UInt8.ofNat n.toNat] 1 rfl hx (fun j hj=>?_) (by simpa using hsz) (by simp;omega) (fun v' w' h1 h2 h3=>h v' w' h1 (((Below.refl _ _).alloc hB _).trans h2) ((Kp.alloc W _).trans h3))
 obtain rfl:j=0:=by simpa using hj
 have e:(UInt8.ofNat n.toNat).toNat=n.toNat:=by simp;omega
 simp[Addr.add,byteV,e,Int.toNat_of_nonneg hn]
theorem wp_append_srcK (s x:Operand)(ho:o.op=.call { callee:=.builtin .append,args:=#[s,x],argTypes:=#[39,39] })
  (B:Nat) (v:Value) (l:List UInt8) (hs:a.eval s=v) (hown:Bys w B v l) (u:Value) (t:List UInt8) (hx:a.eval x=u) (hsrc:Src w u t)
  (hsz:l.length+t.length≤1099511627776) (hB:B≤w.heap.size)
  (h:∀ v' w',Bys w' B v' (l++t)→Below B w w'→Kp w w'→K (a.put o.dst v') w'):o.wp Tryz.prog a w K Q:=by
 obtain⟨i,hi,hz0,hz1,hz2⟩:=info_parts info_u8
 rcases hsrc with⟨rfl,rfl⟩|⟨ad,c,rfl,hnews⟩
 ·have hrun:=run_append_owned_none (P:=Tryz.prog) w B 39 o.type 5 i 1 Tryz.underlying39 hi v l.length (l.map byteV) hown
  unfold Oper.wp
  simp[execOp,ho,resolve,invoke,builtin,hs,hx,hrun,Result.andThen]
  exact h _ _ (by simpa using hown) (Below.refl _ _) (Kp.refl _)
 ·refine wp_append_own w s x 39 ho B 5 i (.int .u8 0) 1 1 Tryz.underlying39 hi hz0 hz1 hz2 rfl (by decide) v l.length (l.map byteV) hs hown ad t.length c (t.map byteV) hx (by simp)
   (fun j u hj=>?_) (fun u hu=>?_) (by unfold maxLen;omega) (by omega) hB (fun v' w' h1 h2 _=>?_)
  ·have hj':j<t.length:=by have:=(List.getElem?_eq_some_iff.1 hj).1;simpa using this
   rw[hnews j hj']
   simp[hj'] at hj
   rw[hj]
  ·obtain⟨b,_,rfl⟩:=List.mem_map.1 hu
   rfl
  ·exact h v' w' (by unfold Bys;simpa using h1) ((Below.refl _ _).grown h2 hB (fun k hk=>(World.ownsRow.lt hown k hk).1)) (Kp.grown hown h2)
theorem step_append_srcK {E:Prop}(hgd:o.guard=Option.none)(s x:Operand)(ho:o.op=.call { callee:=.builtin .append,args:=#[s,x],argTypes:=#[39,39] })
  (B:Nat) (v:Value) (l:List UInt8) (hs:a.eval s=v) (hown:Bys w B v l) (u:Value) (t:List UInt8) (hx:a.eval x=u) (hsrc:Src w u t)
  (hsz:l.length+t.length≤1099511627776) (hB:B≤w.heap.size)
  (h:∀ v' w',Bys w' B v' (l++t)→Below B w w'→Kp w w'→K (a.put o.dst v') w'):if Region.wanted o (yielded ops a.tmps)=true then Oper.wp Tryz.prog o a w K Q else E:=by
 rw[if_pos (by simp[Region.wanted,hgd])]
 exact wp_append_srcK s x ho B v l hs hown u t hx hsrc hsz hB h
theorem step_append_strK {E:Prop}(hgd:o.guard=Option.none)(s x:Operand)
  (ho:o.op=.call { callee:=.builtin .append,args:=#[s,x],argTypes:=#[39,9] })
  (B:Nat) (v:Value) (l:List UInt8) (hs:a.eval s=v) (hown:Bys w B v l) (t:List UInt8) (hx:a.eval x=.string (bs t))
  (hsz:l.length+t.length≤1099511627776) (hB:B≤w.heap.size)
  (h:∀ v' w',Bys w' B v' (l++t)→Below B w w'→Kp w w'→K (a.put o.dst v') w'):if Region.wanted o (yielded ops a.tmps)=true then Oper.wp Tryz.prog o a w K Q else E:=by
 rw[if_pos (by simp[Region.wanted,hgd])]
 obtain⟨i,hi,hz0,hz1,hz2⟩:=info_parts info_u8
 obtain⟨v',w',hr,h1,h2,_⟩:=Lib.run_append_own_string (P:=Tryz.prog) w B 39 9 o.type 5 i Tryz.underlying39 Tryz.underlying9 hi hz0 hz1 hz2 v l.length (l.map byteV) hown (bs t)
  (by rw[bs_size];unfold maxLen;omega) (by rw[bs_size];omega) hB
 unfold Oper.wp execOp
 simp only[ho,resolve,invoke,builtin,Sem.run_bind,Sem.run_pure,Result.andThen_ok,List.map_toArray,List.map_cons,List.map_nil,hs,hx,hr]
 refine h v' w' ?_ ((Below.refl _ _).grown h2 hB (fun k hk=>(World.ownsRow.lt hown k hk).1)) (Kp.grown hown h2)
 unfold Bys
 rw[bs_size,strCells_bs] at h1
 simpa using h1
end
theorem put_uint16K (B:Nat)(v:Value)(l:List UInt8)(n:Int)(w:World)(hB:B≤w.heap.size)(hv:Bys w B v l)(hn:0≤n)(hn2:n<65536)(hl:l.length≤1000000000000) :
  Calls Tryz.prog 78 #[v,.int .u16 n] w fun e w'=>∃ v',e=.returned v'∧Bys w' B v' (l++be 2 n)∧Below B w w'∧Kp w w':=by
 go_enter Tryz.func78,Tryz.ntmps78
 go_wp2_with (go_at_call 113;refine(width_uint16 _).mono ?_;rintro e w' ⟨rfl,rfl⟩)
 go_loopw [0,9] (fun v i wr=>∃ k:Nat,k≤2∧i=.int .i64 k∧Bys wr B v (l++beTo 2 n k)∧Below B w wr∧Kp w wr) (fun _ i _=>2-(intOf i).toNat)
 case atStart=>exact⟨0,by omega,rfl,by simpa [beTo] using hv,Below.refl _ _,Kp.refl _⟩
 case round =>
  obtain⟨k,hk,rfl,hown,hb,hkp⟩:=hrel
  by_cases hlt:k<2
  ·have hsz:=hb.size
   go_wp2_with (at_builtin;refine wpList_append_byteK rfl (.tmp 12) (.tmp 22) rfl B _ _ wr _ rfl rfl hown rfl ?_ ?_ ?_ ?_ ?_)
   ·exact Int.emod_nonneg _ (by decide)
   ·exact Int.emod_lt_of_pos _ (by decide)
   ·simp[beTo_length];omega
   ·omega
   ·intro v' w1 hown' hb' hk'
    have hk2:=hd0 (hkp.trans hk')
    have hb2:=hd0 (hb.trans hb')
    have hown2:=hd0 (beTo_next hown' (by omega))
    clear hb hb' hown hown' hsz hkp hk'
    go_wp2
    go_roundw
    case rel=>exact⟨k+1,by omega,by go_num,hown2.out,hb2.out,hk2.out⟩
    case measure=>simp[intOf];omega
  ·obtain rfl:k=2:=by omega
   go_wp2
   go_ret
   exact⟨_,rfl,hown,hb,hkp⟩
theorem be2_len (n:Int):(be 2 n).length=2:=be_length 2 n
theorem thB_len (x:Th)(h:x.2.length≤1480):(thB x).length≤1483:=by unfold thB;simp[be2_len];omega
theorem thBs_len:∀ (l:List Th),(∀ x∈l,okT x=0)→(l.flatMap thB).length≤1483*l.length
 |[],_=>by simp
 | x::l,h=>by
  have ih:=thBs_len l (fun y hy=>h y (List.mem_cons_of_mem _ hy))
  have hx:=h x (List.mem_cons_self ..)
  have := thB_len x (by unfold okT at hx; split at hx; · omega
                        · split at hx <;> omega)
  simp only[List.flatMap_cons,List.length_append,List.length_cons];omega
theorem tput_any (v:Value)(l:List Th)(w:World)(hv:Tls w v l)(hl:l.length≤100000)(hs:∀ x∈l,x.2.length≤maxLen):Calls Tryz.prog 86 #[v] w fun en w'=>en=.returned (.tuple #[.string (bs (putT l).1),.int .i64 (putT l).2])∧Below w.heap.size w w':=by
 obtain⟨a,c,rfl,hc⟩:=hv.shape
 have HC:=hd0 hc
 have HS:=hd0 hs
 clear hc hv hs
 obtain⟨R,hR⟩:∃ R,putT l=R:=⟨_,rfl⟩
 have HR:=hd0 hR
 rw[hR];clear hR
 go_enter Tryz.func86,Tryz.ntmps86
 go_wp2_with fail
 go_loopw [4,9] (fun s i wr=>∃ j:Nat,j≤l.length∧i=.int .i64 j∧(∀ x∈l.take j,okT x=0)∧Bys wr w.heap.size s ((l.take j).flatMap thB)∧Below w.heap.size w wr) (fun _ i _=>l.length-(intOf i).toNat)
 case atStart=>exact⟨0,by omega,rfl,by simp,Bys.none _ _,Below.refl _ _⟩
 case round =>
  obtain⟨j,hj,rfl,hno,hown,hb⟩:=hrel
  have hacc:=thBs_len _ hno
  have HN:=hd0 hno;clear hno
  by_cases hlt:j<l.length
  ·have dk:decide ((j:Int)<(l.length:Int))=true:=decide_eq_true (by omega)
   obtain⟨b,off,rfl,hcc⟩:=HC.out.resolve_left (by intro h;rw[h] at hlt;simp at hlt)
   have c0:=(hb.cell (World.block_lt_of_cell? w _ (hcc j hlt).1)).trans (hcc j hlt).1
   have c1:=(hb.cell (World.block_lt_of_cell? w _ (hcc j hlt).2)).trans (hcc j hlt).2
   have hnext:l.take (j+1)=l.take j++[l[j]]:=List.take_succ_eq_append_getElem hlt
   have hxl:=HS.out l[j] (List.getElem_mem hlt)
   have hfa:=putT_at l j hlt HN.out
   have hal:((l.take j).flatMap thB).length≤148300000:=by
    have:(l.take j).length≤100000:=by simp;omega
    omega
   obtain⟨A,hA⟩:∃ A,(l.take j).flatMap thB=A:=⟨_,rfl⟩
   rw[hA] at hown hal
   obtain⟨x,hx⟩:∃ x,l[j]=x:=⟨_,rfl⟩
   rw[hx] at c0 c1 hnext hfa hxl
   unfold maxLen at hxl
   have hsx:=bs_size x.2
   have hA2:(l.take (j+1)).flatMap thB=A++x.1::(be 2 (x.2.length:Int)++x.2):=by
    rw[hnext,List.flatMap_append,hA];simp[thB]
   obtain⟨x0,hx0⟩:∃ x0,(x.1.toNat:Int)=x0:=⟨_,rfl⟩
   rw[hx0] at c0
   have hx01:0≤x0∧x0<256:=by have:=x.1.toNat_lt;omega
   have hx1:UInt8.ofNat x0.toNat=x.1:=by apply UInt8.toNat_inj.1;simp;omega
   have HNX:=hd0 hnext
   have HF:=hd0 hfa
   have HA2:=hd0 hA2
   have HX1:=hd0 hx1
   have HX0:=hd0 hx0
   have HB:=hd0 hb
   have HO:=hd0 hown
   clear hcc hx HC hnext hfa hx0 hx1 hb hown hacc hA hA2
   by_cases h0:x0=0
   ·have d0:(x0==0)=true:=by simpa using h0
    have hok:okT x=2:=by
     unfold okT;rw[if_pos (by rw[←HX1.out,h0];rfl)]
    have hRR:=HR.out.symm.trans (HF.out (by rw[hok];decide))
    rw[hok] at hRR
    have HRR:=hd0 hRR
    clear h0 hok hRR
    go_wp2
    refine bodyPost_ret (v:=.tuple #[.string (bs []),.int .i64 2]) (by simp[results,Tryz.results86,go_sem];rfl) rfl ⟨by rw[HRR.out],HB.out.alloc HB.out.size _⟩
   have d0:(x0==0)=false:=by simpa using h0
   have hne:x.1≠0:=fun h=>h0 (by rw[←HX0.out,h];rfl)
   by_cases h1:1480<x.2.length
   ·have d1:decide ((1480:Int)<(x.2.length:Int))=true:=decide_eq_true (by omega)
    have hok:okT x=5:=by unfold okT;rw[if_neg hne,if_pos h1]
    have hRR:=HR.out.symm.trans (HF.out (by rw[hok];decide))
    rw[hok] at hRR
    have HRR:=hd0 hRR
    clear h0 h1 hok hRR hne
    go_wp2
    refine bodyPost_ret (v:=.tuple #[.string (bs []),.int .i64 5]) (by simp[results,Tryz.results86,go_sem];rfl) rfl ⟨by rw[HRR.out],HB.out.alloc HB.out.size _⟩
   have d1:decide ((1480:Int)<(x.2.length:Int))=false:=decide_eq_false (by omega)
   have hok:okT x=0:=by unfold okT;rw[if_neg hne,if_neg h1]
   have HOK:=hd0 hok
   have hw16:IntKind.u16.wrap (x.2.length:Int)=(x.2.length:Int):=IntWalk.u16_in _ (by omega)
   have hn16:(0:Int)≤(x.2.length:Int)∧(x.2.length:Int)<65536:=by omega
   have HN16:=hd0 hn16
   obtain⟨X2,hX2⟩:∃ X2,x.2=X2:=⟨_,rfl⟩
   have HX2:=hd0 hX2
   rw[hX2] at c1 hsx hw16 hxl d1 HN16
   have h1480:X2.length≤1480:=by rw[←hX2];omega
   clear h0 h1 hok hne hX2 hn16
   go_upto_region 9 with fail
   have hNB:NB (.cells #[.int .u8 x0,.string (bs X2)] 182 (0,0)):=fun cs fr h=>by simp at h
   have HNB:=hd0 hNB
   have HAL:Hid (A.length≤148300000):=hal
   have HXL:Hid (X2.length≤1480):=h1480
   clear hNB
   refine forget (fun W=>W.heap[wr.heap.size]?=some (.cells #[.int .u8 x0,.string (bs X2)] 182 (0,0))∧Bys W w.heap.size u4 A∧Below w.heap.size w W∧wr.heap.size<W.heap.size)
    ⟨heap_alloc_new _ _,HO.out.alloc _,HB.out.alloc HB.out.size _,by simp⟩ ?_
   rintro W ⟨hq,hoW,hbW,hqW⟩
   obtain⟨q,hqq⟩:∃ q,wr.heap.size=q:=⟨_,rfl⟩
   rw[hqq] at hq hqW ⊢
   have cq0:W.cell? ⟨q,0,none⟩=some (.int .u8 x0):=by simp[World.cell?,hq]
   have cq1:W.cell? ⟨q,1,none⟩=some (.string (bs X2)):=by simp[World.cell?,hq]
   have SRC:Src (W.alloc (.cells #[.int .u8 x0] 5)).drew (.slice (some ⟨W.heap.size,0,none⟩) 1 1) [x.1]:=by
    rw[←HX1.out];exact(src_one W x0 hx01 5).later (Below.refl _ _).drew
   have OW:Bys (W.alloc (.cells #[.int .u8 x0] 5)).drew w.heap.size u4 A:=(hoW.alloc _).later (Below.refl _ _).drew
   have QW:(W.alloc (.cells #[.int .u8 x0] 5)).drew.heap[q]?=some (.cells #[.int .u8 x0,.string (bs X2)] 182 (0,0)):=(Below.heap_alloc W _ q hqW).trans hq
   have cw0:(W.alloc (.cells #[.int .u8 x0] 5)).cell? ⟨q,0,none⟩=some (.int .u8 x0):=by simp only[World.cell?];rw[Below.heap_alloc W _ q hqW,hq];rfl
   have cw1:(W.alloc (.cells #[.int .u8 x0] 5)).cell? ⟨q,1,none⟩=some (.string (bs X2)):=by simp only[World.cell?];rw[Below.heap_alloc W _ q hqW,hq];rfl
   have BW:Below w.heap.size w (W.alloc (.cells #[.int .u8 x0] 5)).drew:=(hbW.alloc hbW.size _).drew
   have HSRC:=hd0 SRC
   have HOW:=hd0 OW
   have HQW:=hd0 QW
   have HBW:=hd0 BW
   clear SRC OW QW BW hq hoW hbW hqW hqq c0 c1 HO HB hal h1480
   have HP:Hid (∀ v1 w1,Bys w1 w.heap.size v1 (A++[x.1])→w.heap.size≤w1.heap.size→Calls Tryz.prog 78 #[v1,.int .u16 (X2.length:Int)] w1 fun en w2=>∃ v2,en=.returned v2∧Bys w2 w.heap.size v2 ((A++[x.1])++be 2 (X2.length:Int))∧Below w.heap.size w1 w2∧Kp w1 w2) :=
    fun v1 w1 h1 h2=>put_uint16K w.heap.size v1 (A++[x.1]) (X2.length:Int) w1 h2 h1 HN16.out.1 HN16.out.2 (by have:=HAL.out;simp;omega)
   go_region_law (first
    |(refine step_append_srcK rfl _ _ rfl w.heap.size _ A (by rfl) (by exact HOW.out) _ [x.1] (by rfl) (by exact HSRC.out) (by have:=HAL.out;simp;omega) (by exact HBW.out.size) ?_;intro v1 w1 hown1 hb1 hk1;have hq1:=hk1 q _ HQW.out HNB.out;have cx1:w1.cell? ⟨q,1,none⟩=some (.string (bs X2)):=(by simp[World.cell?,hq1]);have hz1:=(HBW.out.trans hb1).size)
    |(go_simp;go_at_call 78;refine(HP.out _ _ hown1 hz1).mono ?_;rintro en w2 ⟨v2,rfl,hown2,hb2,hk2⟩;have hq2:=hk2 q _ hq1 HNB.out;have cx2:w2.cell? ⟨q,1,none⟩=some (.string (bs X2)):=(by simp[World.cell?,hq2]);have hz2:=((HBW.out.trans hb1).trans hb2).size)
    |(refine step_append_strK rfl _ _ rfl w.heap.size _ _ (by rfl) (by exact hown2) X2 (by rfl) (by have:=HAL.out;have:=HXL.out;simp[be2_len];omega) (by exact hz2) ?_;intro v3 w3 hown3 hb3 hk3))
   all_goals
    have HB3:=hd0 (((HBW.out.trans hb1).trans hb2).trans hb3)
    have HO3:=hd0 hown3
    clear hown1 hown2 hown3 hb1 hb2 hb3 hk1 hk2 hk3 hq1 hq2 hz1 hz2
   all_goals go_wp2
   all_goals exact⟨⟨j+1,by omega,by go_num,fun y hy=>by
     rw[HNX.out,List.mem_append] at hy
     rcases hy with hy|hy
     ·exact HN.out y hy
     ·simp at hy;subst hy;exact HOK.out,by rw[HA2.out,HX2.out];simpa using HO3.out,HB3.out⟩,by simp[intOf];omega⟩
  ·have dk:decide ((j:Int)<(l.length:Int))=false:=decide_eq_false (by omega)
   have hall:l.take j=l:=List.take_of_length_le (by omega)
   have hRR:=HR.out.symm.trans (putT_all l (by have h:=HN.out;rw[hall] at h;exact h))
   rw[hall] at hown hacc
   obtain⟨A,hA⟩:∃ A,l.flatMap thB=A:=⟨_,rfl⟩
   rw[hA] at hown hacc hRR
   have hz:=hb.size
   have HRR:=hd0 hRR
   have HAC:=hd0 hacc
   have HB:=hd0 hb
   have HO:=hd0 hown
   clear hown hall hA hRR hacc HN hb
   go_wp2_with (at_builtin;refine wpList_append_byte rfl (.tmp 36) (.tmp 37) rfl w.heap.size _ A wr 0 rfl rfl HO.out rfl (by omega) (by omega) ?_ ?_ ?_)
   ·have:=HAC.out;omega
   ·exact hz
   ·intro v1 w1 hown1 hb1
    have hstr:=run_string_bys hown1
    have HB1:=hd0 (HB.out.trans hb1)
    clear hown1 hb1
    go_wp2
    refine bodyPost_ret (v:=.tuple #[.string (bs (A++[0])),.int .i64 0]) (by simp[results,Tryz.results86,go_sem]) rfl ⟨by rw[HRR.out],HB1.out⟩
end Go.Proofs.YtlkdfofpnmpidaaGreat
