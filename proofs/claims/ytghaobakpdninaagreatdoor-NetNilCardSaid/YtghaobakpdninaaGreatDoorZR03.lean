/- ZR03 -/
import Derived.Test.YtghaobakpdninaaGreatDoorZR02
import Derived.Deep.Slices
import Derived.Deep.Onto
import Derived.Laws.OwnMore
import Derived.Maps.OwnSet
import Derived.Lib.AppendZeros
set_option linter.unusedVariables false
set_option linter.unusedSimpArgs false
set_option maxRecDepth 100000
set_option maxHeartbeats 16000000
namespace Go.Proofs.YtghaobakpdninaaGreatDoor
open Go.RowKit
open Go.ChangeShapes Go.WideShapes Go.ChangeAt Go.RowKit Go.Deep
section
variable {α:Type} (k:Nat) (f:α→List Value)
def Rw (w:World)(v:Value)(l:List α):Prop :=
 (v=.slice none 0 0∧l=[])∨∃ ad c,v=.slice (some ad) l.length c∧(l=[]∨∃ b off,ad=⟨b,off,none⟩∧∀ j (hj:j<l.length) i,i<k→w.cell? ⟨b,off+j*k+i,none⟩=(f l[j])[i]?)
def Ow (E:TypeId)(w:World)(B:Nat)(v:Value)(l:List α):Prop:=w.ownsRow B E k v l.length (l.flatMap f)
end
section
variable {α:Type} {k:Nat} {f:α→List Value} {w w':World} {v:Value} {l:List α} {E:TypeId} {B:Nat}
theorem Rw.nil (w:World):Rw k f w (.slice none 0 0) []:=.inl ⟨rfl,rfl⟩
theorem flat_len (hf:∀ x,(f x).length=k)(l:List α):(l.flatMap f).length=l.length*k:=by
 induction l with
 | nil=>simp
 | cons x l ih=>rw[List.flatMap_cons,List.length_append,hf,ih,List.length_cons,Nat.succ_mul];omega
theorem flat_get (hf:∀ x,(f x).length=k):∀ (l:List α) (j:Nat) (h:j<l.length) (i:Nat),i<k→(l.flatMap f)[j*k+i]?=(f l[j])[i]?
 | x::l,0,_,i,hi=>by
  rw[List.flatMap_cons,Nat.zero_mul,Nat.zero_add,List.getElem?_append_left (by rw[hf];exact hi)];rfl
 | x::l,j+1,h,i,hi=>by
  have ih:=flat_get hf l j (by simpa using h) i hi
  rw[List.flatMap_cons,List.getElem?_append_right (by rw[hf,Nat.succ_mul];omega),hf,show(j+1)*k+i-k=j*k+i by rw[Nat.succ_mul];omega]
  exact ih
theorem Ow.none (w:World)(B:Nat):Ow k f E w B (.slice none 0 0) []:=World.ownsRow_nil w B _ k
theorem Ow.mono {B':Nat}(h:Ow k f E w B v l)(hb:B'≤B):Ow k f E w B' v l:=World.ownsRow.mono h hb
theorem Ow.later (h:Ow k f E w B v l)(hb:Below w.heap.size w w'):Ow k f E w' B v l:=by
 obtain⟨h1,h2⟩:=h
 refine⟨h1,?_⟩
 rcases h2 with h2|⟨g,cap,cur,hv,hg,hh,r⟩
 ·exact .inl h2
 ·refine .inr ⟨g,cap,cur,hv,hg,?_,r⟩
  rw[hb.block g (Array.getElem?_eq_some_iff.1 hh).1];exact hh
theorem Ow.rw (hf:∀ x,(f x).length=k)(h:Ow k f E w B v l):Rw k f w v l:=by
 obtain⟨h1,h2⟩:=h
 rcases h2 with⟨h2,h3⟩|⟨g,cap,cur,hv,hg,hh,hr⟩
 ·exact .inl ⟨h2,List.eq_nil_of_length_eq_zero h3⟩
 ·subst hv
  have hc:w.ownsRow B E k (.slice (some ⟨g,0,Option.none⟩) l.length cap) l.length (l.flatMap f):=⟨h1,.inr ⟨g,cap,cur,rfl,hg,hh,hr⟩⟩
  refine .inr ⟨⟨g,0,Option.none⟩,cap,rfl,.inr ⟨g,0,rfl,fun j hj i hi=>?_⟩⟩
  have hlt:j*k+i<l.length*k:=by
   have:(j+1)*k≤l.length*k:=Nat.mul_le_mul_right k hj
   rw[Nat.succ_mul] at this;omega
  rw[Nat.zero_add,World.ownsRow.cellAt hc (j*k+i) hlt]
  exact flat_get hf l j hj i hi
theorem Ow.lit (hf:∀ x,(f x).length=k)(w:World)(B:Nat)(x:α)(cs:Array Value)(hcs:cs.toList=f x)(hB:B≤w.heap.size):Ow k f E (w.alloc (.cells cs E)) B (.slice (some ⟨w.heap.size,0,Option.none⟩) 1 1) [x]:=by
 have:=World.ownsRow_lit (base:=B) (e:=E) (size:=k) w cs 1 hB (by decide) (by rw[←Array.length_toList,hcs,hf,Nat.one_mul])
 rw[hcs] at this
 unfold Ow
 simpa using this
end
section
variable {α:Type} {k:Nat} {f:α→List Value} {w:World} {ops:Array Oper} {rest:List Oper} {o:Oper} {a:Act} {Q:Exit→Act→World→Prop} {K:Act→World→Prop}
theorem wp_append_rw (hf:∀ x,(f x).length=k)(h1c:∀ x,∀ u∈f x,u.oneCell'=true)(E S:TypeId)(z:Value)(by_:Nat)(hu:Tryz.prog.underlying S=some (.slice E))(hi:(Tryz.prog.info? E).map (fun i=>(i.zero,i.size,i.bytes))=some (some z,k,by_))(hz:z.cells.size=k)(hk:0<k)(hby:by_≤1000)
  (s x:Operand) (ho:o.op=.call { callee:=.builtin .append,args:=#[s,x],argTypes:=#[S,S] })
  (B:Nat) (v:Value) (l:List α) (hs:a.eval s=v) (hown:Ow k f E w B v l) (u:Value) (t:List α) (hx:a.eval x=u) (hsrc:Rw k f w u t)
  (hsz:l.length+t.length≤100000000000) (hB:B≤w.heap.size)
  (h:∀ v' w',Ow k f E w' B v' (l++t)→Below B w w'→K (a.put o.dst v') w'):o.wp Tryz.prog a w K Q:=by
 obtain⟨i,hi,hz0,hz1,hz2⟩:=info_parts hi
 rcases hsrc with⟨rfl,rfl⟩|⟨ad,c,rfl,hc⟩
 ·have hrun:=run_append_owned_none (P:=Tryz.prog) w B S o.type E i k hu hi v l.length (l.flatMap f) hown
  unfold Oper.wp
  simp[execOp,ho,resolve,invoke,builtin,hs,hx,hrun,Result.andThen]
  exact h _ _ (by simpa using hown) (Below.refl _ _)
 ·refine wp_append_own w s x S ho B E i z k by_ hu hi hz0 hz1 hz2 hz hk v l.length (l.flatMap f) hs hown ad t.length c (t.flatMap f) hx (flat_len hf t)
   (fun j u hj=>?_) (fun u hu=>?_) (by unfold maxLen;omega) (by have:(l.length+t.length)*by_≤100000000000*1000:=Nat.mul_le_mul hsz hby;omega) hB (fun v' w' h1 h2 _=>?_)
  ·have hj':j<t.length*k:=by have:=(List.getElem?_eq_some_iff.1 hj).1;rw[flat_len hf] at this;exact this
   rcases hc with rfl|⟨b,off,rfl,hc⟩
   ·simp at hj'
   rw[add_plain]
   have hd:j / k<t.length:=Nat.div_lt_of_lt_mul (by rw[Nat.mul_comm];exact hj')
   have hm:j % k<k:=Nat.mod_lt _ hk
   have e:j=j / k*k+j % k:=by rw[Nat.mul_comm];exact(Nat.div_add_mod j k).symm
   have hg:=flat_get hf t (j / k) hd (j % k) hm
   rw[←e,hj] at hg
   have:=hc (j / k) hd (j % k) hm
   rw[←hg,Nat.add_assoc,← e] at this
   exact this
  ·obtain⟨y,_,hy⟩:=List.mem_flatMap.1 hu
   exact h1c y u hy
  ·refine h v' w' ?_ ((Below.refl _ _).grown h2 hB (fun k hk=>(World.ownsRow.lt hown k hk).1))
   unfold Ow
   rw[List.length_append,List.flatMap_append];exact h1
theorem wpList_append_rw (hf:∀ x,(f x).length=k)(h1c:∀ x,∀ u∈f x,u.oneCell'=true)(E S:TypeId)(z:Value)(by_:Nat)(hu:Tryz.prog.underlying S=some (.slice E))(hi:(Tryz.prog.info? E).map (fun i=>(i.zero,i.size,i.bytes))=some (some z,k,by_))(hz:z.cells.size=k)(hk:0<k)(hby:by_≤1000)
  (hgd:o.guard=Option.none) (s x:Operand) (ho:o.op=.call { callee:=.builtin .append,args:=#[s,x],argTypes:=#[S,S] })
  (B:Nat) (v:Value) (l:List α) (hs:a.eval s=v) (hown:Ow k f E w B v l) (u:Value) (t:List α) (hx:a.eval x=u) (hsrc:Rw k f w u t)
  (hsz:l.length+t.length≤100000000000) (hB:B≤w.heap.size)
  (h:∀ v' w',Ow k f E w' B v' (l++t)→Below B w w'→wpList Tryz.prog ops Q rest (a.put o.dst v') w'):wpList Tryz.prog ops Q (o::rest) a w :=
 wpList_plain hgd fun K hK=>wp_append_rw hf h1c E S z by_ hu hi hz hk hby s x ho B v l hs hown u t hx hsrc hsz hB fun v' w' h1 h2=>hK _ _ (h v' w' h1 h2)
end
structure Fr (D:Nat→Prop)(w w':World):Prop where
 os:w'.os=w.os
 tape:w'.tape=w.tape
 output:w'.output=w.output
 size:w.heap.size≤w'.heap.size
 block:∀ k,k<w.heap.size→¬ D k→w'.heap[k]?=w.heap[k]?
section
variable {D E:Nat→Prop} {w w' w'':World}
theorem Fr.refl (D:Nat→Prop)(w:World):Fr D w w:=⟨rfl,rfl,rfl,Nat.le_refl _,fun _ _ _=>rfl⟩
theorem Fr.trans (h:Fr D w w')(k:Fr D w' w''):Fr D w w'' :=
 ⟨k.os.trans h.os,k.tape.trans h.tape,k.output.trans h.output,Nat.le_trans h.size k.size,fun i hi h1=>(k.block i (Nat.lt_of_lt_of_le hi h.size) h1).trans (h.block i hi h1)⟩
theorem Fr.mono (h:Fr D w w')(hd:∀ k,k<w.heap.size→D k→E k):Fr E w w':=⟨h.os,h.tape,h.output,h.size,fun k hk h1=>h.block k hk fun h2=>h1 (hd k hk h2)⟩
theorem Fr.of_below (h:Below w.heap.size w w'):Fr D w w':=⟨h.os,h.tape,h.output,h.size,fun k hk _=>h.block k hk⟩
theorem Fr.of_only {p:Nat}(h:Only p w w')(hp:D p):Fr D w w':=⟨h.os,h.tape,h.output,h.size,fun k hk h1=>h.block k hk (by intro e;injection e with e;subst e;exact h1 hp)⟩
theorem Fr.drew (h:Fr D w w'):Fr D w w'.drew:=⟨h.os,h.tape,h.output,h.size,h.block⟩
end
theorem GB.fr' {D:Nat→Prop}{T:TypeId}{W W':World}{q:Nat}{A:Array Value}(h:GB T W q A)(hf:Fr D W W')(hq:¬ D q):GB T W' q A:=by
 unfold GB;rw[hf.block q h.lt hq];exact h
theorem GB.set {T:TypeId}{W:World}{q:Nat}{A:Array Value}(h:GB T W q A)(j:Nat)(v:Value):GB T (W.setCell ⟨q,j,none⟩ v) q (A.setIfInBounds j v):=by
 unfold GB at *
 simp only[World.setCell,Array.getElem?_modify,h]
 simp
theorem setCell_id {W:World}{b o:Nat}{v:Value}(h:W.cell? ⟨b,o,none⟩=some v):W.setCell ⟨b,o,none⟩ v=W:=by
 have e:(W.setCell ⟨b,o,none⟩ v).heap=W.heap:=by
  apply Array.ext_getElem?
  intro i
  simp only[World.setCell,Array.getElem?_modify]
  by_cases hi:b=i
  ·subst hi
   rw[if_pos rfl]
   unfold World.cell? at h
   split at h
   ·rename_i c e f hc
    have hc:W.heap[b]?=some (.cells c e f):=hc
    have h2:c[o]?=some v:=by simpa using h
    have hlt:=(Array.getElem?_eq_some_iff.1 h2).1
    have e3:c.setIfInBounds o v=c:=by
     apply Array.ext_getElem?
     intro j
     rw[Array.getElem?_setIfInBounds]
     by_cases hj:o=j
     ·subst hj
      rw[if_pos rfl,if_pos hlt,h2]
     ·rw[if_neg hj]
    simp[hc,e3]
   ·cases h
  ·rw[if_neg hi]
 cases W
 simp only[World.setCell] at e ⊢
 rw[e]
theorem setCells_id {W:World}{g:Nat} : ∀ (vs:List Value) (o:Nat),(∀ j v,vs[j]?=some v→W.cell? ⟨g,o+j,none⟩=some v)→W.setCells g o vs=W
 |[],_,_=>rfl
 | v::r,o,h=>by
  show(W.setCell ⟨g,o,none⟩ v).setCells g (o+1) r=W
  have e:=setCell_id (h 0 v rfl)
  rw[Nat.add_zero] at e
  rw[e]
  exact setCells_id r (o+1) fun j u hu=>by rw[Nat.add_right_comm];exact h (j+1) u hu
theorem run_part_u8 (cs : Array Value) (k : Nat) (w : World) : (part 5 cs k).run Tryz.prog w = match cs[k]? with | some v => .ok v w | none => (stuck "part: no such cell" : Sem Value).run Tryz.prog w := by
 have hi:(isAgg 5).run Tryz.prog w=.ok false w:=by kernel_rfl
 cases h:cs[k]? <;> simp[part,hi,h]
def macEq (a b c e f g a' b' c' e' f' g':Int):Bool:=a==a'&&(b==b'&&(c==c'&&(e==e'&&(f==f'&&g==g'))))
theorem run_equalIn_mac (d:Nat)(a b c e f g a' b' c' e' f' g':Int)(w:World) :
  (Op.equalIn (d+2) 24 (.agg #[.int .u8 a,.int .u8 b,.int .u8 c,.int .u8 e,.int .u8 f,.int .u8 g]) (.agg #[.int .u8 a',.int .u8 b',.int .u8 c',.int .u8 e',.int .u8 f',.int .u8 g'])).run Tryz.prog w =
   .ok (macEq a b c e f g a' b' c' e' f' g') w:=by
 have hs:(sizeOf 5).run Tryz.prog w=.ok 1 w:=by kernel_rfl
 have he:∀ x y:Int,(Op.equalIn (d+1) 5 (.int .u8 x) (.int .u8 y)).run Tryz.prog w=.ok (x==y) w:=fun x y=>run_equalIn_int w d 5 .u8 .u8 x y Tryz.underlying5
 unfold macEq
 rw[Op.equalIn]
 simp only[Sem.run_bind,run_underlying Tryz.underlying24,Result.andThen_ok,hs]
 rw[Std.Legacy.Range.forIn_eq_forIn_range']
 rw[show({ start:=0,stop:=6,step:=1,step_pos:=by decide } : Std.Legacy.Range).size=6 from rfl]
 rw[show List.range' 0 6 1=[0,1,2,3,4,5] from by decide]
 simp[run_part_u8,he,Sem.run_ite]
 by_cases h1:a=a' <;> by_cases h2:b=b' <;> by_cases h3:c=c' <;> by_cases h4:e=e' <;> by_cases h5:f=f' <;> by_cases h6:g=g' <;> simp[h1,h2,h3,h4,h5,h6]
theorem run_eql_mac:∀ (a b c e f g a' b' c' e' f' g':Int) (w:World),
  (binOp .eql 24 (.agg #[.int .u8 a,.int .u8 b,.int .u8 c,.int .u8 e,.int .u8 f,.int .u8 g]) (.agg #[.int .u8 a',.int .u8 b',.int .u8 c',.int .u8 e',.int .u8 f',.int .u8 g'])).run Tryz.prog w =
   .ok (.bool (macEq a b c e f g a' b' c' e' f' g')) w:=by
 intro a b c e f g a' b' c' e' f' g' w
 simp only[binOp]
 simp[Op.equal,Op.maxDepth,run_equalIn_mac 9998]
theorem own_any (w:World):Calls Tryz.prog 105 #[] w fun en w'=>en=.returned (.agg #[.int .u8 1,.int .u8 128,.int .u8 194,.int .u8 0,.int .u8 0,.int .u8 0])∧Below w.heap.size w w':=by
 go_enter Tryz.func105,Tryz.ntmps105
 go_wp2
 refine bodyPost_ret (v:=.agg #[.int .u8 1,.int .u8 128,.int .u8 194,.int .u8 0,.int .u8 0,.int .u8 0]) (by simp[results,Tryz.results105,go_sem]) rfl ⟨rfl,?_⟩
 exact(Below.refl _ _).alloc (by simp) _
theorem group_any (a b c d e f:Int)(w:World)(h0:0≤a)(h1:a<256):Calls Tryz.prog 63 #[.agg #[.int .u8 a,.int .u8 b,.int .u8 c,.int .u8 d,.int .u8 e,.int .u8 f]] w fun en w'=>en=.returned (.bool (a % 2==1))∧Below w.heap.size w w':=by
 have e1:bits .and .u8 a 1=a % 2:=bits_mask .u8 8 (by decide) wraps_u8 1 (by decide) a h0 h1
 go_enter Tryz.func63,Tryz.ntmps63
 go_wp2
 go_ret
 exact⟨rfl,(Below.refl _ _).alloc (by simp) _⟩
def resB (a b c d e f:Int):Bool:=macEq a b c d e (bits .and .u8 f 240) 1 128 194 0 0 0
theorem reserved_any (a b c d e f:Int)(w:World):Calls Tryz.prog 151 #[.agg #[.int .u8 a,.int .u8 b,.int .u8 c,.int .u8 d,.int .u8 e,.int .u8 f]] w fun en w'=>en=.returned (.bool (resB a b c d e f))∧Below w.heap.size w w':=by
 have heq:=run_eql_mac
 go_enter Tryz.func151,Tryz.ntmps151
 go_wp2_with fail
 refine forget (fun W=>W.cell? ⟨w.heap.size,0,none⟩=some (.int .u8 a)∧W.cell? ⟨w.heap.size,1,none⟩=some (.int .u8 b)∧W.cell? ⟨w.heap.size,2,none⟩=some (.int .u8 c)∧W.cell? ⟨w.heap.size,3,none⟩=some (.int .u8 d)∧W.cell? ⟨w.heap.size,4,none⟩=some (.int .u8 e)∧W.cell? ⟨w.heap.size,5,none⟩=some (.int .u8 (bits .and .u8 f 240))∧Below w.heap.size w W)
  ⟨by simp[go_sem],by simp[go_sem],by simp[go_sem],by simp[go_sem],by simp[go_sem],by simp[go_sem],(Below.refl _ _).alloc (by simp) _⟩ ?_
 rintro W ⟨c0,c1,c2,c3,c4,c5,hB⟩
 have l0:=Later.cell c0
 have l1:=Later.cell c1
 have l2:=Later.cell c2
 have l3:=Later.cell c3
 have l4:=Later.cell c4
 have l5:=Later.cell c5
 clear c0 c1 c2 c3 c4 c5
 have HB:=hd0 hB
 clear hB
 generalize hx:bits .and .u8 f 240=x at *
 have HX:=hd0 hx
 clear hx
 refine wp_region_later (by kernel_rfl) (by kernel_rfl) ?_
 repeat (go_big_quiet_step (first|(go_at_call 105;exact Calls.later (own_any _))))
 refine wpQuiet_nil ?_
 rintro _ ⟨K,rfl⟩
 go_wp2
 go_ret
 exact⟨by unfold resB;rw[HX.out];rfl,Later.bel HB.out K⟩
def ofA (n:Int):Value:=.agg #[.int .u8 (n / 256 / 256 / 256 / 256 / 256 % 256),.int .u8 (n / 256 / 256 / 256 / 256 % 256),.int .u8 (n / 256 / 256 / 256 % 256),.int .u8 (n / 256 / 256 % 256),.int .u8 (n / 256 % 256),.int .u8 (n % 256)]
def ofV (n:Int):Value:=if n<281474976710656 then .tuple #[ofA n,.bool true] else .tuple #[.agg #[.int .u8 0,.int .u8 0,.int .u8 0,.int .u8 0,.int .u8 0,.int .u8 0],.bool false]
theorem byteV_be (n:Int)(h0:0≤n)(j:Nat)(hj:j<(be 8 n).length):byteV ((be 8 n)[j]'hj)=.int .u8 (n / 2 ^ (8*(7-j)) % 256):=by
 have h1:0≤n / 2 ^ (8*(7-j)) % 256:=Int.emod_nonneg _ (by decide)
 have h2:n / 2 ^ (8*(7-j)) % 256<256:=Int.emod_lt_of_pos _ (by decide)
 simp only[be,List.getElem_map,List.getElem_range,beB,byteV]
 have e:(UInt8.ofNat (n / 2 ^ (8*(8-1-j)) % 256).toNat).toNat=(n / 2 ^ (8*(7-j)) % 256).toNat:=by simp;omega
 rw[e,Int.toNat_of_nonneg h1]
theorem run_arrayAt_mac (g c:Nat):∀ W:World,(Instr.arrayAt 24 (.slice (some ⟨g,2,none⟩) 6 c)).run Tryz.prog W=.ok (.pointer (some ⟨g,2,none⟩)) W:=by
 intro W
 kernel_rfl
theorem of2_any (n:Int)(w:World)(h0:0≤n)(h1:n<18446744073709551616):Calls Tryz.prog 61 #[.int .u64 n] w fun en w'=>en=.returned (ofV n)∧Below w.heap.size w w':=by
 unfold ofV
 by_cases h:n<281474976710656
 ·rw[if_pos h]
  have hd:n / 281474976710656=0:=by omega
  go_enter Tryz.func61,Tryz.ntmps61
  go_wp2_with fail
  refine(put_uint64 (w.heap.size+1) _ [] n _ (by simp) (Bys.none _ _) h0 h1 (by simp)).mono ?_
  rintro en w1 ⟨v',rfl,hown,hb⟩
  have hz:=hb.size
  simp at hz
  have hz1:w.heap.size<w1.heap.size:=by omega
  have hlen:(be 8 n).length=8:=be_length 8 n
  rw[List.nil_append] at hown
  rcases hown.shape with⟨_,h⟩|⟨g,cap,rfl,hg1,hg2,hc1,hc2⟩
  ·rw[h] at hlen;simp at hlen
  have hcap:8≤cap:=by omega
  have hne:g≠w.heap.size:=by omega
  have d2:w1.cell? ⟨g,2,none⟩=some (.int .u8 (n / 256 / 256 / 256 / 256 / 256 % 256)):=by
   rw[hown.cell 2 (by omega),byteV_be n h0];rw[show((2:Int) ^ (8*(7-2)))=1099511627776 from rfl,show n / 1099511627776 % 256=n / 256 / 256 / 256 / 256 / 256 % 256 by omega]
  have d3:w1.cell? ⟨g,3,none⟩=some (.int .u8 (n / 256 / 256 / 256 / 256 % 256)):=by
   rw[hown.cell 3 (by omega),byteV_be n h0];rw[show((2:Int) ^ (8*(7-3)))=4294967296 from rfl,show n / 4294967296 % 256=n / 256 / 256 / 256 / 256 % 256 by omega]
  have d4:w1.cell? ⟨g,4,none⟩=some (.int .u8 (n / 256 / 256 / 256 % 256)):=by
   rw[hown.cell 4 (by omega),byteV_be n h0];rw[show((2:Int) ^ (8*(7-4)))=16777216 from rfl,show n / 16777216 % 256=n / 256 / 256 / 256 % 256 by omega]
  have d5:w1.cell? ⟨g,5,none⟩=some (.int .u8 (n / 256 / 256 % 256)):=by
   rw[hown.cell 5 (by omega),byteV_be n h0];rw[show((2:Int) ^ (8*(7-5)))=65536 from rfl,show n / 65536 % 256=n / 256 / 256 % 256 by omega]
  have d6:w1.cell? ⟨g,6,none⟩=some (.int .u8 (n / 256 % 256)):=by
   rw[hown.cell 6 (by omega),byteV_be n h0];rw[show((2:Int) ^ (8*(7-6)))=256 from rfl,show n / 256 % 256=n / 256 % 256 by omega]
  have d7:w1.cell? ⟨g,7,none⟩=some (.int .u8 (n % 256)):=by
   rw[hown.cell 7 (by omega),byteV_be n h0];rw[show((2:Int) ^ (8*(7-7)))=1 from rfl,show n / 1 % 256=n % 256 by omega]
  have c0:w1.cell? ⟨w.heap.size,0,none⟩=some (.int .u8 0):=(hb.cell (by simp)).trans (by simp[go_sem])
  have f0:w1.frozen? ⟨w.heap.size,0,none⟩=false:=(hb.frozen (by simp)).trans (by simp[go_sem])
  have c1:w1.cell? ⟨w.heap.size,1,none⟩=some (.int .u8 0):=(hb.cell (by simp)).trans (by simp[go_sem])
  have f1:w1.frozen? ⟨w.heap.size,1,none⟩=false:=(hb.frozen (by simp)).trans (by simp[go_sem])
  have c2:w1.cell? ⟨w.heap.size,2,none⟩=some (.int .u8 0):=(hb.cell (by simp)).trans (by simp[go_sem])
  have f2:w1.frozen? ⟨w.heap.size,2,none⟩=false:=(hb.frozen (by simp)).trans (by simp[go_sem])
  have c3:w1.cell? ⟨w.heap.size,3,none⟩=some (.int .u8 0):=(hb.cell (by simp)).trans (by simp[go_sem])
  have f3:w1.frozen? ⟨w.heap.size,3,none⟩=false:=(hb.frozen (by simp)).trans (by simp[go_sem])
  have c4:w1.cell? ⟨w.heap.size,4,none⟩=some (.int .u8 0):=(hb.cell (by simp)).trans (by simp[go_sem])
  have f4:w1.frozen? ⟨w.heap.size,4,none⟩=false:=(hb.frozen (by simp)).trans (by simp[go_sem])
  have c5:w1.cell? ⟨w.heap.size,5,none⟩=some (.int .u8 0):=(hb.cell (by simp)).trans (by simp[go_sem])
  have f5:w1.frozen? ⟨w.heap.size,5,none⟩=false:=(hb.frozen (by simp)).trans (by simp[go_sem])
  have HB:Hid (Below w.heap.size w w1):=((Below.refl w.heap.size w).alloc (by simp) _).trans (hb.mono (by simp))
  clear hb hz hown
  rw[hlen]
  have hat:=run_arrayAt_mac g
  go_wp2
  refine bodyPost_ret (v:=.tuple #[ofA n,.bool true]) (by simp[results,Tryz.results61,go_sem,ofA,c0,c1,c2,c3,c4,c5]) rfl ⟨rfl,?_⟩
  refine below_set ?_ (by exact Nat.le_refl _) _
  refine below_set ?_ (by exact Nat.le_refl _) _
  refine below_set ?_ (by exact Nat.le_refl _) _
  refine below_set ?_ (by exact Nat.le_refl _) _
  refine below_set ?_ (by exact Nat.le_refl _) _
  refine below_set ?_ (by exact Nat.le_refl _) _
  exact HB.out
 ·rw[if_neg h]
  have hd:decide (0<n / 281474976710656)=true:=by simp;omega
  go_enter Tryz.func61,Tryz.ntmps61
  go_wp2
  refine bodyPost_ret (v:=.tuple #[.agg #[.int .u8 0,.int .u8 0,.int .u8 0,.int .u8 0,.int .u8 0,.int .u8 0],.bool false]) (by simp[results,Tryz.results61,go_sem]) rfl ⟨rfl,?_⟩
  exact(Below.refl _ _).alloc (by simp) _
open Go.Maps (Keyed int_keyed keyOf_int_mk)
abbrev Vn:=Int × Int × Int
def vElD (a b:Int):DataW Unit:=.lit (.int .i64 (a*256+b))
def vD (V:List Vn):DataW Unit:=.map (V.map fun x=>(.int .u16 x.1,vElD x.2.1 x.2.2))
def vFind:List Vn→Int→Option (Int × Int)
 |[],_=>none
 | x::r,k=>if x.1=k then some x.2 else vFind r k
def vGet (V:List Vn)(k:Int):Int × Int:=(vFind V k).getD (0,0)
def vIns (x:Vn):List Vn→List Vn
 |[]=>[x]
 | y::r=>if x.1<y.1 then x::y::r else y::vIns x r
def vDel (V:List Vn)(k:Int):List Vn:=V.filter fun y=>!decide (y.1=k)
def vPut (V:List Vn)(x:Vn):List Vn:=vIns x (vDel V x.1)
theorem same_u16 (a b:Int):(Lit.int .u16 a).sameKey (.int .u16 b)=decide (a=b):=by simp[Lit.sameKey]
theorem vD_at (V:List Vn)(k:Int)(z:DataW Unit):(vD V).atKey (.int .u16 k) z=match vFind V k with|some x=>vElD x.1 x.2|none=>z:=by
 induction V with
 | nil=>rfl
 | cons x r ih =>
  unfold vD DataW.atKey at ih ⊢
  simp only[List.map_cons,List.find?_cons,vFind,same_u16]
  by_cases h:x.1=k
  ·rw[decide_eq_true h,if_pos h]
  ·rw[decide_eq_false h,if_neg h];exact ih
theorem vD_has (V:List Vn)(k:Int):Maps.has (vD V) (.int .u16 k)=(vFind V k).isSome:=by
 induction V with
 | nil=>rfl
 | cons x r ih =>
  unfold vD Maps.has at ih ⊢
  simp only[List.map_cons,List.any_cons,vFind,same_u16]
  by_cases h:x.1=k
  ·rw[decide_eq_true h,if_pos h];rfl
  ·rw[decide_eq_false h,if_neg h,Bool.false_or];exact ih
theorem vD_size (V:List Vn):Maps.size (vD V)=V.length:=by simp[vD,Maps.size]
theorem vIns_map (x:Vn):∀ V:List Vn,DataW.insert (Lit.int .u16 x.1,vElD x.2.1 x.2.2) (V.map fun x=>(Lit.int .u16 x.1,vElD x.2.1 x.2.2))=(vIns x V).map fun x=>(Lit.int .u16 x.1,vElD x.2.1 x.2.2)
 |[]=>rfl
 | y::r=>by
  simp only[List.map_cons,DataW.insert,vIns]
  by_cases h:x.1<y.1
  ·have h2:(Lit.int .u16 x.1).before (Lit.int .u16 y.1)=true:=decide_eq_true h
   rw[if_pos h2,if_pos h];rfl
  ·have h2:¬(Lit.int .u16 x.1).before (Lit.int .u16 y.1)=true:=by rw[show(Lit.int .u16 x.1).before (Lit.int .u16 y.1)=decide (x.1<y.1) from rfl,decide_eq_false h];decide
   rw[if_neg h2,if_neg h,List.map_cons,vIns_map x r]
theorem vDel_map (V:List Vn)(k:Int):(V.map fun x=>(Lit.int .u16 x.1,vElD x.2.1 x.2.2)).filter (fun p=>!p.1.sameKey (.int .u16 k))=(vDel V k).map fun x=>(Lit.int .u16 x.1,vElD x.2.1 x.2.2):=by
 unfold vDel
 rw[List.filter_map]
 congr 1
 apply List.filter_congr
 intro x _
 simp only[Function.comp,same_u16]
theorem vD_put (V:List Vn)(x:Vn):(vD V).put (.int .u16 x.1) (vElD x.2.1 x.2.2)=vD (vPut V x):=by
 unfold vD vPut
 simp only[DataW.put]
 rw[vDel_map,vIns_map]
theorem vIns_mem {x z:Vn} : ∀ {V:List Vn},z∈vIns x V→z=x∨z∈V
 |[],h=>Or.inl (by simpa [vIns] using h)
 | y::r,h=>by
  unfold vIns at h
  split at h
  ·rcases List.mem_cons.1 h with h|h
   ·exact Or.inl h
   ·exact Or.inr h
  ·rcases List.mem_cons.1 h with h|h
   ·exact Or.inr (h ▸ List.mem_cons_self ..)
   ·rcases vIns_mem h with h|h
    ·exact Or.inl h
    ·exact Or.inr (List.mem_cons_of_mem _ h)
theorem vDel_mem {V:List Vn}{k:Int}{z:Vn}(h:z∈vDel V k):z∈V:=(List.mem_filter.1 h).1
theorem vPut_mem {V:List Vn}{x z:Vn}(h:z∈vPut V x):z=x∨z∈V:=(vIns_mem h).imp id vDel_mem
theorem vIns_len (x:Vn):∀ V:List Vn,(vIns x V).length=V.length+1
 |[]=>rfl
 | y::r=>by unfold vIns;split <;> simp[vIns_len x r]
theorem vPut_len (V:List Vn)(x:Vn):(vPut V x).length≤V.length+1:=by
 unfold vPut vDel;rw[vIns_len];exact Nat.succ_le_succ (List.length_filter_le _ _)
def vEl (v:Value):Option (DataW Unit × List MemPlace) :=
 match v with
 | .agg cs=>match cs.toList with
  |[.int .u8 a,.int .u8 b]=>if 0≤b∧b<256 then some (vElD a b,[]) else none
  | _=>none
 | _=>none
theorem vEl_mk (a b:Int)(h:0≤b∧b<256):vEl (.agg #[.int .u8 a,.int .u8 b])=some (vElD a b,[]):=by simp[vEl,h]
theorem vEl_inv {v:Value}{a b:Int}{ps:List MemPlace}(hb:0≤b∧b<256)(h:vEl v=some (vElD a b,ps)):v=.agg #[.int .u8 a,.int .u8 b]:=by
 unfold vEl at h
 split at h
 ·rename_i cs
  split at h
  ·rename_i a' b' hcs
   split at h
   ·rename_i hb'
    injection h with h;injection h with h _;unfold vElD at h;injection h with h;injection h with _ h
    have e1:a'=a:=by omega
    have e2:b'=b:=by omega
    subst e1 e2
    rw[show cs=cs.toList.toArray from rfl,hcs]
   ·cases h
  ·cases h
 ·cases h
theorem u16_keyed:Keyed Tryz.prog 22:=int_keyed Tryz.underlying22
structure VM (W:World)(m:Nat)(V:List Vn):Prop where
 own:W.ownsMap Tryz.prog 22 vEl m V.length (vD V)
 wf:∀ x∈V,(0≤x.2.1∧x.2.1<256)∧(0≤x.2.2∧x.2.2<256)
theorem own_tight {W:World}{m n:Nat}{V:List Vn}(h:W.ownsMap Tryz.prog 22 vEl m n (vD V)):W.ownsMap Tryz.prog 22 vEl m V.length (vD V):=by
 obtain⟨es,clock,hb,F,hs,hD⟩:=h
 refine⟨es,clock,hb,F,?_,hD⟩
 have:=congrArg Maps.size hD
 rw[vD_size] at this
 simp only[Maps.size,length_sorted,List.length_map,Array.length_toList] at this
 omega
theorem vGet_wf2 {V:List Vn}(h:∀ x∈V,(0≤x.2.1∧x.2.1<256)∧(0≤x.2.2∧x.2.2<256))(k:Int):(0≤(vGet V k).1∧(vGet V k).1<256)∧(0≤(vGet V k).2∧(vGet V k).2<256):=by
 unfold vGet
 induction V with
 | nil=>exact⟨⟨Int.le_refl 0,(by decide:(0:Int)<256)⟩,⟨Int.le_refl 0,(by decide:(0:Int)<256)⟩⟩
 | cons x r ih =>
  unfold vFind
  split
  ·exact h x (List.mem_cons_self ..)
  ·exact ih fun y hy=>h y (List.mem_cons_of_mem _ hy)
theorem vGet_wf {V:List Vn}(h:∀ x∈V,(0≤x.2.1∧x.2.1<256)∧(0≤x.2.2∧x.2.2<256))(k:Int):0≤(vGet V k).2∧(vGet V k).2<256:=(vGet_wf2 h k).2
section
variable {W W':World} {m:Nat} {V:List Vn}
theorem VM.lt (h:VM W m V):m<W.heap.size:=h.own.lt
theorem VM.later (h:VM W m V)(hb:Below W.heap.size W W'):VM W' m V:=by
 obtain⟨es,clock,hb1,r⟩:=h.own
 exact⟨⟨es,clock,(hb.block m h.lt).trans hb1,r⟩,h.wf⟩
theorem VM.blk (h:VM W m V)(e:W'.heap[m]?=W.heap[m]?):VM W' m V:=by
 obtain⟨es,clock,hb1,r⟩:=h.own
 exact⟨⟨es,clock,e.trans hb1,r⟩,h.wf⟩
theorem VM.made (W:World):VM (W.alloc (.map #[] 0)) W.heap.size []:=⟨World.ownsMap_made W Tryz.prog 22 vEl,by simp⟩
theorem u16_wf {k:Int}(h:0≤k∧k<65536):(Lit.int .u16 k).wf=true:=by simp[Lit.wf,IntKind.min,IntKind.max,IntKind.bits,IntKind.signed];omega
theorem zeroPorts (W:World):(zeroValue 472).run Tryz.prog W=.ok (.agg #[.int .u8 0,.int .u8 0]) W:=by kernel_rfl
theorem atGet (V:List Vn)(k:Int):(vD V).atKey (.int .u16 k) (vElD 0 0)=vElD (vGet V k).1 (vGet V k).2:=by
 rw[vD_at];unfold vGet;cases vFind V k <;> rfl
theorem VM.look (h:VM W m V)(k:Int)(hk:0≤k∧k<65536) :
  (Instr.lookup 289 (.map (some m)) (.int .u16 k) true).run Tryz.prog W=.ok (.tuple #[.agg #[.int .u8 (vGet V k).1,.int .u8 (vGet V k).2],.bool (vFind V k).isSome]) W:=by
 obtain⟨v,ps,hrun,hv⟩:=h.own.look_ok u16_keyed Tryz.underlying289 (zeroPorts W) (vEl_mk 0 0 (by decide)) (keyOf_int_mk Tryz.underlying22 (u16_wf hk))
 rw[atGet] at hv
 rw[hrun,vEl_inv (vGet_wf h.wf k) hv,vD_has]
theorem VM.look1 (h:VM W m V)(k:Int)(hk:0≤k∧k<65536) :
  (Instr.lookup 289 (.map (some m)) (.int .u16 k) false).run Tryz.prog W=.ok (.agg #[.int .u8 (vGet V k).1,.int .u8 (vGet V k).2]) W:=by
 obtain⟨v,ps,hrun,hv⟩:=h.own.lookup u16_keyed Tryz.underlying289 (zeroPorts W) (vEl_mk 0 0 (by decide)) (keyOf_int_mk Tryz.underlying22 (u16_wf hk))
 rw[atGet] at hv
 rw[hrun,vEl_inv (vGet_wf h.wf k) hv]
theorem VM.len (h:VM W m V)(ty:TypeId):(Builtin.len_ #[289] ty #[.map (some m)]).run Tryz.prog W=.ok (.int .i64 (V.length:Int)) W:=by
 have:=h.own.len Tryz.underlying289 ty
 rw[vD_size] at this;exact this
theorem VM.update (h:VM W m V)(hl:V.length≤1000)(k a b:Int)(hk:0≤k∧k<65536)(ha:0≤a∧a<256)(hb:0≤b∧b<256) :
  ∃ W',(Instr.mapUpdate 289 (.map (some m)) (.int .u16 k) (.agg #[.int .u8 a,.int .u8 b])).run Tryz.prog W=.ok () W'∧VM W' m (vPut V (k,a,b))∧W.grownBy W' (some m):=by
 obtain⟨w',h1,h2,h3⟩:=h.own.update u16_keyed Tryz.underlying289 (Nat.lt_of_le_of_lt hl (by decide)) (key:=.int .u16 k) (val:=.agg #[.int .u8 a,.int .u8 b]) (keyOf_int_mk Tryz.underlying22 (u16_wf hk)) (vEl_mk a b hb)
 have e:=vD_put V (k,a,b)
 simp only at e
 rw[e] at h2
 refine⟨w',h1,⟨own_tight h2,fun x hx=>?_⟩,h3⟩
 rcases vPut_mem hx with rfl|hx
 ·exact⟨ha,hb⟩
 ·exact h.wf x hx
end
def tabA (n:Int)(m:Nat)(o:List Int):Array Value:=(.int .i64 n::.map (some m)::o.map (Value.int .u16)).toArray
def TB (W:World)(q:Nat)(n:Int)(m:Nat)(o:List Int):Prop:=W.heap[q]?=some (.cells (tabA n m o) 292 (0,0))
section
variable {W W':World} {q m:Nat} {n:Int} {o:List Int}
theorem TB.lt (h:TB W q n m o):q<W.heap.size:=by
 rcases Nat.lt_or_ge q W.heap.size with h1|h1
 ·exact h1
 ·unfold TB at h;rw[Array.getElem?_eq_none h1] at h;cases h
theorem TB.blk (h:TB W q n m o)(e:W'.heap[q]?=W.heap[q]?):TB W' q n m o:=by unfold TB at *;rw[e];exact h
theorem TB.later (h:TB W q n m o)(hb:Below W.heap.size W W'):TB W' q n m o:=h.blk (hb.block q h.lt)
theorem TB.c0 (h:TB W q n m o):W.cell? ⟨q,0,none⟩=some (.int .i64 n):=by unfold TB at h;simp[World.cell?,h,tabA]
theorem TB.c1 (h:TB W q n m o):W.cell? ⟨q,1,none⟩=some (.map (some m)):=by unfold TB at h;simp[World.cell?,h,tabA]
theorem TB.co (h:TB W q n m o)(p:Nat)(x:Int)(hp:o[p]?=some x):W.cell? ⟨q,2+p,none⟩=some (.int .u16 x):=by
 unfold TB at h
 rw[Nat.add_comm]
 simp[World.cell?,h,tabA,hp]
theorem TB.fr (h:TB W q n m o)(j:Nat):W.frozen? ⟨q,j,none⟩=false:=by unfold TB at h;simp[World.frozen?,h]
theorem TB.set (h:TB W q n m o)(p:Nat)(x:Int):TB (W.setCell ⟨q,2+p,none⟩ (.int .u16 x)) q n m (o.set p x):=by
 unfold TB at *
 rw[setCell_eq_setRow W q (2+p) (tabA n m o) _ _ _ h]
 have e:(tabA n m o).setIfInBounds (2+p) (.int .u16 x)=tabA n m (o.set p x):=by
  unfold tabA
  rw[Nat.add_comm]
  simp[List.setIfInBounds_toArray,List.set_cons_succ,List.map_set]
 have:=setRow_heap W q _ ((tabA n m o).setIfInBounds (2+p) (.int .u16 x)) _ _ h
 rw[e] at this ⊢
 exact this
end
structure TS (W:World)(q:Nat)(n:Int)(m:Nat)(o:List Int)(V:List Vn):Prop where
 tb:TB W q n m o
 vm:VM W m V
 ne:q≠m
 ol:o.length=8
 n1:1≤n∧n≤8
 vl:V.length≤8
 ow:∀ x∈o,0≤x∧x<65536
section
variable {W W':World} {q m:Nat} {n:Int} {o:List Int} {V:List Vn}
theorem TS.later (h:TS W q n m o V)(hb:Below W.heap.size W W'):TS W' q n m o V:=⟨h.tb.later hb,h.vm.later hb,h.ne,h.ol,h.n1,h.vl,h.ow⟩
theorem TS.blk (h:TS W q n m o V)(e:W'.heap[q]?=W.heap[q]?)(e2:W'.heap[m]?=W.heap[m]?):TS W' q n m o V:=⟨h.tb.blk e,h.vm.blk e2,h.ne,h.ol,h.n1,h.vl,h.ow⟩
theorem TS.own (h:TS W q n m o V)(p:Nat)(hp:p<8):∃ x,o[p]?=some x∧0≤x∧x<65536:=by
 have hl:p<o.length:=by rw[h.ol];exact hp
 exact⟨o[p],List.getElem?_eq_getElem hl,h.ow _ (List.getElem_mem hl)⟩
end
def memB (a:Int)(p:Nat):Bool:=decide (p<8)&&decide (a / 2 ^ p % 2=1)
theorem nat_and1 (m:Nat):m &&& 1=m % 2:=Nat.and_one_is_mod m
theorem and_1 (n:Int)(h0:0≤n)(h1:n<256):bits .and .u8 n 1=n % 2:=by
 obtain⟨m,rfl⟩:∃ m:Nat,n=m:=⟨n.toNat,by omega⟩
 rw[u8_and (m:Int) 1 (by omega) (by omega) (by omega) (by omega)]
 have e:(m:Int).toNat &&& (1:Int).toNat=m % 2:=nat_and1 m
 rw[e];omega
theorem shr_bd (a:Int)(p:Nat)(h:0≤a∧a<256):0≤a / 2 ^ p∧a / 2 ^ p<256:=by
 have hp:(0:Int)<2 ^ p:=Int.pow_pos (by decide)
 refine⟨Int.ediv_nonneg h.1 (Int.le_of_lt hp),?_⟩
 have:=Int.ediv_le_self (2 ^ p) h.1
 omega
theorem and_shr (a:Int)(p:Nat)(h:0≤a∧a<256):(bits .and .u8 (a / 2 ^ p) 1==1)=decide (a / 2 ^ p % 2=1):=by
 rw[and_1 _ (shr_bd a p h).1 (shr_bd a p h).2];rfl
section
variable {w:World} {ops:Array Oper} {rest:List Oper} {o:Oper} {a:Act} {Q:Exit→Act→World→Prop}
end
section
variable {w:World} {ops:Array Oper} {rest:List Oper} {o:Oper} {a:Act} {Q:Exit→Act→World→Prop}
end
open Go.ChangeShapes Go.WideShapes Go.ChangeAt Go.RowKit Go.Deep
open Go.ChangeMaps (open_string shut_string)
section
variable {w:World} {ops:Array Oper} {rest:List Oper} {o:Oper} {a:Act} {Q:Exit→Act→World→Prop} {K:Act→World→Prop}
end
section
variable {w:World} {ops:Array Oper} {o:Oper} {a:Act} {Q:Exit→Act→World→Prop} {K:Act→World→Prop}
end
end Go.Proofs.YtghaobakpdninaaGreatDoor
