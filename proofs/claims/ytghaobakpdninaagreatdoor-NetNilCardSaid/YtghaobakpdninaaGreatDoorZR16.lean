/- ZR16 -/
import Derived.Test.YtghaobakpdninaaGreatDoorZR15
import Derived.RangeFuncBox
import Derived.RangeFuncLeaves
import Derived.RangeFuncBound
import Derived.RangeFuncCalls
import Derived.Shelf.Abstract
import Derived.Shelf.RegionOpen
import Derived.OwnWalkIn
import Derived.TacticsInMore
import Derived.LoopNIn
import Derived.LoopIn
import Derived.Maps.AppendAt
import Derived.RangeFuncNested
set_option linter.unusedVariables false
set_option linter.unusedSimpArgs false
set_option maxRecDepth 100000
set_option maxHeartbeats 16000000
namespace Go.Proofs.YtghaobakpdninaaGreatDoor
open Go.RowKit
theorem bdo_table (b:Nat)(A:Array Value)(d:Int)(hA0:A[0]?=some (.int .u8 d))(hsz:A.size=27)(hd:0≤d∧d<256)(hn:∀ z:DataW Unit,dsD.atKey (.int .u8 d) z=.lit (.int .i64 (159:Nat)))(Q:World→Prop)(w:World)
  (HC:∀ W,Below w.heap.size w W→Calls Tryz.prog 159 #[.pointer (some ⟨b,0,none⟩),.agg A] W fun en w'=>en=.returned (.tuple #[.slice none 0 0,.int .i64 0,.int .i64 0])∧Q w') :
  Calls Tryz.prog 77 #[.pointer (some ⟨b,0,none⟩),.agg A] w fun en w'=>en=.returned (.tuple #[.slice none 0 0,.int .i64 0,.int .i64 0])∧Q w':=by
 have hb:=(Below.refl w.heap.size w).alloc (Nat.le_refl _) (.cells A 55)
 have g1:=GB.new 55 w A
 obtain⟨w0,hw0⟩:∃ z,w.alloc (.cells A 55)=z:=⟨_,rfl⟩
 rw[hw0] at hb g1
 have dd:=(Below.refl w0.heap.size w0).drew
 have HB:=hd0 (hb.trans (dd.mono hb.size))
 have HG:=hd0 (g1.later dd)
 have HIL:Hid ((Tryz.prog.info? 55).map (·.size)=some A.toList.length):=hd0 (by rw[Array.length_toList,hsz];kernel_rfl)
 have HC:=hd0 HC
 have c0:w0.drew.cell? ⟨w.heap.size,0,none⟩=some (.int .u8 d):=HG.out.c 0 _ hA0
 have HL:Hid (∀ W q,DMap W q→(Instr.lookup 274 (.map (some q)) (.int .u8 d) true).run Tryz.prog W=.ok (.tuple #[.func (.func 159) #[] #[],.bool true]) W):=hd0 fun W q h=>dmap_look h d hd _ hn
 clear hb g1 hn hA0 hsz
 go_enter Tryz.func77,Tryz.ntmps77
 go_upto_region 3 with fail
 clear hw0
 refine wp_region_held_drew (S:=fun W=>W.cell? ⟨w.heap.size,0,none⟩=some (.int .u8 d)) (by kernel_rfl) c0 (fun hHeld=>?_)
 refine tkH 1 ?_ ?h ?_
 case h=>(intro w hSw;go_simp;try with_reducible rfl)
 try simp only[Act.put,zz]
 refine tkH 2 ?_ ?h ?_
 case h=>(intro w hSw;go_simp;try with_reducible rfl)
 try simp only[Act.put,zz]
 refine rdH 0 fun K hK=>?_
 (go_simp;go_at_call 110;refine(does_any _).mono ?_;rintro en' w1 ⟨mp,rfl,hm1,hb1⟩;have c1:=(hb1.cell (World.block_lt_of_cell? _ _ c0)).trans c0;have HM1:=hd0 hm1;have HB1:=hd0 (HB.out.trans (hb1.mono HB.out.size));have HG1:=hd0 (HG.out.later hb1);clear hb1 hm1;refine hK.out _ _ c1 (fun hHeld=>?_);clear hK K;try simp only[Act.put,zz])
 have LK:=HL.out _ _ HM1.out
 refine rdH 3 fun K hK=>?_
 (go_simp;refine hK.out _ _ c1 (fun hHeld=>?_);clear hK K;try simp only[Act.put,zz])
 refine tkH 4 ?_ ?h ?_
 case h=>(intro w hSw;go_simp;try with_reducible rfl)
 try simp only[Act.put,zz]
 refine tkH 5 ?_ ?h ?_
 case h=>(intro w hSw;go_simp;try with_reducible rfl)
 try simp only[Act.put,zz]
 refine tkH 6 ?_ ?h ?_
 case h=>(intro w hSw;go_simp;try with_reducible rfl)
 try simp only[Act.put,zz]
 refine tkH 7 ?_ ?h ?_
 case h=>(intro w hSw;go_simp;try with_reducible rfl)
 try simp only[Act.put,zz]
 refine tkH 8 ?_ ?h ?_
 case h=>(intro w hSw;go_simp;try with_reducible rfl)
 try simp only[Act.put,zz]
 refine wpAnyH_done (by kernel_rfl) ?_ _
 have TC:=hd0 (HC.out w1 HB1.out)
 go_wp2_with (first
  |((with_reducible refine wpList_load_mid rfl 55 (.tmp 3) rfl w.heap.size 0 ?hx A.toList _ HG1.out.range Tryz.underlying55 ?hu HIL.out ?_);(case hx=>rfl);(case hu=>rfl))
  |(go_at_call 159;with_reducible refine TC.out.mono ?_;rintro e w2 ⟨rfl,hq⟩))
 refine bodyPost_ret (v:=.tuple #[.slice none 0 0,.int .i64 0,.int .i64 0]) (by simp[results,Tryz.results77,go_sem]) rfl ⟨rfl,hq⟩
theorem execLoad {e:Operand→Value}{o:Oper}{ty:TypeId}{x:Operand}{b:Nat}{A:Array Value}{W:World}(ho:o.op=.load ty x)(hx:e x=.pointer (some ⟨b,0,none⟩))(hl:(Instr.loadAt ty (.pointer (some ⟨b,0,none⟩))).run Tryz.prog W=.ok (.agg A) W):(execOp e o).run Tryz.prog W=.ok (.value (.agg A)) W:=by
 unfold execOp
 simp only[ho,hx,Sem.run_bind,hl,Result.andThen_ok,Sem.run_pure]
theorem GB.loadAt {T:TypeId}{W:World}{b:Nat}{A:Array Value}{d:TypeDesc}(h:GB T W b A)(hu:Tryz.prog.underlying T=some d)(hd:d.isRow=true)(hi:(Tryz.prog.info? T).map (·.size)=some A.toList.length):(Instr.loadAt T (.pointer (some ⟨b,0,none⟩))).run Tryz.prog W=.ok (.agg A) W:=by
 have:=run_loadAt_mid (P:=Tryz.prog) W b 0 T A.toList _ h.range hu hd hi
 simpa using this
open Go.RowKit Go.Shelf
abbrev Pt (x:Int):={ p:Nat // p<8∧x / 2 ^ p % 2=1 }
def ptL (x:Int):Nat→List (Pt x)
 | 0=>[]
 | k+1=>if h:k<8∧x / 2 ^ k % 2=1 then ptL x k++[⟨k,h⟩] else ptL x k
theorem ptL_len (x:Int):∀ k,(ptL x k).length≤k
 | 0=>Nat.le_refl _
 | k+1=>by
  have:=ptL_len x k
  unfold ptL
  split
  ·simp;omega
  ·omega
def KpB (Bs:Nat)(A B:World):Prop:=B.cell? ⟨Bs,0,none⟩=A.cell? ⟨Bs,0,none⟩∧A.heap.size≤B.heap.size
theorem kpB_t {Bs:Nat}{A B C:World}(h:KpB Bs A B)(k:KpB Bs B C):KpB Bs A C:=⟨k.1.trans h.1,Nat.le_trans h.2 k.2⟩
theorem kpB_b {Bs:Nat}{w:World}(hB:Bs<w.heap.size)(W:World)(l:Nat)(o o':Obj)(hl:w.heap.size≤l)(_:W.heap[l]?=some o)(_:o.isCells=false)(_:o.isWalk=false):KpB Bs W (W.putObj l o'):=by
 refine⟨?_,(grownBy_putObj' W l o').size⟩
 unfold World.cell?
 rw[World.putObj_heap_other (by simp;omega)]
attribute [local go_sem] Oper.semAt_some
theorem ports1_in (x:Int)(hx:0≤x∧x<256)(l Bs:Nat)(J Jx:List (Pt x)→World→Prop)
  (hY:∀ pre (p:Pt x) W,J pre W→pre.length<8→YieldAt Fence.wide 1 Tryz.prog l #[.int .u8 (p.1:Int)] W fun e W'=>(e=.returned (.bool true)∧J (pre++[p]) W'∧KpB Bs W W')∨(e=.returned (.bool false)∧Jx (pre++[p]) W'))
  (W:World) (hc:W.cell? ⟨Bs,0,none⟩=some (.int .u8 x)) (h0:J [] W) :
  CallsIn Fence.wide 2 Tryz.prog 248 #[.func (.yield l) #[] #[],.pointer (some ⟨Bs,0,none⟩)] W fun e W'=>(∃ v,e=.returned v)∧((∃ xs,xs=ptL x 8∧J xs W')∨(∃ pre:List (Pt x),True∧Jx pre W')):=by
 refine callsIn_of_wp Tryz.func248 rfl trivial ?_ rfl
 simp only[Tryz.ntmps248,List.size_toArray,List.length_cons,List.length_nil,Nat.reduceAdd,Nat.reduceSub,Array.replicate_succ,Array.replicate_zero,List.push_toArray,List.append_toArray,List.nil_append,List.cons_append]
 gi_wp2
 gi_loopw [4] (fun i wr=>∃ k:Nat,k≤8∧i=.int .u8 k∧wr.cell? ⟨Bs,0,none⟩=some (.int .u8 x)∧J (ptL x k) wr) (fun i _=>8-(intOf i).toNat)
 case atStart=>exact⟨0,by omega,rfl,hc,h0⟩
 case round =>
  obtain⟨k,hk,rfl,hcr,hJ⟩:=hrel
  by_cases hlt:k<8
  ·have dk:decide ((k:Int)<8)=true:=decide_eq_true (by omega)
   have p0:(0:Int)≤(k:Int):=by omega
   have p8:(k:Int)≤8:=by omega
   have bb:=and_shr x k hx
   by_cases hbit:x / 2 ^ k % 2=1
   ·rw[decide_eq_true hbit] at bb
    obtain⟨fn,tmps,assign,body,hy,hR⟩:=hY (ptL x k) ⟨k,hlt,hbit⟩ wr hJ (by have:=ptL_len x k;omega)
    have hn:ptL x (k+1)=ptL x k++[⟨k,hlt,hbit⟩]:=by rw[ptL,dif_pos ⟨hlt,hbit⟩]
    gi_wp2
    refine hR.mono ?_
    rintro e W3 (⟨rfl,hJ3,hk3⟩|⟨rfl,hJx3⟩)
    ·have hc3:=hk3.1.trans hcr
     gi_wp2
     go_roundw
     case rel=>exact⟨k+1,by omega,by go_num,hc3,by rw[hn];exact hJ3⟩
     case measure=>simp[intOf];omega
    ·gi_wp2
     refine bodyPost_ret (results_none rfl _ _ _) rfl ?_
     exact⟨⟨_,rfl⟩,.inr ⟨_,trivial,hJx3⟩⟩
   ·rw[decide_eq_false hbit] at bb
    have hn:ptL x (k+1)=ptL x k:=by rw[ptL,dif_neg (fun h=>hbit h.2)]
    gi_wp2
    refine⟨fun _ h=>(by cases h),?_⟩
    gi_wp2
    go_roundw
    case rel=>exact⟨k+1,by omega,by go_num,hcr,by rw[hn];exact hJ⟩
    case measure=>simp[intOf];omega
  ·have dk:decide ((k:Int)<8)=false:=decide_eq_false (by omega)
   obtain rfl:k=8:=by omega
   gi_wp2
   go_end0
   exact⟨⟨_,rfl⟩,.inl ⟨_,rfl,hJ⟩⟩
theorem portsStops (x:Int)(hx:0≤x∧x<256)(Bs:Nat)(w:World)(hB:Bs<w.heap.size)(hc:w.cell? ⟨Bs,0,none⟩=some (.int .u8 x)) :
  SeqStopsK Fence.wide 2 Tryz.prog 248 #[.pointer (some ⟨Bs,0,none⟩)] (fun p:Pt x=>#[.int .u8 (p.1:Int)]) (KpB Bs) (fun xs=>xs=ptL x 8) (fun _=>True) 8 w:=fun l J Jx W hW hJ _ hY h0 =>
 ports1_in x hx l Bs J Jx hY W ((hW.cell (p:=⟨Bs,0,none⟩) hB).trans hc) h0
theorem ports_any (x:Int)(w:World):Calls Tryz.prog 189 #[.int .u8 x] w fun e w'=>e=.returned (.func (.func 248) #[] #[.pointer (some ⟨w.heap.size,0,none⟩)])∧w'=w.alloc (.cells #[.int .u8 x] 5):=by
 go_enter Tryz.func189,Tryz.ntmps189
 go_wp2
 go_ret
 exact⟨rfl,rfl⟩
open Go.RowKit Go.Shelf
attribute [local go_sem] Oper.semAt_some
def accF (a:Int)(p:Nat):Int:=if p=0 then bits .or .u8 a 1 else if p=1 then bits .or .u8 a 2 else a
def accL (l:List (Pt 255)):Int:=(l.map (·.1)).foldl accF 0
theorem accL_all:accL (ptL 255 8)=3:=by decide +kernel
theorem accL_snoc (l:List (Pt 255))(p:Pt 255):accL (l++[p])=accF (accL l) p.1:=by simp[accL]

open Go.RowKit Go.Shelf
section
variable {P:Program} {md:Region.Mode} {ops:Array Oper} {Q:Exit→Act→World→Prop} {l n:Nat}
theorem rows_in {row:String}{args:Array Value}{w:World}{R:Value→World→Prop}(h:Rows P row args w R):RowsIn (Fence.wide.inRound l) n P row args w R :=
 fun c cs _=>let ⟨v,w',r,s⟩:=h c cs;⟨v,w',r,stepsIn_wide.2 s⟩
theorem upon_in {o:Oper}{a:Act}{K K':Act→World→Prop}(hK:∀ a w,K a w→K' a w):∀ {r:Result Next},o.upon P a K Q r→o.uponIn (Fence.wide.inRound l) n P a K' Q r
 | .ok (.value v) w',h=>hK _ _ h
 | .ok .skip w',h=>hK _ _ h
 | .ok (.defer d) w',h=>hK _ _ h
 | .ok (.enter f args) w',h=>⟨fun h=>(by cases h),CallsIn.inRound l (callsIn_wide.2 (Calls.mono h fun e w'' he=>by
   cases e with
   | returned v=>exact hK _ _ he
   | panicked c=>exact he
   | outgrown=>exact he))⟩
 | .ok (.row row args) w',h=>⟨fun h=>(by cases h),(rows_in h).mono fun v w'=>hK _ _⟩
 | .ok (.round _ _ _ _ _) w',h=>h.elim
 | .halt (.panic v) w',h=>h
def noDefer (ops:Array Oper):Bool:=ops.all fun o=>match o.op with|.defer _=>false|_=>true
theorem noDefer_at (h:noDefer ops=true){i:Nat}{o:Oper}(ho:ops[i]?=some o):∀ c,o.op≠.defer c:=by
 intro c hc
 obtain⟨hi,e⟩:=Array.getElem?_eq_some_iff.1 ho
 have:=(Array.all_eq_true.1 h) i hi
 rw[e,hc] at this
 cases this
theorem wpOp_in (hd:noDefer ops=true)(hQ:¬ LetsOut Q){K K':Act→World→Prop}(hK:∀ a w,K a w→K' a w){i:Nat}{a:Act}{w:World}(h:wpOp P ops Q i K a w):wpOpIn (Fence.wide.inRound l) n P ops Q i K' a w:=by
 unfold wpOp at h
 unfold wpOpIn
 split
 ·rename_i ho
  rw[ho] at h
  exact hK _ _ h
 ·rename_i o ho
  rw[ho] at h
  simp only at h
  split
  ·rename_i hw
   rw[if_pos hw] at h
   refine⟨fun _ _=>trivial,?_⟩
   rw[Oper.semAt_eq _ _ _ (noDefer_at hd ho)]
   exact upon_in hK (h.resolve_right fun h=>hQ h.2)
  ·rename_i hw
   rw[if_neg hw] at h
   exact⟨fun _ _=>trivial,hK _ _ h⟩
theorem wpAny_in (hd:noDefer ops=true)(hQ:¬ LetsOut Q):∀ (fuel:Nat) (listed:Array Bool) (a:Act) (w:World),wpAny P md ops Q fuel listed a w→wpAnyIn (Fence.wide.inRound l) n P md ops Q fuel listed a w
 | 0,_,_,_,h=>h
 | fuel+1,listed,a,w,h=>⟨h.1,fun i hi=>wpOp_in hd hQ (wpAny_in hd hQ fuel _) (h.2 i hi)⟩
theorem wpIn_region_held_drew {id:Nat}{a:Act}{w:World}{S:World→Prop}(hm:P.follows .mixedOrders=true)(hd:noDefer ops=true)(hQ:¬ LetsOut Q)(hS:S w.drew)
  (h:S w.drew→wpAnyH P .any ops Q S ops.size (Array.replicate ops.size false) a w.drew):(Code.region id ops true).wpIn (Fence.wide.inRound l) n P Q a w :=
 wpIn_region_any hm (wpAny_in hd hQ _ _ _ _ (wpAny_of_held _ _ _ _ (h hS)))
end
open Go.RowKit Go.Shelf
attribute [local go_sem] Oper.semAt_some
theorem info_sent:(Tryz.prog.info? 257).map (fun i=>(i.zero,i.size,i.bytes))=some (some (.agg #[.int .u8 0,.string { data:=#[] }]),2,24):=by kernel_rfl
section
variable {W W':World} {P:BP} {U:List Bool} {o:List Int} {V:List Vn} {v v':Value} {dr:Int}
end
section
variable {α:Type} {k:Nat} {f:α→List Value} {w:World} {ops:Array Oper} {rest:List Oper} {o:Oper} {a:Act} {Q:Exit→Act→World→Prop} {K:Act→World→Prop}
theorem wp_append_rwG (hf:∀ x,(f x).length=k)(h1c:∀ x,∀ u∈f x,u.oneCell'=true)(E S:TypeId)(z:Value)(by_:Nat)(hu:Tryz.prog.underlying S=some (.slice E))(hi:(Tryz.prog.info? E).map (fun i=>(i.zero,i.size,i.bytes))=some (some z,k,by_))(hz:z.cells.size=k)(hk:0<k)(hby:by_≤1000)
  (s x:Operand) (ho:o.op=.call { callee:=.builtin .append,args:=#[s,x],argTypes:=#[S,S] })
  (B:Nat) (v:Value) (l:List α) (hs:a.eval s=v) (hown:Ow k f E w B v l) (g c:Nat) (t:List α) (hx:a.eval x=.slice (some ⟨g,0,none⟩) t.length c) (hsrc:∀ j (hj:j<t.length) i,i<k→w.cell? ⟨g,j*k+i,none⟩=(f t[j])[i]?)
  (hsz:l.length+t.length≤100000000000) (hB:B≤w.heap.size)
  (h:∀ v' w',Ow k f E w' B v' (l++t)→w.grownBy w' v.ownBlock→Below B w w'→K (a.put o.dst v') w'):o.wp Tryz.prog a w K Q:=by
 obtain⟨i,hi,hz0,hz1,hz2⟩:=info_parts hi
 refine wp_append_own w s x S ho B E i z k by_ hu hi hz0 hz1 hz2 hz hk v l.length (l.flatMap f) hs hown ⟨g,0,none⟩ t.length c (t.flatMap f) hx (flat_len hf t)
   (fun j u hj=>?_) (fun u hu=>?_) (by unfold maxLen;omega) (by have:(l.length+t.length)*by_≤100000000000*1000:=Nat.mul_le_mul hsz hby;omega) hB (fun v' w' h1 h2 _=>?_)
 ·have hj':j<t.length*k:=by have:=(List.getElem?_eq_some_iff.1 hj).1;rw[flat_len hf] at this;exact this
  rw[Go.WideShapes.add_plain]
  have hd:j / k<t.length:=Nat.div_lt_of_lt_mul (by rw[Nat.mul_comm];exact hj')
  have hm:j % k<k:=Nat.mod_lt _ hk
  have e:j=j / k*k+j % k:=by rw[Nat.mul_comm];exact(Nat.div_add_mod j k).symm
  have hg:=flat_get hf t (j / k) hd (j % k) hm
  rw[←e,hj] at hg
  have:=hsrc (j / k) hd (j % k) hm
  rw[←hg,← e] at this
  simpa using this
 ·obtain⟨y,_,hy⟩:=List.mem_flatMap.1 hu
  exact h1c y u hy
 ·refine h v' w' ?_ h2 ((Below.refl _ _).grown h2 hB (fun k hk=>(World.ownsRow.lt hown k hk).1))
  unfold Ow
  rw[List.length_append,List.flatMap_append];exact h1
theorem Ow.cellsAt {E:TypeId}{B:Nat}{v:Value}{l:List α}(hown:Ow k f E w B v l):∀ j,v.ownBlock=some j→∃ c,w.heap[j]?=some (.cells c E (0,0)):=fun j hj=>by
 rcases hown.2 with⟨rfl,_⟩|⟨g,cap,cur,rfl,_,hh,_⟩
 ·cases hj
 ·injection hj with hj
  exact⟨cur,by rw[←hj];exact hh⟩
end
theorem keepsFrom_below {B:Nat}{W W':World}(hb:Below W.heap.size W W'):KeepsFrom B W W':=⟨hb.size,fun k o _ hk _=>(hb.block k (Array.getElem?_eq_some_iff.1 hk).1).trans hk⟩
theorem keepsFrom_grown {B:Nat}{W W':World}{row:Option Nat}(hg:W.grownBy W' row)(hr:∀ j,row=some j→∃ c e fz,W.heap[j]?=some (.cells c e fz)):KeepsFrom B W W':=⟨hg.size,fun k o _ hk ho=>by
 refine(hg.block k (Array.getElem?_eq_some_iff.1 hk).1 (fun e=>?_)).trans hk
 obtain⟨c,t,fz,hc⟩:=hr k e.symm
 rw[hc] at hk
 cases hk
 cases ho⟩
section
variable {W W' W0:World} {P:BP} {U U0:List Bool} {o o0:List Int} {V V0:List Vn} {v v0:Value} {dr dr0:Int}
end
section
variable {W W':World} {P:BP} {U:List Bool} {o:List Int} {V:List Vn} {v:Value} {dr:Int}
end
theorem bnew16 (b0 c0:Nat)(w:World)(hz0:w.cell? ⟨b0,0,none⟩=some (.int .u32 0))(hz1:w.cell? ⟨b0,1,none⟩=some (.int .u32 5)):Calls Tryz.prog 37 #[.int .u64 16,.slice (some ⟨b0,0,none⟩) 2 c0] w fun en w'=>∃ P:BP,en=.returned (.tuple #[.pointer (some ⟨P.b,0,none⟩),.int .i64 0])∧BN w' w.heap.size w'.heap.size P (mS 16 false false) [0,0,0,0,0,0,0,0] [] (.slice none 0 0)∧Below w.heap.size w w':=by
 have OF:Hid (∀ w,Calls Tryz.prog 61 #[.int .u64 16] w fun en w'=>en=.returned (.tuple #[.agg #[.int .u8 0,.int .u8 0,.int .u8 0,.int .u8 0,.int .u8 0,.int .u8 16],.bool true])∧Below w.heap.size w w'):=hd0 fun w=>of2_any 16 w (by decide) (by decide)
 have GR:Hid (∀ w,Calls Tryz.prog 63 #[.agg #[.int .u8 0,.int .u8 0,.int .u8 0,.int .u8 0,.int .u8 0,.int .u8 16]] w fun en w'=>en=.returned (.bool false)∧Below w.heap.size w w'):=hd0 fun w=>group_any 0 0 0 0 0 16 w (by decide) (by decide)
 have h16:bits .and .u64 16 281474976710655=16:=by decide
 have HZ:=hd0 (And.intro hz0 hz1)
 have hbb:b0<w.heap.size:=World.block_lt_of_cell? w _ hz0
 clear hz0 hz1
 go_enter Tryz.func37,Tryz.ntmps37
 go_upto_region 2 with fail
 go_wp2_with fail
 with_reducible refine(OF.out _).mono ?_
 rintro en w1 ⟨rfl,hb1⟩
 have b1a:=hb1.trans (((Below.refl w1.heap.size w1).alloc (Nat.le_refl _) (.cells #[.int .u8 0,.int .u8 0,.int .u8 0,.int .u8 0,.int .u8 0,.int .u8 16] 24)).mono hb1.size)
 have gm:=GB.new 24 w1 #[.int .u8 0,.int .u8 0,.int .u8 0,.int .u8 0,.int .u8 0,.int .u8 16]
 obtain⟨w2,hw2⟩:∃ z,w1.alloc (.cells #[.int .u8 0,.int .u8 0,.int .u8 0,.int .u8 0,.int .u8 0,.int .u8 16] 24)=z:=⟨_,rfl⟩
 rw[hw2] at b1a gm
 have HB2:=hd0 b1a
 have GM:=hd0 gm
 have TN:=hd0 (tnewL 16 (by decide) b0 c0 w2 ((b1a.cell (p:=⟨b0,0,none⟩) hbb).trans HZ.out.1) ((b1a.cell (p:=⟨b0,1,none⟩) hbb).trans HZ.out.2))
 clear b1a gm hb1
 go_upto_region 3 with fail
 clear hw2
 go_wp2_with fail
 with_reducible refine TN.out.mono ?_
 rintro en w3 ⟨tm,tg,tcap,tt,rfl,ht3,hb3,hm3,hg3⟩
 have G3:=GM.out.later hb3
 have d0:w3.cell? ⟨w1.heap.size,0,none⟩=some (.int .u8 0):=G3.c 0 _ rfl
 have d1:w3.cell? ⟨w1.heap.size,1,none⟩=some (.int .u8 0):=G3.c 1 _ rfl
 have d2:w3.cell? ⟨w1.heap.size,2,none⟩=some (.int .u8 0):=G3.c 2 _ rfl
 have d3:w3.cell? ⟨w1.heap.size,3,none⟩=some (.int .u8 0):=G3.c 3 _ rfl
 have d4:w3.cell? ⟨w1.heap.size,4,none⟩=some (.int .u8 0):=G3.c 4 _ rfl
 have d5:w3.cell? ⟨w1.heap.size,5,none⟩=some (.int .u8 16):=G3.c 5 _ rfl
 have T3:=hd0 ht3
 have HB3:=hd0 (HB2.out.trans (hb3.mono HB2.out.size))
 have L3:=hd0 (And.intro (Nat.le_trans HB2.out.size hm3) (Nat.le_trans HB2.out.size hg3))
 clear ht3 hb3 hm3 hg3 G3
 go_upto_region 6 with(go_at_call 63;with_reducible refine(GR.out _).mono ?_;rintro e w4 ⟨rfl,hb4⟩)
 have RN:=hd0 (rnew_any 2 w4 (by decide))
 have T4:=hd0 (T3.out.later hb4)
 have HB4:=hd0 (HB3.out.trans (hb4.mono HB3.out.size))
 clear d0 d1 d2 d3 d4 d5 hb4
 go_wp2_with fail
 with_reducible refine RN.out.mono ?_
 rintro en w5 ⟨r,q,vm,f,s,rfl,hr5,hb5,l1,l2,l3,l4,l5⟩
 have CN:=hd0 (cnew_any 2 w5 (by decide))
 have T5:=hd0 (T4.out.later hb5)
 have R5:=hd0 hr5
 have HB5:=hd0 (HB4.out.trans (hb5.mono HB4.out.size))
 have L5:Hid ((tm<w4.heap.size∧tg<w4.heap.size)∧w4.heap.size≤r∧w4.heap.size≤q∧w4.heap.size≤vm∧w4.heap.size≤f∧w4.heap.size≤s):=hd0 ⟨⟨T4.out.tm.lt,T4.out.row.lt⟩,l1,l2,l3,l4,l5⟩
 clear hr5 hb5 l1 l2 l3 l4 l5
 go_wp2_with fail
 with_reducible refine CN.out.mono ?_
 rintro en w6 ⟨c,rfl,hb6⟩
 have T6:=hd0 (T5.out.later hb6)
 have R6:=hd0 (R5.out.later hb6)
 have HB6:=hd0 (HB5.out.trans (hb6.mono HB5.out.size))
 clear hb6
 go_wp2
 have hba:=(Below.refl w6.heap.size w6).alloc (Nat.le_refl _) (.cells #[.int .u64 16,.pointer (some ⟨tm,0,none⟩),.pointer (some ⟨r,0,none⟩),.pointer (some ⟨c,0,none⟩),.slice none 0 0,.int .u64 0,.int .u64 0] 162)
 have k1:=T6.out.tm.lt
 have k2:=T6.out.row.lt
 have k3:=R6.out.g.lt
 have k4:=R6.out.ts.tb.lt
 have k5:=R6.out.ts.vm.lt
 have k6:=R6.out.ft.g.lt
 have k7:=R6.out.ft.m.lt
 have L:=L5.out
 have LL:=L3.out
 have hs4:=HB4.out.size
 have hs6:=HB6.out.size
 have hz6:(w6.alloc (.cells #[.int .u64 16,.pointer (some ⟨tm,0,none⟩),.pointer (some ⟨r,0,none⟩),.pointer (some ⟨c,0,none⟩),.slice none 0 0,.int .u64 0,.int .u64 0] 162)).heap.size=w6.heap.size+1:=by simp
 refine bodyPost_ret (v:=.tuple #[.pointer (some ⟨w6.heap.size,0,none⟩),.int .i64 0]) (by simp[results,Tryz.results37,go_sem]) rfl ⟨⟨w6.heap.size,tm,tg,tcap,tt,r,q,vm,f,s,c⟩,rfl,⟨GB.new _ _ _,T6.out.later hba,R6.out.later hba,?_,?_,?_,?_⟩,HB6.out.trans (hba.mono hs6)⟩
 ·exact⟨by show w6.heap.size≠tm;omega,by show w6.heap.size≠tg;omega,by show w6.heap.size≠r;omega,by show w6.heap.size≠q;omega,by show w6.heap.size≠vm;omega,by show w6.heap.size≠f;omega,by show w6.heap.size≠s;omega⟩
 ·exact⟨by show tm≠r;omega,by show tm≠q;omega,by show tm≠vm;omega,by show tm≠f;omega,by show tm≠s;omega⟩
 ·exact⟨by show tg≠r;omega,by show tg≠q;omega,by show tg≠vm;omega,by show tg≠f;omega,by show tg≠s;omega⟩
 ·rw[hz6]
  exact⟨⟨by show w.heap.size≤w6.heap.size;omega,by show w6.heap.size<_;omega⟩,⟨by show w.heap.size≤tm;omega,by show tm<_;omega⟩,⟨by show w.heap.size≤tg;omega,by show tg<_;omega⟩,⟨by show w.heap.size≤r;omega,by show r<_;omega⟩,⟨by show w.heap.size≤q;omega,by show q<_;omega⟩,⟨by show w.heap.size≤vm;omega,by show vm<_;omega⟩,⟨by show w.heap.size≤f;omega,by show f<_;omega⟩,⟨by show w.heap.size≤s;omega,by show s<_;omega⟩⟩
theorem bnew32 (b0 c0:Nat)(w:World)(hz0:w.cell? ⟨b0,0,none⟩=some (.int .u32 0))(hz1:w.cell? ⟨b0,1,none⟩=some (.int .u32 5)):Calls Tryz.prog 37 #[.int .u64 32,.slice (some ⟨b0,0,none⟩) 2 c0] w fun en w'=>∃ P:BP,en=.returned (.tuple #[.pointer (some ⟨P.b,0,none⟩),.int .i64 0])∧BN w' w.heap.size w'.heap.size P (mS 32 false false) [0,0,0,0,0,0,0,0] [] (.slice none 0 0)∧Below w.heap.size w w':=by
 have OF:Hid (∀ w,Calls Tryz.prog 61 #[.int .u64 32] w fun en w'=>en=.returned (.tuple #[.agg #[.int .u8 0,.int .u8 0,.int .u8 0,.int .u8 0,.int .u8 0,.int .u8 32],.bool true])∧Below w.heap.size w w'):=hd0 fun w=>of2_any 32 w (by decide) (by decide)
 have GR:Hid (∀ w,Calls Tryz.prog 63 #[.agg #[.int .u8 0,.int .u8 0,.int .u8 0,.int .u8 0,.int .u8 0,.int .u8 32]] w fun en w'=>en=.returned (.bool false)∧Below w.heap.size w w'):=hd0 fun w=>group_any 0 0 0 0 0 32 w (by decide) (by decide)
 have h16:bits .and .u64 32 281474976710655=32:=by decide
 have HZ:=hd0 (And.intro hz0 hz1)
 have hbb:b0<w.heap.size:=World.block_lt_of_cell? w _ hz0
 clear hz0 hz1
 go_enter Tryz.func37,Tryz.ntmps37
 go_upto_region 2 with fail
 go_wp2_with fail
 with_reducible refine(OF.out _).mono ?_
 rintro en w1 ⟨rfl,hb1⟩
 have b1a:=hb1.trans (((Below.refl w1.heap.size w1).alloc (Nat.le_refl _) (.cells #[.int .u8 0,.int .u8 0,.int .u8 0,.int .u8 0,.int .u8 0,.int .u8 32] 24)).mono hb1.size)
 have gm:=GB.new 24 w1 #[.int .u8 0,.int .u8 0,.int .u8 0,.int .u8 0,.int .u8 0,.int .u8 32]
 obtain⟨w2,hw2⟩:∃ z,w1.alloc (.cells #[.int .u8 0,.int .u8 0,.int .u8 0,.int .u8 0,.int .u8 0,.int .u8 32] 24)=z:=⟨_,rfl⟩
 rw[hw2] at b1a gm
 have HB2:=hd0 b1a
 have GM:=hd0 gm
 have TN:=hd0 (tnewL 32 (by decide) b0 c0 w2 ((b1a.cell (p:=⟨b0,0,none⟩) hbb).trans HZ.out.1) ((b1a.cell (p:=⟨b0,1,none⟩) hbb).trans HZ.out.2))
 clear b1a gm hb1
 go_upto_region 3 with fail
 clear hw2
 go_wp2_with fail
 with_reducible refine TN.out.mono ?_
 rintro en w3 ⟨tm,tg,tcap,tt,rfl,ht3,hb3,hm3,hg3⟩
 have G3:=GM.out.later hb3
 have d0:w3.cell? ⟨w1.heap.size,0,none⟩=some (.int .u8 0):=G3.c 0 _ rfl
 have d1:w3.cell? ⟨w1.heap.size,1,none⟩=some (.int .u8 0):=G3.c 1 _ rfl
 have d2:w3.cell? ⟨w1.heap.size,2,none⟩=some (.int .u8 0):=G3.c 2 _ rfl
 have d3:w3.cell? ⟨w1.heap.size,3,none⟩=some (.int .u8 0):=G3.c 3 _ rfl
 have d4:w3.cell? ⟨w1.heap.size,4,none⟩=some (.int .u8 0):=G3.c 4 _ rfl
 have d5:w3.cell? ⟨w1.heap.size,5,none⟩=some (.int .u8 32):=G3.c 5 _ rfl
 have T3:=hd0 ht3
 have HB3:=hd0 (HB2.out.trans (hb3.mono HB2.out.size))
 have L3:=hd0 (And.intro (Nat.le_trans HB2.out.size hm3) (Nat.le_trans HB2.out.size hg3))
 clear ht3 hb3 hm3 hg3 G3
 go_upto_region 6 with(go_at_call 63;with_reducible refine(GR.out _).mono ?_;rintro e w4 ⟨rfl,hb4⟩)
 have RN:=hd0 (rnew_any 2 w4 (by decide))
 have T4:=hd0 (T3.out.later hb4)
 have HB4:=hd0 (HB3.out.trans (hb4.mono HB3.out.size))
 clear d0 d1 d2 d3 d4 d5 hb4
 go_wp2_with fail
 with_reducible refine RN.out.mono ?_
 rintro en w5 ⟨r,q,vm,f,s,rfl,hr5,hb5,l1,l2,l3,l4,l5⟩
 have CN:=hd0 (cnew_any 2 w5 (by decide))
 have T5:=hd0 (T4.out.later hb5)
 have R5:=hd0 hr5
 have HB5:=hd0 (HB4.out.trans (hb5.mono HB4.out.size))
 have L5:Hid ((tm<w4.heap.size∧tg<w4.heap.size)∧w4.heap.size≤r∧w4.heap.size≤q∧w4.heap.size≤vm∧w4.heap.size≤f∧w4.heap.size≤s):=hd0 ⟨⟨T4.out.tm.lt,T4.out.row.lt⟩,l1,l2,l3,l4,l5⟩
 clear hr5 hb5 l1 l2 l3 l4 l5
 go_wp2_with fail
 with_reducible refine CN.out.mono ?_
 rintro en w6 ⟨c,rfl,hb6⟩
 have T6:=hd0 (T5.out.later hb6)
 have R6:=hd0 (R5.out.later hb6)
 have HB6:=hd0 (HB5.out.trans (hb6.mono HB5.out.size))
 clear hb6
 go_wp2
 have hba:=(Below.refl w6.heap.size w6).alloc (Nat.le_refl _) (.cells #[.int .u64 32,.pointer (some ⟨tm,0,none⟩),.pointer (some ⟨r,0,none⟩),.pointer (some ⟨c,0,none⟩),.slice none 0 0,.int .u64 0,.int .u64 0] 162)
 have k1:=T6.out.tm.lt
 have k2:=T6.out.row.lt
 have k3:=R6.out.g.lt
 have k4:=R6.out.ts.tb.lt
 have k5:=R6.out.ts.vm.lt
 have k6:=R6.out.ft.g.lt
 have k7:=R6.out.ft.m.lt
 have L:=L5.out
 have LL:=L3.out
 have hs4:=HB4.out.size
 have hs6:=HB6.out.size
 have hz6:(w6.alloc (.cells #[.int .u64 32,.pointer (some ⟨tm,0,none⟩),.pointer (some ⟨r,0,none⟩),.pointer (some ⟨c,0,none⟩),.slice none 0 0,.int .u64 0,.int .u64 0] 162)).heap.size=w6.heap.size+1:=by simp
 refine bodyPost_ret (v:=.tuple #[.pointer (some ⟨w6.heap.size,0,none⟩),.int .i64 0]) (by simp[results,Tryz.results37,go_sem]) rfl ⟨⟨w6.heap.size,tm,tg,tcap,tt,r,q,vm,f,s,c⟩,rfl,⟨GB.new _ _ _,T6.out.later hba,R6.out.later hba,?_,?_,?_,?_⟩,HB6.out.trans (hba.mono hs6)⟩
 ·exact⟨by show w6.heap.size≠tm;omega,by show w6.heap.size≠tg;omega,by show w6.heap.size≠r;omega,by show w6.heap.size≠q;omega,by show w6.heap.size≠vm;omega,by show w6.heap.size≠f;omega,by show w6.heap.size≠s;omega⟩
 ·exact⟨by show tm≠r;omega,by show tm≠q;omega,by show tm≠vm;omega,by show tm≠f;omega,by show tm≠s;omega⟩
 ·exact⟨by show tg≠r;omega,by show tg≠q;omega,by show tg≠vm;omega,by show tg≠f;omega,by show tg≠s;omega⟩
 ·rw[hz6]
  exact⟨⟨by show w.heap.size≤w6.heap.size;omega,by show w6.heap.size<_;omega⟩,⟨by show w.heap.size≤tm;omega,by show tm<_;omega⟩,⟨by show w.heap.size≤tg;omega,by show tg<_;omega⟩,⟨by show w.heap.size≤r;omega,by show r<_;omega⟩,⟨by show w.heap.size≤q;omega,by show q<_;omega⟩,⟨by show w.heap.size≤vm;omega,by show vm<_;omega⟩,⟨by show w.heap.size≤f;omega,by show f<_;omega⟩,⟨by show w.heap.size≤s;omega,by show s<_;omega⟩⟩
theorem BB.gb {T:TypeId}{W:World}{q:Nat}{b:Bp}(h:BB T W q b):GB T W q #[.int .u64 b.rt,.int .u32 b.co,.int .u64 b.br,.int .u8 b.po,.int .u8 b.ho,.int .u64 b.ve,.int .u8 b.ro,.bool b.pr,.bool b.ag,.bool b.tp,.int .u64 b.ec]:=h
theorem bmay_any (b:Bp)(w:World)(hb:b.Ok):Calls Tryz.prog 175 #[.agg #[.int .u64 b.rt,.int .u32 b.co,.int .u64 b.br,.int .u8 b.po,.int .u8 b.ho,.int .u64 b.ve,.int .u8 b.ro,.bool b.pr,.bool b.ag,.bool b.tp,.int .u64 b.ec]] w fun en w'=>en=.returned (.bool (mayB b))∧Below w.heap.size w w':=by
 obtain⟨M,hM⟩:∃ M,mayB b=M:=⟨_,rfl⟩
 rw[hM]
 obtain⟨B1,hB1⟩:∃ X,decide (b.ro<1)=X:=⟨_,rfl⟩
 obtain⟨B2,hB2⟩:∃ X,decide ((3:Int)<b.ro)=X:=⟨_,rfl⟩
 obtain⟨B3,hB3⟩:∃ X,decide ((8:Int)≤b.po)=X:=⟨_,rfl⟩
 obtain⟨B4,hB4⟩:∃ X,decide ((16777216:Int)<b.co)=X:=⟨_,rfl⟩
 obtain⟨B5,hB5⟩:∃ X,decide ((20:Int)<b.ho)=X:=⟨_,rfl⟩
 obtain⟨N2,hN2⟩:∃ X,(b.ro != 2)=X:=⟨_,rfl⟩
 obtain⟨N1,hN1⟩:∃ X,(b.ro != 1)=X:=⟨_,rfl⟩
 obtain⟨E0,hE0⟩:∃ X,(b.ec==0)=X:=⟨_,rfl⟩
 obtain⟨P,hP⟩:∃ X,b.pr=X:=⟨_,rfl⟩
 obtain⟨G,hG⟩:∃ X,b.ag=X:=⟨_,rfl⟩
 have HM:Hid (M=(!(B1||B2||B3||B4||B5)&&(!(P&&N2)&&(!(G&&N1)&&(G||E0))))):=hd0 (by
  rw[←hM,← hB1,← hB2,← hB3,← hB4,← hB5,← hN2,← hN1,← hE0,← hP,← hG]
  have h1:=hb.ro
  have h2:=hb.po
  unfold mayB
  rw[Bool.eq_iff_iff]
  cases b.pr <;> cases b.ag <;> simp <;> omega)
 have HP:=hd0 hP
 have HG:=hd0 hG
 clear hM hP hG
 go_enter Tryz.func175,Tryz.ntmps175
 go_upto_region 1 with fail
 have bb:=BB.new 212 w b
 have hbl:Below w.heap.size w (w.alloc (.cells #[.int .u64 b.rt,.int .u32 b.co,.int .u64 b.br,.int .u8 b.po,.int .u8 b.ho,.int .u64 b.ve,.int .u8 b.ro,.bool b.pr,.bool b.ag,.bool b.tp,.int .u64 b.ec] 212)):=bAo _
 obtain⟨w0,hw0⟩:∃ x,w.alloc (.cells #[.int .u64 b.rt,.int .u32 b.co,.int .u64 b.br,.int .u8 b.po,.int .u8 b.ho,.int .u64 b.ve,.int .u8 b.ro,.bool b.pr,.bool b.ag,.bool b.tp,.int .u64 b.ec] 212)=x:=⟨_,rfl⟩
 rw[hw0] at bb hbl ⊢
 have c1:=bb.c1
 have c3:=bb.c3
 have c4:=bb.c4
 have c6:=bb.c6
 have c7:=bb.c7
 have c8:=bb.c8
 have c10:=bb.c10
 rw[HP.out] at c7
 rw[HG.out] at c8
 have HB:=hd0 hbl
 clear hw0 bb hbl HP HG
 cases B1 with
 | true =>
  go_wp2
  go_ret
  exact⟨by rw[HM.out];rfl,HB.out⟩
 | false =>
 cases B2 with
 | true =>
  go_wp2
  go_ret
  exact⟨by rw[HM.out];rfl,HB.out⟩
 | false =>
 cases B3 with
 | true =>
  go_wp2
  go_ret
  exact⟨by rw[HM.out];rfl,HB.out⟩
 | false =>
 cases B4 with
 | true =>
  go_wp2
  go_ret
  exact⟨by rw[HM.out];rfl,HB.out⟩
 | false =>
 cases B5 with
 | true =>
  go_wp2
  go_ret
  exact⟨by rw[HM.out];rfl,HB.out⟩
 | false =>
 cases P with
 | true =>
  cases N2 with
  | true =>
   go_wp2
   go_ret
   exact⟨by rw[HM.out];rfl,HB.out⟩
  | false =>
   cases G with
   | true =>
    cases N1 with
    | true =>
     go_wp2
     go_ret
     exact⟨by rw[HM.out];rfl,HB.out⟩
    | false =>
     go_wp2
     go_ret
     exact⟨by rw[HM.out];rfl,HB.out⟩
   | false =>
    cases E0 with
    | true =>
     go_wp2
     go_ret
     exact⟨by rw[HM.out];rfl,HB.out⟩
    | false =>
     go_wp2
     go_ret
     exact⟨by rw[HM.out];rfl,HB.out⟩
 | false =>
  cases G with
  | true =>
   cases N1 with
   | true =>
    go_wp2
    go_ret
    exact⟨by rw[HM.out];rfl,HB.out⟩
   | false =>
    go_wp2
    go_ret
    exact⟨by rw[HM.out];rfl,HB.out⟩
  | false =>
   cases E0 with
   | true =>
    go_wp2
    go_ret
    exact⟨by rw[HM.out];rfl,HB.out⟩
   | false =>
    go_wp2
    go_ret
    exact⟨by rw[HM.out];rfl,HB.out⟩
theorem flag1_any (is:Bool)(bit n:Int)(q:Nat)(w:World)(hgb:GB 5 w q #[.int .u8 n])(ho:bits .or .u8 n bit=n+bit) :
  Calls Tryz.prog 238 #[.bool is,.int .u8 bit,.pointer (some ⟨q,0,none⟩)] w fun en w'=>en=.returned (.tuple #[])∧GB 5 w' q #[.int .u8 (if is=true then n+bit else n)]∧Only q w w':=by
 have c0:w.cell? ⟨q,0,none⟩=some (.int .u8 n):=hgb.c 0 _ rfl
 have r0:=hgb.fr 0
 cases is with
 | true =>
  go_enter Tryz.func238,Tryz.ntmps238
  go_wp2
  go_end0
  refine⟨rfl,?_,Only.set q w 0 _⟩
  unfold GB at *
  simp[World.setCell,Array.getElem?_modify,hgb]
 | false =>
  go_enter Tryz.func238,Tryz.ntmps238
  go_wp2
  go_end0
  refine⟨rfl,?_,Only.refl _ _⟩
  exact hgb
theorem bflags_any (b:Bp)(w:World):Calls Tryz.prog 177 #[.agg #[.int .u64 b.rt,.int .u32 b.co,.int .u64 b.br,.int .u8 b.po,.int .u8 b.ho,.int .u64 b.ve,.int .u8 b.ro,.bool b.pr,.bool b.ag,.bool b.tp,.int .u64 b.ec]] w fun en w'=>en=.returned (.int .u8 (flB b))∧Below w.heap.size w w':=by
 obtain⟨R,hR⟩:∃ R,flB b=R:=⟨_,rfl⟩
 rw[hR]
 obtain⟨n1,h1⟩:∃ n:Int,(if b.pr=true then(0:Int)+1 else 0)=n:=⟨_,rfl⟩
 obtain⟨n2,h2⟩:∃ n:Int,(if b.ag=true then n1+2 else n1)=n:=⟨_,rfl⟩
 have o0:bits .or .u8 0 1=0+1:=by decide
 have o1:bits .or .u8 n1 2=n1+2:=by rw[←h1];split <;> decide
 have o2:bits .or .u8 n2 4=n2+4:=by rw[←h2,← h1];split <;> split <;> decide
 have HRR:Hid (R=if b.tp=true then n2+4 else n2):=hd0 (by rw[←hR,← h2,← h1];unfold flB;cases b.pr <;> cases b.ag <;> cases b.tp <;> rfl)
 have H1:=hd0 h1
 have H2:=hd0 h2
 have O0:=hd0 o0
 have O1:=hd0 o1
 have O2:=hd0 o2
 clear hR h1 h2 o0 o1 o2
 go_enter Tryz.func177,Tryz.ntmps177
 go_upto_region 2 with fail
 have b0:=(BB.new 212 w b).later (bAo (.cells #[.int .u8 0] 5))
 have z0:GB 5 ((w.alloc (.cells #[.int .u64 b.rt,.int .u32 b.co,.int .u64 b.br,.int .u8 b.po,.int .u8 b.ho,.int .u64 b.ve,.int .u8 b.ro,.bool b.pr,.bool b.ag,.bool b.tp,.int .u64 b.ec] 212)).alloc (.cells #[.int .u8 0] 5)) (w.heap.size+1) #[.int .u8 0]:=by
  have:=GB.new 5 (w.alloc (.cells #[.int .u64 b.rt,.int .u32 b.co,.int .u64 b.br,.int .u8 b.po,.int .u8 b.ho,.int .u64 b.ve,.int .u8 b.ro,.bool b.pr,.bool b.ag,.bool b.tp,.int .u64 b.ec] 212)) #[.int .u8 0]
  rw[show(w.alloc (.cells #[.int .u64 b.rt,.int .u32 b.co,.int .u64 b.br,.int .u8 b.po,.int .u8 b.ho,.int .u64 b.ve,.int .u8 b.ro,.bool b.pr,.bool b.ag,.bool b.tp,.int .u64 b.ec] 212)).heap.size=w.heap.size+1 by simp] at this
  exact this
 have hb0:Below w.heap.size w ((w.alloc (.cells #[.int .u64 b.rt,.int .u32 b.co,.int .u64 b.br,.int .u8 b.po,.int .u8 b.ho,.int .u64 b.ve,.int .u8 b.ro,.bool b.pr,.bool b.ag,.bool b.tp,.int .u64 b.ec] 212)).alloc (.cells #[.int .u8 0] 5)):=(bAo _).alloc (by simp) _
 obtain⟨w0,hw0⟩:∃ k,(w.alloc (.cells #[.int .u64 b.rt,.int .u32 b.co,.int .u64 b.br,.int .u8 b.po,.int .u8 b.ho,.int .u64 b.ve,.int .u8 b.ro,.bool b.pr,.bool b.ag,.bool b.tp,.int .u64 b.ec] 212)).alloc (.cells #[.int .u8 0] 5)=k:=⟨_,rfl⟩
 rw[hw0] at b0 z0 hb0 ⊢
 have B0:=hd0 b0
 have Z0:=hd0 z0
 have HB0:=hd0 hb0
 have c7:=b0.c7
 clear hw0 b0 z0 hb0
 go_wp2_with fail
 with_reducible refine(flag1_any b.pr 1 0 _ _ Z0.out O0.out).mono ?_
 rintro en w1 ⟨rfl,z1,ho1⟩
 rw[H1.out] at z1
 have Z1:=hd0 z1
 have B1:=hd0 (B0.out.only ho1 (by omega))
 have HB1:=hd0 (HB0.out.trans (ho1.below (by omega) HB0.out.size))
 have c8:=B1.out.c8
 clear c7 z1 ho1 B0 Z0 HB0
 go_wp2_with fail
 with_reducible refine(flag1_any b.ag 2 n1 _ _ Z1.out O1.out).mono ?_
 rintro en w2 ⟨rfl,z2,ho2⟩
 rw[H2.out] at z2
 have Z2:=hd0 z2
 have B2:=hd0 (B1.out.only ho2 (by omega))
 have HB2:=hd0 (HB1.out.trans (ho2.below (by omega) HB1.out.size))
 have c9:=B2.out.c9
 clear c8 z2 ho2 B1 Z1 HB1
 go_wp2_with fail
 with_reducible refine(flag1_any b.tp 4 n2 _ _ Z2.out O2.out).mono ?_
 rintro en w3 ⟨rfl,z3,ho3⟩
 have HB3:=hd0 (HB2.out.trans (ho3.below (by omega) HB2.out.size))
 rw[←HRR.out] at z3
 have c0:w3.cell? ⟨w.heap.size+1,0,none⟩=some (.int .u8 R):=z3.c 0 _ rfl
 clear c9 z3 ho3 B2 Z2 HB2
 go_wp2
 go_ret
 exact⟨rfl,HB3.out⟩
end Go.Proofs.YtghaobakpdninaaGreatDoor
