/- ZQ01 -/
import Derived.ProofKit
import Derived.Lib.Hide
import Derived.OrdersHeld
import Derived.Deep.RegionHeld
import Derived.Test.YtlkdfofpnmpidaaGreatRows
import Derived.WalkKit
import Derived.WalkSpells
import Derived.WalkLawsBesides
import Derived.Deep.RegionWith
import Derived.BigQuiet
import Derived.Lib.AppendStr
import Derived.Laws.AppendOwnNone
import Derived.Deep.RegionHeld3
import Derived.OpenShut
import Derived.ShutString
import Derived.Lib.SmallJoins
import Derived.Deep.RegionLaw
import Derived.Lib.LazyBuf
set_option linter.unusedVariables false
set_option linter.unusedSimpArgs false
set_option maxRecDepth 100000
set_option maxHeartbeats 16000000
namespace Go.Proofs.YtlkdfofpnmpidaaGreat
open Go.RowKit
theorem tkH {P:Program}{md:Region.Mode}{ops:Array Oper}{Q:Exit→Act→World→Prop}{S:World→Prop}(i:Nat){oi:Oper}(v:Value){fuel:Nat}{listed:Array Bool}{a:Act}{w:World}
  (hy:∀ w,S w→(execOp a.eval oi).run P w=.ok (.value v) w) (h:wpAnyH P md ops Q S fuel (listed.setIfInBounds i true) (a.put oi.dst v) w)
  (hi:ops[i]?=some oi:=by rfl) (hs:Region.noSelect ops=true:=by kernel_rfl) (hf:Region.free md ops listed i=true:=by kernel_rfl) (hr:(Region.ready md ops listed).contains i=true:=by kernel_rfl)
  (hQ:∀ c a w,Q (.panic c) (a.put oi.dst v) w→Q (.panic c) a w:=by exact fun _ _ _ h=>h) (hg:Region.wanted oi (yielded ops a.tmps)=true:=by rfl) (hS:S w:=by assumption):wpAnyH P md ops Q S (fuel+1) listed a w :=
 wpAnyH_take hi hs hf hr hQ (Or.inl ⟨hg,hy⟩) hS h
theorem rdH {P:Program}{md:Region.Mode}{ops:Array Oper}{Q:Exit→Act→World→Prop}{S:World→Prop}(i:Nat){o:Oper}{fuel:Nat}{listed:Array Bool}{a:Act}{w:World}
  (h:∀ K':Act→World→Prop,Shut (∀ a w,S w→(S w→wpAnyH P md ops Q S fuel (listed.setIfInBounds i true) a w)→K' a w)→if Region.wanted o (yielded ops a.tmps)=true then Oper.wp P o a w K' Q else K' (a.put o.dst undef) w)
  (hr:Region.ready md ops listed=[i]:=by kernel_rfl) (ho:ops[i]?=some o:=by rfl):wpAnyH P md ops Q S (fuel+1) listed a w:=wpAnyH_ready hr (by simp) (AllReadyH.cons ho h AllReadyH.nil)
theorem zz {α:Type _} :(∀ (l:List α) (i:Nat) (a:α),l.toArray.setIfInBounds i a=(l.set i a).toArray)∧(∀ (x:α) (xs:List α) (a:α),(x::xs).set 0 a=a::xs)∧(∀ (x:α) (xs:List α) (i:Nat) (a:α),(x::xs).set (i+1) a=x::xs.set i a) ∧
  (∀ (xs:List α) (i:Nat) (h:i<xs.toArray.size),xs.toArray[i]=xs[i]'(by simpa using h))∧(∀ (a:α) (l:List α) (h:0<(a::l).length),(a::l)[0]=a)∧(∀ (a:α) (l:List α) (i:Nat) (h:i+1<(a::l).length),(a::l)[i+1]=l[i]'(by simpa using h)) :=
 ⟨fun _ _ _=>List.setIfInBounds_toArray ..,fun _ _ _=>rfl,fun _ _ _ _=>rfl,fun _ _ h=>List.getElem_toArray h,fun _ _ _=>rfl,fun _ _ _ _=>rfl⟩
abbrev yP:Array Value:=#[.int .u8 0,.int .u8 0,.string { data:=#[] },.int .u16 0,.slice none 0 0,.int .u8 0,.int .u8 0,.int .u8 0,.int .u8 0,.int .u8 0,.int .u8 0,.int .u8 0,.slice none 0 0,.int .i64 0,.slice none 0 0,.int .u64 0,.int .u32 0,.string { data:=#[] },.int .i64 0,.int .i64 0,.int .u32 0,.slice none 0 0]
abbrev yT:Array Value:=#[.int .u8 0,.int .u32 0,.int .u8 0,.int .u8 0,.int .u8 0,.int .u8 0,.int .u8 0,.int .u8 0,.int .u8 0,.int .u8 0,.int .u8 0,.int .u8 0,.int .u8 0,.int .u8 0,.int .u8 0]
abbrev yR:Array Value:=#[.int .u8 0,.int .u32 0,.int .u8 0,.bool false,.bool false,.int .u8 0,.int .u8 0,.int .u8 0,.int .u8 0,.int .u8 0,.int .u8 0,.int .u8 0,.int .u8 0,.int .u8 0,.int .u8 0,.int .u8 0,.int .u8 0]
abbrev yM:Array Value:=#[.int .u8 0,.int .u8 0,.int .u8 0,.int .u8 0,.int .u8 0,.int .u8 0]
abbrev yU:Array Value:=#[.int .u8 0,.int .u8 0,.int .u8 0,.string { data:=#[] },.slice none 0 0]
abbrev yS:Array Value:=#[.int .u8 0,.int .u8 0,.int .u8 0,.int .u8 0,.int .u8 0,.int .u8 0,.string { data:=#[] }]
theorem hd0 {p:Prop}(h:p):Hid p:=Lib.hid h
theorem bA {w:World}(o:Obj):Below w.heap.size w (w.alloc o):=(Below.refl _ _).alloc (Nat.le_refl _) o
structure Later (W:World) where
 out:World
 h:Below W.heap.size W out
theorem Later.nonempty (W:World):Nonempty (Later W):=⟨⟨W,Below.refl _ _⟩⟩
attribute [instance] Later.nonempty
theorem Later.cell {W:World}{a:Addr}{v:Value}(h:W.cell? a=some v):∀ k:Later W,k.out.cell? a=some v:=fun k =>
 (k.h.cell (World.block_lt_of_cell? W a h)).trans h
theorem Later.bel {W w:World}(h:Below w.heap.size w W)(k:Later W):Below w.heap.size w k.out:=h.trans (k.h.mono h.size)
theorem Calls.later {P:Program}{f:FuncId}{args:Array Value}{W:World}{k:Later W}{v:Value}
  (h:Calls P f args k.out fun e w'=>e=.returned v∧Below k.out.heap.size k.out w') :
  Calls P f args k.out fun e w''=>e=.returned v∧∃ k':Later W,w''=k'.out :=
 h.mono fun _ w' ⟨he,hb⟩=>⟨he,⟨w',k.h.trans (hb.mono k.h.size)⟩,rfl⟩
theorem Calls.later_same {P:Program}{f:FuncId}{args:Array Value}{W:World}{k:Later W}{v:Value}
  (h:Calls P f args k.out fun e w'=>e=.returned v∧k.out=w') :
  Calls P f args k.out fun e w''=>e=.returned v∧∃ k':Later W,w''=k'.out :=
 h.mono fun _ _ ⟨he,hb⟩=>⟨he,k,hb.symm⟩
theorem below_drawn (W:World):Below W.heap.size W { W with drawn:=W.drawn+1 }:=⟨rfl,rfl,rfl,Nat.le_refl _,fun _ _=>rfl⟩
theorem wp_region_later {P:Program}{id:Nat}{Q:Exit→Act→World→Prop}{a:Act}{W:World}{l:List Oper}(hm:P.follows .mixedOrders=true)(hB:Region.lexB .any l.toArray=true)
  (h:wpQuiet P l.toArray (fun w'=>∃ k:Later W,w'=k.out) (fun a'=>∀ w',(∃ k:Later W,w'=k.out)→Q .normal a' w') l a):(Code.region id l.toArray true).wp P Q a W :=
 wp_region_quiet (C:=fun w'=>∃ k:Later W,w'=k.out) hm hB ⟨⟨_,below_drawn W⟩,rfl⟩ (by simpa using h)
theorem bcell {W w1:World}(hb:Below W.heap.size W w1):(∀ b o,b<W.heap.size→w1.cell? ⟨b,o,none⟩=W.cell? ⟨b,o,none⟩)∧(∀ b o,b<W.heap.size→w1.frozen? ⟨b,o,none⟩=W.frozen? ⟨b,o,none⟩) :=
 ⟨fun b o h=>hb.cell (p:=⟨b,o,none⟩) h,fun b o h=>hb.frozen (p:=⟨b,o,none⟩) h⟩
theorem forget {P:Program}{c:Code}{Q:Exit→Act→World→Prop}{a:Act}{W:World}(S:World→Prop)(hS:S W)(h:∀ W,S W→c.wp P Q a W):c.wp P Q a W:=h W hS
theorem info_u8:(Tryz.prog.info? 5).map (fun i=>(i.zero,i.size,i.bytes))=some (some (.int .u8 0),1,1):=by kernel_rfl
def byteV (x:UInt8):Value:=.int .u8 (x.toNat:Int)
def bs (l:List UInt8):ByteArray:=⟨l.toArray⟩
theorem bs_size (l:List UInt8):(bs l).size=l.length:=by simp[bs,ByteArray.size]
theorem bs_toList (l:List UInt8):(bs l).data.toList=l:=by simp[bs]
theorem bs_of (s:ByteArray):s=bs s.data.toList:=by cases s;simp[bs]
theorem bs_extract (l:List UInt8)(a b:Nat):(bs l).extract a b=bs ((l.drop a).take (b-a)):=by
 simp only[bs]
 apply ByteArray.ext
 simp[ByteArray.data_extract]
theorem bs_take (l:List UInt8)(b:Nat):(bs l).extract 0 b=bs (l.take b):=by rw[bs_extract];simp
theorem bs_drop (l:List UInt8)(a b:Nat)(h:l.length≤b):(bs l).extract a b=bs (l.drop a):=by
 rw[bs_extract,List.take_of_length_le (by simp;omega)]
theorem bs_append (a b:List UInt8):bs a++bs b=bs (a++b):=by
 apply ByteArray.ext
 simp[bs]
theorem bs_get (l:List UInt8)(k:Nat)(h:k<(bs l).size)(h':k<l.length):(bs l)[k]'h=l[k]'h':=by
 simp[bs,ByteArray.getElem_eq_getElem_data]
theorem strCells_bs (l:List UInt8):Lib.strCells (bs l)=l.map byteV:=by
 simp[Lib.strCells,bs_toList,byteV]
def Bys (w:World)(B:Nat)(v:Value)(l:List UInt8):Prop:=w.ownsRow B 5 1 v l.length (l.map byteV)
theorem Bys.none (w:World)(B:Nat):Bys w B (.slice none 0 0) []:=World.ownsRow_nil w B _ 1
theorem Bys.alloc {w:World}{B:Nat}{v:Value}{l:List UInt8}(h:Bys w B v l)(o:Obj):Bys (w.alloc o) B v l:=World.ownsRow.alloc h o
theorem Bys.later {w w':World}{B:Nat}{v:Value}{l:List UInt8}(h:Bys w B v l)(hb:Below w.heap.size w w'):Bys w' B v l:=by
 obtain⟨h1,h2⟩:=h
 refine⟨h1,?_⟩
 rcases h2 with h2|⟨g,cap,cur,hv,hg,hh,r⟩
 ·exact .inl h2
 ·refine .inr ⟨g,cap,cur,hv,hg,?_,r⟩
  have hlt:g<w.heap.size:=by
   rcases Nat.lt_or_ge g w.heap.size with h|h
   ·exact h
   ·rw[Array.getElem?_eq_none h] at hh;cases hh
  rw[hb.block g hlt];exact hh
theorem Bys.lit (w:World)(B:Nat)(cs:Array Value)(l:List UInt8)(hB:B≤w.heap.size)(hc:cs.toList=l.map byteV)(hl:l.length≤1099511627776):Bys (w.alloc (.cells cs 5)) B (.slice (some ⟨w.heap.size,0,Option.none⟩) l.length l.length) l:=by
 have hs:cs.size=l.length:=by rw[←Array.length_toList,hc];simp
 refine⟨by simp,.inr ⟨w.heap.size,l.length,cs,rfl,hB,heap_alloc_new w _,Nat.le_refl _,by unfold maxLen;omega,by omega,?_⟩⟩
 rw[hc,List.take_of_length_le (by simp)]
theorem Bys.shape {w:World}{B:Nat}{v:Value}{l:List UInt8}(h:Bys w B v l):(v=.slice Option.none 0 0∧l=[])∨∃ g cap,v=.slice (some ⟨g,0,Option.none⟩) l.length cap∧B≤g∧g<w.heap.size∧l.length≤cap∧cap≤maxLen:=by
 rcases h.2 with⟨h1,h2⟩|⟨g,cap,cur,hv,hg,hh,h3,h4,h5,h6⟩
 ·exact .inl ⟨h1,List.eq_nil_of_length_eq_zero h2⟩
 ·refine .inr ⟨g,cap,hv,hg,?_,h3,h4⟩
  rcases Nat.lt_or_ge g w.heap.size with h|h
  ·exact h
  ·rw[Array.getElem?_eq_none h] at hh;cases hh
theorem Bys.cell {w:World}{B g cap:Nat}{l:List UInt8}(h:Bys w B (.slice (some ⟨g,0,Option.none⟩) l.length cap) l)(j:Nat)(hj:j<l.length):w.cell? ⟨g,j,Option.none⟩=some (byteV l[j]):=by
 have:=World.ownsRow.cellAt h j (by simpa using hj)
 rw[this]
 simp[hj]
theorem run_string_bys {w:World}{B:Nat}{v:Value}{l:List UInt8}(h:Bys w B v l):(convert 39 9 v).run Tryz.prog w=.ok (.string (bs l)) w:=by
 rcases h.shape with⟨rfl,rfl⟩|⟨g,cap,rfl,_,_,_,_⟩
 ·rw[run_convert_bytes_string w _ _ 5 Option.none 0 0 Tryz.underlying39 Tryz.underlying5 Tryz.underlying9]
  rfl
 ·exact run_convert_bytes_back w _ _ 5 ⟨g,0,Option.none⟩ cap l Tryz.underlying39 Tryz.underlying5 Tryz.underlying9 (fun j hj=>by
   have h1:=h.cell j hj
   have h2:(⟨g,0,Option.none⟩:Addr).add j=⟨g,j,Option.none⟩:=by cases j <;> simp[Addr.add]
   rw[h2,h1];rfl)
theorem run_add_bs (a b:List UInt8)(h:a.length+b.length≤1099511627776):∀ W:World,(Op.stringOp .add (bs a) (bs b)).run Tryz.prog W=.ok (.string (bs (a++b))) W:=by
 intro W
 rw[run_string_add_sum W (bs a) (bs b) (by rw[bs_size,bs_size];omega),bs_append]
theorem run_string_one (x:Int)(h0:0≤x)(h1:x<256):∀ (W:World) (g c:Nat),W.cell? ⟨g,0,Option.none⟩=some (.int .u8 x)→(convert 39 9 (.slice (some ⟨g,0,Option.none⟩) 1 c)).run Tryz.prog W=.ok (.string (bs [UInt8.ofNat x.toNat])) W:=by
 intro W g c h
 exact run_convert_bytes_back W _ _ 5 ⟨g,0,Option.none⟩ c [UInt8.ofNat x.toNat] Tryz.underlying39 Tryz.underlying5 Tryz.underlying9 (fun j hj=>by
  obtain rfl:j=0:=by simpa using hj
  have e:(UInt8.ofNat x.toNat).toNat=x.toNat:=by simp;omega
  simp[Addr.add,h,e,Int.toNat_of_nonneg h0])
section
variable {w:World} {ops:Array Oper} {rest:List Oper} {o:Oper} {a:Act} {Q:Exit→Act→World→Prop}
theorem wpList_append_bys (hgd:o.guard=Option.none)(s x:Operand)
  (ho:o.op=.call { callee:=.builtin .append,args:=#[s,x],argTypes:=#[39,39] })
  (B:Nat) (v:Value) (l:List UInt8) (hs:a.eval s=v) (hown:Bys w B v l)
  (ad:Addr) (c:Nat) (news:List UInt8) (m:Nat) (hm:m=news.length) (hx:a.eval x=.slice (some ad) m c) (hnews:∀ j (hj:j<news.length),w.cell? (ad.add j)=some (byteV news[j]))
  (hsz:l.length+news.length≤1099511627776) (hB:B≤w.heap.size)
  (h:∀ v' w',Bys w' B v' (l++news)→Below B w w'→wpList Tryz.prog ops Q rest (a.put o.dst v') w'):wpList Tryz.prog ops Q (o::rest) a w:=by
 obtain⟨i,hi,hz0,hz1,hz2⟩:=info_parts info_u8
 subst hm
 refine wpList_append_own w hgd s x 39 ho B 5 i (.int .u8 0) 1 1 Tryz.underlying39 hi hz0 hz1 hz2 rfl (by decide) v l.length (l.map byteV) hs hown ad news.length c (news.map byteV) hx (by simp)
  (fun j u hj=>?_) (fun u hu=>?_) (by unfold maxLen;omega) (by omega) hB (fun v' w' h1 h2 _=>?_)
 ·have hj':j<news.length:=by have:=(List.getElem?_eq_some_iff.1 hj).1;simpa using this
  rw[hnews j hj']
  simp[hj'] at hj
  rw[hj]
 ·obtain⟨b,_,rfl⟩:=List.mem_map.1 hu
  rfl
 ·refine h v' w' (by unfold Bys;simpa using h1) ((Below.refl _ _).grown h2 hB (fun k hk=>?_))
  exact(World.ownsRow.lt hown k hk).1
theorem wpList_append_byte (hgd:o.guard=Option.none)(s x:Operand)
  (ho:o.op=.call { callee:=.builtin .append,args:=#[s,x],argTypes:=#[39,39] })
  (B:Nat) (v:Value) (l:List UInt8) (W:World) (n:Int) (hw:w=W.alloc (.cells #[.int .u8 n] 5)) (hs:a.eval s=v) (hown:Bys W B v l)
  (hx:a.eval x=.slice (some ⟨W.heap.size,0,Option.none⟩) 1 1) (hn:0≤n) (hn2:n<256)
  (hsz:l.length+1≤1099511627776) (hB:B≤W.heap.size)
  (h:∀ v' w',Bys w' B v' (l++[UInt8.ofNat n.toNat])→Below B W w'→wpList Tryz.prog ops Q rest (a.put o.dst v') w'):wpList Tryz.prog ops Q (o::rest) a w:=by
 subst hw
 refine wpList_append_bys hgd s x ho B v l hs (hown.alloc _) ⟨W.heap.size,0,Option.none⟩ 1 [UInt8.ofNat n.toNat] 1 rfl hx (fun j hj=>?_) (by simpa using hsz) (by simp;omega) (fun v' w' h1 h2=>h v' w' h1 (((Below.refl _ _).alloc hB _).trans h2))
 obtain rfl:j=0:=by simpa using hj
 have e:(UInt8.ofNat n.toNat).toNat=n.toNat:=by simp;omega
 simp[Addr.add,byteV,e,Int.toNat_of_nonneg hn]
theorem wpList_append_str (hgd:o.guard=Option.none)(s x:Operand)
  (ho:o.op=.call { callee:=.builtin .append,args:=#[s,x],argTypes:=#[39,9] })
  (B:Nat) (v:Value) (l:List UInt8) (hs:a.eval s=v) (hown:Bys w B v l) (t:List UInt8) (hx:a.eval x=.string (bs t))
  (hsz:l.length+t.length≤1099511627776) (hB:B≤w.heap.size)
  (h:∀ v' w',Bys w' B v' (l++t)→Below B w w'→wpList Tryz.prog ops Q rest (a.put o.dst v') w'):wpList Tryz.prog ops Q (o::rest) a w:=by
 obtain⟨i,hi,hz0,hz1,hz2⟩:=info_parts info_u8
 refine wpList_plain hgd fun K hK=>?_
 obtain⟨v',w',hr,h1,h2,_⟩:=Lib.run_append_own_string (P:=Tryz.prog) w B 39 9 o.type 5 i Tryz.underlying39 Tryz.underlying9 hi hz0 hz1 hz2 v l.length (l.map byteV) hown (bs t)
  (by rw[bs_size];unfold maxLen;omega) (by rw[bs_size];omega) hB
 unfold Oper.wp execOp
 simp only[ho,resolve,invoke,builtin,Sem.run_bind,Sem.run_pure,Result.andThen_ok,List.map_toArray,List.map_cons,List.map_nil,hs,hx,hr]
 refine hK _ _ (h v' w' ?_ ((Below.refl _ _).grown h2 hB (fun k hk=>(World.ownsRow.lt hown k hk).1)))
 unfold Bys
 rw[bs_size,strCells_bs] at h1
 simpa using h1
end
theorem width_uint8 (w:World):Calls Tryz.prog 137 #[] w fun e w'=>e=.returned (.int .i64 1)∧w=w':=by
 have hs:IntKind.u8.signed=false:=rfl
 have hm:bits BinOp.xor IntKind.u8 IntKind.u8.max 0=255:=by decide
 go_enter Tryz.func137,Tryz.ntmps137
 go_wp2
 refine wp_loop_rounds 2 ?_
 iterate 2 (rw[rounds_succ];go_wp2)
 go_ret
 exact⟨rfl,rfl⟩
theorem width_uint16 (w:World):Calls Tryz.prog 113 #[] w fun e w'=>e=.returned (.int .i64 2)∧w=w':=by
 have hs:IntKind.u16.signed=false:=rfl
 have hm:bits BinOp.xor IntKind.u16 IntKind.u16.max 0=65535:=by decide
 go_enter Tryz.func113,Tryz.ntmps113
 go_wp2
 refine wp_loop_rounds 3 ?_
 iterate 3 (rw[rounds_succ];go_wp2)
 go_ret
 exact⟨rfl,rfl⟩
theorem width_uint32 (w:World):Calls Tryz.prog 114 #[] w fun e w'=>e=.returned (.int .i64 4)∧w=w':=by
 have hs:IntKind.u32.signed=false:=rfl
 have hm:bits BinOp.xor IntKind.u32 IntKind.u32.max 0=4294967295:=by decide
 go_enter Tryz.func114,Tryz.ntmps114
 go_wp2
 refine wp_loop_rounds 5 ?_
 iterate 5 (rw[rounds_succ];go_wp2)
 go_ret
 exact⟨rfl,rfl⟩
def beB (k:Nat)(n:Int)(i:Nat):UInt8:=UInt8.ofNat (n / 2 ^ (8*(k-1-i)) % 256).toNat
def be (k:Nat)(n:Int):List UInt8:=(List.range k).map (beB k n)
def beTo (k:Nat)(n:Int)(i:Nat):List UInt8:=(List.range i).map (beB k n)
theorem beTo_succ (k:Nat)(n:Int)(i:Nat):beTo k n (i+1)=beTo k n i++[beB k n i]:=by
 simp[beTo,List.range_succ]
theorem beTo_length (k:Nat)(n:Int)(i:Nat):(beTo k n i).length=i:=by simp[beTo]
theorem be_length (k:Nat)(n:Int):(be k n).length=k:=by simp[be]
theorem beTo_next {w1:World}{B:Nat}{v':Value}{l:List UInt8}{K:Nat}{n:Int}{k:Nat}{c:Nat}(h:Bys w1 B v' (l++(beTo K n k++[UInt8.ofNat (n / 2 ^ c % 256).toNat])))(hc:c=8*(K-1-k)):Bys w1 B v' (l++beTo K n (k+1)):=by
 rw[beTo_succ];subst hc;exact h
theorem put_uint16 (B:Nat)(v:Value)(l:List UInt8)(n:Int)(w:World)(hB:B≤w.heap.size)(hv:Bys w B v l)(hn:0≤n)(hn2:n<65536)(hl:l.length≤1000000000000) :
  Calls Tryz.prog 78 #[v,.int .u16 n] w fun e w'=>∃ v',e=.returned v'∧Bys w' B v' (l++be 2 n)∧Below B w w':=by
 go_enter Tryz.func78,Tryz.ntmps78
 go_wp2_with (go_at_call 113;refine(width_uint16 _).mono ?_;rintro e w' ⟨rfl,rfl⟩)
 go_loopw [0,9] (fun v i wr=>∃ k:Nat,k≤2∧i=.int .i64 k∧Bys wr B v (l++beTo 2 n k)∧Below B w wr) (fun _ i _=>2-(intOf i).toNat)
 case atStart=>exact⟨0,by omega,rfl,by simpa [beTo] using hv,Below.refl _ _⟩
 case round =>
  obtain⟨k,hk,rfl,hown,hb⟩:=hrel
  by_cases hlt:k<2
  ·have hsz:=hb.size
   go_wp2_with (at_builtin;refine wpList_append_byte rfl (.tmp 12) (.tmp 22) rfl B _ _ wr _ rfl rfl hown rfl ?_ ?_ ?_ ?_ ?_)
   ·exact Int.emod_nonneg _ (by decide)
   ·exact Int.emod_lt_of_pos _ (by decide)
   ·simp[beTo_length];omega
   ·omega
   ·intro v' w1 hown' hb'
    have hb2:=hd0 (hb.trans hb')
    have hown2:=hd0 (beTo_next hown' (by omega))
    clear hb hb' hown hown' hsz
    go_wp2
    go_roundw
    case rel=>exact⟨k+1,by omega,by go_num,hown2.out,hb2.out⟩
    case measure=>simp[intOf];omega
  ·obtain rfl:k=2:=by omega
   go_wp2
   go_ret
   exact⟨_,rfl,hown,hb⟩
theorem put_uint32 (B:Nat)(v:Value)(l:List UInt8)(n:Int)(w:World)(hB:B≤w.heap.size)(hv:Bys w B v l)(hn:0≤n)(hn2:n<4294967296)(hl:l.length≤1000000000000) :
  Calls Tryz.prog 79 #[v,.int .u32 n] w fun e w'=>∃ v',e=.returned v'∧Bys w' B v' (l++be 4 n)∧Below B w w':=by
 go_enter Tryz.func79,Tryz.ntmps79
 go_wp2_with (go_at_call 114;refine(width_uint32 _).mono ?_;rintro e w' ⟨rfl,rfl⟩)
 go_loopw [0,9] (fun v i wr=>∃ k:Nat,k≤4∧i=.int .i64 k∧Bys wr B v (l++beTo 4 n k)∧Below B w wr) (fun _ i _=>4-(intOf i).toNat)
 case atStart=>exact⟨0,by omega,rfl,by simpa [beTo] using hv,Below.refl _ _⟩
 case round =>
  obtain⟨k,hk,rfl,hown,hb⟩:=hrel
  by_cases hlt:k<4
  ·have hsz:=hb.size
   go_wp2_with (at_builtin;refine wpList_append_byte rfl (.tmp 12) (.tmp 22) rfl B _ _ wr _ rfl rfl hown rfl ?_ ?_ ?_ ?_ ?_)
   ·exact Int.emod_nonneg _ (by decide)
   ·exact Int.emod_lt_of_pos _ (by decide)
   ·simp[beTo_length];omega
   ·omega
   ·intro v' w1 hown' hb'
    have hb2:=hd0 (hb.trans hb')
    have hown2:=hd0 (beTo_next hown' (by omega))
    clear hb hb' hown hown' hsz
    go_wp2
    go_roundw
    case rel=>exact⟨k+1,by omega,by go_num,hown2.out,hb2.out⟩
    case measure=>simp[intOf];omega
  ·obtain rfl:k=4:=by omega
   go_wp2
   go_ret
   exact⟨_,rfl,hown,hb⟩
def Rd (w:World)(p:Nat)(l:List UInt8)(e:Int):Prop:=w.heap[p]?=some (.cells #[.string (bs l),.int .i64 e] 219 (0,0))
theorem Rd.lt {w:World}{p:Nat}{l:List UInt8}{e:Int}(h:Rd w p l e):p<w.heap.size:=by
 rcases Nat.lt_or_ge p w.heap.size with h1|h1
 ·exact h1
 ·unfold Rd at h;rw[Array.getElem?_eq_none h1] at h;cases h
theorem Rd.c0 {w:World}{p:Nat}{l:List UInt8}{e:Int}(h:Rd w p l e):w.cell? ⟨p,0,none⟩=some (.string (bs l)):=by
 unfold Rd at h;simp[World.cell?,h]
theorem Rd.c1 {w:World}{p:Nat}{l:List UInt8}{e:Int}(h:Rd w p l e):w.cell? ⟨p,1,none⟩=some (.int .i64 e):=by
 unfold Rd at h;simp[World.cell?,h]
theorem Rd.f0 {w:World}{p:Nat}{l:List UInt8}{e:Int}(h:Rd w p l e):w.frozen? ⟨p,0,none⟩=false:=by
 unfold Rd at h;simp[World.frozen?,h]
theorem Rd.f1 {w:World}{p:Nat}{l:List UInt8}{e:Int}(h:Rd w p l e):w.frozen? ⟨p,1,none⟩=false:=by
 unfold Rd at h;simp[World.frozen?,h]
theorem Rd.set0 {w:World}{p:Nat}{l:List UInt8}{e:Int}(h:Rd w p l e)(l':List UInt8):Rd (w.setCell ⟨p,0,none⟩ (.string (bs l'))) p l' e:=by
 unfold Rd at *
 simp[World.setCell,Array.getElem?_modify,h]
theorem Rd.set1 {w:World}{p:Nat}{l:List UInt8}{e:Int}(h:Rd w p l e)(e':Int):Rd (w.setCell ⟨p,1,none⟩ (.int .i64 e')) p l e':=by
 unfold Rd at *
 simp[World.setCell,Array.getElem?_modify,h]
def Only (p:Nat)(w w':World):Prop:=w.grownBy w' (some p)
theorem Only.refl (p:Nat)(w:World):Only p w w:=World.grownBy.refl w _
theorem Only.trans {p:Nat}{a b c:World}(h:Only p a b)(k:Only p b c):Only p a c :=
 ⟨k.os.trans h.os,k.tape.trans h.tape,k.output.trans h.output,Nat.le_trans h.size k.size,fun i hi hne=>(k.block i (Nat.lt_of_lt_of_le hi h.size) hne).trans (h.block i hi hne)⟩
theorem Only.set (p:Nat)(w:World)(o:Nat)(v:Value):Only p w (w.setCell ⟨p,o,none⟩ v) :=
 ⟨rfl,rfl,rfl,by simp[World.setCell],fun k hk hne=>Below.heap_setCell _ _ _ _ (by intro e;exact hne (by rw[e]))⟩
theorem Only.below {p B:Nat}{w w':World}(h:Only p w w')(hB:B≤p)(hs:B≤w.heap.size):Below B w w' :=
 (Below.refl _ _).grown h hs (fun k hk=>by cases hk;exact hB)
theorem Rd.later {q:Nat}{w w':World}{l:List UInt8}{e:Int}(hr:Rd w q l e)(h:Below w.heap.size w w'):Rd w' q l e:=by
 unfold Rd;rw[h.block q hr.lt];exact hr
theorem of_any (l:List UInt8)(w:World):Calls Tryz.prog 89 #[.string (bs l)] w fun e w'=>e=.returned (.pointer (some ⟨w.heap.size,0,none⟩))∧Rd w' w.heap.size l 0∧Below w.heap.size w w'∧w.heap.size<w'.heap.size:=by
 go_enter Tryz.func89,Tryz.ntmps89
 go_wp2
 go_ret
 refine⟨rfl,?_,(Below.refl _ _).alloc (by simp) _,by simp⟩
 unfold Rd
 exact heap_alloc_new w _
def rdFail (l:List UInt8)(e x:Int):List UInt8 × Int:=if e=0 then([],x) else(l,e)
theorem fail_any (p:Nat)(l:List UInt8)(e x:Int)(w:World)(hr:Rd w p l e) :
  Calls Tryz.prog 119 #[.pointer (some ⟨p,0,none⟩),.int .i64 x] w fun en w'=>en=.returned (.tuple #[])∧Rd w' p (rdFail l e x).1 (rdFail l e x).2∧Only p w w':=by
 have c0:=hr.c0
 have c1:=hr.c1
 have f0:=hr.f0
 have f1:=hr.f1
 have HR:=hd0 hr;clear hr
 by_cases he:e=0
 ·subst he
  go_enter Tryz.func119,Tryz.ntmps119
  go_wp2
  go_end0
  exact⟨rfl,(HR.out.set0 []).set1 x,(Only.set p w 0 _).trans (Only.set p _ 1 _)⟩
 ·have he':(e==0)=false:=by simp[he]
  have hv:rdFail l e x=(l,e):=by unfold rdFail;rw[if_neg he]
  rw[hv]
  clear he hv
  go_enter Tryz.func119,Tryz.ntmps119
  go_wp2
  go_end0
  exact⟨rfl,HR.out,Only.refl _ _⟩
def rdText (l:List UInt8)(e n:Int):List UInt8 × List UInt8 × Int :=
 if n≤0∨e≠0 then([],l,e) else if (l.length:Int)<n then([],[],3) else(l.take n.toNat,l.drop n.toNat,e)
theorem text_any (p:Nat)(l:List UInt8)(e n:Int)(w:World)(hr:Rd w p l e)(hl:l.length≤9223372036854775807) :
  Calls Tryz.prog 91 #[.pointer (some ⟨p,0,none⟩),.int .i64 n] w fun en w'=>en=.returned (.string (bs (rdText l e n).1))∧Rd w' p (rdText l e n).2.1 (rdText l e n).2.2∧Only p w w':=by
 have c0:=hr.c0
 have c1:=hr.c1
 have f0:=hr.f0
 have f1:=hr.f1
 have HR:=hd0 hr;clear hr
 have hsz:=bs_size l
 by_cases hn:n≤0
 ·have hv:rdText l e n=([],l,e):=by unfold rdText;rw[if_pos (.inl hn)]
  rw[hv];clear hv
  go_enter Tryz.func91,Tryz.ntmps91
  go_wp2
  go_ret
  exact⟨rfl,HR.out,Only.refl _ _⟩
 by_cases he:e=0
 ·subst he
  by_cases hln:(l.length:Int)<n
  ·have hv:rdText l 0 n=([],[],3):=by unfold rdText;rw[if_neg (by simp;omega),if_pos hln]
   rw[hv];clear hv
   go_enter Tryz.func91,Tryz.ntmps91
   go_wp2_with (go_at_call 119;refine(fail_any p l 0 3 _ HR.out).mono ?_;rintro en w' ⟨rfl,hr',ho'⟩)
   go_ret
   exact⟨rfl,hr',ho'⟩
  ·have hv:rdText l 0 n=(l.take n.toNat,l.drop n.toNat,0):=by unfold rdText;rw[if_neg (by simp;omega),if_neg hln]
   rw[hv];clear hv
   go_enter Tryz.func91,Tryz.ntmps91
   go_wp2
   go_ret
   refine⟨?_,?_,Only.set p w 0 _⟩
   ·rw[←bs_take];rfl
   ·rw[bs_drop l n.toNat l.length (by omega)];exact HR.out.set0 _
 ·have hv:rdText l e n=([],l,e):=by unfold rdText;rw[if_pos (.inr he)]
  have he':(e != 0)=true:=by simp[he]
  rw[hv];clear hv he
  go_enter Tryz.func91,Tryz.ntmps91
  go_wp2
  go_ret
  exact⟨rfl,HR.out,Only.refl _ _⟩
theorem left_any (p:Nat)(l:List UInt8)(e:Int)(w:World)(hr:Rd w p l e)(hl:l.length≤9223372036854775807) :
  Calls Tryz.prog 122 #[.pointer (some ⟨p,0,none⟩)] w fun en w'=>en=.returned (.int .i64 l.length)∧w=w':=by
 have c0:=hr.c0
 have hsz:=bs_size l
 clear hr
 go_enter Tryz.func122,Tryz.ntmps122
 go_wp2
 go_ret
 exact⟨rfl,rfl⟩
theorem err_any (p:Nat)(l:List UInt8)(e:Int)(w:World)(hr:Rd w p l e) :
  Calls Tryz.prog 94 #[.pointer (some ⟨p,0,none⟩)] w fun en w'=>en=.returned (.int .i64 e)∧w=w':=by
 have c1:=hr.c1
 clear hr
 go_enter Tryz.func94,Tryz.ntmps94
 go_wp2
 go_ret
 exact⟨rfl,rfl⟩
theorem bad_any (p:Nat)(l:List UInt8)(e:Int)(w:World)(hr:Rd w p l e) :
  Calls Tryz.prog 153 #[.pointer (some ⟨p,0,none⟩)] w fun en w'=>en=.returned (.tuple #[])∧Rd w' p (rdFail l e 4).1 (rdFail l e 4).2∧Only p w w':=by
 have HR:=hd0 hr;clear hr
 go_enter Tryz.func153,Tryz.ntmps153
 go_wp2_with (go_at_call 119;refine(fail_any p l e 4 _ HR.out).mono ?_;rintro en w' ⟨rfl,hr',ho'⟩)
 go_end0
 exact⟨rfl,hr',ho'⟩
def rdRest (l:List UInt8)(e:Int):List UInt8 × List UInt8 × Int:=rdText l e l.length
theorem rest_any (p:Nat)(l:List UInt8)(e:Int)(w:World)(hr:Rd w p l e)(hl:l.length≤9223372036854775807) :
  Calls Tryz.prog 93 #[.pointer (some ⟨p,0,none⟩)] w fun en w'=>en=.returned (.string (bs (rdRest l e).1))∧Rd w' p (rdRest l e).2.1 (rdRest l e).2.2∧Only p w w':=by
 have HR:=hd0 hr;clear hr
 go_enter Tryz.func93,Tryz.ntmps93
 go_wp2_with (first|(go_at_call 122;refine(left_any p l e _ HR.out hl).mono ?_;rintro en w' ⟨rfl,rfl⟩)|(go_at_call 91;refine(text_any p l e _ _ HR.out hl).mono ?_;rintro en w' ⟨rfl,hr',ho'⟩))
 go_ret
 exact⟨rfl,hr',ho'⟩
def rdEnd (l:List UInt8)(e:Int):List UInt8 × Int:=if 0<l.length then rdFail l e 4 else(l,e)
theorem end_any (p:Nat)(l:List UInt8)(e:Int)(w:World)(hr:Rd w p l e)(hl:l.length≤9223372036854775807) :
  Calls Tryz.prog 140 #[.pointer (some ⟨p,0,none⟩)] w fun en w'=>en=.returned (.int .i64 (rdEnd l e).2)∧Rd w' p (rdEnd l e).1 (rdEnd l e).2∧Only p w w':=by
 have HR:=hd0 hr;clear hr
 by_cases h0:0<l.length
 ·have hv:rdEnd l e=rdFail l e 4:=by unfold rdEnd;rw[if_pos h0]
  rw[hv];clear hv
  go_enter Tryz.func140,Tryz.ntmps140
  go_wp2_with (first|(go_at_call 122;refine(left_any p l e _ HR.out hl).mono ?_;rintro en w' ⟨rfl,rfl⟩)|(go_at_call 153;refine(bad_any p l e _ HR.out).mono ?_;rintro en w' ⟨rfl,hr',ho'⟩)|(go_at_call 94;refine(err_any p _ _ _ hr').mono ?_;rintro en w' ⟨rfl,rfl⟩))
  go_ret
  exact⟨rfl,hr',ho'⟩
 ·have hv:rdEnd l e=(l,e):=by unfold rdEnd;rw[if_neg h0]
  rw[hv];clear hv
  go_enter Tryz.func140,Tryz.ntmps140
  go_wp2_with (first|(go_at_call 122;refine(left_any p l e _ HR.out hl).mono ?_;rintro en w' ⟨rfl,rfl⟩)|(go_at_call 94;refine(err_any p l e _ HR.out).mono ?_;rintro en w' ⟨rfl,rfl⟩))
  go_ret
  exact⟨rfl,HR.out,Only.refl _ _⟩
def numOf (t:List UInt8):Int:=t.foldl (fun n b=>n*256+(b.toNat:Int)) 0
theorem numOf_snoc (t:List UInt8)(b:UInt8):numOf (t++[b])=numOf t*256+(b.toNat:Int):=by simp[numOf]
theorem numFrom_bd:∀ (t:List UInt8)(a:Int),0≤a→0≤t.foldl (fun n b=>n*256+(b.toNat:Int)) a∧t.foldl (fun n b=>n*256+(b.toNat:Int)) a<(a+1)*256 ^ t.length
 |[],a,h=>by simp;omega
 | b::t,a,h=>by
  have hb:=b.toNat_lt
  have ih:=numFrom_bd t (a*256+(b.toNat:Int)) (by omega)
  simp only[List.foldl_cons,List.length_cons,Int.pow_succ]
  refine⟨ih.1,Int.lt_of_lt_of_le ih.2 ?_⟩
  have h1:(0:Int)≤256 ^ t.length:=Int.le_of_lt (Int.pow_pos (by decide))
  have h2:(a*256+(b.toNat:Int)+1)*256 ^ t.length≤((a+1)*256)*256 ^ t.length:=Int.mul_le_mul_of_nonneg_right (by omega) h1
  rw[Int.mul_comm (256 ^ t.length) 256,← Int.mul_assoc]
  exact h2
theorem numOf_bd (t:List UInt8):0≤numOf t∧numOf t<256 ^ t.length:=by
 have:=numFrom_bd t 0 (by omega)
 simpa [numOf] using this
theorem numOf_lt (t:List UInt8)(K:Nat)(M:Int)(h:t.length≤K)(hM:(256:Int) ^ K=M):numOf t<M:=by
 have h1:=(numOf_bd t).2
 have h2:((256 ^ t.length:Nat):Int)≤((256 ^ K:Nat):Int):=Int.ofNat_le.2 (Nat.pow_le_pow_right (by decide) h)
 rw[Int.natCast_pow,Int.natCast_pow] at h2
 rw[←hM]
 exact Int.lt_of_lt_of_le h1 h2
theorem or_byte (x:Int)(b:UInt8)(h0:0≤x)(h1:x<72057594037927936):bits BinOp.or IntKind.u64 (x*256) (IntKind.u64.wrap (b.toNat:Int))=x*256+(b.toNat:Int):=by
 have hb:=b.toNat_lt
 have e1:IntKind.u64.wrap (b.toNat:Int)=(b.toNat:Int):=IntWalk.u64_in _ (by omega)
 rw[e1]
 obtain⟨n,rfl⟩:=Int.eq_ofNat_of_zero_le h0
 have e2:bits BinOp.or IntKind.u64 ((n:Int)*256) (b.toNat:Int)=((n*256 ||| b.toNat:Nat):Int):=by
  have:=u64_or ((n:Int)*256) (b.toNat:Int) (by omega) (by omega) (by omega) (by omega)
  rw[this]
  congr 2
 rw[e2]
 have e3:n*256 ||| b.toNat=n*256+b.toNat:=by
  have:=Nat.two_pow_add_eq_or_of_lt (i:=8) (b:=b.toNat) (by omega) n
  rw[show n*256=2 ^ 8*n by omega]
  exact this.symm
 rw[e3]
 simp
theorem numOf_step (t:List UInt8)(k:Nat)(h:k<t.length)(h':k<(bs t).size)(hK:k≤7) :
  bits BinOp.or IntKind.u64 (numOf (t.take k)*256) (IntKind.u64.wrap (((bs t)[k]'h').toNat:Int))=numOf (t.take (k+1)):=by
 rw[bs_get t k h' h,or_byte _ _ (numOf_bd _).1 (numOf_lt _ 7 _ (by simp;omega) (by decide)),← numOf_snoc,List.take_append_getElem]
theorem rdText_len (l:List UInt8)(e:Int)(K:Nat):(rdText l e K).1.length≤K:=by
 unfold rdText
 repeat' split
 all_goals simp
 omega
theorem read_uint8 (p:Nat)(l:List UInt8)(e:Int)(w:World)(hr:Rd w p l e)(hl:l.length≤9223372036854775807) :
  Calls Tryz.prog 118 #[.pointer (some ⟨p,0,none⟩)] w fun en w'=>en=.returned (.int .u8 (numOf (rdText l e 1).1))∧Rd w' p (rdText l e 1).2.1 (rdText l e 1).2.2∧Only p w w':=by
 have HR:=hd0 hr;clear hr
 have hlen:(rdText l e 1).1.length≤1:=rdText_len l e 1
 generalize hrt:rdText l e 1=rt at *
 obtain⟨t,l',e'⟩:=rt
 have HT:=hd0 hrt;clear hrt
 simp only at hlen ⊢
 have hsz:(bs t).size=t.length:=bs_size t
 have hN:=numOf_lt t 1 256 hlen (by decide)
 have hN0:=(numOf_bd t).1
 go_enter Tryz.func118,Tryz.ntmps118
 go_wp2_with (first|(go_at_call 137;refine(width_uint8 _).mono ?_;rintro en w' ⟨rfl,rfl⟩)|(go_at_call 91;refine(text_any p l e 1 _ HR.out hl).mono ?_;rw[HT.out];rintro en w' ⟨rfl,hr',ho'⟩))
 go_loop [4,11] (fun n i=>∃ k:Nat,k≤t.length∧i=.int .i64 k∧n=.int .u64 (numOf (t.take k))) (fun _ i=>t.length-(intOf i).toNat)
 case atStart=>exact⟨0,by omega,rfl,rfl⟩
 case round =>
  obtain⟨k,hk,rfl,rfl⟩:=hrel
  by_cases hlt:k<t.length
  ·have hb2:numOf (t.take k)<72057594037927936:=numOf_lt _ 7 _ (by simp;omega) (by decide)
   have hb1:=(numOf_bd (t.take k)).1
   go_wp2
   go_round
   case rel=>exact⟨k+1,by omega,by go_num,by rw[numOf_step t k hlt _ (by omega)]⟩
   case measure=>simp[intOf];omega
  ·obtain rfl:k=t.length:=by omega
   have HX:Hid (numOf (t.take t.length)=numOf t):=by show _=_;rw[List.take_length]
   rw[HX.out]
   go_wp2
   go_ret
   exact⟨rfl,hr',ho'⟩
theorem read_uint16 (p:Nat)(l:List UInt8)(e:Int)(w:World)(hr:Rd w p l e)(hl:l.length≤9223372036854775807) :
  Calls Tryz.prog 138 #[.pointer (some ⟨p,0,none⟩)] w fun en w'=>en=.returned (.int .u16 (numOf (rdText l e 2).1))∧Rd w' p (rdText l e 2).2.1 (rdText l e 2).2.2∧Only p w w':=by
 have HR:=hd0 hr;clear hr
 have hlen:(rdText l e 2).1.length≤2:=rdText_len l e 2
 generalize hrt:rdText l e 2=rt at *
 obtain⟨t,l',e'⟩:=rt
 have HT:=hd0 hrt;clear hrt
 simp only at hlen ⊢
 have hsz:(bs t).size=t.length:=bs_size t
 have hN:=numOf_lt t 2 65536 hlen (by decide)
 have hN0:=(numOf_bd t).1
 go_enter Tryz.func138,Tryz.ntmps138
 go_wp2_with (first|(go_at_call 113;refine(width_uint16 _).mono ?_;rintro en w' ⟨rfl,rfl⟩)|(go_at_call 91;refine(text_any p l e 2 _ HR.out hl).mono ?_;rw[HT.out];rintro en w' ⟨rfl,hr',ho'⟩))
 go_loop [4,11] (fun n i=>∃ k:Nat,k≤t.length∧i=.int .i64 k∧n=.int .u64 (numOf (t.take k))) (fun _ i=>t.length-(intOf i).toNat)
 case atStart=>exact⟨0,by omega,rfl,rfl⟩
 case round =>
  obtain⟨k,hk,rfl,rfl⟩:=hrel
  by_cases hlt:k<t.length
  ·have hb2:numOf (t.take k)<72057594037927936:=numOf_lt _ 7 _ (by simp;omega) (by decide)
   have hb1:=(numOf_bd (t.take k)).1
   go_wp2
   go_round
   case rel=>exact⟨k+1,by omega,by go_num,by rw[numOf_step t k hlt _ (by omega)]⟩
   case measure=>simp[intOf];omega
  ·obtain rfl:k=t.length:=by omega
   have HX:Hid (numOf (t.take t.length)=numOf t):=by show _=_;rw[List.take_length]
   rw[HX.out]
   go_wp2
   go_ret
   exact⟨rfl,hr',ho'⟩
theorem read_uint32 (p:Nat)(l:List UInt8)(e:Int)(w:World)(hr:Rd w p l e)(hl:l.length≤9223372036854775807) :
  Calls Tryz.prog 152 #[.pointer (some ⟨p,0,none⟩)] w fun en w'=>en=.returned (.int .u32 (numOf (rdText l e 4).1))∧Rd w' p (rdText l e 4).2.1 (rdText l e 4).2.2∧Only p w w':=by
 have HR:=hd0 hr;clear hr
 have hlen:(rdText l e 4).1.length≤4:=rdText_len l e 4
 generalize hrt:rdText l e 4=rt at *
 obtain⟨t,l',e'⟩:=rt
 have HT:=hd0 hrt;clear hrt
 simp only at hlen ⊢
 have hsz:(bs t).size=t.length:=bs_size t
 have hN:=numOf_lt t 4 4294967296 hlen (by decide)
 have hN0:=(numOf_bd t).1
 go_enter Tryz.func152,Tryz.ntmps152
 go_wp2_with (first|(go_at_call 114;refine(width_uint32 _).mono ?_;rintro en w' ⟨rfl,rfl⟩)|(go_at_call 91;refine(text_any p l e 4 _ HR.out hl).mono ?_;rw[HT.out];rintro en w' ⟨rfl,hr',ho'⟩))
 go_loop [4,11] (fun n i=>∃ k:Nat,k≤t.length∧i=.int .i64 k∧n=.int .u64 (numOf (t.take k))) (fun _ i=>t.length-(intOf i).toNat)
 case atStart=>exact⟨0,by omega,rfl,rfl⟩
 case round =>
  obtain⟨k,hk,rfl,rfl⟩:=hrel
  by_cases hlt:k<t.length
  ·have hb2:numOf (t.take k)<72057594037927936:=numOf_lt _ 7 _ (by simp;omega) (by decide)
   have hb1:=(numOf_bd (t.take k)).1
   go_wp2
   go_round
   case rel=>exact⟨k+1,by omega,by go_num,by rw[numOf_step t k hlt _ (by omega)]⟩
   case measure=>simp[intOf];omega
  ·obtain rfl:k=t.length:=by omega
   have HX:Hid (numOf (t.take t.length)=numOf t):=by show _=_;rw[List.take_length]
   rw[HX.out]
   go_wp2
   go_ret
   exact⟨rfl,hr',ho'⟩
theorem U8_any (p:Nat)(l:List UInt8)(e:Int)(w:World)(hr:Rd w p l e)(hl:l.length≤9223372036854775807) :
  Calls Tryz.prog 90 #[.pointer (some ⟨p,0,none⟩)] w fun en w'=>en=.returned (.int .u8 (numOf (rdText l e 1).1))∧Rd w' p (rdText l e 1).2.1 (rdText l e 1).2.2∧Only p w w':=by
 have HR:=hd0 hr;clear hr
 go_enter Tryz.func90,Tryz.ntmps90
 go_wp2_with (go_at_call 118;refine(read_uint8 p l e _ HR.out hl).mono ?_;rintro en w' ⟨rfl,hr',ho'⟩)
 go_ret
 exact⟨rfl,hr',ho'⟩
theorem U16_any (p:Nat)(l:List UInt8)(e:Int)(w:World)(hr:Rd w p l e)(hl:l.length≤9223372036854775807) :
  Calls Tryz.prog 121 #[.pointer (some ⟨p,0,none⟩)] w fun en w'=>en=.returned (.int .u16 (numOf (rdText l e 2).1))∧Rd w' p (rdText l e 2).2.1 (rdText l e 2).2.2∧Only p w w':=by
 have HR:=hd0 hr;clear hr
 go_enter Tryz.func121,Tryz.ntmps121
 go_wp2_with (go_at_call 138;refine(read_uint16 p l e _ HR.out hl).mono ?_;rintro en w' ⟨rfl,hr',ho'⟩)
 go_ret
 exact⟨rfl,hr',ho'⟩
theorem U32_any (p:Nat)(l:List UInt8)(e:Int)(w:World)(hr:Rd w p l e)(hl:l.length≤9223372036854775807) :
  Calls Tryz.prog 139 #[.pointer (some ⟨p,0,none⟩)] w fun en w'=>en=.returned (.int .u32 (numOf (rdText l e 4).1))∧Rd w' p (rdText l e 4).2.1 (rdText l e 4).2.2∧Only p w w':=by
 have HR:=hd0 hr;clear hr
 go_enter Tryz.func139,Tryz.ntmps139
 go_wp2_with (go_at_call 152;refine(read_uint32 p l e _ HR.out hl).mono ?_;rintro en w' ⟨rfl,hr',ho'⟩)
 go_ret
 exact⟨rfl,hr',ho'⟩
def numR:Nat→Int→List UInt8
 | 0,_=>[]
 | k+1,n=>numR k (n / 256)++[UInt8.ofNat (n % 256).toNat]
theorem numR_len:∀ (k:Nat)(n:Int),(numR k n).length=k
 | 0,_=>rfl
 | k+1,n=>by simp[numR,numR_len k]
theorem numR_be:∀ (k:Nat)(n:Int),numR k n=be k n
 | 0,_=>rfl
 | k+1,n=>by
  rw[numR,numR_be k,be,be,List.range_succ,List.map_append,List.map_singleton]
  congr 1
  ·apply List.map_congr_left
   intro i hi
   have hi':i<k:=List.mem_range.1 hi
   unfold beB
   have e:8*(k+1-1-i)=8+8*(k-1-i):=by omega
   rw[e,Int.pow_add,← Int.ediv_ediv_of_nonneg (by decide)]
   rfl
  ·simp[beB]
theorem num_any (k:Nat):∀ (n:Int) (w:World),0≤n→n<18446744073709551616→k≤8 →
  Calls Tryz.prog 84 #[.int .u64 n,.int .i64 k] w fun e w'=>e=.returned (.string (bs (numR k n)))∧Below w.heap.size w w':=by
 induction k with
 | zero =>
  intro n w h0 h1 _
  go_enter Tryz.func84,Tryz.ntmps84
  go_wp2_with fail
  go_ret
  exact⟨rfl,Below.refl _ _⟩
 | succ k ih =>
  intro n w h0 h1 hk
  have IH:=hd0 ih
  clear ih
  have hk0:(((k:Int)+1)==0)=false:=by simp;omega
  have hcast:((k+1:Nat):Int)=(k:Int)+1:=by omega
  rw[hcast]
  clear hcast
  have e1:IntKind.u64.wrap (n.tdiv 256)=n / 256:=by rw[Int.tdiv_eq_ediv_of_nonneg h0];exact IntWalk.u64_in _ (by omega)
  have e2:IntKind.i64.wrap (k:Int)=(k:Int):=IntWalk.i64_in _ (by omega)
  have e3:IntKind.u8.wrap (n.tmod 256)=n % 256:=by rw[Int.tmod_eq_emod_of_nonneg h0];exact IntWalk.u8_in _ (by omega)
  have e4:0≤n % 256∧n % 256<256:=by omega
  have b1:0≤n / 256∧n / 256<18446744073709551616∧k≤8:=by omega
  have B1:=hd0 b1
  have hcv:=run_string_one (n % 256) e4.1 e4.2
  have hadd:=run_add_bs (numR k (n / 256)) [UInt8.ofNat (n % 256).toNat] (by simp[numR_len];omega)
  have H4:=hd0 e4
  clear b1 e4 h0 h1 hk
  go_enter Tryz.func84,Tryz.ntmps84
  go_wp2_with fail
  go_region_with (go_at_call 84;with_reducible refine(IH.out (n / 256) _ B1.out.1 B1.out.2.1 B1.out.2.2).mono ?_;rintro e w' ⟨rfl,hb⟩;have hc:=bcell hb)
  all_goals go_wp2
  all_goals go_ret
  all_goals refine⟨rfl,?_⟩
  all_goals first
   | exact((Below.refl w.heap.size w).drew.trans hb).alloc (by have:=hb.size;simpa using this) _
   | exact(((Below.refl w.heap.size w).alloc (Nat.le_refl _) _).drew.trans (hb.mono (by simp)))
open Go.ChangeShapes Go.WideShapes Go.ChangeAt Go.RowKit Go.Joins
open Go.ChangeMaps (open_string shut_string)
section
variable {H:Type} {enc:TypeId × Value→H} {P:Program} {w:World} {r:Reach} {b0 base:Nat} {spare:Nat→Bool} {held:Bool} {t:TypeId} {v:Value} {d:DataW H} {p:List MemPlace}
theorem trod_int1 {k:IntKind}{n:Nat}{c:Value}{y:Option (DataW H × List MemPlace)}(ht:P.underlying t=some (.int k))(h:DataW.trod enc P w base spare held n t [c]=y)(hy:y.isSome=true):∃ a,c=.int k a∧(Lit.int k a).wf=true:=by
 obtain⟨x,rfl⟩:=Option.isSome_iff_exists.1 hy
 obtain⟨a,h1,_,h2⟩:=DataW.trod_int ht h
 exact⟨a,by simpa using h1,h2⟩
end
open Go.ChangeShapes Go.WideShapes Go.ChangeAt Go.RowKit
def Src (w:World)(v:Value)(l:List UInt8):Prop :=
 (v=.slice none 0 0∧l=[])∨∃ ad c,v=.slice (some ad) l.length c∧∀ j (hj:j<l.length),w.cell? (ad.add j)=some (byteV l[j])
theorem Src.later {w w':World}{v:Value}{l:List UInt8}(h:Src w v l)(hb:Below w.heap.size w w'):Src w' v l:=by
 rcases h with h|⟨ad,c,rfl,h⟩
 ·exact .inl h
 ·exact .inr ⟨ad,c,rfl,fun j hj=>(hb.cell (World.block_lt_of_cell? w _ (h j hj))).trans (h j hj)⟩
theorem Bys.src {w:World}{B:Nat}{v:Value}{l:List UInt8}(h:Bys w B v l):Src w v l:=by
 rcases h.shape with⟨h1,h2⟩|⟨g,cap,rfl,_⟩
 ·exact .inl ⟨h1,h2⟩
 ·refine .inr ⟨_,cap,rfl,fun j hj=>?_⟩
  have h2:(⟨g,0,Option.none⟩:Addr).add j=⟨g,j,Option.none⟩:=by cases j <;> simp[Addr.add]
  rw[h2];exact h.cell j hj
theorem run_string_src {w:World}{v:Value}{l:List UInt8}(h:Src w v l):(convert 39 9 v).run Tryz.prog w=.ok (.string (bs l)) w:=by
 rcases h with⟨rfl,rfl⟩|⟨ad,c,rfl,h⟩
 ·rw[run_convert_bytes_string w _ _ 5 Option.none 0 0 Tryz.underlying39 Tryz.underlying5 Tryz.underlying9]
  rfl
 ·exact run_convert_bytes_back w _ _ 5 ad c l Tryz.underlying39 Tryz.underlying5 Tryz.underlying9 (fun j hj=>h j hj)
section
variable {w:World} {ops:Array Oper} {rest:List Oper} {o:Oper} {a:Act} {Q:Exit→Act→World→Prop} {K:Act→World→Prop}
theorem wp_append_src (s x:Operand)(ho:o.op=.call { callee:=.builtin .append,args:=#[s,x],argTypes:=#[39,39] })
  (B:Nat) (v:Value) (l:List UInt8) (hs:a.eval s=v) (hown:Bys w B v l) (u:Value) (t:List UInt8) (hx:a.eval x=u) (hsrc:Src w u t)
  (hsz:l.length+t.length≤1099511627776) (hB:B≤w.heap.size)
  (h:∀ v' w',Bys w' B v' (l++t)→Below B w w'→K (a.put o.dst v') w'):o.wp Tryz.prog a w K Q:=by
 obtain⟨i,hi,hz0,hz1,hz2⟩:=info_parts info_u8
 rcases hsrc with⟨rfl,rfl⟩|⟨ad,c,rfl,hnews⟩
 ·have hrun:=run_append_owned_none (P:=Tryz.prog) w B 39 o.type 5 i 1 Tryz.underlying39 hi v l.length (l.map byteV) hown
  unfold Oper.wp
  simp[execOp,ho,resolve,invoke,builtin,hs,hx,hrun,Result.andThen]
  exact h _ _ (by simpa using hown) (Below.refl _ _)
 ·refine wp_append_own w s x 39 ho B 5 i (.int .u8 0) 1 1 Tryz.underlying39 hi hz0 hz1 hz2 rfl (by decide) v l.length (l.map byteV) hs hown ad t.length c (t.map byteV) hx (by simp)
   (fun j u hj=>?_) (fun u hu=>?_) (by unfold maxLen;omega) (by omega) hB (fun v' w' h1 h2 _=>?_)
  ·have hj':j<t.length:=by have:=(List.getElem?_eq_some_iff.1 hj).1;simpa using this
   rw[hnews j hj']
   simp[hj'] at hj
   rw[hj]
  ·obtain⟨b,_,rfl⟩:=List.mem_map.1 hu
   rfl
  ·exact h v' w' (by unfold Bys;simpa using h1) ((Below.refl _ _).grown h2 hB (fun k hk=>(World.ownsRow.lt hown k hk).1))
theorem step_append_src {E:Prop}(hgd:o.guard=Option.none)(s x:Operand)(ho:o.op=.call { callee:=.builtin .append,args:=#[s,x],argTypes:=#[39,39] })
  (B:Nat) (v:Value) (l:List UInt8) (hs:a.eval s=v) (hown:Bys w B v l) (u:Value) (t:List UInt8) (hx:a.eval x=u) (hsrc:Src w u t)
  (hsz:l.length+t.length≤1099511627776) (hB:B≤w.heap.size)
  (h:∀ v' w',Bys w' B v' (l++t)→Below B w w'→K (a.put o.dst v') w'):if Region.wanted o (yielded ops a.tmps)=true then Oper.wp Tryz.prog o a w K Q else E:=by
 rw[if_pos (by simp[Region.wanted,hgd])]
 exact wp_append_src s x ho B v l hs hown u t hx hsrc hsz hB h
end
theorem num_be (k:Nat)(n:Int)(w:World)(h0:0≤n)(h1:n<18446744073709551616)(hk:k≤8) :
  Calls Tryz.prog 84 #[.int .u64 n,.int .i64 k] w fun e w'=>e=.returned (.string (bs (be k n)))∧Below w.heap.size w w':=by
 rw[←numR_be];exact num_any k n w h0 h1 hk
theorem wrap_u8 (n:Int)(h0:0≤n):IntKind.u8.wrap n=n % 256:=by
 rw[←IntWalk.u8_in (n % 256) (by omega)]
 simp[IntKind.wrap,IntKind.signed,IntKind.bits]
theorem rdText_app (a r:List UInt8)(k:Nat)(ha:a.length=k)(hk:1≤k):rdText (a++r) 0 k=(a,r,0):=by
 unfold rdText
 rw[if_neg (by simp;omega),if_neg (by simp;omega)]
 subst ha
 simp
theorem rdText_short (a:List UInt8)(k:Nat)(ha:a.length<k):rdText a 0 k=([],[],3):=by
 unfold rdText
 rw[if_neg (by simp;omega),if_pos (by omega)]
theorem bs_beq (a b:List UInt8):(bs a==bs b)=decide (a=b):=by
 have h:(bs a==bs b)=(a.toArray==b.toArray):=rfl
 rw[h,Bool.eq_iff_iff];simp
theorem bs_tl (l:List UInt8):(bs l).toList=l:=by rw[ByteArray.toList_eq];simp[bs]
theorem bs_tl_eq (a b:List UInt8):((bs a).toList==(bs b).toList)=decide (a=b):=by
 rw[bs_tl,bs_tl,Bool.eq_iff_iff];simp
theorem below_set {B b o:Nat}{w W:World}(h:Below B w W)(hb:B≤b)(v:Value):Below B w (W.setCell ⟨b,o,none⟩ v):=h.setCell (p:=⟨b,o,none⟩) hb v
theorem Only.cell {p q o:Nat}{w w':World}(h:Only p w w')(hq:q<w.heap.size)(hne:q≠p):w'.cell? ⟨q,o,none⟩=w.cell? ⟨q,o,none⟩:=by
 simp[World.cell?,h.block q hq (by simpa using hne)]
theorem Only.frozen {p q o:Nat}{w w':World}(h:Only p w w')(hq:q<w.heap.size)(hne:q≠p):w'.frozen? ⟨q,o,none⟩=w.frozen? ⟨q,o,none⟩:=by
 simp[World.frozen?,h.block q hq (by simpa using hne)]
theorem Only.setNew {p t o:Nat}{w W:World}(h:Only p w W)(ht:w.heap.size≤t)(v:Value):Only p w (W.setCell ⟨t,o,none⟩ v) :=
 ⟨h.os,h.tape,h.output,by simpa [World.setCell] using h.size,fun k hk hne=>(Below.heap_setCell _ _ _ _ (by intro e;simp at e;omega)).trans (h.block k hk hne)⟩
theorem Rd.setOther {p t o:Nat}{W:World}{l:List UInt8}{e:Int}(h:Rd W p l e)(ht:t≠p)(v:Value):Rd (W.setCell ⟨t,o,none⟩ v) p l e:=by
 unfold Rd;rw[Below.heap_setCell _ _ _ _ (by intro e;simp at e;omega)];exact h
theorem Only.undrew {p:Nat}{w w':World}(h:Only p w.drew w'):Only p w w':=⟨h.os,h.tape,h.output,h.size,h.block⟩
theorem rd_le (l:List UInt8)(e n:Int):(rdText l e n).2.1.length≤l.length:=by
 unfold rdText
 repeat' split
 all_goals simp
theorem rd_le1 (l:List UInt8)(e n:Int):(rdText l e n).1.length≤l.length:=by
 unfold rdText
 repeat' split
 all_goals simp
 all_goals omega
def TK (w:World)(q:Nat)(W:World)(l:List UInt8)(e:Int):Prop:=Rd W w.heap.size l e∧W.cell? ⟨q,0,none⟩=some (.pointer (some ⟨w.heap.size,0,none⟩))∧Below w.heap.size w W∧q<W.heap.size∧w.heap.size<q
theorem TK.next {w W W':World}{q:Nat}{l l':List UInt8}{e e':Int}(h:TK w q W l e)(hr:Rd W' w.heap.size l' e')(ho:Only w.heap.size W W'):TK w q W' l' e':=by
 obtain⟨h1,h2,h3,h4,h5⟩:=h
 exact⟨hr,(ho.cell h4 (by omega)).trans h2,h3.trans (ho.below (Nat.le_refl _) h3.size),Nat.lt_of_lt_of_le h4 ho.size,h5⟩
theorem TK.rd {w W:World}{q:Nat}{l:List UInt8}{e:Int}(h:TK w q W l e):Rd W w.heap.size l e:=h.1
theorem TK.ptr {w W:World}{q:Nat}{l:List UInt8}{e:Int}(h:TK w q W l e):W.cell? ⟨q,0,none⟩=some (.pointer (some ⟨w.heap.size,0,none⟩)):=h.2.1
theorem TK.bel {w W:World}{q:Nat}{l:List UInt8}{e:Int}(h:TK w q W l e):Below w.heap.size w W:=h.2.2.1
theorem TK.lt {w W:World}{q:Nat}{l:List UInt8}{e:Int}(h:TK w q W l e):q<W.heap.size:=h.2.2.2.1
theorem TK.ne {w W:World}{q:Nat}{l:List UInt8}{e:Int}(h:TK w q W l e):q≠w.heap.size:=Nat.ne_of_gt h.2.2.2.2
theorem rd_one (c:UInt8)(r:List UInt8):rdText (c::r) 0 1=([c],r,0):=rdText_app [c] r 1 rfl (by omega)
theorem numOf_one (c:UInt8):numOf [c]=(c.toNat:Int):=by simp[numOf]
theorem rd_exact (a r:List UInt8):rdText (a++r) 0 (a.length:Int)=(a,r,0):=by
 by_cases h:a.length=0
 ·have:a=[]:=List.eq_nil_of_length_eq_zero h
  subst this;rfl
 ·exact rdText_app a r a.length rfl (by omega)
def MB (W:World)(p:Nat)(a b c d e f:Int):Prop:=W.heap[p]?=some (.cells #[.int .u8 a,.int .u8 b,.int .u8 c,.int .u8 d,.int .u8 e,.int .u8 f] 25)
theorem MB.lt {W:World}{p:Nat}{a b c d e f:Int}(h:MB W p a b c d e f):p<W.heap.size:=by
 rcases Nat.lt_or_ge p W.heap.size with h1|h1
 ·exact h1
 ·unfold MB at h;rw[Array.getElem?_eq_none h1] at h;cases h
theorem MB.c0 {W:World}{p:Nat}{a b c d e f:Int}(h:MB W p a b c d e f):W.cell? ⟨p,0,none⟩=some (.int .u8 a):=by
 unfold MB at h;simp[World.cell?,h]
theorem MB.f0 {W:World}{p:Nat}{a b c d e f:Int}(h:MB W p a b c d e f):W.frozen? ⟨p,0,none⟩=false:=by
 unfold MB at h;simp[World.frozen?,h]
theorem MB.c1 {W:World}{p:Nat}{a b c d e f:Int}(h:MB W p a b c d e f):W.cell? ⟨p,1,none⟩=some (.int .u8 b):=by
 unfold MB at h;simp[World.cell?,h]
theorem MB.f1 {W:World}{p:Nat}{a b c d e f:Int}(h:MB W p a b c d e f):W.frozen? ⟨p,1,none⟩=false:=by
 unfold MB at h;simp[World.frozen?,h]
theorem MB.c2 {W:World}{p:Nat}{a b c d e f:Int}(h:MB W p a b c d e f):W.cell? ⟨p,2,none⟩=some (.int .u8 c):=by
 unfold MB at h;simp[World.cell?,h]
theorem MB.f2 {W:World}{p:Nat}{a b c d e f:Int}(h:MB W p a b c d e f):W.frozen? ⟨p,2,none⟩=false:=by
 unfold MB at h;simp[World.frozen?,h]
theorem MB.c3 {W:World}{p:Nat}{a b c d e f:Int}(h:MB W p a b c d e f):W.cell? ⟨p,3,none⟩=some (.int .u8 d):=by
 unfold MB at h;simp[World.cell?,h]
theorem MB.f3 {W:World}{p:Nat}{a b c d e f:Int}(h:MB W p a b c d e f):W.frozen? ⟨p,3,none⟩=false:=by
 unfold MB at h;simp[World.frozen?,h]
theorem MB.c4 {W:World}{p:Nat}{a b c d e f:Int}(h:MB W p a b c d e f):W.cell? ⟨p,4,none⟩=some (.int .u8 e):=by
 unfold MB at h;simp[World.cell?,h]
theorem MB.f4 {W:World}{p:Nat}{a b c d e f:Int}(h:MB W p a b c d e f):W.frozen? ⟨p,4,none⟩=false:=by
 unfold MB at h;simp[World.frozen?,h]
theorem MB.c5 {W:World}{p:Nat}{a b c d e f:Int}(h:MB W p a b c d e f):W.cell? ⟨p,5,none⟩=some (.int .u8 f):=by
 unfold MB at h;simp[World.cell?,h]
theorem MB.f5 {W:World}{p:Nat}{a b c d e f:Int}(h:MB W p a b c d e f):W.frozen? ⟨p,5,none⟩=false:=by
 unfold MB at h;simp[World.frozen?,h]
theorem MB.s0 {W:World}{p:Nat}{a b c d e f:Int}(h:MB W p a b c d e f)(y:Int):MB (W.setCell ⟨p,0,none⟩ (.int .u8 y)) p y b c d e f:=by
 unfold MB at *
 simp[World.setCell,Array.getElem?_modify,h]
theorem MB.s1 {W:World}{p:Nat}{a b c d e f:Int}(h:MB W p a b c d e f)(y:Int):MB (W.setCell ⟨p,1,none⟩ (.int .u8 y)) p a y c d e f:=by
 unfold MB at *
 simp[World.setCell,Array.getElem?_modify,h]
theorem MB.s2 {W:World}{p:Nat}{a b c d e f:Int}(h:MB W p a b c d e f)(y:Int):MB (W.setCell ⟨p,2,none⟩ (.int .u8 y)) p a b y d e f:=by
 unfold MB at *
 simp[World.setCell,Array.getElem?_modify,h]
theorem MB.s3 {W:World}{p:Nat}{a b c d e f:Int}(h:MB W p a b c d e f)(y:Int):MB (W.setCell ⟨p,3,none⟩ (.int .u8 y)) p a b c y e f:=by
 unfold MB at *
 simp[World.setCell,Array.getElem?_modify,h]
theorem MB.s4 {W:World}{p:Nat}{a b c d e f:Int}(h:MB W p a b c d e f)(y:Int):MB (W.setCell ⟨p,4,none⟩ (.int .u8 y)) p a b c d y f:=by
 unfold MB at *
 simp[World.setCell,Array.getElem?_modify,h]
theorem MB.s5 {W:World}{p:Nat}{a b c d e f:Int}(h:MB W p a b c d e f)(y:Int):MB (W.setCell ⟨p,5,none⟩ (.int .u8 y)) p a b c d e y:=by
 unfold MB at *
 simp[World.setCell,Array.getElem?_modify,h]
theorem MB.new (W:World)(a b c d e f:Int):MB (W.alloc (.cells #[.int .u8 a,.int .u8 b,.int .u8 c,.int .u8 d,.int .u8 e,.int .u8 f] 25)) W.heap.size a b c d e f:=by
 unfold MB
 show(W.heap.push _)[W.heap.size]?=_
 simp
theorem MB.new' {W:World}{p:Nat}(hp:W.heap.size=p)(a b c d e f:Int):MB (W.alloc (.cells #[.int .u8 a,.int .u8 b,.int .u8 c,.int .u8 d,.int .u8 e,.int .u8 f] 25)) p a b c d e f:=hp ▸ MB.new W a b c d e f
theorem MB.other {W:World}{p q:Nat}{o:Nat}{a b c d e f:Int}(h:MB W p a b c d e f)(hq:q≠p)(v:Value):MB (W.setCell ⟨q,o,none⟩ v) p a b c d e f:=by
 unfold MB at *
 simp[World.setCell,Array.getElem?_modify,h,hq]
theorem MB.later {q:Nat}{w w':World}{a b c d e f:Int}(hr:MB w q a b c d e f)(h:Below w.heap.size w w'):MB w' q a b c d e f:=by
 unfold MB;rw[h.block q hr.lt];exact hr
theorem MB.only {p q:Nat}{w w':World}{a b c d e f:Int}(hr:MB w q a b c d e f)(h:Only p w w')(hne:q≠p):MB w' q a b c d e f:=by
 unfold MB;rw[h.block q hr.lt (by simpa using hne)];exact hr
theorem MB.some {W:World}{p n:Nat}{a b c d e f:Int}(h:MB W p a b c d e f)(hn:n≤6):∀ j,j<n→(W.cell? ⟨p,0+j,none⟩).isSome=true:=fun j hj=>by
 rw[Nat.zero_add]
 have:j=0∨j=1∨j=2∨j=3∨j=4∨j=5:=by omega
 rcases this with rfl|rfl|rfl|rfl|rfl|rfl
 ·rw[h.c0];rfl
 ·rw[h.c1];rfl
 ·rw[h.c2];rfl
 ·rw[h.c3];rfl
 ·rw[h.c4];rfl
 ·rw[h.c5];rfl
theorem MB.free {W:World}{p n:Nat}{a b c d e f:Int}(h:MB W p a b c d e f)(hn:n≤6):∀ j,j<n→W.frozen? ⟨p,0+j,none⟩=false:=fun j hj=>by
 rw[Nat.zero_add]
 have:j=0∨j=1∨j=2∨j=3∨j=4∨j=5:=by omega
 rcases this with rfl|rfl|rfl|rfl|rfl|rfl
 ·exact h.f0
 ·exact h.f1
 ·exact h.f2
 ·exact h.f3
 ·exact h.f4
 ·exact h.f5
theorem MB.cells {W:World}{p:Nat}{a b c d e f:Int}(h:MB W p a b c d e f)(y0 y1 y2 y3 y4 y5:Int):MB (W.setCells p 0 [.int .u8 y0,.int .u8 y1,.int .u8 y2,.int .u8 y3,.int .u8 y4,.int .u8 y5]) p y0 y1 y2 y3 y4 y5 :=
 (((((h.s0 y0).s1 y1).s2 y2).s3 y3).s4 y4).s5 y5
theorem MB.cellsOther {p q:Nat}{a b c d e f:Int}(hq:q≠p):∀ (vs:List Value) (o:Nat) (W:World),MB W p a b c d e f→MB (W.setCells q o vs) p a b c d e f
 |[],_,_,h=>h
 | v::r,o,W,h=>MB.cellsOther hq r (o+1) _ (h.other hq v)
theorem Rd.cellsOther {p q:Nat}{l:List UInt8}{e:Int}(hq:q≠p):∀ (vs:List Value) (o:Nat) (W:World),Rd W p l e→Rd (W.setCells q o vs) p l e
 |[],_,_,h=>h
 | v::r,o,W,h=>Rd.cellsOther hq r (o+1) _ (h.setOther hq v)
theorem Only.cells {p t:Nat}{w:World}(ht:w.heap.size≤t):∀ (vs:List Value) (o:Nat) (W:World),Only p w W→Only p w (W.setCells t o vs)
 |[],_,_,h=>h
 | v::r,o,W,h=>Only.cells ht r (o+1) _ (h.setNew ht v)
end Go.Proofs.YtlkdfofpnmpidaaGreat
