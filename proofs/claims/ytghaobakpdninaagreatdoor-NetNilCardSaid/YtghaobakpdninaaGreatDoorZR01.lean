/- ZR01 -/
import Derived.ProofKit
import Derived.Lib.Hide
import Derived.OrdersHeld
import Derived.Deep.RegionHeld
import Derived.Test.YtghaobakpdninaaGreatDoorRows
import Derived.WalkKit
import Derived.WalkSpells
import Derived.WalkLawsBesides
import Derived.Deep.RegionWith
import Derived.BigQuiet
import Derived.Lib.AppendStr
import Derived.Laws.AppendOwnNone
set_option linter.unusedVariables false
set_option linter.unusedSimpArgs false
set_option maxRecDepth 100000
set_option maxHeartbeats 16000000
namespace Go.Proofs.YtghaobakpdninaaGreatDoor
open Go.RowKit
theorem tkH {P:Program}{md:Region.Mode}{ops:Array Oper}{Q:Exit→Act→World→Prop}{S:World→Prop}(i:Nat){oi:Oper}(v:Value){fuel:Nat}{listed:Array Bool}{a:Act}{w:World}
  (hy:∀ w,S w→(execOp a.eval oi).run P w=.ok (.value v) w) (h:wpAnyH P md ops Q S fuel (listed.setIfInBounds i true) (a.put oi.dst v) w)
  (hi:ops[i]?=some oi:=by rfl) (hs:Region.noSelect ops=true:=by kernel_rfl) (hf:Region.free md ops listed i=true:=by kernel_rfl) (hr:(Region.ready md ops listed).contains i=true:=by kernel_rfl)
  (hQ:∀ c a w,Q (.panic c) (a.put oi.dst v) w→Q (.panic c) a w:=by exact fun _ _ _ h=>h) (hg:Region.wanted oi (yielded ops a.tmps)=true:=by rfl) (hS:S w:=by assumption):wpAnyH P md ops Q S (fuel+1) listed a w :=
 wpAnyH_take hi hs hf hr hQ (Or.inl ⟨hg,hy⟩) hS h
theorem rdH {P:Program}{md:Region.Mode}{ops:Array Oper}{Q:Exit→Act→World→Prop}{S:World→Prop}(i:Nat){o:Oper}{fuel:Nat}{listed:Array Bool}{a:Act}{w:World}
  (h:∀ K':Act→World→Prop,Shut (∀ a w,S w→(S w→wpAnyH P md ops Q S fuel (listed.setIfInBounds i true) a w)→K' a w)→if Region.wanted o (yielded ops a.tmps)=true then Oper.wp P o a w K' Q else K' (a.put o.dst undef) w)
  (hr:Region.ready md ops listed=[i]:=by kernel_rfl) (ho:ops[i]?=some o:=by rfl):wpAnyH P md ops Q S (fuel+1) listed a w:=wpAnyH_ready hr (by simp) (AllReadyH.cons ho h AllReadyH.nil)
theorem zz {α:Type _} :(∀ (l:List α) (i:Nat) (a:α),l.toArray.setIfInBounds i a=(l.set i a).toArray)∧(∀ (x:α) (xs:List α) (a:α),(x::xs).set 0 a=a::xs)∧(∀ (x:α) (xs:List α) (i:Nat) (a:α),(x::xs).set (i+1) a=x::xs.set i a) ∧
  (∀ (xs:List α) (i:Nat) (h:i<xs.toArray.size),xs.toArray[i]=xs[i]'(by simpa using h))∧(∀ (a:α) (l:List α) (h:0<(a::l).length),(a::l)[0]=a)∧(∀ (a:α) (l:List α) (i:Nat) (h:i+1<(a::l).length),(a::l)[i+1]=l[i]'(by simpa using h)) :=
 ⟨fun _ _ _=>List.setIfInBounds_toArray ..,fun _ _ _=>rfl,fun _ _ _ _=>rfl,fun _ _ h=>List.getElem_toArray h,fun _ _ _=>rfl,fun _ _ _ _=>rfl⟩
abbrev yP:Array Value:=#[.int .u8 0,.int .u8 0,.string { data:=#[] },.int .u16 0,.slice none 0 0,.int .u8 0,.int .u8 0,.int .u8 0,.int .u8 0,.int .u8 0,.int .u8 0,.int .u8 0,.slice none 0 0,.int .i64 0,.slice none 0 0,.int .u64 0,.int .u32 0,.string { data:=#[] },.int .i64 0,.int .i64 0,.int .u32 0,.slice none 0 0]
abbrev yT:Array Value:=#[.int .u8 0,.int .u32 0,.int .u8 0,.int .u8 0,.int .u8 0,.int .u8 0,.int .u8 0,.int .u8 0,.int .u8 0,.int .u8 0,.int .u8 0,.int .u8 0,.int .u8 0,.int .u8 0,.int .u8 0]
abbrev yR:Array Value:=#[.int .u8 0,.int .u32 0,.int .u8 0,.bool false,.bool false,.int .u8 0,.int .u8 0,.int .u8 0,.int .u8 0,.int .u8 0,.int .u8 0,.int .u8 0,.int .u8 0,.int .u8 0,.int .u8 0,.int .u8 0,.int .u8 0]
abbrev yM:Array Value:=#[.int .u8 0,.int .u8 0,.int .u8 0,.int .u8 0,.int .u8 0,.int .u8 0]
abbrev yU:Array Value:=#[.int .u8 0,.int .u8 0,.int .u8 0,.string { data:=#[] },.slice none 0 0]
abbrev yS:Array Value:=#[.int .u8 0,.int .u8 0,.int .u8 0,.int .u8 0,.int .u8 0,.int .u8 0,.string { data:=#[] }]
theorem hd0 {p:Prop}(h:p):Hid p:=Lib.hid h
theorem bAo {w:World}(o:Obj):Below w.heap.size w (w.alloc o):=(Below.refl _ _).alloc (Nat.le_refl _) o
structure Later (W:World) where
 out:World
 h:Below W.heap.size W out
theorem Later.nonempty (W:World):Nonempty (Later W):=⟨⟨W,Below.refl _ _⟩⟩
attribute [instance] Later.nonempty
theorem Later.cell {W:World}{a:Addr}{v:Value}(h:W.cell? a=some v):∀ k:Later W,k.out.cell? a=some v:=fun k =>
 (k.h.cell (World.block_lt_of_cell? W a h)).trans h
theorem Later.bel {W w:World}(h:Below w.heap.size w W)(k:Later W):Below w.heap.size w k.out:=h.trans (k.h.mono h.size)
theorem Calls.later {P:Program}{f:FuncId}{args:Array Value}{W:World}{k:Later W}{v:Value}
  (h:Calls P f args k.out fun e w'=>e=.returned v∧Below k.out.heap.size k.out w') :
  Calls P f args k.out fun e w''=>e=.returned v∧∃ k':Later W,w''=k'.out :=
 h.mono fun _ w' ⟨he,hb⟩=>⟨he,⟨w',k.h.trans (hb.mono k.h.size)⟩,rfl⟩
theorem Calls.later_same {P:Program}{f:FuncId}{args:Array Value}{W:World}{k:Later W}{v:Value}
  (h:Calls P f args k.out fun e w'=>e=.returned v∧k.out=w') :
  Calls P f args k.out fun e w''=>e=.returned v∧∃ k':Later W,w''=k'.out :=
 h.mono fun _ _ ⟨he,hb⟩=>⟨he,k,hb.symm⟩
theorem below_drawn (W:World):Below W.heap.size W { W with drawn:=W.drawn+1 }:=⟨rfl,rfl,rfl,Nat.le_refl _,fun _ _=>rfl⟩
theorem wp_region_later {P:Program}{id:Nat}{Q:Exit→Act→World→Prop}{a:Act}{W:World}{l:List Oper}(hm:P.follows .mixedOrders=true)(hB:Region.lexB .any l.toArray=true)
  (h:wpQuiet P l.toArray (fun w'=>∃ k:Later W,w'=k.out) (fun a'=>∀ w',(∃ k:Later W,w'=k.out)→Q .normal a' w') l a):(Code.region id l.toArray true).wp P Q a W :=
 wp_region_quiet (C:=fun w'=>∃ k:Later W,w'=k.out) hm hB ⟨⟨_,below_drawn W⟩,rfl⟩ (by simpa using h)
theorem forget {P:Program}{c:Code}{Q:Exit→Act→World→Prop}{a:Act}{W:World}(S:World→Prop)(hS:S W)(h:∀ W,S W→c.wp P Q a W):c.wp P Q a W:=h W hS
theorem info_u8:(Tryz.prog.info? 5).map (fun i=>(i.zero,i.size,i.bytes))=some (some (.int .u8 0),1,1):=by kernel_rfl
def byteV (x:UInt8):Value:=.int .u8 (x.toNat:Int)
def bs (l:List UInt8):ByteArray:=⟨l.toArray⟩
theorem bs_size (l:List UInt8):(bs l).size=l.length:=by simp[bs,ByteArray.size]
theorem bs_extract (l:List UInt8)(a b:Nat):(bs l).extract a b=bs ((l.drop a).take (b-a)):=by
 simp only[bs]
 apply ByteArray.ext
 simp[ByteArray.data_extract]
theorem bs_take (l:List UInt8)(b:Nat):(bs l).extract 0 b=bs (l.take b):=by rw[bs_extract];simp
theorem bs_drop (l:List UInt8)(a b:Nat)(h:l.length≤b):(bs l).extract a b=bs (l.drop a):=by
 rw[bs_extract,List.take_of_length_le (by simp;omega)]
theorem bs_append (a b:List UInt8):bs a++bs b=bs (a++b):=by
 apply ByteArray.ext
 simp[bs]
theorem bs_get (l:List UInt8)(k:Nat)(h:k<(bs l).size)(h':k<l.length):(bs l)[k]'h=l[k]'h':=by
 simp[bs,ByteArray.getElem_eq_getElem_data]
def Bys (w:World)(B:Nat)(v:Value)(l:List UInt8):Prop:=w.ownsRow B 5 1 v l.length (l.map byteV)
theorem Bys.none (w:World)(B:Nat):Bys w B (.slice none 0 0) []:=World.ownsRow_nil w B _ 1
theorem Bys.alloc {w:World}{B:Nat}{v:Value}{l:List UInt8}(h:Bys w B v l)(o:Obj):Bys (w.alloc o) B v l:=World.ownsRow.alloc h o
theorem Bys.later {w w':World}{B:Nat}{v:Value}{l:List UInt8}(h:Bys w B v l)(hb:Below w.heap.size w w'):Bys w' B v l:=by
 obtain⟨h1,h2⟩:=h
 refine⟨h1,?_⟩
 rcases h2 with h2|⟨g,cap,cur,hv,hg,hh,r⟩
 ·exact .inl h2
 ·refine .inr ⟨g,cap,cur,hv,hg,?_,r⟩
  have hlt:g<w.heap.size:=by
   rcases Nat.lt_or_ge g w.heap.size with h|h
   ·exact h
   ·rw[Array.getElem?_eq_none h] at hh;cases hh
  rw[hb.block g hlt];exact hh
theorem Bys.lit (w:World)(B:Nat)(cs:Array Value)(l:List UInt8)(hB:B≤w.heap.size)(hc:cs.toList=l.map byteV)(hl:l.length≤1099511627776):Bys (w.alloc (.cells cs 5)) B (.slice (some ⟨w.heap.size,0,Option.none⟩) l.length l.length) l:=by
 have hs:cs.size=l.length:=by rw[←Array.length_toList,hc];simp
 refine⟨by simp,.inr ⟨w.heap.size,l.length,cs,rfl,hB,heap_alloc_new w _,Nat.le_refl _,by unfold maxLen;omega,by omega,?_⟩⟩
 rw[hc,List.take_of_length_le (by simp)]
theorem Bys.shape {w:World}{B:Nat}{v:Value}{l:List UInt8}(h:Bys w B v l):(v=.slice Option.none 0 0∧l=[])∨∃ g cap,v=.slice (some ⟨g,0,Option.none⟩) l.length cap∧B≤g∧g<w.heap.size∧l.length≤cap∧cap≤maxLen:=by
 rcases h.2 with⟨h1,h2⟩|⟨g,cap,cur,hv,hg,hh,h3,h4,h5,h6⟩
 ·exact .inl ⟨h1,List.eq_nil_of_length_eq_zero h2⟩
 ·refine .inr ⟨g,cap,hv,hg,?_,h3,h4⟩
  rcases Nat.lt_or_ge g w.heap.size with h|h
  ·exact h
  ·rw[Array.getElem?_eq_none h] at hh;cases hh
theorem Bys.cell {w:World}{B g cap:Nat}{l:List UInt8}(h:Bys w B (.slice (some ⟨g,0,Option.none⟩) l.length cap) l)(j:Nat)(hj:j<l.length):w.cell? ⟨g,j,Option.none⟩=some (byteV l[j]):=by
 have:=World.ownsRow.cellAt h j (by simpa using hj)
 rw[this]
 simp[hj]
theorem run_string_bys {w:World}{B:Nat}{v:Value}{l:List UInt8}(h:Bys w B v l):(convert 78 9 v).run Tryz.prog w=.ok (.string (bs l)) w:=by
 rcases h.shape with⟨rfl,rfl⟩|⟨g,cap,rfl,_,_,_,_⟩
 ·rw[run_convert_bytes_string w _ _ 5 Option.none 0 0 Tryz.underlying78 Tryz.underlying5 Tryz.underlying9]
  rfl
 ·exact run_convert_bytes_back w _ _ 5 ⟨g,0,Option.none⟩ cap l Tryz.underlying78 Tryz.underlying5 Tryz.underlying9 (fun j hj=>by
   have h1:=h.cell j hj
   have h2:(⟨g,0,Option.none⟩:Addr).add j=⟨g,j,Option.none⟩:=by cases j <;> simp[Addr.add]
   rw[h2,h1];rfl)
theorem run_add_bs (a b:List UInt8)(h:a.length+b.length≤1099511627776):∀ W:World,(Op.stringOp .add (bs a) (bs b)).run Tryz.prog W=.ok (.string (bs (a++b))) W:=by
 intro W
 rw[run_string_add_sum W (bs a) (bs b) (by rw[bs_size,bs_size];omega),bs_append]
section
variable {w:World} {ops:Array Oper} {rest:List Oper} {o:Oper} {a:Act} {Q:Exit→Act→World→Prop}
theorem wpList_append_bys (hgd:o.guard=Option.none)(s x:Operand)
  (ho:o.op=.call { callee:=.builtin .append,args:=#[s,x],argTypes:=#[78,78] })
  (B:Nat) (v:Value) (l:List UInt8) (hs:a.eval s=v) (hown:Bys w B v l)
  (ad:Addr) (c:Nat) (news:List UInt8) (m:Nat) (hm:m=news.length) (hx:a.eval x=.slice (some ad) m c) (hnews:∀ j (hj:j<news.length),w.cell? (ad.add j)=some (byteV news[j]))
  (hsz:l.length+news.length≤1099511627776) (hB:B≤w.heap.size)
  (h:∀ v' w',Bys w' B v' (l++news)→Below B w w'→wpList Tryz.prog ops Q rest (a.put o.dst v') w'):wpList Tryz.prog ops Q (o::rest) a w:=by
 obtain⟨i,hi,hz0,hz1,hz2⟩:=info_parts info_u8
 subst hm
 refine wpList_append_own w hgd s x 78 ho B 5 i (.int .u8 0) 1 1 Tryz.underlying78 hi hz0 hz1 hz2 rfl (by decide) v l.length (l.map byteV) hs hown ad news.length c (news.map byteV) hx (by simp)
  (fun j u hj=>?_) (fun u hu=>?_) (by unfold maxLen;omega) (by omega) hB (fun v' w' h1 h2 _=>?_)
 ·have hj':j<news.length:=by have:=(List.getElem?_eq_some_iff.1 hj).1;simpa using this
  rw[hnews j hj']
  simp[hj'] at hj
  rw[hj]
 ·obtain⟨b,_,rfl⟩:=List.mem_map.1 hu
  rfl
 ·refine h v' w' (by unfold Bys;simpa using h1) ((Below.refl _ _).grown h2 hB (fun k hk=>?_))
  exact(World.ownsRow.lt hown k hk).1
theorem wpList_append_byte (hgd:o.guard=Option.none)(s x:Operand)
  (ho:o.op=.call { callee:=.builtin .append,args:=#[s,x],argTypes:=#[78,78] })
  (B:Nat) (v:Value) (l:List UInt8) (W:World) (n:Int) (hw:w=W.alloc (.cells #[.int .u8 n] 5)) (hs:a.eval s=v) (hown:Bys W B v l)
  (hx:a.eval x=.slice (some ⟨W.heap.size,0,Option.none⟩) 1 1) (hn:0≤n) (hn2:n<256)
  (hsz:l.length+1≤1099511627776) (hB:B≤W.heap.size)
  (h:∀ v' w',Bys w' B v' (l++[UInt8.ofNat n.toNat])→Below B W w'→wpList Tryz.prog ops Q rest (a.put o.dst v') w'):wpList Tryz.prog ops Q (o::rest) a w:=by
 subst hw
 refine wpList_append_bys hgd s x ho B v l hs (hown.alloc _) ⟨W.heap.size,0,Option.none⟩ 1 [UInt8.ofNat n.toNat] 1 rfl hx (fun j hj=>?_) (by simpa using hsz) (by simp;omega) (fun v' w' h1 h2=>h v' w' h1 (((Below.refl _ _).alloc hB _).trans h2))
 obtain rfl:j=0:=by simpa using hj
 have e:(UInt8.ofNat n.toNat).toNat=n.toNat:=by simp;omega
 simp[Addr.add,byteV,e,Int.toNat_of_nonneg hn]
end
theorem width_uint8 (w:World):Calls Tryz.prog 304 #[] w fun e w'=>e=.returned (.int .i64 1)∧w=w':=by
 have hs:IntKind.u8.signed=false:=rfl
 have hm:bits BinOp.xor IntKind.u8 IntKind.u8.max 0=255:=by decide
 go_enter Tryz.func304,Tryz.ntmps304
 go_wp2
 refine wp_loop_rounds 2 ?_
 iterate 2 (rw[rounds_succ];go_wp2)
 go_ret
 exact⟨rfl,rfl⟩
theorem width_uint16 (w:World):Calls Tryz.prog 237 #[] w fun e w'=>e=.returned (.int .i64 2)∧w=w':=by
 have hs:IntKind.u16.signed=false:=rfl
 have hm:bits BinOp.xor IntKind.u16 IntKind.u16.max 0=65535:=by decide
 go_enter Tryz.func237,Tryz.ntmps237
 go_wp2
 refine wp_loop_rounds 3 ?_
 iterate 3 (rw[rounds_succ];go_wp2)
 go_ret
 exact⟨rfl,rfl⟩
theorem width_uint32 (w:World):Calls Tryz.prog 239 #[] w fun e w'=>e=.returned (.int .i64 4)∧w=w':=by
 have hs:IntKind.u32.signed=false:=rfl
 have hm:bits BinOp.xor IntKind.u32 IntKind.u32.max 0=4294967295:=by decide
 go_enter Tryz.func239,Tryz.ntmps239
 go_wp2
 refine wp_loop_rounds 5 ?_
 iterate 5 (rw[rounds_succ];go_wp2)
 go_ret
 exact⟨rfl,rfl⟩
theorem width_uint64 (w:World):Calls Tryz.prog 117 #[] w fun e w'=>e=.returned (.int .i64 8)∧w=w':=by
 have hs:IntKind.u64.signed=false:=rfl
 have hm:bits BinOp.xor IntKind.u64 IntKind.u64.max 0=18446744073709551615:=by decide
 go_enter Tryz.func117,Tryz.ntmps117
 go_wp2
 refine wp_loop_rounds 9 ?_
 iterate 9 (rw[rounds_succ];go_wp2)
 go_ret
 exact⟨rfl,rfl⟩
def beB (k:Nat)(n:Int)(i:Nat):UInt8:=UInt8.ofNat (n / 2 ^ (8*(k-1-i)) % 256).toNat
def be (k:Nat)(n:Int):List UInt8:=(List.range k).map (beB k n)
def beTo (k:Nat)(n:Int)(i:Nat):List UInt8:=(List.range i).map (beB k n)
theorem beTo_succ (k:Nat)(n:Int)(i:Nat):beTo k n (i+1)=beTo k n i++[beB k n i]:=by
 simp[beTo,List.range_succ]
theorem beTo_length (k:Nat)(n:Int)(i:Nat):(beTo k n i).length=i:=by simp[beTo]
theorem be_length (k:Nat)(n:Int):(be k n).length=k:=by simp[be]
theorem beTo_next {w1:World}{B:Nat}{v':Value}{l:List UInt8}{K:Nat}{n:Int}{k:Nat}{c:Nat}(h:Bys w1 B v' (l++(beTo K n k++[UInt8.ofNat (n / 2 ^ c % 256).toNat])))(hc:c=8*(K-1-k)):Bys w1 B v' (l++beTo K n (k+1)):=by
 rw[beTo_succ];subst hc;exact h
theorem put_uint16 (B:Nat)(v:Value)(l:List UInt8)(n:Int)(w:World)(hB:B≤w.heap.size)(hv:Bys w B v l)(hn:0≤n)(hn2:n<65536)(hl:l.length≤1000000000000) :
  Calls Tryz.prog 176 #[v,.int .u16 n] w fun e w'=>∃ v',e=.returned v'∧Bys w' B v' (l++be 2 n)∧Below B w w':=by
 go_enter Tryz.func176,Tryz.ntmps176
 go_wp2_with (go_at_call 237;refine(width_uint16 _).mono ?_;rintro e w' ⟨rfl,rfl⟩)
 go_loopw [0,9] (fun v i wr=>∃ k:Nat,k≤2∧i=.int .i64 k∧Bys wr B v (l++beTo 2 n k)∧Below B w wr) (fun _ i _=>2-(intOf i).toNat)
 case atStart=>exact⟨0,by omega,rfl,by simpa [beTo] using hv,Below.refl _ _⟩
 case round =>
  obtain⟨k,hk,rfl,hown,hb⟩:=hrel
  by_cases hlt:k<2
  ·have hsz:=hb.size
   go_wp2_with (at_builtin;refine wpList_append_byte rfl (.tmp 12) (.tmp 22) rfl B _ _ wr _ rfl rfl hown rfl ?_ ?_ ?_ ?_ ?_)
   ·exact Int.emod_nonneg _ (by decide)
   ·exact Int.emod_lt_of_pos _ (by decide)
   ·simp[beTo_length];omega
   ·omega
   ·intro v' w1 hown' hb'
    have hb2:=hd0 (hb.trans hb')
    have hown2:=hd0 (beTo_next hown' (by omega))
    clear hb hb' hown hown' hsz
    go_wp2
    go_roundw
    case rel=>exact⟨k+1,by omega,by go_num,hown2.out,hb2.out⟩
    case measure=>simp[intOf];omega
  ·obtain rfl:k=2:=by omega
   go_wp2
   go_ret
   exact⟨_,rfl,hown,hb⟩
theorem put_uint32 (B:Nat)(v:Value)(l:List UInt8)(n:Int)(w:World)(hB:B≤w.heap.size)(hv:Bys w B v l)(hn:0≤n)(hn2:n<4294967296)(hl:l.length≤1000000000000) :
  Calls Tryz.prog 178 #[v,.int .u32 n] w fun e w'=>∃ v',e=.returned v'∧Bys w' B v' (l++be 4 n)∧Below B w w':=by
 go_enter Tryz.func178,Tryz.ntmps178
 go_wp2_with (go_at_call 239;refine(width_uint32 _).mono ?_;rintro e w' ⟨rfl,rfl⟩)
 go_loopw [0,9] (fun v i wr=>∃ k:Nat,k≤4∧i=.int .i64 k∧Bys wr B v (l++beTo 4 n k)∧Below B w wr) (fun _ i _=>4-(intOf i).toNat)
 case atStart=>exact⟨0,by omega,rfl,by simpa [beTo] using hv,Below.refl _ _⟩
 case round =>
  obtain⟨k,hk,rfl,hown,hb⟩:=hrel
  by_cases hlt:k<4
  ·have hsz:=hb.size
   go_wp2_with (at_builtin;refine wpList_append_byte rfl (.tmp 12) (.tmp 22) rfl B _ _ wr _ rfl rfl hown rfl ?_ ?_ ?_ ?_ ?_)
   ·exact Int.emod_nonneg _ (by decide)
   ·exact Int.emod_lt_of_pos _ (by decide)
   ·simp[beTo_length];omega
   ·omega
   ·intro v' w1 hown' hb'
    have hb2:=hd0 (hb.trans hb')
    have hown2:=hd0 (beTo_next hown' (by omega))
    clear hb hb' hown hown' hsz
    go_wp2
    go_roundw
    case rel=>exact⟨k+1,by omega,by go_num,hown2.out,hb2.out⟩
    case measure=>simp[intOf];omega
  ·obtain rfl:k=4:=by omega
   go_wp2
   go_ret
   exact⟨_,rfl,hown,hb⟩
theorem put_uint64 (B:Nat)(v:Value)(l:List UInt8)(n:Int)(w:World)(hB:B≤w.heap.size)(hv:Bys w B v l)(hn:0≤n)(hn2:n<18446744073709551616)(hl:l.length≤1000000000000) :
  Calls Tryz.prog 84 #[v,.int .u64 n] w fun e w'=>∃ v',e=.returned v'∧Bys w' B v' (l++be 8 n)∧Below B w w':=by
 go_enter Tryz.func84,Tryz.ntmps84
 go_wp2_with (go_at_call 117;refine(width_uint64 _).mono ?_;rintro e w' ⟨rfl,rfl⟩)
 go_loopw [0,9] (fun v i wr=>∃ k:Nat,k≤8∧i=.int .i64 k∧Bys wr B v (l++beTo 8 n k)∧Below B w wr) (fun _ i _=>8-(intOf i).toNat)
 case atStart=>exact⟨0,by omega,rfl,by simpa [beTo] using hv,Below.refl _ _⟩
 case round =>
  obtain⟨k,hk,rfl,hown,hb⟩:=hrel
  by_cases hlt:k<8
  ·have hsz:=hb.size
   go_wp2_with (at_builtin;refine wpList_append_byte rfl (.tmp 12) (.tmp 21) rfl B _ _ wr _ rfl rfl hown rfl ?_ ?_ ?_ ?_ ?_)
   ·exact Int.emod_nonneg _ (by decide)
   ·exact Int.emod_lt_of_pos _ (by decide)
   ·simp[beTo_length];omega
   ·omega
   ·intro v' w1 hown' hb'
    have hb2:=hd0 (hb.trans hb')
    have hown2:=hd0 (beTo_next hown' (by omega))
    clear hb hb' hown hown' hsz
    go_wp2
    go_roundw
    case rel=>exact⟨k+1,by omega,by go_num,hown2.out,hb2.out⟩
    case measure=>simp[intOf];omega
  ·obtain rfl:k=8:=by omega
   go_wp2
   go_ret
   exact⟨_,rfl,hown,hb⟩
def Rd (w:World)(p:Nat)(l:List UInt8)(e:Int):Prop:=w.heap[p]?=some (.cells #[.string (bs l),.int .i64 e] 386 (0,0))
theorem Rd.lt {w:World}{p:Nat}{l:List UInt8}{e:Int}(h:Rd w p l e):p<w.heap.size:=by
 rcases Nat.lt_or_ge p w.heap.size with h1|h1
 ·exact h1
 ·unfold Rd at h;rw[Array.getElem?_eq_none h1] at h;cases h
theorem Rd.c0 {w:World}{p:Nat}{l:List UInt8}{e:Int}(h:Rd w p l e):w.cell? ⟨p,0,none⟩=some (.string (bs l)):=by
 unfold Rd at h;simp[World.cell?,h]
theorem Rd.c1 {w:World}{p:Nat}{l:List UInt8}{e:Int}(h:Rd w p l e):w.cell? ⟨p,1,none⟩=some (.int .i64 e):=by
 unfold Rd at h;simp[World.cell?,h]
theorem Rd.f0 {w:World}{p:Nat}{l:List UInt8}{e:Int}(h:Rd w p l e):w.frozen? ⟨p,0,none⟩=false:=by
 unfold Rd at h;simp[World.frozen?,h]
theorem Rd.f1 {w:World}{p:Nat}{l:List UInt8}{e:Int}(h:Rd w p l e):w.frozen? ⟨p,1,none⟩=false:=by
 unfold Rd at h;simp[World.frozen?,h]
theorem Rd.set0 {w:World}{p:Nat}{l:List UInt8}{e:Int}(h:Rd w p l e)(l':List UInt8):Rd (w.setCell ⟨p,0,none⟩ (.string (bs l'))) p l' e:=by
 unfold Rd at *
 simp[World.setCell,Array.getElem?_modify,h]
theorem Rd.set1 {w:World}{p:Nat}{l:List UInt8}{e:Int}(h:Rd w p l e)(e':Int):Rd (w.setCell ⟨p,1,none⟩ (.int .i64 e')) p l e':=by
 unfold Rd at *
 simp[World.setCell,Array.getElem?_modify,h]
def Only (p:Nat)(w w':World):Prop:=w.grownBy w' (some p)
theorem Only.refl (p:Nat)(w:World):Only p w w:=World.grownBy.refl w _
theorem Only.trans {p:Nat}{a b c:World}(h:Only p a b)(k:Only p b c):Only p a c :=
 ⟨k.os.trans h.os,k.tape.trans h.tape,k.output.trans h.output,Nat.le_trans h.size k.size,fun i hi hne=>(k.block i (Nat.lt_of_lt_of_le hi h.size) hne).trans (h.block i hi hne)⟩
theorem Only.set (p:Nat)(w:World)(o:Nat)(v:Value):Only p w (w.setCell ⟨p,o,none⟩ v) :=
 ⟨rfl,rfl,rfl,by simp[World.setCell],fun k hk hne=>Below.heap_setCell _ _ _ _ (by intro e;exact hne (by rw[e]))⟩
theorem Only.below {p B:Nat}{w w':World}(h:Only p w w')(hB:B≤p)(hs:B≤w.heap.size):Below B w w' :=
 (Below.refl _ _).grown h hs (fun k hk=>by cases hk;exact hB)
theorem Rd.later {q:Nat}{w w':World}{l:List UInt8}{e:Int}(hr:Rd w q l e)(h:Below w.heap.size w w'):Rd w' q l e:=by
 unfold Rd;rw[h.block q hr.lt];exact hr
theorem of_any (l:List UInt8)(w:World):Calls Tryz.prog 142 #[.string (bs l)] w fun e w'=>e=.returned (.pointer (some ⟨w.heap.size,0,none⟩))∧Rd w' w.heap.size l 0∧Below w.heap.size w w'∧w.heap.size<w'.heap.size:=by
 go_enter Tryz.func142,Tryz.ntmps142
 go_wp2
 go_ret
 refine⟨rfl,?_,(Below.refl _ _).alloc (by simp) _,by simp⟩
 unfold Rd
 exact heap_alloc_new w _
def rdFail (l:List UInt8)(e x:Int):List UInt8 × Int:=if e=0 then([],x) else(l,e)
theorem fail_any (p:Nat)(l:List UInt8)(e x:Int)(w:World)(hr:Rd w p l e) :
  Calls Tryz.prog 194 #[.pointer (some ⟨p,0,none⟩),.int .i64 x] w fun en w'=>en=.returned (.tuple #[])∧Rd w' p (rdFail l e x).1 (rdFail l e x).2∧Only p w w':=by
 have c0:=hr.c0
 have c1:=hr.c1
 have f0:=hr.f0
 have f1:=hr.f1
 have HR:=hd0 hr;clear hr
 by_cases he:e=0
 ·subst he
  go_enter Tryz.func194,Tryz.ntmps194
  go_wp2
  go_end0
  exact⟨rfl,(HR.out.set0 []).set1 x,(Only.set p w 0 _).trans (Only.set p _ 1 _)⟩
 ·have he':(e==0)=false:=by simp[he]
  have hv:rdFail l e x=(l,e):=by unfold rdFail;rw[if_neg he]
  rw[hv]
  clear he hv
  go_enter Tryz.func194,Tryz.ntmps194
  go_wp2
  go_end0
  exact⟨rfl,HR.out,Only.refl _ _⟩
end Go.Proofs.YtghaobakpdninaaGreatDoor
