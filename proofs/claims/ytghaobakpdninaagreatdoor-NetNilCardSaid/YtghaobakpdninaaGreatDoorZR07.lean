/- ZR07 -/
import Derived.Test.YtghaobakpdninaaGreatDoorZR06
import Derived.DeepKeys4
set_option linter.unusedVariables false
set_option linter.unusedSimpArgs false
set_option maxRecDepth 100000
set_option maxHeartbeats 16000000
namespace Go.Proofs.YtghaobakpdninaaGreatDoor
open Go.RowKit
def M0b (W:World)(s:Nat):Prop:=W.heap[s]?=some (.map #[] 0)
theorem M0b.lt {W:World}{s:Nat}(h:M0b W s):s<W.heap.size:=(Array.getElem?_eq_some_iff.1 h).1
structure FT (W:World)(f s:Nat)(v:Value):Prop where
 g:GB 296 W f #[v,.map (some s)]
 m:M0b W s
 ne:f≠s
section
variable {W W':World} {f s:Nat} {v:Value}
theorem FT.blk (h:FT W f s v)(e1:W'.heap[f]?=W.heap[f]?)(e2:W'.heap[s]?=W.heap[s]?):FT W' f s v:=⟨e1.trans h.g,e2.trans h.m,h.ne⟩
theorem FT.later (h:FT W f s v)(hb:Below W.heap.size W W'):FT W' f s v:=h.blk (hb.block f h.g.lt) (hb.block s h.m.lt)
theorem FT.c0 (h:FT W f s v):W.cell? ⟨f,0,none⟩=some v:=h.g.c 0 _ rfl
theorem FT.c1 (h:FT W f s v):W.cell? ⟨f,1,none⟩=some (.map (some s)):=h.g.c 1 _ rfl
theorem FT.set (h:FT W f s v)(u:Value):FT (W.setCell ⟨f,0,none⟩ u) f s u:=⟨h.g.set 0 u,by unfold M0b;rw[Below.heap_setCell _ _ _ _ (by intro e;simp at e;exact h.ne e.symm)];exact h.m,h.ne⟩
end
theorem fnew_any (w:World):Calls Tryz.prog 86 #[] w fun en w'=>∃ f s:Nat,en=.returned (.pointer (some ⟨f,0,none⟩))∧FT w' f s (.slice none 0 0)∧Below w.heap.size w w'∧w.heap.size≤f∧w.heap.size≤s:=by
 have run0:(Instr.makeMap 293 none).run Tryz.prog w=.ok (.map (some w.heap.size)) (w.alloc (.map #[] 0)):=rfl
 have hb:Below w.heap.size w ((w.alloc (.map #[] 0)).alloc (.cells #[.slice none 0 0,.map (some w.heap.size)] 296)):=(bAo _).alloc (by simp) _
 have ht:FT ((w.alloc (.map #[] 0)).alloc (.cells #[.slice none 0 0,.map (some w.heap.size)] 296)) (w.heap.size+1) w.heap.size (.slice none 0 0):=by
  refine⟨?_,?_,by omega⟩
  ·have:=GB.new 296 (w.alloc (.map #[] 0)) #[.slice none 0 0,.map (some w.heap.size)]
   rwa [show(w.alloc (.map #[] 0)).heap.size=w.heap.size+1 by simp] at this
  ·exact(Below.heap_alloc _ _ _ (by simp)).trans (heap_alloc_new w _)
 have HX:=hd0 (And.intro hb ht)
 clear hb ht
 go_enter Tryz.func86,Tryz.ntmps86
 go_wp2
 go_ret
 exact⟨_,_,rfl,HX.out.2,HX.out.1,by simp,by simp⟩
theorem fidx_nil (fv:Value)(w:World):Calls Tryz.prog 236 #[.slice none 0 0,fv] w fun en w'=>en=.returned (.int .i64 (-1))∧w'=w:=by
 go_enter Tryz.func236,Tryz.ntmps236
 go_wp2
 go_loopw [8] (fun i wr=>i=.int .i64 0∧wr=w) (fun _ _=>0)
 case atStart=>exact⟨rfl,rfl⟩
 case round =>
  obtain⟨rfl,rfl⟩:=hrel
  go_wp2
  go_ret
  exact⟨rfl,rfl⟩
theorem fdel_nil (fv:Value)(w:World):Calls Tryz.prog 174 #[.slice none 0 0,fv] w fun en w'=>en=.returned (.slice none 0 0)∧w'=w:=by
 go_enter Tryz.func174,Tryz.ntmps174
 go_wp2_with (go_at_call 236;refine(fidx_nil _ _).mono ?_;rintro e w' ⟨rfl,rfl⟩)
 go_ret
 exact⟨rfl,rfl⟩
theorem fdrop_nil (f s:Nat)(fv:Value)(w:World)(h:FT w f s (.slice none 0 0)):Calls Tryz.prog 119 #[.pointer (some ⟨f,0,none⟩),fv] w fun en w'=>en=.returned (.int .i64 0)∧FT w' f s (.slice none 0 0)∧Only f w w':=by
 have c0:=h.c0
 have f0:=h.g.fr 0
 have H:=hd0 h
 clear h
 go_enter Tryz.func119,Tryz.ntmps119
 go_wp2_with (go_at_call 174;refine(fdel_nil _ _).mono ?_;rintro e w' ⟨rfl,rfl⟩)
 go_ret
 exact⟨rfl,H.out.set _,Only.set _ _ _ _⟩
theorem fdrop_nil' (f s:Nat)(fv:Value)(w:World)(h:FT w f s (.slice none 0 0)):Calls Tryz.prog 119 #[.pointer (some ⟨f,0,none⟩),fv] w fun en w'=>en=.returned (.int .i64 0)∧w'=w:=by
 have c0:=h.c0
 have f0:=h.g.fr 0
 have sc:=setCell_id c0
 clear h
 go_enter Tryz.func119,Tryz.ntmps119
 go_wp2_with (go_at_call 174;refine(fdel_nil _ _).mono ?_;rintro e w' ⟨rfl,rfl⟩)
 go_ret
 exact⟨rfl,rfl⟩
theorem fflush_nil (f s:Nat)(x:Int)(w:World)(h:FT w f s (.slice none 0 0)):Calls Tryz.prog 89 #[.pointer (some ⟨f,0,none⟩),.int .u8 x] w fun en w'=>en=.returned (.int .i64 0)∧Below w.heap.size w w':=by
 have hb:=(Below.refl w.heap.size w).alloc (Nat.le_refl _) (.cells #[.int .u8 x] 5)
 have D:Hid (∀ fv,Calls Tryz.prog 119 #[.pointer (some ⟨f,0,none⟩),fv] (w.alloc (.cells #[.int .u8 x] 5)) fun en w'=>en=.returned (.int .i64 0)∧Below w.heap.size w w'):=hd0 fun fv=>(fdrop_nil' f s fv _ (h.later hb)).mono (by rintro e w' ⟨rfl,rfl⟩;exact⟨rfl,hb⟩)
 clear hb h
 go_enter Tryz.func89,Tryz.ntmps89
 go_wp2_with (go_at_call 119;with_reducible refine(D.out _).mono ?_;rintro e w' ⟨rfl,hb⟩)
 go_ret
 exact⟨rfl,hb⟩
theorem rvlans_any (r:Nat)(q f:Value)(w:World)(h:w.cell? ⟨r,0,none⟩=some q)(hq:∃ a,q=.pointer (some ⟨a,0,none⟩)):Calls Tryz.prog 152 #[.pointer (some ⟨r,0,none⟩)] w fun en w'=>en=.returned q∧w'=w:=by
 obtain⟨a,rfl⟩:=hq
 go_enter Tryz.func152,Tryz.ntmps152
 go_wp2
 go_ret
 exact⟨rfl,rfl⟩
theorem rbase_any (r:Nat)(q f:Value)(w:World)(h:w.cell? ⟨r,1,none⟩=some q)(hq:∃ a,q=.pointer (some ⟨a,0,none⟩)):Calls Tryz.prog 88 #[.pointer (some ⟨r,0,none⟩)] w fun en w'=>en=.returned q∧w'=w:=by
 obtain⟨a,rfl⟩:=hq
 go_enter Tryz.func88,Tryz.ntmps88
 go_wp2
 go_ret
 exact⟨rfl,rfl⟩
structure RL (W:World)(r q vm f s:Nat)(n:Int)(o:List Int)(V:List Vn)(v:Value):Prop where
 g:GB 237 W r #[.pointer (some ⟨q,0,none⟩),.pointer (some ⟨f,0,none⟩)]
 ts:TS W q n vm o V
 ft:FT W f s v
 nr:r≠q∧r≠vm∧r≠f∧r≠s∧q≠f∧q≠s∧vm≠f∧vm≠s
section
variable {W W':World} {r q vm f s:Nat} {n:Int} {o:List Int} {V:List Vn} {v:Value}
theorem RL.c0 (h:RL W r q vm f s n o V v):W.cell? ⟨r,0,none⟩=some (.pointer (some ⟨q,0,none⟩)):=h.g.c 0 _ rfl
theorem RL.c1 (h:RL W r q vm f s n o V v):W.cell? ⟨r,1,none⟩=some (.pointer (some ⟨f,0,none⟩)):=h.g.c 1 _ rfl
theorem RL.later (h:RL W r q vm f s n o V v)(hb:Below W.heap.size W W'):RL W' r q vm f s n o V v:=⟨h.g.later hb,h.ts.later hb,h.ft.later hb,h.nr⟩
end
theorem rnew_any (n:Int)(w:World)(hn:1≤n∧n≤8):Calls Tryz.prog 64 #[.int .i64 n] w fun en w'=>∃ r q vm f s:Nat,en=.returned (.tuple #[.pointer (some ⟨r,0,none⟩),.int .i64 0])∧RL w' r q vm f s n [0,0,0,0,0,0,0,0] [] (.slice none 0 0)∧Below w.heap.size w w'∧w.heap.size≤r∧w.heap.size≤q∧w.heap.size≤vm∧w.heap.size≤f∧w.heap.size≤s:=by
 have VN:=hd0 (vnew_any n w hn)
 clear hn
 go_enter Tryz.func64,Tryz.ntmps64
 go_wp2_with (first
  |(go_at_call 85;with_reducible refine VN.out.mono ?_;rintro e w1 ⟨q,m,rfl,ht,hb1,hq,hm⟩)
  |(go_at_call 86;refine(fnew_any _).mono ?_;rintro e w2 ⟨f,s,rfl,hf,hb2,hlf,hls⟩))
 have hq1:=ht.tb.lt
 have hm1:=ht.vm.lt
 have hf2:=hf.g.lt
 have hs2:=hf.m.lt
 have hz:=hb1.size
 have hz2:=hb2.size
 have hba:=(Below.refl w2.heap.size w2).alloc (Nat.le_refl _) (.cells #[.pointer (some ⟨q,0,none⟩),.pointer (some ⟨f,0,none⟩)] 237)
 refine bodyPost_ret (v:=.tuple #[.pointer (some ⟨w2.heap.size,0,none⟩),.int .i64 0]) (by simp[results,Tryz.results64,go_sem]) rfl ⟨w2.heap.size,q,m,f,s,rfl,⟨GB.new _ _ _,(ht.later hb2).later hba,hf.later hba,?_⟩,(hb1.trans (hb2.mono hz)).trans (hba.mono (Nat.le_trans hz hz2)),by omega,hq,hm,by omega,by omega⟩
 refine⟨?_,?_,?_,?_,?_,?_,?_,?_⟩ <;> omega
theorem cnew_any (n:Int)(w:World)(hn:1≤n∧n≤8):Calls Tryz.prog 65 #[.int .i64 n] w fun en w'=>∃ c:Nat,en=.returned (.tuple #[.pointer (some ⟨c,0,none⟩),.int .i64 0])∧Below w.heap.size w w':=by
 have d1:decide (n<1)=false:=decide_eq_false (by omega)
 have d8:decide ((8:Int)<n)=false:=decide_eq_false (by omega)
 have run0:(Instr.makeMap 238 none).run Tryz.prog w=.ok (.map (some w.heap.size)) (w.alloc (.map #[] 0)):=rfl
 clear hn
 go_enter Tryz.func65,Tryz.ntmps65
 go_wp2
 refine bodyPost_ret (v:=.tuple #[.pointer (some ⟨w.heap.size+1,0,none⟩),.int .i64 0]) (by simp[results,Tryz.results65,go_sem]) rfl ⟨_,rfl,(bAo _).alloc (by simp) _⟩
open Go.Maps (Keyed)
theorem place_keyed:Keyed Tryz.prog 475:=Keyed.of_law (deep_law_laid (m:=3) (by kernel_rfl) (by decide) (by decide +kernel) (by kernel_rfl) (by kernel_rfl))
def u8El (v:Value):Option (DataW Unit × List MemPlace):=match v with|.int .u8 a=>some (.lit (.int .u8 a),[])|_=>none
theorem own_empty {P:Program}{k:TypeId}{R:Value→Option (DataW Unit × List MemPlace)}{W:World}{s:Nat}(h:M0b W s):W.ownsMap P k R s 0 (.map []):=by
 obtain⟨es,clock,hb,F,hs,hD⟩:=World.ownsMap_made W P k R
 have e:(W.alloc (.map #[] 0)).heap[W.heap.size]?=some (.map #[] 0):=heap_alloc_new W _
 rw[e] at hb
 injection hb with hb
 injection hb with h1 h2
 subst h1 h2
 exact⟨#[],0,h,F,hs,hD⟩
theorem zero_u8 (W:World):(zeroValue 5).run Tryz.prog W=.ok (.int .u8 0) W:=by kernel_rfl
theorem flook0 {W:World}{s:Nat}(h:M0b W s){key:Value}{kl:Lit}(hk:keyOf Tryz.prog 475 key=some kl):(Instr.lookup 293 (.map (some s)) key true).run Tryz.prog W=.ok (.tuple #[.int .u8 0,.bool false]) W:=by
 obtain⟨v,ps,hrun,hv⟩:=(own_empty (R:=u8El) h).look_ok place_keyed Tryz.underlying293 (zero_u8 W) (z:=.int .u8 0) (zd:=.lit (.int .u8 0)) (zp:=[]) rfl hk
 have e3:Maps.has (DataW.map []:DataW Unit) kl=false:=rfl
 have e1:(DataW.map []:DataW Unit).atKey kl (.lit (.int .u8 0))=.lit (.int .u8 0):=rfl
 rw[e1] at hv
 have e2:v=.int .u8 0:=by
  unfold u8El at hv
  split at hv
  ·simp only[Option.some.injEq,Prod.mk.injEq,DataW.lit.injEq,Lit.int.injEq,true_and] at hv
   rw[hv.1]
  ·cases hv
 rw[e2,e3] at hrun
 exact hrun
theorem keyA:(keyOf Tryz.prog 475 (.agg #[.int .u16 1,.int .u8 2,.int .u8 0,.int .u8 0,.int .u8 0,.int .u8 0,.int .u8 1])).isSome=true:=by kernel_rfl
theorem keyB:(keyOf Tryz.prog 475 (.agg #[.int .u16 1,.int .u8 255,.int .u8 255,.int .u8 255,.int .u8 255,.int .u8 255,.int .u8 255])).isSome=true:=by kernel_rfl
theorem fmay_one (w:World):Calls Tryz.prog 279 #[.int .u16 1] w fun en w'=>en=.returned (.bool true)∧w'=w:=by
 go_enter Tryz.func279,Tryz.ntmps279
 go_wp2
 go_ret
 exact⟨rfl,rfl⟩
theorem info_entry:(Tryz.prog.info? 299).map (fun i=>(i.zero,i.size,i.bytes))=some (some (.agg #[.int .u16 0,.int .u8 0,.int .u8 0,.int .u8 0,.int .u8 0,.int .u8 0,.int .u8 0,.int .u8 0,.int .i64 0]),9,24):=by kernel_rfl
section
variable {α:Type} {k:Nat} {f:α→List Value} {w:World} {ops:Array Oper} {o:Oper} {a:Act} {Q:Exit→Act→World→Prop} {K:Act→World→Prop}
theorem step_append_ow {X:Prop}(hf:∀ x,(f x).length=k)(h1c:∀ x,∀ u∈f x,u.oneCell'=true)(E S:TypeId)(z:Value)(by_:Nat)(hu:Tryz.prog.underlying S=some (.slice E))(hi:(Tryz.prog.info? E).map (fun i=>(i.zero,i.size,i.bytes))=some (some z,k,by_))(hz:z.cells.size=k)(hk:0<k)(hby:by_≤1000)
  (hgd:o.guard=Option.none) (s x:Operand) (ho:o.op=.call { callee:=.builtin .append,args:=#[s,x],argTypes:=#[S,S] })
  (B:Nat) (v:Value) (l:List α) (hs:a.eval s=v) (hown:Ow k f E w B v l) (u:Value) (t:List α) (hx:a.eval x=u) (hsrc:Rw k f w u t)
  (hsz:l.length+t.length≤100000000000) (hB:B≤w.heap.size)
  (h:∀ v' w',Ow k f E w' B v' (l++t)→Below B w w'→K (a.put o.dst v') w'):if Region.wanted o (yielded ops a.tmps)=true then Oper.wp Tryz.prog o a w K Q else X:=by
 rw[if_pos (by simp[Region.wanted,hgd])]
 exact wp_append_rw hf h1c E S z by_ hu hi hz hk hby s x ho B v l hs hown u t hx hsrc hsz hB h
end
structure Bp where
 rt:Int
 co:Int
 br:Int
 po:Int
 ho:Int
 ve:Int
 ro:Int
 pr:Bool
 ag:Bool
 tp:Bool
 ec:Int
structure Bp.Ok (b:Bp):Prop where
 rt:0≤b.rt∧b.rt<18446744073709551616
 co:0≤b.co∧b.co<4294967296
 br:0≤b.br∧b.br<18446744073709551616
 po:0≤b.po∧b.po<256
 ho:0≤b.ho∧b.ho<256
 ve:0≤b.ve∧b.ve<18446744073709551616
 ro:0≤b.ro∧b.ro<256
 ec:0≤b.ec∧b.ec<18446744073709551616
def bp0:Bp:=⟨0,0,0,0,0,0,0,false,false,false,0⟩
def BB (T:TypeId)(W:World)(q:Nat)(b:Bp):Prop:=W.heap[q]?=some (.cells #[.int .u64 b.rt,.int .u32 b.co,.int .u64 b.br,.int .u8 b.po,.int .u8 b.ho,.int .u64 b.ve,.int .u8 b.ro,.bool b.pr,.bool b.ag,.bool b.tp,.int .u64 b.ec] T (0,0))
section
variable {T:TypeId} {W W':World} {q:Nat} {b:Bp}
theorem BB.lt (h:BB T W q b):q<W.heap.size:=by
 rcases Nat.lt_or_ge q W.heap.size with h1|h1
 ·exact h1
 ·unfold BB at h;rw[Array.getElem?_eq_none h1] at h;cases h
theorem BB.later (h:BB T W q b)(hb:Below W.heap.size W W'):BB T W' q b:=by
 unfold BB;rw[hb.block q h.lt];exact h
theorem BB.only {p:Nat}(h:BB T W q b)(ho:Only p W W')(hne:q≠p):BB T W' q b:=by
 unfold BB;rw[ho.block q h.lt (by simpa using hne)];exact h
theorem BB.c0 (h:BB T W q b):W.cell? ⟨q,0,none⟩=some (.int .u64 b.rt):=by unfold BB at h;simp[World.cell?,h]
theorem BB.c1 (h:BB T W q b):W.cell? ⟨q,1,none⟩=some (.int .u32 b.co):=by unfold BB at h;simp[World.cell?,h]
theorem BB.c2 (h:BB T W q b):W.cell? ⟨q,2,none⟩=some (.int .u64 b.br):=by unfold BB at h;simp[World.cell?,h]
theorem BB.c3 (h:BB T W q b):W.cell? ⟨q,3,none⟩=some (.int .u8 b.po):=by unfold BB at h;simp[World.cell?,h]
theorem BB.c4 (h:BB T W q b):W.cell? ⟨q,4,none⟩=some (.int .u8 b.ho):=by unfold BB at h;simp[World.cell?,h]
theorem BB.c5 (h:BB T W q b):W.cell? ⟨q,5,none⟩=some (.int .u64 b.ve):=by unfold BB at h;simp[World.cell?,h]
theorem BB.c6 (h:BB T W q b):W.cell? ⟨q,6,none⟩=some (.int .u8 b.ro):=by unfold BB at h;simp[World.cell?,h]
theorem BB.c7 (h:BB T W q b):W.cell? ⟨q,7,none⟩=some (.bool b.pr):=by unfold BB at h;simp[World.cell?,h]
theorem BB.c8 (h:BB T W q b):W.cell? ⟨q,8,none⟩=some (.bool b.ag):=by unfold BB at h;simp[World.cell?,h]
theorem BB.c9 (h:BB T W q b):W.cell? ⟨q,9,none⟩=some (.bool b.tp):=by unfold BB at h;simp[World.cell?,h]
theorem BB.c10 (h:BB T W q b):W.cell? ⟨q,10,none⟩=some (.int .u64 b.ec):=by unfold BB at h;simp[World.cell?,h]
theorem BB.fr (h:BB T W q b)(o:Nat):W.frozen? ⟨q,o,none⟩=false:=by unfold BB at h;simp[World.frozen?,h]
theorem BB.new (T:TypeId)(W:World)(b:Bp):BB T (W.alloc (.cells #[.int .u64 b.rt,.int .u32 b.co,.int .u64 b.br,.int .u8 b.po,.int .u8 b.ho,.int .u64 b.ve,.int .u8 b.ro,.bool b.pr,.bool b.ag,.bool b.tp,.int .u64 b.ec] T)) W.heap.size b:=heap_alloc_new W _
theorem BB.s0 (h:BB T W q b)(x:Int):BB T (W.setCell ⟨q,0,none⟩ (.int .u64 x)) q { b with rt:=x }:=by unfold BB at *;simp[World.setCell,Array.getElem?_modify,h]
theorem BB.s1 (h:BB T W q b)(x:Int):BB T (W.setCell ⟨q,1,none⟩ (.int .u32 x)) q { b with co:=x }:=by unfold BB at *;simp[World.setCell,Array.getElem?_modify,h]
theorem BB.s2 (h:BB T W q b)(x:Int):BB T (W.setCell ⟨q,2,none⟩ (.int .u64 x)) q { b with br:=x }:=by unfold BB at *;simp[World.setCell,Array.getElem?_modify,h]
theorem BB.s3 (h:BB T W q b)(x:Int):BB T (W.setCell ⟨q,3,none⟩ (.int .u8 x)) q { b with po:=x }:=by unfold BB at *;simp[World.setCell,Array.getElem?_modify,h]
theorem BB.s4 (h:BB T W q b)(x:Int):BB T (W.setCell ⟨q,4,none⟩ (.int .u8 x)) q { b with ho:=x }:=by unfold BB at *;simp[World.setCell,Array.getElem?_modify,h]
theorem BB.s5 (h:BB T W q b)(x:Int):BB T (W.setCell ⟨q,5,none⟩ (.int .u64 x)) q { b with ve:=x }:=by unfold BB at *;simp[World.setCell,Array.getElem?_modify,h]
theorem BB.s6 (h:BB T W q b)(x:Int):BB T (W.setCell ⟨q,6,none⟩ (.int .u8 x)) q { b with ro:=x }:=by unfold BB at *;simp[World.setCell,Array.getElem?_modify,h]
theorem BB.s7 (h:BB T W q b)(x:Bool):BB T (W.setCell ⟨q,7,none⟩ (.bool x)) q { b with pr:=x }:=by unfold BB at *;simp[World.setCell,Array.getElem?_modify,h]
theorem BB.s8 (h:BB T W q b)(x:Bool):BB T (W.setCell ⟨q,8,none⟩ (.bool x)) q { b with ag:=x }:=by unfold BB at *;simp[World.setCell,Array.getElem?_modify,h]
theorem BB.s9 (h:BB T W q b)(x:Bool):BB T (W.setCell ⟨q,9,none⟩ (.bool x)) q { b with tp:=x }:=by unfold BB at *;simp[World.setCell,Array.getElem?_modify,h]
theorem BB.s10 (h:BB T W q b)(x:Int):BB T (W.setCell ⟨q,10,none⟩ (.int .u64 x)) q { b with ec:=x }:=by unfold BB at *;simp[World.setCell,Array.getElem?_modify,h]
end
def mayB (b:Bp):Bool:=decide (1≤b.ro∧b.ro≤3∧b.po<8∧b.co≤16777216∧b.ho≤20∧(b.pr=true→b.ro=2)∧(b.ag=true→b.ro=1)∧(b.ag=true∨b.ec=0))
def flB (b:Bp):Int:=(if b.pr=true then 1 else 0)+(if b.ag=true then 2 else 0)+(if b.tp=true then 4 else 0)
theorem flB_bd (b:Bp):0≤flB b∧flB b≤7:=by unfold flB;repeat' split <;> omega
def byB (b:Bp):List UInt8:=[67,77]++be 1 b.ro++be 1 (flB b)++be 8 b.rt++be 4 b.co++be 8 b.br++be 1 b.po++be 1 b.ho++be 8 b.ve++be 8 b.ec
theorem byB_len (b:Bp):(byB b).length=42:=by simp[byB,be_length]
structure TP where
 c:Int
 up:Bool
 h:Bp
 la:Int
 ag:Bool
 sp:Int
structure TM where
 id:Int
 P:List TP
 rt:Int
 co:Int
 po:Int
 ho:Int
 ve:Int
 fl:Int
def bpC (b:Bp):List Value:=[.int .u64 b.rt,.int .u32 b.co,.int .u64 b.br,.int .u8 b.po,.int .u8 b.ho,.int .u64 b.ve,.int .u8 b.ro,.bool b.pr,.bool b.ag,.bool b.tp,.int .u64 b.ec]
def tpC (p:TP):List Value:=[.int .u32 p.c,.bool p.up,.int .u64 p.h.rt,.int .u32 p.h.co,.int .u64 p.h.br,.int .u8 p.h.po,.int .u8 p.h.ho,.int .u64 p.h.ve,.int .u8 p.h.ro,.bool p.h.pr,.bool p.h.ag,.bool p.h.tp,.int .u64 p.h.ec,.int .i64 p.la,.bool p.ag,.int .i64 p.sp]
theorem tpC_len (p:TP):(tpC p).length=16:=rfl
def tmA (T:TM)(v:Value):Array Value:=#[.int .u64 T.id,v,.int .u64 T.rt,.int .u32 T.co,.int .i64 T.po,.int .u8 T.ho,.int .u64 T.ve,.int .u8 T.fl]
def RowP (W:World)(g:Nat)(l:List TP)(t:List Value):Prop:=W.heap[g]?=some (.cells (l.flatMap tpC++t).toArray 214 (0,0))
section
variable {W W':World} {g:Nat} {l:List TP} {t:List Value}
theorem RowP.lt (h:RowP W g l t):g<W.heap.size:=(Array.getElem?_eq_some_iff.1 h).1
theorem RowP.blk (h:RowP W g l t)(e:W'.heap[g]?=W.heap[g]?):RowP W' g l t:=e.trans h
theorem RowP.fr (h:RowP W g l t)(j:Nat):W.frozen? ⟨g,j,none⟩=false:=by unfold RowP at h;simp[World.frozen?,h]
theorem RowP.c (h:RowP W g l t)(j:Nat)(hj:j<l.length)(i:Nat)(hi:i<16)(v:Value)(hv:(tpC l[j])[i]?=some v):W.cell? ⟨g,j*16+i,none⟩=some v:=by
 unfold RowP at h
 have hlt:j*16+i<(l.flatMap tpC).length:=by rw[flat_len tpC_len];omega
 simp only[World.cell?,h]
 rw[List.getElem?_toArray,List.getElem?_append_left hlt,flat_get tpC_len l j hj i hi,hv]
 simp
theorem flat_set {α:Type}{k:Nat}{f:α→List Value}(hf:∀ x,(f x).length=k)(i:Nat)(hi:i<k)(u:Value)(y:α):∀ (l:List α) (j:Nat) (hj:j<l.length),f y=(f l[j]).set i u→(l.flatMap f).set (j*k+i) u=(l.set j y).flatMap f
 | x::l,0,_,he=>by
  rw[List.set_cons_zero,List.flatMap_cons,List.flatMap_cons,Nat.zero_mul,Nat.zero_add,List.set_append_left _ _ (by rw[hf];exact hi)]
  rw[show f y=(f x).set i u from he]
 | x::l,j+1,hj,he=>by
  rw[List.set_cons_succ,List.flatMap_cons,List.flatMap_cons,List.set_append_right _ _ (by rw[hf,Nat.succ_mul];omega),hf,show(j+1)*k+i-k=j*k+i by rw[Nat.succ_mul];omega]
  rw[flat_set hf i hi u y l j (by simpa using hj) he]
theorem RowP.s (h:RowP W g l t)(j:Nat)(hj:j<l.length)(i:Nat)(hi:i<16)(u:Value)(y:TP)(he:tpC y=(tpC l[j]).set i u):RowP (W.setCell ⟨g,j*16+i,none⟩ u) g (l.set j y) t:=by
 unfold RowP at *
 have hlt:j*16+i<(l.flatMap tpC).length:=by rw[flat_len tpC_len];omega
 have e:((l.flatMap tpC++t).toArray).setIfInBounds (j*16+i) u=((l.set j y).flatMap tpC++t).toArray:=by
  rw[List.setIfInBounds_toArray,List.set_append_left _ _ hlt,flat_set tpC_len i hi u y l j hj he]
 rw[setCell_eq_setRow W g (j*16+i) _ _ _ _ h]
 have:=setRow_heap W g _ (((l.flatMap tpC++t).toArray).setIfInBounds (j*16+i) u) _ _ h
 rw[e] at this ⊢
 exact this
end
structure TR (W:World)(m g cap:Nat)(t:List Value)(T:TM):Prop where
 tm:GB 219 W m (tmA T (.slice (some ⟨g,0,none⟩) T.P.length cap))
 row:RowP W g T.P t
 ne:m≠g
 n1:1≤T.P.length∧T.P.length≤8
 cp:T.P.length≤cap
 iw:0≤T.id∧T.id<18446744073709551616
section
variable {W W':World} {m g cap:Nat} {t:List Value} {T:TM}
theorem TR.blk (h:TR W m g cap t T)(e1:W'.heap[m]?=W.heap[m]?)(e2:W'.heap[g]?=W.heap[g]?):TR W' m g cap t T:=⟨e1.trans h.tm,h.row.blk e2,h.ne,h.n1,h.cp,h.iw⟩
theorem TR.later (h:TR W m g cap t T)(hb:Below W.heap.size W W'):TR W' m g cap t T:=h.blk (hb.block m h.tm.lt) (hb.block g h.row.lt)
theorem TR.c0 (h:TR W m g cap t T):W.cell? ⟨m,0,none⟩=some (.int .u64 T.id):=h.tm.c 0 _ rfl
theorem TR.c1 (h:TR W m g cap t T):W.cell? ⟨m,1,none⟩=some (.slice (some ⟨g,0,none⟩) T.P.length cap):=h.tm.c 1 _ rfl
theorem TR.c2 (h:TR W m g cap t T):W.cell? ⟨m,2,none⟩=some (.int .u64 T.rt):=h.tm.c 2 _ rfl
theorem TR.c3 (h:TR W m g cap t T):W.cell? ⟨m,3,none⟩=some (.int .u32 T.co):=h.tm.c 3 _ rfl
theorem TR.c4 (h:TR W m g cap t T):W.cell? ⟨m,4,none⟩=some (.int .i64 T.po):=h.tm.c 4 _ rfl
theorem TR.c5 (h:TR W m g cap t T):W.cell? ⟨m,5,none⟩=some (.int .u8 T.ho):=h.tm.c 5 _ rfl
theorem TR.c6 (h:TR W m g cap t T):W.cell? ⟨m,6,none⟩=some (.int .u64 T.ve):=h.tm.c 6 _ rfl
theorem TR.c7 (h:TR W m g cap t T):W.cell? ⟨m,7,none⟩=some (.int .u8 T.fl):=h.tm.c 7 _ rfl
end
def hp (u:Bool):TP:=⟨0,u,bp0,0,false,0⟩
def hm (id:Int)(U:List Bool):TM:=⟨id,U.map hp,id,0,-1,0,1,0⟩
section
variable {m g cap:Nat} {t:List Value} {T:TM} {w:World}
theorem TR.mono (h:TR w m g cap t T):∃ k:Nat,T.P.length=k∧1≤k∧k≤8∧k≤cap:=⟨_,rfl,h.n1.1,h.n1.2,h.cp⟩
end
theorem tat_any (m g cap:Nat)(t:List Value)(T:TM)(i:Nat)(hi8:i<256)(w:World)(h:TR w m g cap t T):Calls Tryz.prog 111 #[.pointer (some ⟨m,0,none⟩),.int .u8 i] w fun en w'=>en=.returned (.pointer (if i<T.P.length then some ⟨g,i*16,none⟩ else none))∧w'=w:=by
 have c1:=h.c1
 obtain⟨n,hn,h1,h8,hc⟩:=h.mono
 rw[hn] at c1 ⊢
 clear h hn
 by_cases hi:i<n
 ·have dk:decide ((n:Int)≤(i:Int))=false:=decide_eq_false (by omega)
  rw[if_pos hi]
  go_enter Tryz.func111,Tryz.ntmps111
  go_wp2
  go_ret
  exact⟨rfl,rfl⟩
 ·have dk:decide ((n:Int)≤(i:Int))=true:=decide_eq_true (by omega)
  rw[if_neg hi]
  go_enter Tryz.func111,Tryz.ntmps111
  go_wp2
  go_ret
  exact⟨rfl,rfl⟩
theorem tlink_host (g o:Nat)(u:Bool)(w:World)(c0:w.cell? ⟨g,o,none⟩=some (.int .u32 0))(c1:w.cell? ⟨g,o+1,none⟩=some (.bool u)):Calls Tryz.prog 125 #[.pointer (some ⟨g,o,none⟩)] w fun en w'=>en=.returned (.bool false)∧w'=w:=by
 cases u
 ·go_enter Tryz.func125,Tryz.ntmps125
  go_wp2
  go_ret
  exact⟨rfl,rfl⟩
 ·go_enter Tryz.func125,Tryz.ntmps125
  go_wp2
  go_ret
  exact⟨rfl,rfl⟩
theorem tflush_any (m g cap:Nat)(t:List Value)(T:TM)(w:World)(h:TR w m g cap t T):Calls Tryz.prog 90 #[.pointer (some ⟨m,0,none⟩)] w fun en w'=>en=.returned (.int .u8 T.fl)∧TR w' m g cap t { T with fl:=0 }∧Only m w w':=by
 have c7:=h.c7
 have f7:=h.tm.fr 7
 have H:=hd0 h
 clear h
 go_enter Tryz.func90,Tryz.ntmps90
 go_wp2
 go_ret
 exact⟨rfl,⟨H.out.tm.set 7 _,H.out.row.blk (by rw[Below.heap_setCell _ _ _ _ (by intro e;simp at e;exact H.out.ne e.symm)]),H.out.ne,H.out.n1,H.out.cp,H.out.iw⟩,Only.set _ _ _ _⟩
theorem Ow.setB {α:Type}{k:Nat}{f:α→List Value}{E:TypeId}{w:World}{B:Nat}{v:Value}{l:List α}(h:Ow k f E w B v l){q:Nat}(hq:q<B)(o:Nat)(u:Value):Ow k f E (w.setCell ⟨q,o,Option.none⟩ u) B v l:=by
 obtain⟨h1,h2⟩:=h
 refine⟨h1,?_⟩
 rcases h2 with h2|⟨g,cap,cur,hv,hg,hh,r⟩
 ·exact .inl h2
 ·exact .inr ⟨g,cap,cur,hv,hg,by rw[Below.heap_setCell _ _ _ _ (by intro e;simp at e;omega)];exact hh,r⟩
theorem Ow.ne {α:Type}{k:Nat}{f:α→List Value}{E:TypeId}{w:World}{B:Nat}{v:Value}{l:List α}(h:Ow k f E w B v l)(hl:0<l.length):∃ g cap t,v=.slice (some ⟨g,0,Option.none⟩) l.length cap∧B≤g∧l.length≤cap∧w.heap[g]?=some (.cells (l.flatMap f++t).toArray E (0,0)):=by
 obtain⟨h1,h2⟩:=h
 rcases h2 with h2|⟨g,cap,cur,hv,hg,hh,h3,h4,h5,h6⟩
 ·omega
 ·refine⟨g,cap,cur.toList.drop (l.length*k),hv,hg,h3,?_⟩
  rw[←h6,List.take_append_drop,Array.toArray_toList]
  exact hh
theorem info_port:(Tryz.prog.info? 214).map (fun i=>(i.zero,i.size,i.bytes))=some (some (.agg #[.int .u32 0,.bool false,.int .u64 0,.int .u32 0,.int .u64 0,.int .u8 0,.int .u8 0,.int .u64 0,.int .u8 0,.bool false,.bool false,.bool false,.int .u64 0,.int .i64 0,.bool false,.int .i64 0]),16,96):=by kernel_rfl
theorem tpC_one (x:TP):∀ u∈tpC x,u.oneCell'=true:=by
 intro u hu
 simp[tpC] at hu
 rcases hu with rfl|rfl|rfl|rfl|rfl|rfl|rfl|rfl|rfl|rfl|rfl|rfl|rfl|rfl|rfl|rfl <;> rfl



theorem isFr_A:isFr #[.int .u8 255,.int .u8 255,.int .u8 255,.int .u8 255,.int .u8 255,.int .u8 255,.int .u8 2,.int .u8 0,.int .u8 0,.int .u8 0,.int .u8 0,.int .u8 1,.bool false,.int .u8 0,.int .u16 0,.int .u16 2048,.string (bs [120])]:=⟨255,255,255,255,255,255,2,0,0,0,0,1,false,0,0,2048,[120],rfl⟩
end Go.Proofs.YtghaobakpdninaaGreatDoor
