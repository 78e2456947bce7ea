/- ZR43 -/
import Derived.Test.YtghaobakpdninaaGreatDoorZR42
set_option linter.unusedVariables false
set_option linter.unusedSimpArgs false
set_option maxRecDepth 100000
set_option maxHeartbeats 16000000
namespace Go.Proofs.YtghaobakpdninaaGreatDoor
open Go.RowKit
open Go.ChangeShapes Go.WideShapes Go.ChangeAt Go.RowKit
structure St where
 (d k p e:Int)
 s:ByteArray
 c:Cm
def St.a (x:St):Array Value:=#[.int .u8 x.d,.int .u8 x.k,.int .u8 x.p,.int .u8 x.e,.string x.s,.int .u8 x.c.a0,.int .u8 x.c.a1,.int .u16 x.c.a2,.int .u8 x.c.a3,.int .u8 x.c.a4,.int .u8 x.c.m0,.int .u8 x.c.m1,.int .u8 x.c.m2,.int .u8 x.c.m3,.int .u8 x.c.m4,.int .u8 x.c.m5,.int .u8 x.c.lv,.string x.c.dom,.string x.c.nam,.int .u16 x.c.avid,.int .u8 x.c.aiv,.slice x.c.mq x.c.mn x.c.mc,.int .i64 x.c.mas,.int .u16 x.c.mid,.int .u8 x.c.mpt,.bool x.c.mup,.int .u8 x.c.low,.int .u8 x.c.ip,.int .u16 x.c.iv,.int .u8 x.c.il,.string x.c.data,.int .u8 x.c.ttl]
theorem cell_int {P:Program}{w:World}{r:Reach}{b:Nat}{t:TypeId}{v:Value}{k:IntKind}(ht:P.underlying t=some (.int k))(h:Cell.okWide P w r b t v):∃ n,v=.int k n:=okWide_int ht (by simp only[Value.okWide,ht];exact h)
theorem cell_bool {P:Program}{w:World}{r:Reach}{b:Nat}{t:TypeId}{v:Value}(ht:P.underlying t=some .bool)(h:Cell.okWide P w r b t v):∃ n,v=.bool n:=okWide_bool ht (by simp only[Value.okWide,ht];exact h)
theorem cell_string {P:Program}{w:World}{r:Reach}{b:Nat}{t:TypeId}{v:Value}(ht:P.underlying t=some .string)(h:Cell.okWide P w r b t v):∃ n,v=.string n:=okWide_string ht (by simp only[Value.okWide,ht];exact h)
theorem cell_slice {P:Program}{w:World}{r:Reach}{b:Nat}{t e:TypeId}{v:Value}(ht:P.underlying t=some (.slice e))(h:Cell.okWide P w r b t v):∃ a n c,v=.slice a n c:=okWide_slice ht (by simp only[Value.okWide,ht];exact h)
theorem list32 {α:Type}(l:List α)(h:l.length=32):∃ c0 c1 c2 c3 c4 c5 c6 c7 c8 c9 c10 c11 c12 c13 c14 c15 c16 c17 c18 c19 c20 c21 c22 c23 c24 c25 c26 c27 c28 c29 c30 c31,l=[c0,c1,c2,c3,c4,c5,c6,c7,c8,c9,c10,c11,c12,c13,c14,c15,c16,c17,c18,c19,c20,c21,c22,c23,c24,c25,c26,c27,c28,c29,c30,c31]:=by
 match l,h with
 |[c0,c1,c2,c3,c4,c5,c6,c7,c8,c9,c10,c11,c12,c13,c14,c15,c16,c17,c18,c19,c20,c21,c22,c23,c24,c25,c26,c27,c28,c29,c30,c31],_=>exact⟨c0,c1,c2,c3,c4,c5,c6,c7,c8,c9,c10,c11,c12,c13,c14,c15,c16,c17,c18,c19,c20,c21,c22,c23,c24,c25,c26,c27,c28,c29,c30,c31,rfl⟩
theorem rd_step {w:World}{r:Reach}{b0:Nat}{v:Value}(hv:Value.okWide Tryz.prog w r b0 35 v):∃ x:St,v=.agg x.a:=by
 simp only[Value.okWide,Tryz.underlying35] at hv
 obtain⟨cs,rfl,hsz,ts,hts,_,hi⟩:=hv
 rw[show Tryz.prog.cellsOf 35=32 by kernel_rfl] at hsz
 rw[show Tryz.prog.cellTypes Tryz.prog.depth 35=some ([5,5,5,5,9,5,5,22,5,5,5,5,5,5,5,5,5,9,9,22,5,25,3,22,5,4,5,5,22,5,9,5]:List TypeId) by kernel_rfl] at hts
 injection hts with hts
 subst hts
 obtain⟨c0,c1,c2,c3,c4,c5,c6,c7,c8,c9,c10,c11,c12,c13,c14,c15,c16,c17,c18,c19,c20,c21,c22,c23,c24,c25,c26,c27,c28,c29,c30,c31,hcs⟩:=list32 cs.toList (by rw[Array.length_toList,hsz])
 have g:∀ (i:Nat) (v:Value),cs.toList[i]?=some v→∃ u,([5,5,5,5,9,5,5,22,5,5,5,5,5,5,5,5,5,9,9,22,5,25,3,22,5,4,5,5,22,5,9,5]:List TypeId)[i % 32]?=some u∧Cell.okWide Tryz.prog w r b0 u v:=fun i v hv=>hi i v (by simpa using hv)
 rw[hcs] at g
 obtain⟨u,hu,hc⟩:=g 0 _ rfl
 obtain rfl:5=u:=Option.some.inj hu
 obtain⟨n0,rfl⟩:=cell_int Tryz.underlying5 hc
 clear hu hc
 obtain⟨u,hu,hc⟩:=g 1 _ rfl
 obtain rfl:5=u:=Option.some.inj hu
 obtain⟨n1,rfl⟩:=cell_int Tryz.underlying5 hc
 clear hu hc
 obtain⟨u,hu,hc⟩:=g 2 _ rfl
 obtain rfl:5=u:=Option.some.inj hu
 obtain⟨n2,rfl⟩:=cell_int Tryz.underlying5 hc
 clear hu hc
 obtain⟨u,hu,hc⟩:=g 3 _ rfl
 obtain rfl:5=u:=Option.some.inj hu
 obtain⟨n3,rfl⟩:=cell_int Tryz.underlying5 hc
 clear hu hc
 obtain⟨u,hu,hc⟩:=g 4 _ rfl
 obtain rfl:9=u:=Option.some.inj hu
 obtain⟨n4,rfl⟩:=cell_string Tryz.underlying9 hc
 clear hu hc
 obtain⟨u,hu,hc⟩:=g 5 _ rfl
 obtain rfl:5=u:=Option.some.inj hu
 obtain⟨n5,rfl⟩:=cell_int Tryz.underlying5 hc
 clear hu hc
 obtain⟨u,hu,hc⟩:=g 6 _ rfl
 obtain rfl:5=u:=Option.some.inj hu
 obtain⟨n6,rfl⟩:=cell_int Tryz.underlying5 hc
 clear hu hc
 obtain⟨u,hu,hc⟩:=g 7 _ rfl
 obtain rfl:22=u:=Option.some.inj hu
 obtain⟨n7,rfl⟩:=cell_int Tryz.underlying22 hc
 clear hu hc
 obtain⟨u,hu,hc⟩:=g 8 _ rfl
 obtain rfl:5=u:=Option.some.inj hu
 obtain⟨n8,rfl⟩:=cell_int Tryz.underlying5 hc
 clear hu hc
 obtain⟨u,hu,hc⟩:=g 9 _ rfl
 obtain rfl:5=u:=Option.some.inj hu
 obtain⟨n9,rfl⟩:=cell_int Tryz.underlying5 hc
 clear hu hc
 obtain⟨u,hu,hc⟩:=g 10 _ rfl
 obtain rfl:5=u:=Option.some.inj hu
 obtain⟨n10,rfl⟩:=cell_int Tryz.underlying5 hc
 clear hu hc
 obtain⟨u,hu,hc⟩:=g 11 _ rfl
 obtain rfl:5=u:=Option.some.inj hu
 obtain⟨n11,rfl⟩:=cell_int Tryz.underlying5 hc
 clear hu hc
 obtain⟨u,hu,hc⟩:=g 12 _ rfl
 obtain rfl:5=u:=Option.some.inj hu
 obtain⟨n12,rfl⟩:=cell_int Tryz.underlying5 hc
 clear hu hc
 obtain⟨u,hu,hc⟩:=g 13 _ rfl
 obtain rfl:5=u:=Option.some.inj hu
 obtain⟨n13,rfl⟩:=cell_int Tryz.underlying5 hc
 clear hu hc
 obtain⟨u,hu,hc⟩:=g 14 _ rfl
 obtain rfl:5=u:=Option.some.inj hu
 obtain⟨n14,rfl⟩:=cell_int Tryz.underlying5 hc
 clear hu hc
 obtain⟨u,hu,hc⟩:=g 15 _ rfl
 obtain rfl:5=u:=Option.some.inj hu
 obtain⟨n15,rfl⟩:=cell_int Tryz.underlying5 hc
 clear hu hc
 obtain⟨u,hu,hc⟩:=g 16 _ rfl
 obtain rfl:5=u:=Option.some.inj hu
 obtain⟨n16,rfl⟩:=cell_int Tryz.underlying5 hc
 clear hu hc
 obtain⟨u,hu,hc⟩:=g 17 _ rfl
 obtain rfl:9=u:=Option.some.inj hu
 obtain⟨n17,rfl⟩:=cell_string Tryz.underlying9 hc
 clear hu hc
 obtain⟨u,hu,hc⟩:=g 18 _ rfl
 obtain rfl:9=u:=Option.some.inj hu
 obtain⟨n18,rfl⟩:=cell_string Tryz.underlying9 hc
 clear hu hc
 obtain⟨u,hu,hc⟩:=g 19 _ rfl
 obtain rfl:22=u:=Option.some.inj hu
 obtain⟨n19,rfl⟩:=cell_int Tryz.underlying22 hc
 clear hu hc
 obtain⟨u,hu,hc⟩:=g 20 _ rfl
 obtain rfl:5=u:=Option.some.inj hu
 obtain⟨n20,rfl⟩:=cell_int Tryz.underlying5 hc
 clear hu hc
 obtain⟨u,hu,hc⟩:=g 21 _ rfl
 obtain rfl:25=u:=Option.some.inj hu
 obtain⟨n21,n21b,n21c,rfl⟩:=cell_slice Tryz.underlying25 hc
 clear hu hc
 obtain⟨u,hu,hc⟩:=g 22 _ rfl
 obtain rfl:3=u:=Option.some.inj hu
 obtain⟨n22,rfl⟩:=cell_int Tryz.underlying3 hc
 clear hu hc
 obtain⟨u,hu,hc⟩:=g 23 _ rfl
 obtain rfl:22=u:=Option.some.inj hu
 obtain⟨n23,rfl⟩:=cell_int Tryz.underlying22 hc
 clear hu hc
 obtain⟨u,hu,hc⟩:=g 24 _ rfl
 obtain rfl:5=u:=Option.some.inj hu
 obtain⟨n24,rfl⟩:=cell_int Tryz.underlying5 hc
 clear hu hc
 obtain⟨u,hu,hc⟩:=g 25 _ rfl
 obtain rfl:4=u:=Option.some.inj hu
 obtain⟨n25,rfl⟩:=cell_bool Tryz.underlying4 hc
 clear hu hc
 obtain⟨u,hu,hc⟩:=g 26 _ rfl
 obtain rfl:5=u:=Option.some.inj hu
 obtain⟨n26,rfl⟩:=cell_int Tryz.underlying5 hc
 clear hu hc
 obtain⟨u,hu,hc⟩:=g 27 _ rfl
 obtain rfl:5=u:=Option.some.inj hu
 obtain⟨n27,rfl⟩:=cell_int Tryz.underlying5 hc
 clear hu hc
 obtain⟨u,hu,hc⟩:=g 28 _ rfl
 obtain rfl:22=u:=Option.some.inj hu
 obtain⟨n28,rfl⟩:=cell_int Tryz.underlying22 hc
 clear hu hc
 obtain⟨u,hu,hc⟩:=g 29 _ rfl
 obtain rfl:5=u:=Option.some.inj hu
 obtain⟨n29,rfl⟩:=cell_int Tryz.underlying5 hc
 clear hu hc
 obtain⟨u,hu,hc⟩:=g 30 _ rfl
 obtain rfl:9=u:=Option.some.inj hu
 obtain⟨n30,rfl⟩:=cell_string Tryz.underlying9 hc
 clear hu hc
 obtain⟨u,hu,hc⟩:=g 31 _ rfl
 obtain rfl:5=u:=Option.some.inj hu
 obtain⟨n31,rfl⟩:=cell_int Tryz.underlying5 hc
 clear hu hc
 refine⟨⟨n0,n1,n2,n3,n4,⟨n5,n6,n7,n8,n9,n10,n11,n12,n13,n14,n15,n16,n17,n18,n19,n20,n21,n21b,n21c,n22,n23,n24,n25,n26,n27,n28,n29,n30,n31⟩⟩,?_⟩
 rw[show cs=cs.toList.toArray from rfl,hcs]
 rfl
theorem St.one (x:St):(#[.int .u8 x.d,.int .u8 x.k,.int .u8 x.p,.int .u8 x.e,.string x.s,.int .u8 x.c.a0,.int .u8 x.c.a1,.int .u16 x.c.a2,.int .u8 x.c.a3,.int .u8 x.c.a4,.int .u8 x.c.m0,.int .u8 x.c.m1,.int .u8 x.c.m2,.int .u8 x.c.m3,.int .u8 x.c.m4,.int .u8 x.c.m5,.int .u8 x.c.lv,.string x.c.dom,.string x.c.nam,.int .u16 x.c.avid,.int .u8 x.c.aiv,.slice x.c.mq x.c.mn x.c.mc,.int .i64 x.c.mas,.int .u16 x.c.mid,.int .u8 x.c.mpt,.bool x.c.mup,.int .u8 x.c.low,.int .u8 x.c.ip,.int .u16 x.c.iv,.int .u8 x.c.il,.string x.c.data,.int .u8 x.c.ttl]:Array Value).all (·.oneCell')=true:=by simp[Value.oneCell']
theorem step_any (x:St)(w:World):Calls Tryz.prog 8 #[.agg #[.int .u8 x.d,.int .u8 x.k,.int .u8 x.p,.int .u8 x.e,.string x.s,.int .u8 x.c.a0,.int .u8 x.c.a1,.int .u16 x.c.a2,.int .u8 x.c.a3,.int .u8 x.c.a4,.int .u8 x.c.m0,.int .u8 x.c.m1,.int .u8 x.c.m2,.int .u8 x.c.m3,.int .u8 x.c.m4,.int .u8 x.c.m5,.int .u8 x.c.lv,.string x.c.dom,.string x.c.nam,.int .u16 x.c.avid,.int .u8 x.c.aiv,.slice x.c.mq x.c.mn x.c.mc,.int .i64 x.c.mas,.int .u16 x.c.mid,.int .u8 x.c.mpt,.bool x.c.mup,.int .u8 x.c.low,.int .u8 x.c.ip,.int .u16 x.c.iv,.int .u8 x.c.il,.string x.c.data,.int .u8 x.c.ttl]] w fun en w'=>en=.returned (.agg #[.int .u8 x.d,.int .u8 x.k,.int .u8 x.p,.int .u8 x.e,.string x.s,.int .u8 x.c.a0,.int .u8 x.c.a1,.int .u16 x.c.a2,.int .u8 x.c.a3,.int .u8 x.c.a4,.int .u8 x.c.m0,.int .u8 x.c.m1,.int .u8 x.c.m2,.int .u8 x.c.m3,.int .u8 x.c.m4,.int .u8 x.c.m5,.int .u8 x.c.lv,.string x.c.dom,.string x.c.nam,.int .u16 x.c.avid,.int .u8 x.c.aiv,.slice x.c.mq x.c.mn x.c.mc,.int .i64 x.c.mas,.int .u16 x.c.mid,.int .u8 x.c.mpt,.bool x.c.mup,.int .u8 x.c.low,.int .u8 x.c.ip,.int .u16 x.c.iv,.int .u8 x.c.il,.string x.c.data,.int .u8 x.c.ttl])∧Below w.heap.size w w':=by
 have hb:=((Below.refl w.heap.size w).alloc (Nat.le_refl _) (.cells #[.int .u8 x.d,.int .u8 x.k,.int .u8 x.p,.int .u8 x.e,.string x.s,.int .u8 x.c.a0,.int .u8 x.c.a1,.int .u16 x.c.a2,.int .u8 x.c.a3,.int .u8 x.c.a4,.int .u8 x.c.m0,.int .u8 x.c.m1,.int .u8 x.c.m2,.int .u8 x.c.m3,.int .u8 x.c.m4,.int .u8 x.c.m5,.int .u8 x.c.lv,.string x.c.dom,.string x.c.nam,.int .u16 x.c.avid,.int .u8 x.c.aiv,.slice x.c.mq x.c.mn x.c.mc,.int .i64 x.c.mas,.int .u16 x.c.mid,.int .u8 x.c.mpt,.bool x.c.mup,.int .u8 x.c.low,.int .u8 x.c.ip,.int .u16 x.c.iv,.int .u8 x.c.il,.string x.c.data,.int .u8 x.c.ttl] 35)).alloc (by simp) (.cells #[.int .u8 0,.int .u8 0,.int .u8 0,.int .u8 0,.string { data:=#[] },.int .u8 0,.int .u8 0,.int .u16 0,.int .u8 0,.int .u8 0,.int .u8 0,.int .u8 0,.int .u8 0,.int .u8 0,.int .u8 0,.int .u8 0,.int .u8 0,.string { data:=#[] },.string { data:=#[] },.int .u16 0,.int .u8 0,.slice none 0 0,.int .i64 0,.int .u16 0,.int .u8 0,.bool false,.int .u8 0,.int .u8 0,.int .u16 0,.int .u8 0,.string { data:=#[] },.int .u8 0] 57)
 have g1:=(GB.new 35 w #[.int .u8 x.d,.int .u8 x.k,.int .u8 x.p,.int .u8 x.e,.string x.s,.int .u8 x.c.a0,.int .u8 x.c.a1,.int .u16 x.c.a2,.int .u8 x.c.a3,.int .u8 x.c.a4,.int .u8 x.c.m0,.int .u8 x.c.m1,.int .u8 x.c.m2,.int .u8 x.c.m3,.int .u8 x.c.m4,.int .u8 x.c.m5,.int .u8 x.c.lv,.string x.c.dom,.string x.c.nam,.int .u16 x.c.avid,.int .u8 x.c.aiv,.slice x.c.mq x.c.mn x.c.mc,.int .i64 x.c.mas,.int .u16 x.c.mid,.int .u8 x.c.mpt,.bool x.c.mup,.int .u8 x.c.low,.int .u8 x.c.ip,.int .u16 x.c.iv,.int .u8 x.c.il,.string x.c.data,.int .u8 x.c.ttl]).later (bAo (.cells #[.int .u8 0,.int .u8 0,.int .u8 0,.int .u8 0,.string { data:=#[] },.int .u8 0,.int .u8 0,.int .u16 0,.int .u8 0,.int .u8 0,.int .u8 0,.int .u8 0,.int .u8 0,.int .u8 0,.int .u8 0,.int .u8 0,.int .u8 0,.string { data:=#[] },.string { data:=#[] },.int .u16 0,.int .u8 0,.slice none 0 0,.int .i64 0,.int .u16 0,.int .u8 0,.bool false,.int .u8 0,.int .u8 0,.int .u16 0,.int .u8 0,.string { data:=#[] },.int .u8 0] 57))
 have g2:=GB.new 57 (w.alloc (.cells #[.int .u8 x.d,.int .u8 x.k,.int .u8 x.p,.int .u8 x.e,.string x.s,.int .u8 x.c.a0,.int .u8 x.c.a1,.int .u16 x.c.a2,.int .u8 x.c.a3,.int .u8 x.c.a4,.int .u8 x.c.m0,.int .u8 x.c.m1,.int .u8 x.c.m2,.int .u8 x.c.m3,.int .u8 x.c.m4,.int .u8 x.c.m5,.int .u8 x.c.lv,.string x.c.dom,.string x.c.nam,.int .u16 x.c.avid,.int .u8 x.c.aiv,.slice x.c.mq x.c.mn x.c.mc,.int .i64 x.c.mas,.int .u16 x.c.mid,.int .u8 x.c.mpt,.bool x.c.mup,.int .u8 x.c.low,.int .u8 x.c.ip,.int .u16 x.c.iv,.int .u8 x.c.il,.string x.c.data,.int .u8 x.c.ttl] 35)) #[.int .u8 0,.int .u8 0,.int .u8 0,.int .u8 0,.string { data:=#[] },.int .u8 0,.int .u8 0,.int .u16 0,.int .u8 0,.int .u8 0,.int .u8 0,.int .u8 0,.int .u8 0,.int .u8 0,.int .u8 0,.int .u8 0,.int .u8 0,.string { data:=#[] },.string { data:=#[] },.int .u16 0,.int .u8 0,.slice none 0 0,.int .i64 0,.int .u16 0,.int .u8 0,.bool false,.int .u8 0,.int .u8 0,.int .u16 0,.int .u8 0,.string { data:=#[] },.int .u8 0]
 rw[show(w.alloc (.cells #[.int .u8 x.d,.int .u8 x.k,.int .u8 x.p,.int .u8 x.e,.string x.s,.int .u8 x.c.a0,.int .u8 x.c.a1,.int .u16 x.c.a2,.int .u8 x.c.a3,.int .u8 x.c.a4,.int .u8 x.c.m0,.int .u8 x.c.m1,.int .u8 x.c.m2,.int .u8 x.c.m3,.int .u8 x.c.m4,.int .u8 x.c.m5,.int .u8 x.c.lv,.string x.c.dom,.string x.c.nam,.int .u16 x.c.avid,.int .u8 x.c.aiv,.slice x.c.mq x.c.mn x.c.mc,.int .i64 x.c.mas,.int .u16 x.c.mid,.int .u8 x.c.mpt,.bool x.c.mup,.int .u8 x.c.low,.int .u8 x.c.ip,.int .u16 x.c.iv,.int .u8 x.c.il,.string x.c.data,.int .u8 x.c.ttl] 35)).heap.size=w.heap.size+1 by simp] at g2
 obtain⟨w0,hw0⟩:∃ z,(w.alloc (.cells #[.int .u8 x.d,.int .u8 x.k,.int .u8 x.p,.int .u8 x.e,.string x.s,.int .u8 x.c.a0,.int .u8 x.c.a1,.int .u16 x.c.a2,.int .u8 x.c.a3,.int .u8 x.c.a4,.int .u8 x.c.m0,.int .u8 x.c.m1,.int .u8 x.c.m2,.int .u8 x.c.m3,.int .u8 x.c.m4,.int .u8 x.c.m5,.int .u8 x.c.lv,.string x.c.dom,.string x.c.nam,.int .u16 x.c.avid,.int .u8 x.c.aiv,.slice x.c.mq x.c.mn x.c.mc,.int .i64 x.c.mas,.int .u16 x.c.mid,.int .u8 x.c.mpt,.bool x.c.mup,.int .u8 x.c.low,.int .u8 x.c.ip,.int .u16 x.c.iv,.int .u8 x.c.il,.string x.c.data,.int .u8 x.c.ttl] 35)).alloc (.cells #[.int .u8 0,.int .u8 0,.int .u8 0,.int .u8 0,.string { data:=#[] },.int .u8 0,.int .u8 0,.int .u16 0,.int .u8 0,.int .u8 0,.int .u8 0,.int .u8 0,.int .u8 0,.int .u8 0,.int .u8 0,.int .u8 0,.int .u8 0,.string { data:=#[] },.string { data:=#[] },.int .u16 0,.int .u8 0,.slice none 0 0,.int .i64 0,.int .u16 0,.int .u8 0,.bool false,.int .u8 0,.int .u8 0,.int .u16 0,.int .u8 0,.string { data:=#[] },.int .u8 0] 57)=z:=⟨_,rfl⟩
 rw[hw0] at hb g1 g2
 have SX:Hid (∀ W,Below (w.heap.size+1) w0 W→W.cell? ⟨w.heap.size,0,none⟩=some (.int .u8 x.d)∧W.cell? ⟨w.heap.size,1,none⟩=some (.int .u8 x.k)∧W.cell? ⟨w.heap.size,2,none⟩=some (.int .u8 x.p)∧W.cell? ⟨w.heap.size,3,none⟩=some (.int .u8 x.e)∧W.cell? ⟨w.heap.size,4,none⟩=some (.string x.s)∧W.rangeAt w.heap.size 5 [.int .u8 x.c.a0,.int .u8 x.c.a1,.int .u16 x.c.a2,.int .u8 x.c.a3,.int .u8 x.c.a4,.int .u8 x.c.m0,.int .u8 x.c.m1,.int .u8 x.c.m2,.int .u8 x.c.m3,.int .u8 x.c.m4,.int .u8 x.c.m5,.int .u8 x.c.lv,.string x.c.dom,.string x.c.nam,.int .u16 x.c.avid,.int .u8 x.c.aiv,.slice x.c.mq x.c.mn x.c.mc,.int .i64 x.c.mas,.int .u16 x.c.mid,.int .u8 x.c.mpt,.bool x.c.mup,.int .u8 x.c.low,.int .u8 x.c.ip,.int .u16 x.c.iv,.int .u8 x.c.il,.string x.c.data,.int .u8 x.c.ttl]):=hd0 fun W hW=>by
  have g:=g1.below (Nat.lt_succ_self _) hW
  exact⟨g.c 0 _ rfl,g.c 1 _ rfl,g.c 2 _ rfl,g.c 3 _ rfl,g.c 4 _ rfl,fun j v hv=>g.c (5+j) v (st5 (l:=[.int .u8 x.c.a0,.int .u8 x.c.a1,.int .u16 x.c.a2,.int .u8 x.c.a3,.int .u8 x.c.a4,.int .u8 x.c.m0,.int .u8 x.c.m1,.int .u8 x.c.m2,.int .u8 x.c.m3,.int .u8 x.c.m4,.int .u8 x.c.m5,.int .u8 x.c.lv,.string x.c.dom,.string x.c.nam,.int .u16 x.c.avid,.int .u8 x.c.aiv,.slice x.c.mq x.c.mn x.c.mc,.int .i64 x.c.mas,.int .u16 x.c.mid,.int .u8 x.c.mpt,.bool x.c.mup,.int .u8 x.c.low,.int .u8 x.c.ip,.int .u16 x.c.iv,.int .u8 x.c.il,.string x.c.data,.int .u8 x.c.ttl]) (by rw[List.getElem?_toArray];exact hv))⟩
 have HB:=hd0 hb
 have G2:=hd0 g2
 have HZ:=hd0 (show w0.heap.size=w.heap.size+2 by rw[←hw0];simp)
 have IC:Hid ((Tryz.prog.info? 33).map (·.size)=some ([.int .u8 x.c.a0,.int .u8 x.c.a1,.int .u16 x.c.a2,.int .u8 x.c.a3,.int .u8 x.c.a4,.int .u8 x.c.m0,.int .u8 x.c.m1,.int .u8 x.c.m2,.int .u8 x.c.m3,.int .u8 x.c.m4,.int .u8 x.c.m5,.int .u8 x.c.lv,.string x.c.dom,.string x.c.nam,.int .u16 x.c.avid,.int .u8 x.c.aiv,.slice x.c.mq x.c.mn x.c.mc,.int .i64 x.c.mas,.int .u16 x.c.mid,.int .u8 x.c.mpt,.bool x.c.mup,.int .u8 x.c.low,.int .u8 x.c.ip,.int .u16 x.c.iv,.int .u8 x.c.il,.string x.c.data,.int .u8 x.c.ttl]:List Value).length):=hd0 (show _=some 27 by kernel_rfl)
 have IS:Hid ((Tryz.prog.info? 57).map (·.size)=some (#[.int .u8 x.d,.int .u8 x.k,.int .u8 x.p,.int .u8 x.e,.string x.s,.int .u8 x.c.a0,.int .u8 x.c.a1,.int .u16 x.c.a2,.int .u8 x.c.a3,.int .u8 x.c.a4,.int .u8 x.c.m0,.int .u8 x.c.m1,.int .u8 x.c.m2,.int .u8 x.c.m3,.int .u8 x.c.m4,.int .u8 x.c.m5,.int .u8 x.c.lv,.string x.c.dom,.string x.c.nam,.int .u16 x.c.avid,.int .u8 x.c.aiv,.slice x.c.mq x.c.mn x.c.mc,.int .i64 x.c.mas,.int .u16 x.c.mid,.int .u8 x.c.mpt,.bool x.c.mup,.int .u8 x.c.low,.int .u8 x.c.ip,.int .u16 x.c.iv,.int .u8 x.c.il,.string x.c.data,.int .u8 x.c.ttl]:Array Value).size):=hd0 (show _=some 32 by kernel_rfl)
 have CO:Hid (∀ W,Calls Tryz.prog 23 #[.agg #[.int .u8 x.c.a0,.int .u8 x.c.a1,.int .u16 x.c.a2,.int .u8 x.c.a3,.int .u8 x.c.a4,.int .u8 x.c.m0,.int .u8 x.c.m1,.int .u8 x.c.m2,.int .u8 x.c.m3,.int .u8 x.c.m4,.int .u8 x.c.m5,.int .u8 x.c.lv,.string x.c.dom,.string x.c.nam,.int .u16 x.c.avid,.int .u8 x.c.aiv,.slice x.c.mq x.c.mn x.c.mc,.int .i64 x.c.mas,.int .u16 x.c.mid,.int .u8 x.c.mpt,.bool x.c.mup,.int .u8 x.c.low,.int .u8 x.c.ip,.int .u16 x.c.iv,.int .u8 x.c.il,.string x.c.data,.int .u8 x.c.ttl]] W fun en w'=>en=.returned (.agg #[.int .u8 x.c.a0,.int .u8 x.c.a1,.int .u16 x.c.a2,.int .u8 x.c.a3,.int .u8 x.c.a4,.int .u8 x.c.m0,.int .u8 x.c.m1,.int .u8 x.c.m2,.int .u8 x.c.m3,.int .u8 x.c.m4,.int .u8 x.c.m5,.int .u8 x.c.lv,.string x.c.dom,.string x.c.nam,.int .u16 x.c.avid,.int .u8 x.c.aiv,.slice x.c.mq x.c.mn x.c.mc,.int .i64 x.c.mas,.int .u16 x.c.mid,.int .u8 x.c.mpt,.bool x.c.mup,.int .u8 x.c.low,.int .u8 x.c.ip,.int .u16 x.c.iv,.int .u8 x.c.il,.string x.c.data,.int .u8 x.c.ttl])∧Below W.heap.size W w'):=hd0 fun W=>cof_any x.c W
 have OS:=hd0 x.one
 clear hb g1 g2
 go_enter Tryz.func8,Tryz.ntmps8
 go_upto_region 1 with fail
 clear hw0
 have BD:Below w0.heap.size w0 w0.drew:=(Below.refl _ _).drew
 refine wp_region_held_drew (S:=fun W=>W.cell? ⟨w.heap.size,0,none⟩=some (.int .u8 x.d)∧W.cell? ⟨w.heap.size,1,none⟩=some (.int .u8 x.k)∧W.cell? ⟨w.heap.size,2,none⟩=some (.int .u8 x.p)∧W.cell? ⟨w.heap.size,3,none⟩=some (.int .u8 x.e)∧W.cell? ⟨w.heap.size,4,none⟩=some (.string x.s)∧W.rangeAt w.heap.size 5 [.int .u8 x.c.a0,.int .u8 x.c.a1,.int .u16 x.c.a2,.int .u8 x.c.a3,.int .u8 x.c.a4,.int .u8 x.c.m0,.int .u8 x.c.m1,.int .u8 x.c.m2,.int .u8 x.c.m3,.int .u8 x.c.m4,.int .u8 x.c.m5,.int .u8 x.c.lv,.string x.c.dom,.string x.c.nam,.int .u16 x.c.avid,.int .u8 x.c.aiv,.slice x.c.mq x.c.mn x.c.mc,.int .i64 x.c.mas,.int .u16 x.c.mid,.int .u8 x.c.mpt,.bool x.c.mup,.int .u8 x.c.low,.int .u8 x.c.ip,.int .u16 x.c.iv,.int .u8 x.c.il,.string x.c.data,.int .u8 x.c.ttl]) (by kernel_rfl) (SX.out _ (BD.mono (by have:=HZ.out;omega))) (fun hHeld=>?_)
 refine tkH 0 ?_ ?h ?_
 case h=>(intro w hSw;go_simp;try with_reducible rfl)
 try simp only[Act.put,zz]
 refine tkH 1 ?_ ?h ?_
 case h=>(intro w hSw;go_simp;try with_reducible rfl)
 try simp only[Act.put,zz]
 refine tkH 2 ?_ ?h ?_
 case h=>(intro w hSw;go_simp;try with_reducible rfl)
 try simp only[Act.put,zz]
 refine tkH 3 ?_ ?h ?_
 case h=>(intro w hSw;go_simp;try with_reducible rfl)
 try simp only[Act.put,zz]
 refine tkH 4 ?_ ?h ?_
 case h=>(intro w hSw;go_simp;try with_reducible rfl)
 try simp only[Act.put,zz]
 refine tkH 5 ?_ ?h ?_
 case h=>(intro w hSw;go_simp;try with_reducible rfl)
 try simp only[Act.put,zz]
 refine tkH 6 ?_ ?h ?_
 case h=>(intro w hSw;go_simp;try with_reducible rfl)
 try simp only[Act.put,zz]
 refine tkH 7 ?_ ?h ?_
 case h=>(intro w hSw;go_simp;try with_reducible rfl)
 try simp only[Act.put,zz]
 refine tkH 8 ?_ ?h ?_
 case h=>(intro w hSw;go_simp;try with_reducible rfl)
 try simp only[Act.put,zz]
 refine tkH 9 ?_ ?h ?_
 case h=>(intro w hSw;go_simp;try with_reducible rfl)
 try simp only[Act.put,zz]
 refine tkH 10 ?_ ?h ?_
 case h=>(intro w hSw;go_simp;try with_reducible rfl)
 try simp only[Act.put,zz]
 refine wpAnyH_take (i:=11) (v:=.agg #[.int .u8 x.c.a0,.int .u8 x.c.a1,.int .u16 x.c.a2,.int .u8 x.c.a3,.int .u8 x.c.a4,.int .u8 x.c.m0,.int .u8 x.c.m1,.int .u8 x.c.m2,.int .u8 x.c.m3,.int .u8 x.c.m4,.int .u8 x.c.m5,.int .u8 x.c.lv,.string x.c.dom,.string x.c.nam,.int .u16 x.c.avid,.int .u8 x.c.aiv,.slice x.c.mq x.c.mn x.c.mc,.int .i64 x.c.mas,.int .u16 x.c.mid,.int .u8 x.c.mpt,.bool x.c.mup,.int .u8 x.c.low,.int .u8 x.c.ip,.int .u16 x.c.iv,.int .u8 x.c.il,.string x.c.data,.int .u8 x.c.ttl]) rfl (by kernel_rfl) (by kernel_rfl) (by kernel_rfl) (fun _ _ _ h=>h) (yieldsIf_load_mid (by rfl) 33 (.tmp 13) rfl w.heap.size 5 rfl [.int .u8 x.c.a0,.int .u8 x.c.a1,.int .u16 x.c.a2,.int .u8 x.c.a3,.int .u8 x.c.a4,.int .u8 x.c.m0,.int .u8 x.c.m1,.int .u8 x.c.m2,.int .u8 x.c.m3,.int .u8 x.c.m4,.int .u8 x.c.m5,.int .u8 x.c.lv,.string x.c.dom,.string x.c.nam,.int .u16 x.c.avid,.int .u8 x.c.aiv,.slice x.c.mq x.c.mn x.c.mc,.int .i64 x.c.mas,.int .u16 x.c.mid,.int .u8 x.c.mpt,.bool x.c.mup,.int .u8 x.c.low,.int .u8 x.c.ip,.int .u16 x.c.iv,.int .u8 x.c.il,.string x.c.data,.int .u8 x.c.ttl] _ (fun w h=>h.2.2.2.2.2) Tryz.underlying33 rfl IC.out) (by assumption) ?_
 try simp only[Act.put,zz]
 refine rdH 12 fun K hK=>?_
 (go_simp;go_at_call 23;refine(CO.out _).mono ?_;rintro en' w1 ⟨rfl,hb1⟩;have B1:=hd0 (BD.trans hb1);refine hK.out _ _ (SX.out _ (B1.out.mono (by have:=HZ.out;omega))) (fun hHeld=>?_);clear hK K hb1;try simp only[Act.put,zz])
 have G3:=hd0 (G2.out.later B1.out)
 have TH:Hid (w1.there (w.heap.size+1) 0 (#[.int .u8 x.d,.int .u8 x.k,.int .u8 x.p,.int .u8 x.e,.string x.s,.int .u8 x.c.a0,.int .u8 x.c.a1,.int .u16 x.c.a2,.int .u8 x.c.a3,.int .u8 x.c.a4,.int .u8 x.c.m0,.int .u8 x.c.m1,.int .u8 x.c.m2,.int .u8 x.c.m3,.int .u8 x.c.m4,.int .u8 x.c.m5,.int .u8 x.c.lv,.string x.c.dom,.string x.c.nam,.int .u16 x.c.avid,.int .u8 x.c.aiv,.slice x.c.mq x.c.mn x.c.mc,.int .i64 x.c.mas,.int .u16 x.c.mid,.int .u8 x.c.mpt,.bool x.c.mup,.int .u8 x.c.low,.int .u8 x.c.ip,.int .u16 x.c.iv,.int .u8 x.c.il,.string x.c.data,.int .u8 x.c.ttl]:Array Value).size):=hd0 (G3.out.there (n:=32) (Nat.le_refl _))
 have GS:=hd0 (G3.out.store (A:=#[.int .u8 x.d,.int .u8 x.k,.int .u8 x.p,.int .u8 x.e,.string x.s,.int .u8 x.c.a0,.int .u8 x.c.a1,.int .u16 x.c.a2,.int .u8 x.c.a3,.int .u8 x.c.a4,.int .u8 x.c.m0,.int .u8 x.c.m1,.int .u8 x.c.m2,.int .u8 x.c.m3,.int .u8 x.c.m4,.int .u8 x.c.m5,.int .u8 x.c.lv,.string x.c.dom,.string x.c.nam,.int .u16 x.c.avid,.int .u8 x.c.aiv,.slice x.c.mq x.c.mn x.c.mc,.int .i64 x.c.mas,.int .u16 x.c.mid,.int .u8 x.c.mpt,.bool x.c.mup,.int .u8 x.c.low,.int .u8 x.c.ip,.int .u16 x.c.iv,.int .u8 x.c.il,.string x.c.data,.int .u8 x.c.ttl]) rfl OS.out)
 have B2:=hd0 (below_cells (b:=w.heap.size+1) (Nat.le_refl _) [.int .u8 x.d,.int .u8 x.k,.int .u8 x.p,.int .u8 x.e,.string x.s,.int .u8 x.c.a0,.int .u8 x.c.a1,.int .u16 x.c.a2,.int .u8 x.c.a3,.int .u8 x.c.a4,.int .u8 x.c.m0,.int .u8 x.c.m1,.int .u8 x.c.m2,.int .u8 x.c.m3,.int .u8 x.c.m4,.int .u8 x.c.m5,.int .u8 x.c.lv,.string x.c.dom,.string x.c.nam,.int .u16 x.c.avid,.int .u8 x.c.aiv,.slice x.c.mq x.c.mn x.c.mc,.int .i64 x.c.mas,.int .u16 x.c.mid,.int .u8 x.c.mpt,.bool x.c.mup,.int .u8 x.c.low,.int .u8 x.c.ip,.int .u16 x.c.iv,.int .u8 x.c.il,.string x.c.data,.int .u8 x.c.ttl] 0 _ (B1.out.mono (show w.heap.size+1≤w0.heap.size by have:=HZ.out;omega)))
 refine tkH 13 ?_ ?h ?_
 case h=>(intro w hSw;go_simp;try with_reducible rfl)
 try simp only[Act.put,zz]
 refine rdH 14 fun K hK=>?_
 (rw[if_pos (by rfl)];refine wp_store_mid 57 (.tmp 2) (.tmp 16) rfl _ 0 #[.int .u8 x.d,.int .u8 x.k,.int .u8 x.p,.int .u8 x.e,.string x.s,.int .u8 x.c.a0,.int .u8 x.c.a1,.int .u16 x.c.a2,.int .u8 x.c.a3,.int .u8 x.c.a4,.int .u8 x.c.m0,.int .u8 x.c.m1,.int .u8 x.c.m2,.int .u8 x.c.m3,.int .u8 x.c.m4,.int .u8 x.c.m5,.int .u8 x.c.lv,.string x.c.dom,.string x.c.nam,.int .u16 x.c.avid,.int .u8 x.c.aiv,.slice x.c.mq x.c.mn x.c.mc,.int .i64 x.c.mas,.int .u16 x.c.mid,.int .u8 x.c.mpt,.bool x.c.mup,.int .u8 x.c.low,.int .u8 x.c.ip,.int .u16 x.c.iv,.int .u8 x.c.il,.string x.c.data,.int .u8 x.c.ttl] rfl (by rfl) TH.out IS.out OS.out ?_;refine hK.out _ _ (SX.out _ B2.out) (fun hHeld=>?_);clear hK K;try simp only[Act.put,zz])
 refine wpAnyH_done (by kernel_rfl) ?_ _
 go_wp2_with fail
 refine bodyPost_ret (v:=.agg #[.int .u8 x.d,.int .u8 x.k,.int .u8 x.p,.int .u8 x.e,.string x.s,.int .u8 x.c.a0,.int .u8 x.c.a1,.int .u16 x.c.a2,.int .u8 x.c.a3,.int .u8 x.c.a4,.int .u8 x.c.m0,.int .u8 x.c.m1,.int .u8 x.c.m2,.int .u8 x.c.m3,.int .u8 x.c.m4,.int .u8 x.c.m5,.int .u8 x.c.lv,.string x.c.dom,.string x.c.nam,.int .u16 x.c.avid,.int .u8 x.c.aiv,.slice x.c.mq x.c.mn x.c.mc,.int .i64 x.c.mas,.int .u16 x.c.mid,.int .u8 x.c.mpt,.bool x.c.mup,.int .u8 x.c.low,.int .u8 x.c.ip,.int .u16 x.c.iv,.int .u8 x.c.il,.string x.c.data,.int .u8 x.c.ttl]) (res_one (p:=2) (d:=_) rfl rfl Tryz.underlying57 _ _ (w.heap.size+1) _ rfl GS.out IS.out) rfl ?_
 exact⟨rfl,HB.out.trans (B2.out.mono (Nat.le_succ _))⟩
end Go.Proofs.YtghaobakpdninaaGreatDoor
