/- ZR34 -/
import Derived.Test.YtghaobakpdninaaGreatDoorZR33
set_option linter.unusedVariables false
set_option linter.unusedSimpArgs false
set_option maxRecDepth 100000
set_option maxHeartbeats 16000000
namespace Go.Proofs.YtghaobakpdninaaGreatDoor
open Go.RowKit
abbrev oC:List Int:=[1,0,0,0,0,0,0,0]
abbrev vC:List Vn:=[(1,3,1)]
theorem brecvF0 (lo hi:Nat)(P:BP)(T:TM)(ρ:Int)(hρ:(ρ==0)=false)
  (TF:∀ (p:Nat) (b:Bool) (W:World),((p=0∧b=true)∨(p=1∧b=true)∨(2≤p∧p<256∧b=false))→BN W lo hi P T oC vC (.slice none 0 0)→Calls Tryz.prog 52 #[.pointer (some ⟨P.m,0,none⟩),.int .u8 p] W fun en w'=>en=.returned (.bool b)∧Below W.heap.size W w')
  (RO:∀ W,BN W lo hi P T oC vC (.slice none 0 0)→Calls Tryz.prog 78 #[.pointer (some ⟨P.m,0,none⟩),.int .u8 0] W fun en w'=>en=.returned (.int .u8 ρ)∧Below W.heap.size W w')
  (w:World) (h:BN w lo hi P T oC vC (.slice none 0 0)):Calls Tryz.prog 76 #[.pointer (some ⟨P.b,0,none⟩),.int .u8 0,.string (bs bA)] w (PostD lo hi P T oC vC 1 bT w):=by
 have OUTV:∀ v' W,RL W P.r P.q P.vm P.f P.s 2 oC vC v'→Calls Tryz.prog 253 #[.pointer (some ⟨P.q,0,none⟩),.int .u8 1,.int .u16 1,.agg #[.int .u8 255,.int .u8 255,.int .u8 255,.int .u8 255,.int .u8 255,.int .u8 255,.int .u8 2,.int .u8 0,.int .u8 0,.int .u8 0,.int .u8 0,.int .u8 1,.bool false,.int .u8 0,.int .u16 0,.int .u16 2048,.string (bs [120])]] W fun en w'=>en=.returned (.tuple #[.agg #[.int .u8 255,.int .u8 255,.int .u8 255,.int .u8 255,.int .u8 255,.int .u8 255,.int .u8 2,.int .u8 0,.int .u8 0,.int .u8 0,.int .u8 0,.int .u8 1,.bool true,.int .u8 0,.int .u16 1,.int .u16 2048,.string (bs [120])],.bool true])∧Below W.heap.size W w':=fun v' W hW=>by
  have h:=vout_any P.q P.vm 2 oC vC 1 1 255 255 255 255 255 255 2 0 0 0 0 1 false 0 0 2048 [120] W hW.ts (by decide) (by decide) (by unfold wfF wfM;decide) (by decide)
  rw[show outF vC 1 1 255 255 255 255 255 255 2 0 0 0 0 1 false 0 0 2048 [120]=(#[.int .u8 255,.int .u8 255,.int .u8 255,.int .u8 255,.int .u8 255,.int .u8 255,.int .u8 2,.int .u8 0,.int .u8 0,.int .u8 0,.int .u8 0,.int .u8 1,.bool true,.int .u8 0,.int .u16 1,.int .u16 2048,.string (bs [120])],true) by kernel_rfl] at h
  exact h
 have INV:∀ W,RL W P.r P.q P.vm P.f P.s 2 oC vC (.slice none 0 0)→Calls Tryz.prog 153 #[.pointer (some ⟨P.q,0,none⟩),.int .u8 0,.agg #[.int .u8 255,.int .u8 255,.int .u8 255,.int .u8 255,.int .u8 255,.int .u8 255,.int .u8 2,.int .u8 0,.int .u8 0,.int .u8 0,.int .u8 0,.int .u8 1,.bool false,.int .u8 0,.int .u16 0,.int .u16 2048,.string (bs [120])]] W fun en w'=>en=.returned (.tuple #[.int .u16 1,.bool true])∧Below W.heap.size W w':=fun W hW=>by
  have h:=vin_A #[.int .u8 255,.int .u8 255,.int .u8 255,.int .u8 255,.int .u8 255,.int .u8 255,.int .u8 2,.int .u8 0,.int .u8 0,.int .u8 0,.int .u8 0,.int .u8 1,.bool false,.int .u8 0,.int .u16 0,.int .u16 2048,.string (bs [120])] P.q P.vm 2 oC vC 0 false 0 W rfl rfl hW.ts (by decide) (by decide)
  rw[show inF 2 oC vC 0 false 0=(1,true) by decide] at h
  exact h
 have OU:∀ W v',BN W lo hi P T oC vC v'→Calls Tryz.prog 192 #[.pointer (some ⟨P.b,0,none⟩),.int .u8 1,.int .u16 1,.agg #[.int .u8 255,.int .u8 255,.int .u8 255,.int .u8 255,.int .u8 255,.int .u8 255,.int .u8 2,.int .u8 0,.int .u8 0,.int .u8 0,.int .u8 0,.int .u8 1,.bool false,.int .u8 0,.int .u16 0,.int .u16 2048,.string (bs [120])]] W fun en w'=>∃ g,en=.returned (.slice (some ⟨g,0,none⟩) 1 1)∧Rw 2 sdC w' (.slice (some ⟨g,0,none⟩) 1 1) [(1,bT)]∧W.heap.size≤g∧Below W.heap.size W w':=fun W v' hW =>
  boutD lo hi P T oC vC v' 1 #[.int .u8 255,.int .u8 255,.int .u8 255,.int .u8 255,.int .u8 255,.int .u8 255,.int .u8 2,.int .u8 0,.int .u8 0,.int .u8 0,.int .u8 0,.int .u8 1,.bool false,.int .u8 0,.int .u16 0,.int .u16 2048,.string (bs [120])] bT dfA (fun W hW=>bwireD lo hi P T oC vC v' 1 #[.int .u8 255,.int .u8 255,.int .u8 255,.int .u8 255,.int .u8 255,.int .u8 255,.int .u8 2,.int .u8 0,.int .u8 0,.int .u8 0,.int .u8 0,.int .u8 1,.bool false,.int .u8 0,.int .u16 0,.int .u16 2048,.string (bs [120])] #[.int .u8 255,.int .u8 255,.int .u8 255,.int .u8 255,.int .u8 255,.int .u8 255,.int .u8 2,.int .u8 0,.int .u8 0,.int .u8 0,.int .u8 0,.int .u8 1,.bool true,.int .u8 0,.int .u16 1,.int .u16 2048,.string (bs [120])] bT dfA.i dfT.i (fun W hW=>routD 1 #[.int .u8 255,.int .u8 255,.int .u8 255,.int .u8 255,.int .u8 255,.int .u8 255,.int .u8 2,.int .u8 0,.int .u8 0,.int .u8 0,.int .u8 0,.int .u8 1,.bool false,.int .u8 0,.int .u16 0,.int .u16 2048,.string (bs [120])] #[.int .u8 255,.int .u8 255,.int .u8 255,.int .u8 255,.int .u8 255,.int .u8 255,.int .u8 2,.int .u8 0,.int .u8 0,.int .u8 0,.int .u8 0,.int .u8 1,.bool true,.int .u8 0,.int .u16 1,.int .u16 2048,.string (bs [120])] dfA.i dfT.i P.r P.q P.vm P.f P.s oC vC v' (OUTV v') W hW.rl) putTD W hW) W hW
 have FW:∀ W,BN W lo hi P T oC vC (.slice none 0 0)→Calls Tryz.prog 191 #[.pointer (some ⟨P.b,0,none⟩)] W fun en w'=>en=.returned (.int .u8 3)∧Below W.heap.size W w':=fun W hW=>callsIn_wide.1 (bforwardsN lo hi P T oC vC _ TF W hW)
 have GO:∀ W,BN W lo hi P T oC vC (.slice none 0 0)→Calls Tryz.prog 190 #[.pointer (some ⟨P.r,0,none⟩),.int .i64 0,.int .u16 1,.agg #[.int .u8 255,.int .u8 255,.int .u8 255,.int .u8 255,.int .u8 255,.int .u8 255,.int .u8 2,.int .u8 0,.int .u8 0,.int .u8 0,.int .u8 0,.int .u8 1,.bool false,.int .u8 0,.int .u16 0,.int .u16 2048,.string (bs [120])],.int .u8 3] W fun en w'=>en=.returned (.int .u8 2)∧(∃ v',BN w' lo hi P T oC vC v')∧Only P.f W w':=fun W hW=>(goesD 0 2 (by decide) #[.int .u8 255,.int .u8 255,.int .u8 255,.int .u8 255,.int .u8 255,.int .u8 255,.int .u8 2,.int .u8 0,.int .u8 0,.int .u8 0,.int .u8 0,.int .u8 1,.bool false,.int .u8 0,.int .u16 0,.int .u16 2048,.string (bs [120])] dfA P.r P.q P.vm P.f P.s oC W hW.rl).mono fun e w' h=>⟨h.1,by obtain⟨v',hv⟩:=h.2.1;exact⟨v',hW.setRL hv h.2.2⟩,h.2.2⟩
 exact brecvD lo hi P T oC vC _ 0 1 ρ hρ #[.int .u8 255,.int .u8 255,.int .u8 255,.int .u8 255,.int .u8 255,.int .u8 255,.int .u8 2,.int .u8 0,.int .u8 0,.int .u8 0,.int .u8 0,.int .u8 1,.bool false,.int .u8 0,.int .u16 0,.int .u16 2048,.string (bs [120])] dfA bA bT RO takeAD (fun W hW=>rvidD dfA 0 P.r P.q P.vm P.f P.s oC vC _ INV W hW.rl)
  (fun W hW=>binD lo hi P T oC vC _ 0 1 (by decide) #[.int .u8 255,.int .u8 255,.int .u8 255,.int .u8 255,.int .u8 255,.int .u8 255,.int .u8 2,.int .u8 0,.int .u8 0,.int .u8 0,.int .u8 0,.int .u8 1,.bool false,.int .u8 0,.int .u16 0,.int .u16 2048,.string (bs [120])] dfA bT (fun W hW=>callsIn_wide.1 (brelD lo hi P T oC vC _ 0 1 2 (by decide) (fun q=>(by decide:∀ q:Fin 8,(2:Int) / 2 ^ (q:Nat) % 2=1→((q:Nat):Int)=1) ⟨q.1,q.2.1⟩ q.2.2) (by decide +kernel) #[.int .u8 255,.int .u8 255,.int .u8 255,.int .u8 255,.int .u8 255,.int .u8 255,.int .u8 2,.int .u8 0,.int .u8 0,.int .u8 0,.int .u8 0,.int .u8 1,.bool false,.int .u8 0,.int .u16 0,.int .u16 2048,.string (bs [120])] dfA.i bT FW GO OU W hW)) W hW) w h
theorem brecvF1 (lo hi:Nat)(P:BP)(T:TM)(ρ:Int)(hρ:(ρ==0)=false)
  (TF:∀ (p:Nat) (b:Bool) (W:World),((p=0∧b=true)∨(p=1∧b=true)∨(2≤p∧p<256∧b=false))→BN W lo hi P T oC vC (.slice none 0 0)→Calls Tryz.prog 52 #[.pointer (some ⟨P.m,0,none⟩),.int .u8 p] W fun en w'=>en=.returned (.bool b)∧Below W.heap.size W w')
  (RO:∀ W,BN W lo hi P T oC vC (.slice none 0 0)→Calls Tryz.prog 78 #[.pointer (some ⟨P.m,0,none⟩),.int .u8 1] W fun en w'=>en=.returned (.int .u8 ρ)∧Below W.heap.size W w')
  (w:World) (h:BN w lo hi P T oC vC (.slice none 0 0)):Calls Tryz.prog 76 #[.pointer (some ⟨P.b,0,none⟩),.int .u8 1,.string (bs bT)] w (PostD lo hi P T oC vC 0 bA w):=by
 have OUTV:∀ v' W,RL W P.r P.q P.vm P.f P.s 2 oC vC v'→Calls Tryz.prog 253 #[.pointer (some ⟨P.q,0,none⟩),.int .u8 0,.int .u16 1,.agg #[.int .u8 255,.int .u8 255,.int .u8 255,.int .u8 255,.int .u8 255,.int .u8 255,.int .u8 2,.int .u8 0,.int .u8 0,.int .u8 0,.int .u8 0,.int .u8 1,.bool true,.int .u8 0,.int .u16 1,.int .u16 2048,.string (bs [120])]] W fun en w'=>en=.returned (.tuple #[.agg #[.int .u8 255,.int .u8 255,.int .u8 255,.int .u8 255,.int .u8 255,.int .u8 255,.int .u8 2,.int .u8 0,.int .u8 0,.int .u8 0,.int .u8 0,.int .u8 1,.bool false,.int .u8 0,.int .u16 0,.int .u16 2048,.string (bs [120])],.bool true])∧Below W.heap.size W w':=fun v' W hW=>by
  have h:=vout_any P.q P.vm 2 oC vC 0 1 255 255 255 255 255 255 2 0 0 0 0 1 true 0 1 2048 [120] W hW.ts (by decide) (by decide) (by unfold wfF wfM;decide) (by decide)
  rw[show outF vC 0 1 255 255 255 255 255 255 2 0 0 0 0 1 true 0 1 2048 [120]=(#[.int .u8 255,.int .u8 255,.int .u8 255,.int .u8 255,.int .u8 255,.int .u8 255,.int .u8 2,.int .u8 0,.int .u8 0,.int .u8 0,.int .u8 0,.int .u8 1,.bool false,.int .u8 0,.int .u16 0,.int .u16 2048,.string (bs [120])],true) by kernel_rfl] at h
  exact h
 have INV:∀ W,RL W P.r P.q P.vm P.f P.s 2 oC vC (.slice none 0 0)→Calls Tryz.prog 153 #[.pointer (some ⟨P.q,0,none⟩),.int .u8 1,.agg #[.int .u8 255,.int .u8 255,.int .u8 255,.int .u8 255,.int .u8 255,.int .u8 255,.int .u8 2,.int .u8 0,.int .u8 0,.int .u8 0,.int .u8 0,.int .u8 1,.bool true,.int .u8 0,.int .u16 1,.int .u16 2048,.string (bs [120])]] W fun en w'=>en=.returned (.tuple #[.int .u16 1,.bool true])∧Below W.heap.size W w':=fun W hW=>by
  have h:=vin_A #[.int .u8 255,.int .u8 255,.int .u8 255,.int .u8 255,.int .u8 255,.int .u8 255,.int .u8 2,.int .u8 0,.int .u8 0,.int .u8 0,.int .u8 0,.int .u8 1,.bool true,.int .u8 0,.int .u16 1,.int .u16 2048,.string (bs [120])] P.q P.vm 2 oC vC 1 true 1 W rfl rfl hW.ts (by decide) (by decide)
  rw[show inF 2 oC vC 1 true 1=(1,true) by decide] at h
  exact h
 have OU:∀ W v',BN W lo hi P T oC vC v'→Calls Tryz.prog 192 #[.pointer (some ⟨P.b,0,none⟩),.int .u8 0,.int .u16 1,.agg #[.int .u8 255,.int .u8 255,.int .u8 255,.int .u8 255,.int .u8 255,.int .u8 255,.int .u8 2,.int .u8 0,.int .u8 0,.int .u8 0,.int .u8 0,.int .u8 1,.bool true,.int .u8 0,.int .u16 1,.int .u16 2048,.string (bs [120])]] W fun en w'=>∃ g,en=.returned (.slice (some ⟨g,0,none⟩) 1 1)∧Rw 2 sdC w' (.slice (some ⟨g,0,none⟩) 1 1) [(0,bA)]∧W.heap.size≤g∧Below W.heap.size W w':=fun W v' hW =>
  boutD lo hi P T oC vC v' 0 #[.int .u8 255,.int .u8 255,.int .u8 255,.int .u8 255,.int .u8 255,.int .u8 255,.int .u8 2,.int .u8 0,.int .u8 0,.int .u8 0,.int .u8 0,.int .u8 1,.bool true,.int .u8 0,.int .u16 1,.int .u16 2048,.string (bs [120])] bA dfT (fun W hW=>bwireD lo hi P T oC vC v' 0 #[.int .u8 255,.int .u8 255,.int .u8 255,.int .u8 255,.int .u8 255,.int .u8 255,.int .u8 2,.int .u8 0,.int .u8 0,.int .u8 0,.int .u8 0,.int .u8 1,.bool true,.int .u8 0,.int .u16 1,.int .u16 2048,.string (bs [120])] #[.int .u8 255,.int .u8 255,.int .u8 255,.int .u8 255,.int .u8 255,.int .u8 255,.int .u8 2,.int .u8 0,.int .u8 0,.int .u8 0,.int .u8 0,.int .u8 1,.bool false,.int .u8 0,.int .u16 0,.int .u16 2048,.string (bs [120])] bA dfT.i dfA.i (fun W hW=>routD 0 #[.int .u8 255,.int .u8 255,.int .u8 255,.int .u8 255,.int .u8 255,.int .u8 255,.int .u8 2,.int .u8 0,.int .u8 0,.int .u8 0,.int .u8 0,.int .u8 1,.bool true,.int .u8 0,.int .u16 1,.int .u16 2048,.string (bs [120])] #[.int .u8 255,.int .u8 255,.int .u8 255,.int .u8 255,.int .u8 255,.int .u8 255,.int .u8 2,.int .u8 0,.int .u8 0,.int .u8 0,.int .u8 0,.int .u8 1,.bool false,.int .u8 0,.int .u16 0,.int .u16 2048,.string (bs [120])] dfT.i dfA.i P.r P.q P.vm P.f P.s oC vC v' (OUTV v') W hW.rl) putAD W hW) W hW
 have FW:∀ W,BN W lo hi P T oC vC (.slice none 0 0)→Calls Tryz.prog 191 #[.pointer (some ⟨P.b,0,none⟩)] W fun en w'=>en=.returned (.int .u8 3)∧Below W.heap.size W w':=fun W hW=>callsIn_wide.1 (bforwardsN lo hi P T oC vC _ TF W hW)
 have GO:∀ W,BN W lo hi P T oC vC (.slice none 0 0)→Calls Tryz.prog 190 #[.pointer (some ⟨P.r,0,none⟩),.int .i64 1,.int .u16 1,.agg #[.int .u8 255,.int .u8 255,.int .u8 255,.int .u8 255,.int .u8 255,.int .u8 255,.int .u8 2,.int .u8 0,.int .u8 0,.int .u8 0,.int .u8 0,.int .u8 1,.bool true,.int .u8 0,.int .u16 1,.int .u16 2048,.string (bs [120])],.int .u8 3] W fun en w'=>en=.returned (.int .u8 1)∧(∃ v',BN w' lo hi P T oC vC v')∧Only P.f W w':=fun W hW=>(goesD 1 1 (by decide) #[.int .u8 255,.int .u8 255,.int .u8 255,.int .u8 255,.int .u8 255,.int .u8 255,.int .u8 2,.int .u8 0,.int .u8 0,.int .u8 0,.int .u8 0,.int .u8 1,.bool true,.int .u8 0,.int .u16 1,.int .u16 2048,.string (bs [120])] dfT P.r P.q P.vm P.f P.s oC W hW.rl).mono fun e w' h=>⟨h.1,by obtain⟨v',hv⟩:=h.2.1;exact⟨v',hW.setRL hv h.2.2⟩,h.2.2⟩
 exact brecvD lo hi P T oC vC _ 1 0 ρ hρ #[.int .u8 255,.int .u8 255,.int .u8 255,.int .u8 255,.int .u8 255,.int .u8 255,.int .u8 2,.int .u8 0,.int .u8 0,.int .u8 0,.int .u8 0,.int .u8 1,.bool true,.int .u8 0,.int .u16 1,.int .u16 2048,.string (bs [120])] dfT bT bA RO takeTD (fun W hW=>rvidD dfT 1 P.r P.q P.vm P.f P.s oC vC _ INV W hW.rl)
  (fun W hW=>binD lo hi P T oC vC _ 1 0 (by decide) #[.int .u8 255,.int .u8 255,.int .u8 255,.int .u8 255,.int .u8 255,.int .u8 255,.int .u8 2,.int .u8 0,.int .u8 0,.int .u8 0,.int .u8 0,.int .u8 1,.bool true,.int .u8 0,.int .u16 1,.int .u16 2048,.string (bs [120])] dfT bA (fun W hW=>callsIn_wide.1 (brelD lo hi P T oC vC _ 1 0 1 (by decide) (fun q=>(by decide:∀ q:Fin 8,(1:Int) / 2 ^ (q:Nat) % 2=1→((q:Nat):Int)=0) ⟨q.1,q.2.1⟩ q.2.2) (by decide +kernel) #[.int .u8 255,.int .u8 255,.int .u8 255,.int .u8 255,.int .u8 255,.int .u8 255,.int .u8 2,.int .u8 0,.int .u8 0,.int .u8 0,.int .u8 0,.int .u8 1,.bool true,.int .u8 0,.int .u16 1,.int .u16 2048,.string (bs [120])] dfT.i bA FW GO OU W hW)) W hW) w h
theorem rw_range {w:World}{g c:Nat}{x:Int × List UInt8}(h:Rw 2 sdC w (.slice (some ⟨g,0,none⟩) 1 c) [x]):w.rangeAt g 0 (sdC x):=by
 rcases h with⟨h1,_⟩|⟨ad,c',h1,h0|⟨b,off,h3,h2⟩⟩
 ·cases h1
 ·cases h0
 ·injection h1 with h1 _ _
  injection h1 with h1
  rw[h3] at h1
  injection h1 with h1 h4 _
  subst h1 h4
  intro j v hv
  have hj:j<2:=by have:=(List.getElem?_eq_some_iff.1 hv).1;simpa [sdC] using this
  have:=h2 0 (by simp) j hj
  rw[←hv];simpa using this
theorem recvFA {N:NPos}{s:NSt}(hv:s.vA=false)(ho:s.oA=oC)(hV:s.VA=vC)(ρ:Int)(hρ:(ρ==0)=false)
  (TF:∀ m g cap t (p:Nat) (b:Bool) (W:World),((p=0∧b=true)∨(p=1∧b=true)∨(2≤p∧p<256∧b=false))→TR W m g cap t s.TA→Calls Tryz.prog 52 #[.pointer (some ⟨m,0,none⟩),.int .u8 p] W fun en w'=>en=.returned (.bool b)∧Below W.heap.size W w')
  (RO:∀ m g cap t W,TR W m g cap t s.TA→Calls Tryz.prog 78 #[.pointer (some ⟨m,0,none⟩),.int .u8 0] W fun en w'=>en=.returned (.int .u8 ρ)∧Below W.heap.size W w')
  (W:World) (h:NZ W N s):Calls Tryz.prog 76 #[.pointer (some ⟨N.A.b,0,none⟩),.int .u8 0,.string (bs bA)] W fun en w'=>∃ v,en=.returned v∧SQ w' N { s with vA:=true } v (some (1,bT))∧Fr (NK N) W w':=by
 have h1:=h.A0 hv
 rw[ho,hV] at h1
 refine(brecvF0 N.a0 N.a1 N.A s.TA ρ hρ (fun p b W hp hW=>TF _ _ _ _ p b W hp hW.tr) (fun W hW=>RO _ _ _ _ W hW.tr) W h1).mono ?_
 rintro en w' ⟨⟨g,c,rfl,hr,-⟩,⟨v',hB⟩,hon⟩
 have hf:Fr (InR N.a0 N.a1) W w':=h1.on hon h1.bi.f
 have hz:=h.setA (v:=true) hB hf (fun e=>by cases e)
 rw[←ho,← hV] at hz
 exact⟨_,rfl,⟨⟨g,c,rfl,rw_range hr⟩,hz⟩,hf.mono fun k _ hk=>Or.inl hk⟩
theorem recvFB {N:NPos}{s:NSt}(hv:s.vB=false)(ho:s.oB=oC)(hV:s.VB=vC)(ρ:Int)(hρ:(ρ==0)=false)
  (TF:∀ m g cap t (p:Nat) (b:Bool) (W:World),((p=0∧b=true)∨(p=1∧b=true)∨(2≤p∧p<256∧b=false))→TR W m g cap t s.TB→Calls Tryz.prog 52 #[.pointer (some ⟨m,0,none⟩),.int .u8 p] W fun en w'=>en=.returned (.bool b)∧Below W.heap.size W w')
  (RO:∀ m g cap t W,TR W m g cap t s.TB→Calls Tryz.prog 78 #[.pointer (some ⟨m,0,none⟩),.int .u8 1] W fun en w'=>en=.returned (.int .u8 ρ)∧Below W.heap.size W w')
  (W:World) (h:NZ W N s):Calls Tryz.prog 76 #[.pointer (some ⟨N.B.b,0,none⟩),.int .u8 1,.string (bs bT)] W fun en w'=>∃ v,en=.returned v∧SQ w' N { s with vB:=true } v (some (0,bA))∧Fr (NK N) W w':=by
 have h1:=h.B0 hv
 rw[ho,hV] at h1
 refine(brecvF1 N.b0 N.b1 N.B s.TB ρ hρ (fun p b W hp hW=>TF _ _ _ _ p b W hp hW.tr) (fun W hW=>RO _ _ _ _ W hW.tr) W h1).mono ?_
 rintro en w' ⟨⟨g,c,rfl,hr,-⟩,⟨v',hB⟩,hon⟩
 have hf:Fr (InR N.b0 N.b1) W w':=h1.on hon h1.bi.f
 have hz:=h.setB (v:=true) hB hf (fun e=>by cases e)
 rw[←ho,← hV] at hz
 exact⟨_,rfl,⟨⟨g,c,rfl,rw_range hr⟩,hz⟩,hf.mono fun k _ hk=>Or.inr (Or.inl hk)⟩
abbrev fr (e:Int)(x:Bp):Value:=.string (bs (fwB e x))
abbrev mA2 (la:Int):TM:=ml 16 true (lk true wR la true 0) 16 0 (-1) 0 1 0
abbrev mB2 (p:Bool)(la sp:Int):TM:=ml 32 true (lk true (wD 16 p) la false sp) 16 5 1 1 2 0
theorem same_below {w:World}{P:Ending→Prop}{F:Nat}{args:Array Value}(h:Calls Tryz.prog F args w fun en w'=>P en∧w=w'):Calls Tryz.prog F args w fun en w'=>P en∧Below w.heap.size w w':=h.mono fun en w' h=>⟨h.1,h.2 ▸ Below.refl _ _⟩
section
variable {N:NPos} {o:List Int} {V:List Vn}
theorem ntk (TA TB TA' TB':TM)(x y:Bp)(hx:WF 18 x)(hy:WF 34 y)(h1:TA.id=16)(h1':TA'.id=16)(h2:TB.id=32)(h2':TB'.id=32)
  (KA:∀ m g cap t W,TR W m g cap t TA→Calls Tryz.prog 93 #[.pointer (some ⟨m,0,none⟩)] W fun en w'=>∃ gs cs,en=.returned (.slice (some ⟨gs,0,none⟩) 1 cs)∧w'.rangeAt gs 0 (stW x)∧W.heap.size≤gs∧TR w' m g cap t TA'∧Fr (D2 m g) W w')
  (KB:∀ m g cap t W,TR W m g cap t TB→Calls Tryz.prog 93 #[.pointer (some ⟨m,0,none⟩)] W fun en w'=>∃ gs cs,en=.returned (.slice (some ⟨gs,0,none⟩) 1 cs)∧w'.rangeAt gs 0 (stW y)∧W.heap.size≤gs∧TR w' m g cap t TB'∧Fr (D2 m g) W w')
  (A:Array Value) (W:World) (h:NZ W N (sw TA TB o V [] [])):Calls Tryz.prog 41 #[.pointer (some ⟨N.n,0,none⟩),.agg A] W fun en w'=>∃ v,en=.returned (.agg #[.int .i64 0,.int .i64 0,v,.slice none 0 0])∧OV w' W.heap.size v [(0,1,fwB 18 x),(1,1,fwB 34 y)]∧NZ w' N (sw { TA' with fl:=0 } { TB' with fl:=0 } o V [fr 18 x] [fr 34 y])∧Fr (NK N) W w':=by
 refine ntick N (fun k=>match k with|0=>sw TA TB o V [] []|1=>sw { TA' with fl:=0 } TB o V [fr 18 x] []|_=>sw { TA' with fl:=0 } { TB' with fl:=0 } o V [fr 18 x] [fr 34 y])
  (fun k=>match k with|0=>sw { TA' with fl:=0 } TB o V [] []|_=>sw { TA' with fl:=0 } { TB' with fl:=0 } o V [fr 18 x] [])
  (fun k=>match k with|0=>some (1,fwB 18 x)|_=>some (1,fwB 34 y)) (fun k=>match k with|0=>[(0,1,fwB 18 x)]|1=>[(1,1,fwB 34 y)]|_=>[]) (fun j=>?_) (fun k hk W h=>?_) (fun k hk v W h=>?_) A W h
 ·split <;> simp
 ·rcases(show k=0∨k=1 by omega) with rfl|rfl
  ·exact tickA TA' h1 h1' x hx KA W h
  ·exact tickB TB' h2 h2' y hy KB W h
 ·rcases(show k=0∨k=1 by omega) with rfl|rfl
  ·exact ng01 N _ (fwB 18 x) hx.le ⟨by simp,by simp⟩ v W h
  ·exact ng11 N _ (fwB 34 y) hy.le ⟨by simp,by simp⟩ v W h
theorem nil_vis (e:Nat)(s:NSt)(h:qe s e=[]):Vis N e s [] s false:=Or.inl ⟨rfl,h,rfl,rfl⟩
theorem cm0 (TA TB T':TM)(B0 B1:List Value)(hid:T'.id=TB.id)(x:Bp)(e0:Int)(hx:WF e0 x)(ρ:Int)(h0:(ρ==0)=false)(h5:(ρ==5)=false)
  (RO:∀ m g cap t W,TR W m g cap t TB→Calls Tryz.prog 78 #[.pointer (some ⟨m,0,none⟩),.int .u8 1] W fun en w'=>en=.returned (.int .u8 ρ)∧Below W.heap.size W w')
  (HE:∀ m g cap t W,TR W m g cap t TB→Calls Tryz.prog 150 #[.pointer (some ⟨m,0,none⟩),.int .u8 1,.agg #[.int .u64 x.rt,.int .u32 x.co,.int .u64 x.br,.int .u8 x.po,.int .u8 x.ho,.int .u64 x.ve,.int .u8 x.ro,.bool x.pr,.bool x.ag,.bool x.tp,.int .u64 x.ec]] W fun en w'=>en=.returned (.slice none 0 0)∧TR w' m g cap t T'∧Fr (D2 m g) W w') :
  Vis N 0 (sw TA TB o V (fr e0 x::B0) (B1)) [] (sw (TA) ({ T' with fl:=0 }) o V B0 B1) true :=
 Or.inr ⟨rfl,⟨_,_,rfl⟩,fun W h=>ncomes0 N _ (sw TA TB o V B0 B1) (sw (TA) ({ T' with fl:=0 }) o V B0 B1) (sw (TA) ({ T' with fl:=0 }) o V B0 B1) (fr e0 x) none [] (fun W h=>ncome0 N (sw TA TB o V B0 B1) (fr e0 x) ⟨_,rfl⟩ W h) (fun W h=>recvB T' hid x e0 hx ρ h0 h5 RO HE W h) (fun v W h=>ngN N _ _ v W h) W h⟩
theorem cm1 (TA TB T':TM)(B0 B1:List Value)(hid:T'.id=TA.id)(x:Bp)(e0:Int)(hx:WF e0 x)(ρ:Int)(h0:(ρ==0)=false)(h5:(ρ==5)=false)
  (RO:∀ m g cap t W,TR W m g cap t TA→Calls Tryz.prog 78 #[.pointer (some ⟨m,0,none⟩),.int .u8 1] W fun en w'=>en=.returned (.int .u8 ρ)∧Below W.heap.size W w')
  (HE:∀ m g cap t W,TR W m g cap t TA→Calls Tryz.prog 150 #[.pointer (some ⟨m,0,none⟩),.int .u8 1,.agg #[.int .u64 x.rt,.int .u32 x.co,.int .u64 x.br,.int .u8 x.po,.int .u8 x.ho,.int .u64 x.ve,.int .u8 x.ro,.bool x.pr,.bool x.ag,.bool x.tp,.int .u64 x.ec]] W fun en w'=>en=.returned (.slice none 0 0)∧TR w' m g cap t T'∧Fr (D2 m g) W w') :
  Vis N 1 (sw TA TB o V (B0) (fr e0 x::B1)) [] (sw ({ T' with fl:=0 }) (TB) o V B0 B1) true :=
 Or.inr ⟨rfl,⟨_,_,rfl⟩,fun W h=>ncomes1 N _ (sw TA TB o V B0 B1) (sw ({ T' with fl:=0 }) (TB) o V B0 B1) (sw ({ T' with fl:=0 }) (TB) o V B0 B1) (fr e0 x) none [] (fun W h=>ncome1 N (sw TA TB o V B0 B1) (fr e0 x) ⟨_,rfl⟩ W h) (fun W h=>recvA T' hid x e0 hx ρ h0 h5 RO HE W h) (fun v W h=>ngN N _ _ v W h) W h⟩
theorem ndr1 (A:Array Value)(W:World)(h:NZ W N (sw (mS 16 true true) (mS 32 true true) o V [fr 18 (wD 16 true)] [fr 34 (wD 32 true)])):Calls Tryz.prog 47 #[.pointer (some ⟨N.n,0,none⟩),.agg A] W fun en w'=>∃ v,en=.returned (.agg #[.int .i64 0,.int .i64 0,v,.slice none 0 0])∧OV w' W.heap.size v [(1,1,fwB 34 wR)]∧NZ w' N (sw (mA2 3) (mB2 true 3 4) o V [] [])∧Fr (NK N) W w':=by
 have V0:Vis N 0 (sw (mS 16 true true) (mS 32 true true) o V [fr 18 (wD 16 true)] [fr 34 (wD 32 true)]) [(1,1,fwB 34 wR)] (sw (mS 16 true true) (mB2 true 3 4) o V [] [fr 34 (wD 32 true),fr 34 wR]) true :=
  Or.inr ⟨rfl,⟨_,_,rfl⟩,fun W h=>ncomes0 N _ (sw (mS 16 true true) (mS 32 true true) o V [] [fr 34 (wD 32 true)]) (sw (mS 16 true true) (mB2 true 3 4) o V [] [fr 34 (wD 32 true)]) _ (fr 18 (wD 16 true)) (some (1,fwB 34 wR)) _ (fun W h=>ncome0 N (sw (mS 16 true true) (mS 32 true true) o V [] [fr 34 (wD 32 true)]) (fr 18 (wD 16 true)) ⟨_,rfl⟩ W h)
   (fun W h=>recvR (TA:=mS 16 true true) (TB:=mS 32 true true) (ml 32 true (lk true (wD 16 true) 3 false 4) 16 5 1 1 2 3) rfl rfl (wD 16 true) 18 wf1 2 rfl rfl (fun m g cap t W h=>troleS _ _ _ _ _ _ _ _ _ _ _ _ _ _ _ h) (fun m g cap t W h=>thearH1 m g cap t true W h) W h)
   (fun v W h=>ng11 N _ (fwB 34 wR) wf4.le ⟨by simp,by simp⟩ v W h) W h⟩
 have V1:Vis N 1 (sw (mS 16 true true) (mB2 true 3 4) o V [] [fr 34 (wD 32 true),fr 34 wR]) [] (sw (ml 16 true (lk true (wD 32 true) 3 false 0) 16 0 (-1) 0 1 0) (mB2 true 3 4) o V [] [fr 34 wR]) true :=
  cm1 (mS 16 true true) (mB2 true 3 4) (ml 16 true (lk true (wD 32 true) 3 false 0) 16 0 (-1) 0 1 0) [] [fr 34 wR] rfl (wD 32 true) 34 wf2 2 rfl rfl (fun m g cap t W h=>troleS _ _ _ _ _ _ _ _ _ _ _ _ _ _ _ h) (fun m g cap t W h=>thearH2 m g cap t true W h)
 have V3:Vis N 1 (sw (ml 16 true (lk true (wD 32 true) 3 false 0) 16 0 (-1) 0 1 0) (mB2 true 3 4) o V [] [fr 34 wR]) [] (sw (mA2 3) (mB2 true 3 4) o V [] []) true :=
  cm1 (ml 16 true (lk true (wD 32 true) 3 false 0) 16 0 (-1) 0 1 0) (mB2 true 3 4) (ml 16 true (lk true wR 3 true 0) 16 0 (-1) 0 1 1) [] [] rfl wR 34 wf4 2 rfl rfl (fun m g cap t W h=>troleA1 _ _ _ _ _ true _ _ _ _ _ _ (by decide) _ h) (fun m g cap t W h=>thearH3 m g cap t true (wD 32 true) 3 false W h)
 have:=ndrain N 3 (by decide) (fun j=>match j with|0=>sw (mS 16 true true) (mS 32 true true) o V [fr 18 (wD 16 true)] [fr 34 (wD 32 true)]|1=>sw (mS 16 true true) (mB2 true 3 4) o V [] [fr 34 (wD 32 true),fr 34 wR]|2=>sw (ml 16 true (lk true (wD 32 true) 3 false 0) 16 0 (-1) 0 1 0) (mB2 true 3 4) o V [] [fr 34 wR]|3=>sw (ml 16 true (lk true (wD 32 true) 3 false 0) 16 0 (-1) 0 1 0) (mB2 true 3 4) o V [] [fr 34 wR]|_=>sw (mA2 3) (mB2 true 3 4) o V [] [])
  (fun j=>match j with|0=>[(1,1,fwB 34 wR)]|_=>[]) (fun r e=>match r,e with|0,_=>true|1,1=>true|_,_=>false) (fun j=>by split <;> simp)
  (fun r e hr he=>by
   rcases(show(r=0∧e=0)∨(r=0∧e=1)∨(r=1∧e=0)∨(r=1∧e=1)∨(r=2∧e=0)∨(r=2∧e=1) by omega) with⟨rfl,rfl⟩|⟨rfl,rfl⟩|⟨rfl,rfl⟩|⟨rfl,rfl⟩|⟨rfl,rfl⟩|⟨rfl,rfl⟩
   ·exact V0
   ·exact V1
   ·exact nil_vis 0 _ rfl
   ·exact V3
   ·exact nil_vis 0 _ rfl
   ·exact nil_vis 1 _ rfl)
  (fun r hr=>by
   rcases(show r=0∨r=1∨r=2 by omega) with rfl|rfl|rfl <;> rfl) A W h
 exact this
theorem ndr2 (p:Bool)(sp:Int)(A:Array Value)(W:World)(h:NZ W N (sw (mA2 2) (mB2 p 2 sp) o V [fr 18 (wD 16 false)] [fr 34 wR])):Calls Tryz.prog 47 #[.pointer (some ⟨N.n,0,none⟩),.agg A] W fun en w'=>∃ v,en=.returned (.agg #[.int .i64 0,.int .i64 0,v,.slice none 0 0])∧OV w' W.heap.size v []∧NZ w' N (sw (mA2 3) (mB2 false 3 sp) o V [] [])∧Fr (NK N) W w':=by
 have V0:Vis N 0 (sw (mA2 2) (mB2 p 2 sp) o V [fr 18 (wD 16 false)] [fr 34 wR]) [] (sw (mA2 2) (mB2 false 3 sp) o V [] [fr 34 wR]) true :=
  cm0 (mA2 2) (mB2 p 2 sp) (mB2 false 3 sp) [] [fr 34 wR] rfl (wD 16 false) 18 wf3 1 rfl rfl (fun m g cap t W h=>same_below (troleR _ _ _ _ _ _ _ _ _ _ _ _ _ _ _ _ h)) (fun m g cap t W h=>thearH4 m g cap t true p sp W h)
 have V1:Vis N 1 (sw (mA2 2) (mB2 false 3 sp) o V [] [fr 34 wR]) [] (sw (mA2 3) (mB2 false 3 sp) o V [] []) true :=
  cm1 (mA2 2) (mB2 false 3 sp) (ml 16 true (lk true wR 3 true 0) 16 0 (-1) 0 1 1) [] [] rfl wR 34 wf4 2 rfl rfl (fun m g cap t W h=>troleA2 _ _ _ _ _ true _ _ _ _ _ _ (by decide) _ h) (fun m g cap t W h=>thearH3 m g cap t true wR 2 true W h)
 exact ndrain N 2 (by decide) (fun j=>match j with|0=>sw (mA2 2) (mB2 p 2 sp) o V [fr 18 (wD 16 false)] [fr 34 wR]|1=>sw (mA2 2) (mB2 false 3 sp) o V [] [fr 34 wR]|_=>sw (mA2 3) (mB2 false 3 sp) o V [] [])
  (fun j=>[]) (fun r e=>match r with|0=>true|_=>false) (fun j=>by simp)
  (fun r e hr he=>by
   rcases(show(r=0∧e=0)∨(r=0∧e=1)∨(r=1∧e=0)∨(r=1∧e=1) by omega) with⟨rfl,rfl⟩|⟨rfl,rfl⟩|⟨rfl,rfl⟩|⟨rfl,rfl⟩
   ·exact V0
   ·exact V1
   ·exact nil_vis 0 _ rfl
   ·exact nil_vis 1 _ rfl)
  (fun r hr=>by
   rcases(show r=0∨r=1 by omega) with rfl|rfl <;> rfl) A W h
end
end Go.Proofs.YtghaobakpdninaaGreatDoor
