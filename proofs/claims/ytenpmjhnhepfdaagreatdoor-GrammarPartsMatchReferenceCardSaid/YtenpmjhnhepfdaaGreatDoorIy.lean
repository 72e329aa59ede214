/-
  sanity: the last part.
-/
import Derived.Test.YtenpmjhnhepfdaaGreatDoorPhp
import Derived.Test.YtenpmjhnhepfdaaGreatDoorEa
import Derived.Test.YtenpmjhnhepfdaaGreatDoorIw
namespace Go.Proofs.YtenpmjhnhepfdaaGreatDoor
open Go Go.Proofs.Tryz
variable {R:VR} {F:PH}
set_option maxRecDepth 10000
set_option maxHeartbeats 4000000
def Jr (a:Bool) (R:VR) (F:PH):Prop:=R (.bool a) F
def Js (c:Int->PH->Prop) (d:Int) (f:Nat) (b:Bool) (e:Nat) (a:Int) (R:VR) (F:PH):Prop:=c (IntKind.i64.wrap (a+1)) F
def zB (l m:Int->PH->Prop) (i:Int) (n:Nat) (g:Bool) (j:Nat) (k:Int) (b h:Sl) (R:VR) (a:Int) (F:PH):Prop:=Bc (a<(b.len:Int)) (Ix b a fun c=>Lk F .u64 (Addr.add c (Int.toNat a*1)) fun d=>Ix h a fun e=>Lk F .u64 (Addr.add e (Int.toNat a*1)) fun f=>Bc (d≠f) (R (.bool false) F) (m (IntKind.i64.wrap (a+1)) F)) (Js l i n g j k R F)
def DE (N:Int->PH->Prop) (g:Int) (L:Nat) (k:Bool) (b:Nat) (R:VR) (a:Int) (F:PH):Prop:=Bc (a<2) (Ix (Sb b 2) a fun q=>Lr F 9 (Addr.add q (Int.toNat a*9)) fun r=>ae prog 21 #[.agg r,.int .u64 g] F fun v F=>∃l,∃c,v=(.tuple #[.agg l,.int .i64 c])/\Nb F (.cells zG 39) fun s F=>au F (Am s 0) 9 l fun F=>Ix (Sb b 2) a fun t=>Lr F 9 (Addr.add t (Int.toNat a*9)) fun u=>ae prog 22 #[.agg u,.int .u64 g] F fun v F=>∃m,∃d,v=(.tuple #[.agg m,.int .i64 d])/\Nb F (.cells zG 39) fun w F=>au F (Am w 0) 9 m fun F=>Ix (Sb b 2) a fun x=>Lr F 9 (Addr.add x (Int.toNat a*9)) fun y=>Li F (Am L 2) fun z=>ae prog 23 #[.agg y,.int .i64 z] F fun v F=>∃h,∃e,v=(.tuple #[Sl.v h,.bool e])/\Ix (Sb b 2) a fun A=>Lr F 9 (Addr.add A (Int.toNat a*9)) fun B=>Li F (Am L 2) fun C=>ae prog 24 #[.agg B,.int .i64 C] F fun v F=>∃i,∃f,v=(.tuple #[Sl.v i,.bool f])/\Lr F 9 (Am s 0) fun D=>Lr F 9 (Am w 0) fun E=>Cbo 18 #[.agg D,.agg E] F fun G F=>Bb ((!G)) (R (.bool false) F) (Bc (c≠d) (R (.bool false) F) (Bb ((!(e==f))) (R (.bool false) F) (Bc ((h.len:Int)≠(i.len:Int)) (R (.bool false) F) (Ix (Sb b 2) a fun H=>Lr F 9 (Addr.add H (Int.toNat a*9)) fun I=>Ix (Sb b 2) a fun n=>Lr F 9 (Addr.add n (Int.toNat a*9)) fun j=>Cbo 25 #[.agg I,.int .u64 g] F fun J F=>F.row (Addr.add n (Int.toNat a*9)) j/\Cbo 26 #[.agg j,.int .u64 g] F fun p F=>Bb ((!(J==p))) (R (.bool false) F) ((∃(M:Nat->Int->PH->Prop) (K:Nat),M K 0 F/\∀K o F,M K o F-> zB N (nx1 M K) g L k b a h i R o F))))))) (Jr k R F)
def bQ6 (i j:Array Value) (k:Int) (R:VR) (F:PH):Prop:=Nb F (.cells i 26) fun l F=>Nb F (.cells j 28) fun h F=>Cbo 11 #[] F fun e F=>Lr F 5 (Am l 0) fun f=>Lr F 5 (Am l 0) fun b=>Lr F 3 (Am h 0) fun a=>Ca 13 #[.agg f] F fun c F=>F.row (Am h 0) a/\F.row (Am l 0) b/\Ca 13 #[.agg b] F fun g F=>F.row (Am h 0) a/\Ca 12 #[.agg g,.agg a] F fun d F=>c.size=9/\d.size=9/\Nb F (.cells (wr (wr (#[.slice none 0 0,.slice none 0 0,.int .i64 0,.slice none 0 0,.slice none 0 0,.slice none 0 0,.int .i64 0,.slice none 0 0,.slice none 0 0,.slice none 0 0,.slice none 0 0,.int .i64 0,.slice none 0 0,.slice none 0 0,.slice none 0 0,.int .i64 0,.slice none 0 0,.slice none 0 0]:Array Value) 0 c.toList) 9 d.toList) 39) fun m F=>Lp 0 F fun N n F=>DE N k h e m R n F
theorem cQ6 {a:Array Value} {b:Array Value} {c:Int} (h:bQ6 a b c R F):ae prog 6 #[.agg a,.agg b,.int .u64 c] F R:=Rx.sxC (args:=[.agg a,.agg b,.int .u64 c]) (.T .N (.T .N (.T .N (.J false [] (.T .N (.L [(9,.int .i64)] (.T .N (.J false [] (.T .N (.T .N (.T .N (.T .N (.T .N (.T .N (.L [(18,.int .i64)] .N))))))) .N)))) .N)))) (by kernel_rfl) h
def fY (c d:Bool) (e:Sl) (f:Int) (b:Bool) (R:VR) (F:PH):Prop:=Bb (c) (Bb (d) (Bb (b) (Bc (f=0) (∃a,rdo prog (Conv.bytesToString (Sl.v e)) F (.string a)/\Cs 36 #[] F fun h F=>rdo prog (Conv.bytesToString (Sl.v e)) F (.string a)/\∃g,rdo prog (Conv.bytesToString (Sl.v h)) F (.string g)/\R (.bool (a.toList==g.toList)) F) (R (.bool false) F)) (R (.bool false) F)) (R (.bool false) F)) (R (.bool false) F)
def jQ (x:Nat) (b c:Bool) (R:VR) (F:PH):Prop:=Ca 34 #[] F fun j F=>Nb F (.cells zG 39) fun i F=>au F (Am i 0) 9 j fun F=>Nb F (.cells #[.string ⟨#[65]⟩,.string ⟨#[66]⟩] 9) fun u F=>sto F (Am i 0) (Sl.v (Sb u 2)) fun F=>Nb F (.cells #[.int .u8 14] 5) fun w F=>Ca 35 #[Sl.v (Sb w 1),.int .i64 2] F fun k F=>au F (Am i 1) 2 k fun F=>Lr F 9 (Am i 0) fun l=>ae prog 23 #[.agg l,.int .i64 2] F fun v F=>∃e,∃f,v=(.tuple #[Sl.v e,.bool f])/\Lr F 9 (Am i 0) fun m=>ae prog 23 #[.agg m,.int .i64 3] F fun v F=>∃h,∃g,v=(.tuple #[Sl.v h,.bool g])/\Lr F 9 (Am x 0) fun n=>ae prog 14 #[.agg n] F fun v F=>∃d,∃a,v=(.tuple #[Sl.v d,.int .i64 a])/\Bc ((e.len:Int)=2) (Ix e 0 fun o=>Lk F .u64 (Addr.add o (Int.toNat 0*1)) fun p=>Bc (p=1) (Ix e 1 fun q=>Lk F .u64 (Addr.add q (Int.toNat 1*1)) fun r=>Bc (r=2) (Bb ((!f)) (Bc ((h.len:Int)=3) (Ix h 2 fun s=>Lk F .u64 (Addr.add s (Int.toNat 2*1)) fun t=>Bc (t=3) (fY b c d a g R F) (fY b c d a false R F)) (fY b c d a false R F)) (fY b c d a false R F)) (fY b c d a false R F)) (fY b c d a false R F)) (fY b c d a false R F)
def iz (I J:Nat) (a:Bool) (R:VR) (F:PH):Prop:=Ca 34 #[] F fun K F=>Ca 34 #[] F fun L F=>Ca 34 #[] F fun M F=>Ca 34 #[] F fun N F=>Ca 34 #[] F fun O F=>Nb F (.cells zG 39) fun U F=>Nb F (.cells zG 39) fun l F=>Nb F (.cells zG 39) fun b F=>Nb F (.cells zG 39) fun e F=>Nb F (.cells zG 39) fun m F=>au F (Am U 0) 9 K fun F=>au F (Am l 0) 9 L fun F=>au F (Am b 0) 9 M fun F=>au F (Am e 0) 9 N fun F=>au F (Am m 0) 9 O fun F=>Lr F 2 (Am I 0) fun f=>f.size=2/\(wr (Array.setIfInBounds (Array.setIfInBounds (Array.setIfInBounds zT 0 (.string ⟨#[116]⟩)) 2 (.string ⟨#[43]⟩)) 4 (.string ⟨#[43]⟩)) 5 f.toList).size=7/\Nb F (.cells (wr (Array.setIfInBounds (Array.setIfInBounds (Array.setIfInBounds zT 0 (.string ⟨#[116]⟩)) 2 (.string ⟨#[43]⟩)) 4 (.string ⟨#[43]⟩)) 5 f.toList) 79) fun V F=>sto F (Am U 3) (Sl.v (Sb V 1)) fun F=>(#[.int .i64 1,.int .i64 97,.int .i64 122,.int .i64 0,.int .i64 0]:Array Value).size=5/\Nb F (.cells (#[.int .i64 1,.int .i64 97,.int .i64 122,.int .i64 0,.int .i64 0]:Array Value) 97) fun P F=>Lr F 2 (Am I 0) fun g=>g.size=2/\(wr (Array.setIfInBounds (Array.setIfInBounds (Array.setIfInBounds zT 0 (.string ⟨#[116]⟩)) 3 (Sl.v (Sb P 1))) 4 (.string ⟨#[43]⟩)) 5 g.toList).size=7/\Nb F (.cells (wr (Array.setIfInBounds (Array.setIfInBounds (Array.setIfInBounds zT 0 (.string ⟨#[116]⟩)) 3 (Sl.v (Sb P 1))) 4 (.string ⟨#[43]⟩)) 5 g.toList) 79) fun W F=>sto F (Am l 3) (Sl.v (Sb W 1)) fun F=>Lr F 2 (Am I 0) fun h=>h.size=2/\Lr F 2 (Am I 0) fun i=>i.size=2/\(wr (Array.setIfInBounds (Array.setIfInBounds zT 0 (.string ⟨#[40]⟩)) 2 (.string ⟨#[40]⟩)) 5 h.toList).size=7/\(wr (Array.setIfInBounds (Array.setIfInBounds zT 0 (.string ⟨#[41]⟩)) 2 (.string ⟨#[41]⟩)) 5 i.toList).size=7/\Nb F (.cells (wr (wr (#[.string ⟨#[]⟩,.int .i64 0,.string ⟨#[]⟩,.slice none 0 0,.string ⟨#[]⟩,.slice none 0 0,.int .i64 0,.string ⟨#[]⟩,.int .i64 0,.string ⟨#[]⟩,.slice none 0 0,.string ⟨#[]⟩,.slice none 0 0,.int .i64 0]:Array Value) 0 (wr (Array.setIfInBounds (Array.setIfInBounds zT 0 (.string ⟨#[40]⟩)) 2 (.string ⟨#[40]⟩)) 5 h.toList).toList) 7 (wr (Array.setIfInBounds (Array.setIfInBounds zT 0 (.string ⟨#[41]⟩)) 2 (.string ⟨#[41]⟩)) 5 i.toList).toList) 79) fun X F=>sto F (Am b 3) (Sl.v (Sb X 2)) fun F=>Ls F (Am b 5) fun Q=>(#[.bool true,.int .i64 0]:Array Value).size=2/\(#[.bool false,.int .i64 0]:Array Value).size=2/\(#[.bool true,.int .i64 1]:Array Value).size=2/\Nb F (.cells (wr (wr (wr (#[.bool false,.int .i64 0,.bool false,.int .i64 0,.bool false,.int .i64 0]:Array Value) 0 (#[.bool true,.int .i64 0]:Array Value).toList) 2 (#[.bool false,.int .i64 0]:Array Value).toList) 4 (#[.bool true,.int .i64 1]:Array Value).toList) 69) fun Y F=>Ix Q 0 fun S=>sto F (Addr.add (Addr.add S (Int.toNat 0*13)) 2) (Sl.v (Sb Y 3)) fun F=>Ls F (Am b 5) fun n=>Ix n 0 fun o=>sto F (Addr.add (Addr.add o (Int.toNat 0*13)) 5) (.bool true) fun F=>Ls F (Am b 3) fun p=>sto F (Am e 3) (Sl.v p) fun F=>Ls F (Am e 5) fun q=>Ls F (Am b 5) fun r=>Ix r 0 fun s=>Lr F 13 (Addr.add s (Int.toNat 0*13)) fun t=>Ix q 0 fun u=>au F (Addr.add u (Int.toNat 0*13)) 13 t fun F=>Ls F (Am e 5) fun v=>Ix v 0 fun w=>sto F (Addr.add (Addr.add w (Int.toNat 0*13)) 6) (.int .i64 1) fun F=>Nb F (.cells #[.int .i64 0] 3) fun j F=>Lr F 2 (Am I 0) fun c=>c.size=2/\Nb F (.cells #[.int .i64 0] 3) fun k F=>Lr F 2 (Am I 0) fun d=>d.size=2/\(wr (Array.setIfInBounds zL 0 (Sl.v (Sb j 1))) 2 c.toList).size=4/\(wr (Array.setIfInBounds zL 0 (Sl.v (Sb k 1))) 2 d.toList).size=4/\Nb F (.cells (wr (wr (#[.slice none 0 0,.int .i64 0,.slice none 0 0,.int .i64 0,.slice none 0 0,.int .i64 0,.slice none 0 0,.int .i64 0]:Array Value) 0 (wr (Array.setIfInBounds zL 0 (Sl.v (Sb j 1))) 2 c.toList).toList) 4 (wr (Array.setIfInBounds zL 0 (Sl.v (Sb k 1))) 2 d.toList).toList) 72) fun T F=>sto F (Am m 7) (Sl.v (Sb T 2)) fun F=>Lr F 9 (Am U 0) fun x=>Ci 20 #[.agg x] F fun y F=>Bc (y=51) (Lr F 9 (Am l 0) fun z=>Ci 20 #[.agg z] F fun A F=>Bc (A=51) (Lr F 9 (Am b 0) fun B=>Ci 20 #[.agg B] F fun C F=>Bc (C=0) (Lr F 9 (Am e 0) fun D=>Ci 20 #[.agg D] F fun E F=>Bc (E=52) (Lr F 9 (Am m 0) fun G=>Ci 20 #[.agg G] F fun H F=>jQ J a (decide (H=53)) R F) (jQ J a false R F)) (jQ J a false R F)) (jQ J a false R F)) (jQ J a false R F)
def N9 (R:VR) (F:PH):Prop:=Ca 30 #[.bool true] F fun c F=>Nb F (.cells zD 33) fun b F=>au F (Am b 0) 2 c fun F=>Ca 34 #[] F fun d F=>Nb F (.cells zG 39) fun a F=>au F (Am a 0) 9 d fun F=>Ca 34 #[] F fun e F=>Ca 34 #[] F fun f F=>Ca 34 #[] F fun g F=>Ca 34 #[] F fun h F=>Ca 34 #[] F fun i F=>Nb F (.cells zG 39) fun A F=>Nb F (.cells zG 39) fun B F=>Nb F (.cells zG 39) fun C F=>Nb F (.cells zG 39) fun D F=>Nb F (.cells zG 39) fun E F=>au F (Am A 0) 9 e fun F=>au F (Am B 0) 9 f fun F=>au F (Am C 0) 9 g fun F=>au F (Am D 0) 9 h fun F=>au F (Am E 0) 9 i fun F=>sto F (Am A 6) (.int .i64 1) fun F=>Ls F (Am B 5) fun j=>Ix j 0 fun k=>sto F (Addr.add (Addr.add k (Int.toNat 0*13)) 1) (.int .i64 (-1:Int)) fun F=>Ls F (Am C 5) fun l=>Ix l 0 fun m=>sto F (Addr.add m (Int.toNat 0*13)) (.string ⟨#[]⟩) fun F=>Nb F (.cells #[.string ⟨#[116,114,117,101]⟩] 9) fun G F=>sto F (Am D 0) (Sl.v (Sb G 1)) fun F=>Ca 30 #[.bool false] F fun n F=>au F (Am E 1) 2 n fun F=>Lr F 9 (Am a 0) fun o=>Ci 20 #[.agg o] F fun p F=>Bc (p=0) (Lr F 9 (Am A 0) fun q=>Ci 20 #[.agg q] F fun r F=>Bc (r=50) (Lr F 9 (Am B 0) fun s=>Ci 20 #[.agg s] F fun t F=>Bc (t=50) (Lr F 9 (Am C 0) fun u=>Ci 20 #[.agg u] F fun v F=>Bc (v=52) (Lr F 9 (Am D 0) fun w=>Ci 20 #[.agg w] F fun x F=>Bc (x=54) (Lr F 9 (Am E 0) fun y=>Ci 20 #[.agg y] F fun z F=>iz b a (decide (z=54)) R F) (iz b a false R F)) (iz b a false R F)) (iz b a false R F)) (iz b a false R F)) (iz b a false R F)
theorem Th (h:N9 R F):ae prog 11 #[] F R:=Rx.sxC (args:=[]) (.T .N (.T .N (.T .N (.T .N (.T .N (.T .N (.T .N (.T .N (.T .N (.J false [(8,.bool)] .N (.T .N (.T .N (.T .N (.T .N (.T .N (.T .N (.T .N (.T .N (.T .N (.T .N (.J false [(14,.bool)] .N (.T .N (.T .N (.T .N (.T .N (.T .N (.T .N (.J false [(22,.bool)] .N .N)))))))))))))))))))))))))))) (by kernel_rfl) h
def cX (c b:Nat) (R:VR) (F:PH):Prop:=Lr F 9 (Am c 0) fun a=>au F (Am b 0) 9 a fun F=>Rr 9 (Am b 0) R F
def Oa (aN aO:Array Value) (R:VR) (F:PH):Prop:=Nb F (.cells aN 39) fun c F=>Nb F (.cells aO 28) fun e F=>Nb F (.cells zG 39) fun g F=>Nb F (.cells #[] 79) fun b7 F=>Ls F (Am c 3) fun aP=>Ap 34 #[Sl.v (Sb b7 0),Sl.v aP] F fun ai F=>sto F (Am c 3) (Sl.v ai) fun F=>Nb F (.cells #[] 67) fun aQ F=>Ls F (Am c 5) fun aj=>Ap 35 #[Sl.v (Sb aQ 0),Sl.v aj] F fun ak F=>sto F (Am c 5) (Sl.v ak) fun F=>Nb F (.cells #[] 72) fun aR F=>Ls F (Am c 7) fun al=>Ap 36 #[Sl.v (Sb aR 0),Sl.v al] F fun am F=>sto F (Am c 7) (Sl.v am) fun F=>Nb F (.cells #[] 74) fun aS F=>Ls F (Am c 8) fun an=>Ap 37 #[Sl.v (Sb aS 0),Sl.v an] F fun ao F=>sto F (Am c 8) (Sl.v ao) fun F=>Lk F .u8 (Am e 1) fun l=>Ls F (Am c 3) fun f=>(f.len:Int)≠0/\Lk F .u8 (Am e 1) fun b=>Ls F (Am c 5) fun a=>(a.len:Int)≠0/\Lk F .u8 (Am e 0) fun d=>Bc ((Int.tmod d 16)=0) (Li F (Am e 2) fun ap=>sto F (Am c 6) (.int .i64 ap) fun F=>cX c g R F) (Bc ((Int.tmod d 16)=1) (Ls F (Am c 5) fun aq=>Li F (Am e 2) fun ar=>Ix aq (Int.tmod (IntKind.i64.wrap b) (a.len:Int)) fun av=>sto F (Addr.add (Addr.add av (Int.toNat (Int.tmod (IntKind.i64.wrap b) (a.len:Int))*13)) 1) (.int .i64 ar) fun F=>cX c g R F) (Bc ((Int.tmod d 16)=2) (Ls F (Am c 5) fun y=>Lk F .u8 (Am e 1) fun m=>Li F (Am e 2) fun n=>Ls F (Am c 5) fun z=>Ix z (Int.tmod (IntKind.i64.wrap b) (a.len:Int)) fun aw=>∃A,F.cell (Addr.add (Addr.add aw (Int.toNat (Int.tmod (IntKind.i64.wrap b) (a.len:Int))*13)) 2)=some (Sl.v A)/\(#[.bool (decide ((Int.tmod m 2)=1)),.int .i64 n]:Array Value).size=2/\Nb F (.cells (#[.bool (decide ((Int.tmod m 2)=1)),.int .i64 n]:Array Value) 69) fun aT F=>Ap 62 #[Sl.v (Sb aT 1),Sl.v A] F fun ax F=>F.cell (Am c 5)=some (Sl.v z)/\F.cell (Am e 2)=some (.int .i64 n)/\F.cell (Am e 1)=some (.int .u8 m)/\F.cell (Am c 5)=some (Sl.v y)/\Ix y (Int.tmod (IntKind.i64.wrap b) (a.len:Int)) fun ay=>sto F (Addr.add (Addr.add ay (Int.toNat (Int.tmod (IntKind.i64.wrap b) (a.len:Int))*13)) 2) (Sl.v ax) fun F=>cX c g R F) (Bc ((Int.tmod d 16)=3) (Ls F (Am c 5) fun az=>Li F (Am e 2) fun aA=>Ix az (Int.tmod (IntKind.i64.wrap b) (a.len:Int)) fun aB=>sto F (Addr.add (Addr.add aB (Int.toNat (Int.tmod (IntKind.i64.wrap b) (a.len:Int))*13)) 6) (.int .i64 aA) fun F=>cX c g R F) (Bc ((Int.tmod d 16)=4) (Ls F (Am c 5) fun E=>Lk F .u8 (Am e 1) fun o=>Li F (Am e 2) fun p=>(#[.int .i64 (IntKind.i64.wrap (1+(Int.tmod (IntKind.i64.wrap o) 4))),.int .i64 p,.int .i64 0]:Array Value).size=3/\Nb F (.cells (#[.int .i64 (IntKind.i64.wrap (1+(Int.tmod (IntKind.i64.wrap o) 4))),.int .i64 p,.int .i64 0]:Array Value) 101) fun aC F=>Ix E (Int.tmod (IntKind.i64.wrap b) (a.len:Int)) fun G=>sto F (Addr.add (Addr.add G (Int.toNat (Int.tmod (IntKind.i64.wrap b) (a.len:Int))*13)) 7) (Sl.v (Sb aC 1)) fun F=>cX c g R F) (Bc ((Int.tmod d 16)=5) (Ls F (Am c 5) fun H=>Li F (Am e 2) fun I=>Ix H (Int.tmod (IntKind.i64.wrap b) (a.len:Int)) fun J=>sto F (Addr.add (Addr.add (Addr.add J (Int.toNat (Int.tmod (IntKind.i64.wrap b) (a.len:Int))*13)) 8) 1) (.int .i64 I) fun F=>cX c g R F) (Bc ((Int.tmod d 16)=6) (Ls F (Am c 5) fun K=>Ix K (Int.tmod (IntKind.i64.wrap b) (a.len:Int)) fun L=>sto F (Addr.add (Addr.add L (Int.toNat (Int.tmod (IntKind.i64.wrap b) (a.len:Int))*13)) 5) (.bool true) fun F=>cX c g R F) (Bc ((Int.tmod d 16)=7) (Ls F (Am c 3) fun M=>Li F (Am e 2) fun N=>Ix M (Int.tmod (IntKind.i64.wrap l) (f.len:Int)) fun O=>sto F (Addr.add (Addr.add O (Int.toNat (Int.tmod (IntKind.i64.wrap l) (f.len:Int))*7)) 1) (.int .i64 N) fun F=>cX c g R F) (Bc ((Int.tmod d 16)=8) (Ls F (Am c 3) fun P=>Ls F (Am c 3) fun Q=>Ix Q 0 fun S=>Lx F (Addr.add S (Int.toNat 0*7)) fun T=>Ix P (Int.tmod (IntKind.i64.wrap l) (f.len:Int)) fun U=>sto F (Addr.add U (Int.toNat (Int.tmod (IntKind.i64.wrap l) (f.len:Int))*7)) (.string T) fun F=>cX c g R F) (Bc ((Int.tmod d 16)=9) (Ls F (Am c 7) fun V=>Li F (Am e 2) fun W=>Nb F (.cells #[.int .i64 W] 3) fun B F=>Lk F .u8 (Am e 1) fun q=>Lr F 2 (Am c 1) fun h=>h.size=2/\(wr (Array.setIfInBounds (Array.setIfInBounds zL 0 (Sl.v (Sb B 1))) 1 (.int .i64 (Int.tmod (IntKind.i64.wrap q) 5))) 2 h.toList).size=4/\Nb F (.cells (wr (Array.setIfInBounds (Array.setIfInBounds zL 0 (Sl.v (Sb B 1))) 1 (.int .i64 (Int.tmod (IntKind.i64.wrap q) 5))) 2 h.toList) 72) fun aD F=>Ap 36 #[Sl.v V,Sl.v (Sb aD 1)] F fun X F=>sto F (Am c 7) (Sl.v X) fun F=>cX c g R F) (Bc ((Int.tmod d 16)=10) (Ls F (Am c 8) fun Y=>Lk F .u8 (Am e 1) fun r=>Li F (Am e 2) fun s=>Lr F 2 (Am c 1) fun i=>i.size=2/\(wr (Array.setIfInBounds (Array.setIfInBounds zF 0 (.int .i64 (Int.tmod (IntKind.i64.wrap r) 7))) 1 (.int .i64 s)) 7 i.toList).size=9/\Nb F (.cells (wr (Array.setIfInBounds (Array.setIfInBounds zF 0 (.int .i64 (Int.tmod (IntKind.i64.wrap r) 7))) 1 (.int .i64 s)) 7 i.toList) 74) fun aE F=>Ap 37 #[Sl.v Y,Sl.v (Sb aE 1)] F fun Z F=>sto F (Am c 8) (Sl.v Z) fun F=>cX c g R F) (Bc ((Int.tmod d 16)=11) (Ls F (Am c 8) fun aa=>Lk F .u8 (Am e 1) fun t=>Li F (Am e 2) fun u=>Lk F .u8 (Am e 1) fun ab=>Nb F (.cells #[.int .i64 (Int.tmod (IntKind.i64.wrap ab) 12)] 3) fun C F=>Lr F 2 (Am c 1) fun j=>j.size=2/\(wr (Array.setIfInBounds (Array.setIfInBounds (Array.setIfInBounds zF 0 (.int .i64 (Int.tmod (IntKind.i64.wrap t) 7))) 4 (.int .i64 u)) 6 (Sl.v (Sb C 1))) 7 j.toList).size=9/\Nb F (.cells (wr (Array.setIfInBounds (Array.setIfInBounds (Array.setIfInBounds zF 0 (.int .i64 (Int.tmod (IntKind.i64.wrap t) 7))) 4 (.int .i64 u)) 6 (Sl.v (Sb C 1))) 7 j.toList) 74) fun aF F=>Ap 37 #[Sl.v aa,Sl.v (Sb aF 1)] F fun ac F=>sto F (Am c 8) (Sl.v ac) fun F=>cX c g R F) (Bc ((Int.tmod d 16)=12) (Ls F (Am c 8) fun ad=>Lk F .u8 (Am e 1) fun v=>Li F (Am e 2) fun ae=>Nb F (.cells #[.int .i64 5,.int .i64 ae] 3) fun D F=>Lr F 2 (Am c 1) fun k=>k.size=2/\(wr (Array.setIfInBounds (Array.setIfInBounds zF 0 (.int .i64 (Int.tmod (IntKind.i64.wrap v) 7))) 6 (Sl.v (Sb D 2))) 7 k.toList).size=9/\Nb F (.cells (wr (Array.setIfInBounds (Array.setIfInBounds zF 0 (.int .i64 (Int.tmod (IntKind.i64.wrap v) 7))) 6 (Sl.v (Sb D 2))) 7 k.toList) 74) fun aG F=>Ap 37 #[Sl.v ad,Sl.v (Sb aG 1)] F fun af F=>sto F (Am c 8) (Sl.v af) fun F=>cX c g R F) (Bc ((Int.tmod d 16)=13) (Ls F (Am c 5) fun ag=>Li F (Am e 2) fun w=>(#[.int .i64 w,.int .i64 0,.int .i64 1]:Array Value).size=3/\Nb F (.cells (#[.int .i64 w,.int .i64 0,.int .i64 1]:Array Value) 103) fun aH F=>Ix ag (Int.tmod (IntKind.i64.wrap b) (a.len:Int)) fun ah=>au F (Addr.add (Addr.add ah (Int.toNat (Int.tmod (IntKind.i64.wrap b) (a.len:Int))*13)) 3) 2 (#[Sl.v (Sb aH 1),.int .i64 2]:Array Value) fun F=>cX c g R F) (Bc ((Int.tmod d 16)=14) (Li F (Am e 2) fun x=>(#[.int .i64 x,.int .i64 0,.int .i64 1]:Array Value).size=3/\Nb F (.cells (#[.int .i64 x,.int .i64 0,.int .i64 1]:Array Value) 103) fun aI F=>au F (Am c 1) 2 (#[Sl.v (Sb aI 1),.int .i64 2]:Array Value) fun F=>cX c g R F) (Ls F (Am c 5) fun aJ=>Li F (Am e 2) fun aK=>Lk F .u8 (Am e 1) fun aL=>Ix aJ (Int.tmod (IntKind.i64.wrap b) (a.len:Int)) fun aM=>au F (Addr.add (Addr.add aM (Int.toNat (Int.tmod (IntKind.i64.wrap b) (a.len:Int))*13)) 8) 5 (#[.bool false,.int .i64 0,.int .i64 0,.int .i64 aK,.int .i64 (IntKind.i64.wrap aL)]:Array Value) fun F=>cX c g R F)))))))))))))))
theorem Tj {a:Array Value} {b:Array Value} (h:Oa a b R F):ae prog 12 #[.agg a,.agg b] F R:=Rx.sxC (args:=[.agg a,.agg b]) (.T .N (.T .N (.T .N (.T .N (.T .N (.T .N (.T .N (.J false [] .N .N)))))))) (by kernel_rfl) h
def Ob (R:VR) (F:PH):Prop:=Nb F (.cells zG 39) fun e F=>Ca 30 #[.bool true] F fun c F=>Nb F (.cells zD 33) fun d F=>au F (Am d 0) 2 c fun F=>Lr F 2 (Am d 0) fun b=>Nb F (.cells #[.string ⟨#[83]⟩] 9) fun f F=>Lr F 2 (Am d 0) fun a=>a.size=2/\(wr (Array.setIfInBounds zP 0 (.string ⟨#[115]⟩)) 3 a.toList).size=13/\Nb F (.cells (wr (Array.setIfInBounds zP 0 (.string ⟨#[115]⟩)) 3 a.toList) 67) fun g F=>b.size=2/\au F (Am e 0) 9 (Array.setIfInBounds (Array.setIfInBounds (wr zG 1 b.toList) 4 (Sl.v (Sb f 1))) 5 (Sl.v (Sb g 1))) fun F=>Rr 9 (Am e 0) R F
theorem Tm (h:Ob R F):ae prog 34 #[] F R:=Rx.sxC (args:=[]) .N (by kernel_rfl) h
def Oc (R:VR) (F:PH):Prop:=Nb F (.cells #[.int .u8 0,.int .u8 0,.int .u8 1,.int .u8 0,.int .u8 1,.int .u8 1,.int .u8 83,.int .u8 1,.int .u8 1,.int .u8 115,.int .u8 0,.int .u8 0,.int .u8 0,.int .u8 1,.int .u8 0,.int .u8 1,.int .u8 0,.int .u8 0,.int .u8 0,.int .u8 0,.int .u8 0,.int .u8 0,.int .u8 0,.int .u8 0,.int .u8 0] 5) fun a F=>R (Sl.v (Sb a 25)) F
theorem Tn (h:Oc R F):ae prog 36 #[] F R:=Rx.sxC (args:=[]) .N (by kernel_rfl) h
end Go.Proofs.YtenpmjhnhepfdaaGreatDoor
namespace Go.Proofs.YtenpmjhnhepfdaaGreatDoor
open Go Go.Proofs.Tryz Tr
set_option maxRecDepth 10000
theorem lU (x:Bool) (F:PH):ae prog 30 #[.bool x] F fun r F'=>ur (dia (leaf x)) r F'/\F.le F':=
 (gi x).mono fun _ _ ⟨w,h1,h2,h3⟩=>⟨⟨w,h1,h2⟩,h3⟩
abbrev prS:Pr:=ba ⟨#[115]⟩ 0 []
section
variable {G F:PH} {As:List (PH->Prop)}
theorem St.first (h:St G F As) {Q:Value->PH->Prop} (k:∀G' F' b n s,G.le G'->RL G' n aJ.1->RL G' s aU.nons->St G' F' (pt b (.cells (prS.arr Sl.nil n Sl.nil) 67)::As)->
   Q (.agg (aU.arr Sl.nil n Sl.nil s (Sl.mk (some (Addr.mk b 0 none)) 1 1) Sl.nil Sl.nil)) F'):ae prog 34 #[] F Q:=by
 refine Tm ?_
 unfold Ob
 refine h.new fun b0 F1 h=> ?_
 refine h.run (lU true _) fun _ G1 F2 hr l1 h=> ?_
 obtain ⟨_,rfl,hw⟩:=hr
 obtain ⟨n,rfl,hn⟩:=hw.out
 refine ⟨_,rfl,?_⟩
 refine h.new fun b1 F3 h=> ?_
 refine h.put0 (w':= #[n.v,vi aJ.2]) rfl rfl (by simp [ai,Sl.v]) fun F4 h=> ?_
 refine ⟨_,rfl,h.whole0,?_⟩
 refine h.newG fun b4 G2 F5 l2 q4 _ h=> ?_
 refine ⟨_,rfl,h.whole0,rfl,rfl,?_⟩
 refine h.new fun b7 F6 h=> ?_
 refine ⟨rfl,?_⟩
 refine h.put2 (w':=aU.arr Sl.nil n Sl.nil (Sl.mk (some (Addr.mk b4 0 none)) 1 1) (Sl.mk (some (Addr.mk b7 0 none)) 1 1) Sl.nil Sl.nil) rfl rfl (by simp [ai,Sl.v]) fun F7 h=> ?_
 refine ⟨_,rfl,h.whole2,?_⟩
 exact k G2 F7 b7 n _ (aa l1 l2) (hn.le l2) (RL.strs.2 (RdS.new q4 rfl rfl (Nat.le_refl _))) h.front1.tail.front1.tail
theorem oX {b:Nat} {p:Pr} {r n l:Sl} {e:TypeId} (q:G b=some (.cells (p.arr r n l) e)) (h1:RL G r p.right) (h2:RL G n p.cond.1) (h3:RL G l p.lay):RL G (Sl.mk (some (Addr.mk b 0 none)) 1 1) [p]:=
 ⟨[_],.cons ⟨r,n,l,rfl,h1,h2,h3⟩ .nil,RdS.new q (by rw [bG];rfl) rfl (Nat.le_refl _)⟩
theorem St.firstG (h:St G F As) {Q:Value->PH->Prop} (k:∀G' F' n s p,G.le G'->RL G' n aJ.1->RL G' s aU.nons->RL G' p aU.prods->St G' F' As->
   Q (.agg (aU.arr Sl.nil n Sl.nil s p Sl.nil Sl.nil)) F'):ae prog 34 #[] F Q:=by
 refine h.first fun G1 F1 b n s l1 hn hs h=> ?_
 obtain ⟨G2,l2,⟨H,hA,hH⟩,h⟩:=h.pin
 exact k G2 F1 n s _ (aa l1 l2) (hn.le l2) (hs.le l2) (oX (hH _ _ hA) (.nil _) (hn.le l2) (.nil _)) h
end
theorem tJ (F:PH):ae prog 36 #[] F fun r F'=>(∃s:Sl,r=.slice s.base s.len s.cap/\RdS F' s 1 (yd.map vB))/\F.le F':=by
 refine Tn ?_
 unfold Oc
 refine (St.start F).newG fun b1 G1 F1 l1 q1 _ h=> ?_
 exact ⟨⟨_,rfl,RdS.new (h.le _ _ q1) rfl rfl (Nat.le_refl _)⟩,aa l1 h.le⟩
def Od (ns:List Nat):ByteArray:=⟨(ns.map UInt8.ofNat).toArray⟩
theorem vT {F:PH} (P:Program):∀(ns:List Nat) (s:ByteArray),
  rdo P (forIn (ns.map vB) s fun c s=>do
   let .int .u8 n:=c|stuck "bytesToString: byte expected"
   let s:=s.push (UInt8.ofNat n.toNat)
   pure (ForInStep.yield s)) F (ns.foldl (fun s n=>s.push (UInt8.ofNat n)) s)
 |[],s=>by simp [rdo]
 |n::ns,s=>by
  simp only [List.map_cons,List.forIn_cons,ak,List.foldl_cons]
  refine ⟨.yield (s.push (UInt8.ofNat n)),?_,?_⟩
  ·simp [rdo]
  ·exact vT P ns _
theorem vU:∀(ns:List Nat) (s:ByteArray),ns.foldl (fun s n=>s.push (UInt8.ofNat n)) s=⟨s.data++(ns.map UInt8.ofNat).toArray⟩
 |[],s=>by simp
 |n::ns,s=>by
  rw [List.foldl_cons,vU ns]
  simp [ByteArray.push]
theorem tK {F:PH} {P:Program} {s:Sl} {ns:List Nat} (h:RdS F s 1 (ns.map vB)):rdo P (Conv.bytesToString s.v) F (.string (Od ns)):=by
 obtain ⟨base,len,cap⟩:=s
 have hl:=h.len
 simp only [List.length_map,Nat.mul_one] at hl
 unfold Conv.bytesToString Sl.v
 cases base with
 |none=>
  have h0:len=0:=by
   rcases Nat.eq_zero_or_pos len with h0|h0
   ·exact h0
   ·obtain ⟨b,o,h1,_⟩:=h.cells h0
    cases h1
  subst h0
  have:ns=[]:=List.length_eq_zero_iff.1 (by omega)
  subst this
  rfl
 |some a=>
  simp only [ak]
  refine ⟨(ns.map vB).toArray,?_,?_⟩
  ·have hr:=h.row (a:=a) rfl 0 (ns.map vB).toArray (by rw [List.drop_zero,List.size_toArray,List.take_length])
   rw [show a.add 0=a from rfl] at hr
   have:=dC (P:=P) hr
   simp only [List.size_toArray,List.length_map] at this
   rw [hl] at this
   exact this
  ·refine ⟨ns.foldl (fun s n=>s.push (UInt8.ofNat n)) .empty,?_,?_⟩
   ·rw [<- Array.forIn_toList]
    exact vT P ns .empty
   ·rw [vU]
    show (Value.string _)=_
    simp [Od,ByteArray.empty,ByteArray.emptyWithCapacity]
    rfl
structure SK (F G:PH) (b1 b2:Nat) (n:Sl) (w2:Array Value):Prop where
 lF:F.le G
 hT:Tab G
 q1:G b1=some (.cells #[Sl.v n,vi aJ.2] 33)
 hn:RL G n aJ.1
 q2:G b2=some (.cells w2 39)
 g2:GV G w2 aU
theorem SK.le {F G G':PH} {b1 b2:Nat} {n:Sl} {w2:Array Value} (h:SK F G b1 b2 n w2) (l:G.le G'):SK F G' b1 b2 n w2:=⟨aa h.lF l,h.hT.le l,l _ _ h.q1,h.hn.le l,l _ _ h.q2,h.g2.le l⟩
abbrev RT (F:PH):VR:=fun r F'=>r=.bool true/\F.le F'
section
variable {F G F1:PH} {b1 b2:Nat} {n:Sl} {w2:Array Value}
theorem Mp (K:SK F G b1 b2 n w2) (h:St G F1 []) {s:Sl} (hs:RdS G s 1 (yd.map vB)):fY true true s 0 true (RT F) F1:=by
 unfold fY
 refine ⟨fun _=>⟨fun _=>⟨fun _=>⟨fun _=> ?_,fun hc=>absurd rfl hc⟩,fun hc=>(by cases hc)⟩,fun hc=>(by cases hc)⟩,fun hc=>(by cases hc)⟩
 refine ⟨_,tK (hs.le h.le),?_⟩
 refine h.run (tJ _) fun _ G2 F2 hr l2 h=> ?_
 obtain ⟨s2,rfl,hs2⟩:=hr
 refine ⟨s2,rfl,tK ((hs.le l2).le h.le),_,tK (hs2.le h.le),?_,aa K.lF (aa l2 h.le)⟩
 simp
theorem Mq (K:SK F G b1 b2 n w2) (h:St G F1 []):jQ b2 true true (RT F) F1:=by
 unfold jQ
 refine h.firstG fun G1 F2 m s p l1 hm hs hp h=> ?_
 replace K:=K.le l1
 refine ⟨_,rfl,?_⟩
 refine h.new fun b15 F3 h=> ?_
 refine h.put0 (w':=aU.arr Sl.nil m Sl.nil s p Sl.nil Sl.nil) rfl rfl (by simp [ai,Sl.v]) fun F4 h=> ?_
 refine h.newG fun b150 G2 F5 l2 q150 _ h=> ?_
 replace K:=K.le l2
 refine h.set0 (w':=Gr.arr {aU with conds:=[⟨#[65]⟩,⟨#[66]⟩]} (Sl.mk (some (Addr.mk b150 0 none)) 2 2) m Sl.nil s p Sl.nil Sl.nil) (by show 0<9;decide) rfl fun F6 h=> ?_
 refine h.newG fun b152 G3 F7 l3 q152 _ h=> ?_
 replace K:=K.le l3
 have hr:RdS G3 (Sl.mk (some (Addr.mk b152 0 none)) 1 1) 1 (([14]:List Int).map (Value.int .u8)):=RdS.new q152 rfl rfl (Nat.le_refl _)
 refine h.run (P:=fun r G=>ur (dia CB) r G) ((i6 (n:=2) (by decide) hr).mono fun r F' ⟨u,t,h1,⟨h2,h3⟩,h4,h5⟩=>⟨⟨u,h1,by subst h3;exact h4⟩,h5⟩) fun _ G4 F8 hr l4 h=> ?_
 obtain ⟨_,rfl,hw⟩:=hr
 obtain ⟨m',rfl,hm'⟩:=hw.out
 replace K:=K.le l4
 refine ⟨_,rfl,?_⟩
 refine h.putR0 (o:=1) (w':=ue.arr (Sl.mk (some (Addr.mk b150 0 none)) 2 2) m' Sl.nil s p Sl.nil Sl.nil) rfl (by simp [ai,Sl.v]) (by show 1+2<=9;decide) rfl fun F9 h=> ?_
 obtain ⟨G5,l5,⟨H,hA,hH⟩,h⟩:=h.pin
 have q15:=hH _ _ hA
 replace K:=K.le l5
 have l34:=aa l3 (aa l4 l5)
 have l24:=aa l2 l34
 have hg:GV G5 (ue.arr (Sl.mk (some (Addr.mk b150 0 none)) 2 2) m' Sl.nil s p Sl.nil Sl.nil) ue:=⟨_,_,_,_,_,_,_,rfl,RL.strs.2 (RdS.new (l34 _ _ q150) rfl rfl (Nat.le_refl _)),hm'.le l5,.nil _,hs.le l24,hp.le l24,.nil _,.nil _⟩
 have hz:Sz ue:=eX (by decide) (fun t ht=>(by cases ht)) (fun l hl=>(by cases hl)) rfl
 refine ⟨_,rfl,aj (h.le _ _ q15),?_⟩
 refine h.run (gY K.hT hg hz (by decide) 2) fun _ G6 F10 hr l6 h=> ?_
 obtain ⟨s6,rfl,hs6⟩:=hr
 rw [uf] at hs6 ⊢
 replace K:=K.le l6
 refine ⟨_,_,rfl,_,rfl,aj (h.le _ _ (l6 _ _ q15)),?_⟩
 refine h.run (gY K.hT (hg.le l6) hz (by decide) 3) fun _ G7 F11 hr l7 h=> ?_
 obtain ⟨s7,rfl,hs7⟩:=hr
 rw [ug] at hs7 ⊢
 replace K:=K.le l7
 refine ⟨_,_,rfl,_,K.g2.size,aj (h.le _ _ K.q2),?_⟩
 refine h.run (wS K.hT K.g2 (eX (fun s hs=>(by cases hs)) (fun t ht=>(by cases ht)) (fun l hl=>(by cases hl)) rfl) EO fun _=>⟨EN,by rw [sB];decide⟩) fun _ G8 F12 hr l8 h=> ?_
 obtain ⟨s8,rfl,hs8⟩:=hr
 rw [lY,if_pos rfl,sB] at hs8
 rw [lY]
 replace K:=K.le l8
 have l78:=aa l7 l8
 have e6:=hs6.len
 have e7:=hs7.len
 simp at e6 e7
 obtain ⟨a6,o6,ha6,hc6⟩:=(hs6.le l78).cells (by omega)
 obtain ⟨a7,o7,ha7,hc7⟩:=(hs7.le l8).cells (by omega)
 have c0:=aq h.le (((hs6.le l78).cell ha6 (i:=0) (by decide)))
 have c1:=aq h.le (((hs6.le l78).cell ha6 (i:=1) (by decide)))
 have d2:=aq h.le (((hs7.le l8).cell ha7 (i:=2) (by decide)))
 have hj:fY true true s8 0 true (RT F) F12:=Mp K h hs8
 refine ⟨_,_,rfl,fun _=>⟨_,ha6,by decide,by omega,1,c0,fun _=>⟨_,ha6,by decide,by omega,2,c1,fun _=>⟨fun _=>⟨fun _=>⟨_,ha7,by decide,by omega,3,d2,fun _=>hj,fun hc=>absurd rfl hc⟩,fun hc=>absurd (by omega) hc⟩,fun hc=>(by cases hc)⟩,fun hc=>absurd rfl hc⟩,fun hc=>absurd rfl hc⟩,fun hc=>absurd (by omega) hc⟩
end
end Go.Proofs.YtenpmjhnhepfdaaGreatDoor
