/-
  The reference's diagrams: level, sides, constants, conditions; the walk that numbers the branches.
-/
import Derived.Test.YtenpmjhnhepfdaaGreatDoorPhp
import Derived.Test.YtenpmjhnhepfdaaGreatDoorEa
import Derived.Test.YtenpmjhnhepfdaaGreatDoorEr
namespace Go.Proofs.YtenpmjhnhepfdaaGreatDoor
open Go Go.Proofs.Tryz
variable {R:VR} {F:PH}
set_option maxRecDepth 10000
set_option maxHeartbeats 4000000
def Pu (b:Sl) (c:Int) (R:VR) (F:PH):Prop:=Nb F (.cells zD 33) fun d F=>Ca 106 #[Sl.v b,.int .i64 (max 0 (min c 6)),.int .i64 0,.int .i64 0] F fun a F=>au F (Am d 0) 2 a fun F=>Rr 2 (Am d 0) R F
theorem Uk {a:Sl} {b:Int} (h:Pu a b R F):ae prog 35 #[Sl.v a,.int .i64 b] F R:=Rx.sxC (args:=[Sl.v a,.int .i64 b]) .N (by kernel_rfl) h
def Pv (a:Bool) (R:VR) (F:PH):Prop:=Nb F (.cells zD 33) fun b F=>Bb (a) (au F (Am b 0) 2 (#[.slice none 0 0,.int .i64 1]:Array Value) fun F=>Rr 2 (Am b 0) R F) (au F (Am b 0) 2 zD fun F=>Rr 2 (Am b 0) R F)
theorem Ul {a:Bool} (h:Pv a R F):ae prog 89 #[.bool a] F R:=Rx.sxC (args:=[.bool a]) .N (by kernel_rfl) h
def Fz (a:Int) (R:VR) (F:PH):Prop:=R (.bool (decide (a=1))) F
def FA (j:Int->PH->Prop) (i:Int) (k:Nat) (R:VR) (a:Int) (F:PH):Prop:=Bc (1<a) (Ls F (Am k 0) fun d=>Ix d (IntKind.i64.wrap (a - 2)) fun e=>∃b,b.size=3/\F.row (Addr.add e (Int.toNat (IntKind.i64.wrap (a - 2))*3)) b/\Nb F (.cells (#[.int .i64 0,.int .i64 0,.int .i64 0]) 103) fun h F=>au F (Am h 0) 3 b fun F=>Li F (Am h 0) fun c=>0<=(IntKind.u64.wrap c)/\Bc ((IntKind.u64.wrap ((BitVec.ofInt (IntKind.u64).bits (Int.fdiv i (2 ^ (min (Int.toNat (IntKind.u64.wrap c)) (IntKind.u64).bits))) &&& BitVec.ofInt (IntKind.u64).bits 1).toNat))=1) (Li F (Am h 2) fun f=>j f F) (Li F (Am h 1) fun g=>j g F)) (Fz a R F)
def Pw (b:Array Value) (c:Int) (R:VR) (F:PH):Prop:=Nb F (.cells b 33) fun e F=>Li F (Am e 1) fun d=>Lp d F fun N a F=>FA N c e R a F
theorem Um {a:Array Value} {b:Int} (h:Pw a b R F):ae prog 93 #[.agg a,.int .u64 b] F R:=Rx.sxC (args:=[.agg a,.int .u64 b]) (.T .N (.T .N (.J false [(5,.int .i64)] (.L [(5,.int .i64)] .N) .N))) (by kernel_rfl) h
def Px (b:Array Value) (R:VR) (F:PH):Prop:=Nb F (.cells b 33) fun e F=>Nb F (.cells zD 33) fun f F=>Lr F 2 (Am e 0) fun a=>Ca 89 #[.bool true] F fun c F=>F.row (Am e 0) a/\Ca 166 #[.agg a,.agg c,.int .i64 2] F fun d F=>au F (Am f 0) 2 d fun F=>Rr 2 (Am f 0) R F
theorem Un {a:Array Value} (h:Px a R F):ae prog 97 #[.agg a] F R:=Rx.sxC (args:=[.agg a]) .N (by kernel_rfl) h
def FB (d:Sl) (j c a:Int) (R:VR) (F:PH):Prop:=Nb F (.cells zD 33) fun l F=>Bc (c=j) (Bc ((IntKind.i64.wrap (Int.tdiv a 8))<(d.len:Int)) (Ix d (IntKind.i64.wrap (Int.tdiv a 8)) fun m=>∃g,F.cell (Addr.add m (Int.toNat (IntKind.i64.wrap (Int.tdiv a 8))*1))=some (.int .u8 g)/\0<=(IntKind.u64.wrap (Int.tmod a 8))/\Ca 89 #[.bool (decide ((IntKind.u8.wrap ((BitVec.ofInt (IntKind.u8).bits (Int.fdiv g (2 ^ (min (Int.toNat (IntKind.u64.wrap (Int.tmod a 8))) (IntKind.u8).bits))) &&& BitVec.ofInt (IntKind.u8).bits 1).toNat))=1))] F fun n F=>au F (Am l 0) 2 n fun F=>Rr 2 (Am l 0) R F) (Ca 89 #[.bool false] F fun e F=>au F (Am l 0) 2 e fun F=>Rr 2 (Am l 0) R F)) (ae prog 165 #[.int .i64 c] F fun v F=>∃h,∃f,v=(.tuple #[.agg h,.int .i64 f])/\Nb F (.cells zD 33) fun k F=>au F (Am k 0) 2 h fun F=>Lr F 2 (Am k 0) fun i=>0<=(IntKind.u64.wrap c)/\Lr F 2 (Am k 0) fun b=>Ca 106 #[Sl.v d,.int .i64 j,.int .i64 (IntKind.i64.wrap (c+1)),.int .i64 (IntKind.i64.wrap (a+(IntKind.i64.wrap (1*2 ^ (min (Int.toNat (IntKind.u64.wrap c)) (IntKind.i64).bits)))))] F fun o F=>F.row (Am k 0) b/\F.row (Am k 0) i/\Ca 170 #[.agg i,.agg o] F fun p F=>F.row (Am k 0) b/\Ca 106 #[Sl.v d,.int .i64 j,.int .i64 (IntKind.i64.wrap (c+1)),.int .i64 a] F fun q F=>F.row (Am k 0) b/\Ca 171 #[.agg q,.agg b] F fun r F=>Ca 169 #[.agg p,.agg r] F fun s F=>au F (Am l 0) 2 s fun F=>Rr 2 (Am l 0) R F)
theorem J3 {a:Sl} {b:Int} {c:Int} {d:Int} (h:FB a b c d R F):ae prog 106 #[Sl.v a,.int .i64 b,.int .i64 c,.int .i64 d] F R:=Rx.sxC (args:=[Sl.v a,.int .i64 b,.int .i64 c,.int .i64 d]) .N (by kernel_rfl) h
def kT (c:Int) (d:Nat) (e:Bool) (R:VR) (F:PH):Prop:=Bb (e) (au F (Am d 0) 2 zD fun F=>Lr F 2 (Am d 0) fun b=>R (.tuple #[.agg b,.int .i64 1]) F) ((#[.int .i64 c,.int .i64 0,.int .i64 1]:Array Value).size=3/\Nb F (.cells (#[.int .i64 c,.int .i64 0,.int .i64 1]:Array Value) 103) fun f F=>au F (Am d 0) 2 (#[Sl.v (Sb f 1),.int .i64 2]:Array Value) fun F=>Lr F 2 (Am d 0) fun a=>R (.tuple #[.agg a,.int .i64 0]) F)
def J4 (a:Int) (R:VR) (F:PH):Prop:=Nb F (.cells zD 33) fun b F=>Bc (a<0) (kT a b true R F) (kT a b (decide (63<a)) R F)
theorem Py {a:Int} (h:J4 a R F):ae prog 165 #[.int .i64 a] F R:=Rx.sxC (args:=[.int .i64 a]) (.T .N (.T (.J false [(9,.bool)] .N .N) .N)) (by kernel_rfl) h
def J5 (j k:Array Value) (b:Int) (R:VR) (F:PH):Prop:=Nb F (.cells j 33) fun l F=>Nb F (.cells k 33) fun m F=>Nb F (.cells zD 33) fun n F=>Lr F 2 (Am l 0) fun c=>Lr F 2 (Am m 0) fun a=>c.size=2/\a.size=2/\Nb F (.cells (Array.setIfInBounds (wr (wr (#[.slice none 0 0,.int .i64 0,.slice none 0 0,.int .i64 0,.int .i64 0,.slice none 0 0,.slice none 0 0]:Array Value) 0 c.toList) 2 a.toList) 4 (.int .i64 b)) 296) fun d F=>Li F (Am l 1) fun e=>Li F (Am m 1) fun f=>Ci 213 #[.pointer (some (Am d 0)),.int .i64 e,.int .i64 f] F fun g F=>Ls F (Am d 5) fun h=>Ca 214 #[Sl.v h,.int .i64 g] F fun i F=>au F (Am n 0) 2 i fun F=>Rr 2 (Am n 0) R F
theorem Pz {b:Array Value} {c:Array Value} {a:Int} (h:J5 b c a R F):ae prog 166 #[.agg b,.agg c,.int .i64 a] F R:=Rx.sxC (args:=[.agg b,.agg c,.int .i64 a]) .N (by kernel_rfl) h
def J6 (a b:Array Value) (R:VR) (F:PH):Prop:=Nb F (.cells a 33) fun g F=>Nb F (.cells b 33) fun h F=>Nb F (.cells zD 33) fun f F=>Lr F 2 (Am g 0) fun c=>Lr F 2 (Am h 0) fun d=>Ca 166 #[.agg c,.agg d,.int .i64 1] F fun e F=>au F (Am f 0) 2 e fun F=>Rr 2 (Am f 0) R F
theorem PA {a:Array Value} {b:Array Value} (h:J6 a b R F):ae prog 169 #[.agg a,.agg b] F R:=Rx.sxC (args:=[.agg a,.agg b]) .N (by kernel_rfl) h
def J7 (a b:Array Value) (R:VR) (F:PH):Prop:=Nb F (.cells a 33) fun g F=>Nb F (.cells b 33) fun h F=>Nb F (.cells zD 33) fun f F=>Lr F 2 (Am g 0) fun c=>Lr F 2 (Am h 0) fun d=>Ca 166 #[.agg c,.agg d,.int .i64 0] F fun e F=>au F (Am f 0) 2 e fun F=>Rr 2 (Am f 0) R F
theorem PB {a:Array Value} {b:Array Value} (h:J7 a b R F):ae prog 170 #[.agg a,.agg b] F R:=Rx.sxC (args:=[.agg a,.agg b]) .N (by kernel_rfl) h
def J8 (b c:Array Value) (R:VR) (F:PH):Prop:=Nb F (.cells b 33) fun g F=>Nb F (.cells c 33) fun i F=>Nb F (.cells zD 33) fun h F=>Lr F 2 (Am g 0) fun a=>Lr F 2 (Am i 0) fun d=>Ca 97 #[.agg d] F fun e F=>F.row (Am g 0) a/\Ca 170 #[.agg a,.agg e] F fun f F=>au F (Am h 0) 2 f fun F=>Rr 2 (Am h 0) R F
theorem PC {a:Array Value} {b:Array Value} (h:J8 a b R F):ae prog 171 #[.agg a,.agg b] F R:=Rx.sxC (args:=[.agg a,.agg b]) .N (by kernel_rfl) h
def uA (w:Option Addr) (h i:Int) (R:VR) (F:PH):Prop:=∃a,w=some a/\Lr F 2 a fun r=>Lr F 2 (Addr.add a 2) fun j=>Ci 231 #[.agg r,.int .i64 h] F fun e F=>F.row (Addr.add a 2) j/\Ci 231 #[.agg j,.int .i64 i] F fun f F=>Lr F 2 a fun s=>ae prog 232 #[.agg s,.int .i64 h,.int .i64 (min e f)] F fun v F=>∃k,∃c,v=(.tuple #[.int .i64 k,.int .i64 c])/\Lr F 2 (Addr.add a 2) fun t=>ae prog 232 #[.agg t,.int .i64 i,.int .i64 (min e f)] F fun v F=>∃l,∃d,v=(.tuple #[.int .i64 l,.int .i64 d])/\Ci 213 #[.pointer (some a),.int .i64 k,.int .i64 l] F fun m F=>Ci 213 #[.pointer (some a),.int .i64 c,.int .i64 d] F fun n F=>Ls F (Addr.add a 5) fun o=>ae prog 233 #[Sl.v o,.agg (#[.int .i64 (min e f),.int .i64 m,.int .i64 n]:Array Value)] F fun v F=>∃g,∃b,v=(.tuple #[Sl.v g,.int .i64 b])/\sto F (Addr.add a 5) (Sl.v g) fun F=>Ls F (Addr.add a 6) fun p=>(#[.int .i64 h,.int .i64 i,.int .i64 b]:Array Value).size=3/\Nb F (.cells (#[.int .i64 h,.int .i64 i,.int .i64 b]:Array Value) 289) fun u F=>Ap 294 #[Sl.v p,Sl.v (Sb u 1)] F fun q F=>sto F (Addr.add a 6) (Sl.v q) fun F=>R (.int .i64 b) F
def nL (g:Int->PH->Prop) (a:Addr) (h i b:Int) (c:Bool) (R:VR) (F:PH):Prop:=Bb (c) (Ls F (Addr.add a 6) fun d=>Ix d b fun e=>0<=(2:Int)/\(2:Int)<3/\Li F (Addr.add (Addr.add e (Int.toNat b*3)) (Int.toNat 2*1)) fun f=>R (.int .i64 f) F) (g (IntKind.i64.wrap (b+1)) F)
def Aw (m:Int->PH->Prop) (l:Option Addr) (c d:Int) (R:VR) (b:Int) (F:PH):Prop:=∃a,l=some a/\Ls F (Addr.add a 6) fun e=>Bc (b<(e.len:Int)) (Ls F (Addr.add a 6) fun f=>Ix f b fun g=>0<=(0:Int)/\(0:Int)<3/\Li F (Addr.add (Addr.add g (Int.toNat b*3)) (Int.toNat 0*1)) fun h=>Bc (h=c) (Ls F (Addr.add a 6) fun i=>Ix i b fun j=>0<=(1:Int)/\(1:Int)<3/\Li F (Addr.add (Addr.add j (Int.toNat b*3)) (Int.toNat 1*1)) fun k=>nL m a c d b (decide (k=d)) R F) (nL m a c d b false R F)) (uA (some a) c d R F)
def kU (a:Option Addr) (b c:Int) (d:Bool) (R:VR) (F:PH):Prop:=Bb (d) (Ci 230 #[.pointer a,.int .i64 b,.int .i64 c] F fun e F=>R (.int .i64 e) F) (Lp 0 F fun N f F=>Aw N a b c R f F)
def J9 (c:Option Addr) (a b:Int) (R:VR) (F:PH):Prop:=Bc (a<2) (kU c a b (decide (b<2)) R F) (kU c a b false R F)
theorem PD {a:Option Addr} {b:Int} {c:Int} (h:J9 a b c R F):ae prog 213 #[.pointer a,.int .i64 b,.int .i64 c] F R:=Rx.sxC (args:=[.pointer a,.int .i64 b,.int .i64 c]) (.T .N (.T (.J false [(22,.bool)] .N .N) (.J false [(0,.ptr)] (.T .N (.L [(7,.int .i64)] (.T .N (.T (.J false [(57,.bool)] .N .N) .N)))) .N))) (by kernel_rfl) h
def Ka (a:Sl) (b:Int) (R:VR) (F:PH):Prop:=Nb F (.cells zD 33) fun g F=>aE prog (Instr.makeSlice 70 (.int .i64 (a.len:Int)) (.int .i64 (a.len:Int))) F fun v F=>∃c,v=(Sl.v c)/\Nb F (.cells (#[Sl.v a,Sl.v c,.slice none 0 0]:Array Value) 313) fun d F=>Ci 234 #[.pointer (some (Am d 0)),.int .i64 b] F fun e F=>Ls F (Am d 2) fun f=>au F (Am g 0) 2 (#[Sl.v f,.int .i64 e]:Array Value) fun F=>Rr 2 (Am g 0) R F
theorem PE {a:Sl} {b:Int} (h:Ka a b R F):ae prog 214 #[Sl.v a,.int .i64 b] F R:=Rx.sxC (args:=[Sl.v a,.int .i64 b]) .N (by kernel_rfl) h
def Kb (a:Array Value) (R:VR) (F:PH):Prop:=Nb F (.cells a 33) fun e F=>Ls F (Am e 0) fun b=>Bc ((4096:Int)<(b.len:Int)) (R (.int .i64 2) F) (Lr F 2 (Am e 0) fun c=>Cbo 235 #[.agg c] F fun d F=>Bb ((!d)) (R (.int .i64 20) F) (R (.int .i64 0) F))
theorem PF {a:Array Value} (h:Kb a R F):ae prog 216 #[.agg a] F R:=Rx.sxC (args:=[.agg a]) .N (by kernel_rfl) h
def Kc (e:Option Addr) (c d:Int) (R:VR) (F:PH):Prop:=∃a,e=some a/\Li F (Addr.add a 4) fun b=>Bc (b=0) (R (.int .i64 (IntKind.i64.wrap (c*d))) F) (Bc (b=1) (R (.int .i64 (max c d)) F) (R (.int .i64 (Int.tmod (IntKind.i64.wrap (c+d)) 2)) F))
theorem PG {a:Option Addr} {b:Int} {c:Int} (h:Kc a b c R F):ae prog 230 #[.pointer a,.int .i64 b,.int .i64 c] F R:=Rx.sxC (args:=[.pointer a,.int .i64 b,.int .i64 c]) .N (by kernel_rfl) h
def Ke (d:Array Value) (b:Int) (R:VR) (F:PH):Prop:=Nb F (.cells d 33) fun f F=>Bc (b<2) (R (.int .i64 64) F) (Ls F (Am f 0) fun e=>Ix e (IntKind.i64.wrap (b - 2)) fun c=>∃a,F.cell (Addr.add c (Int.toNat (IntKind.i64.wrap (b - 2))*3))=some (.int .i64 a)/\R (.int .i64 a) F)
theorem PI {a:Array Value} {b:Int} (h:Ke a b R F):ae prog 231 #[.agg a,.int .i64 b] F R:=Rx.sxC (args:=[.agg a,.int .i64 b]) .N (by kernel_rfl) h
def Kf (i:Array Value) (a j:Int) (R:VR) (F:PH):Prop:=Nb F (.cells i 33) fun k F=>Lr F 2 (Am k 0) fun l=>Ci 231 #[.agg l,.int .i64 a] F fun d F=>Bc (d≠j) (R (.tuple #[.int .i64 a,.int .i64 a]) F) (Ls F (Am k 0) fun e=>Ix e (IntKind.i64.wrap (a - 2)) fun f=>∃b,F.cell (Addr.add (Addr.add f (Int.toNat (IntKind.i64.wrap (a - 2))*3)) 1)=some (.int .i64 b)/\Ls F (Am k 0) fun g=>Ix g (IntKind.i64.wrap (a - 2)) fun h=>∃c,F.cell (Addr.add (Addr.add h (Int.toNat (IntKind.i64.wrap (a - 2))*3)) 2)=some (.int .i64 c)/\R (.tuple #[.int .i64 b,.int .i64 c]) F)
theorem PJ {a:Array Value} {b:Int} {c:Int} (h:Kf a b c R F):ae prog 232 #[.agg a,.int .i64 b,.int .i64 c] F R:=Rx.sxC (args:=[.agg a,.int .i64 b,.int .i64 c]) .N (by kernel_rfl) h
def Ax (c:Sl) (e:Nat) (R:VR) (F:PH):Prop:=Lr F 3 (Am e 0) fun a=>a.size=3/\Nb F (.cells a 103) fun d F=>Ap 31 #[Sl.v c,Sl.v (Sb d 1)] F fun b F=>R (.tuple #[Sl.v b,.int .i64 (IntKind.i64.wrap ((b.len:Int)+1))]) F
def Ay (h:Int->PH->Prop) (b:Sl) (g:Nat) (R:VR) (a:Int) (F:PH):Prop:=Bc (a<(b.len:Int)) (Ix b a fun d=>Lr F 3 (Addr.add d (Int.toNat a*3)) fun e=>Lr F 3 (Am g 0) fun f=>∃c,(∀F,rdo prog (Op.equal 103 (.agg e) (.agg f)) F c)/\Bb (c) (R (.tuple #[Sl.v b,.int .i64 (IntKind.i64.wrap (a+2))]) F) (h (IntKind.i64.wrap (a+1)) F)) (Ax b g R F)
def Kg (a:Sl) (e:Array Value) (R:VR) (F:PH):Prop:=Nb F (.cells e 103) fun d F=>Li F (Am d 1) fun f=>Li F (Am d 2) fun b=>Bc (f=b) (Li F (Am d 1) fun c=>R (.tuple #[Sl.v a,.int .i64 c]) F) (Lp 0 F fun N g F=>Ay N a d R g F)
theorem PK {a:Sl} {b:Array Value} (h:Kg a b R F):ae prog 233 #[Sl.v a,.agg b] F R:=Rx.sxC (args:=[Sl.v a,.agg b]) (.T .N (.T .N (.J false [] (.T .N (.L [(6,.int .i64)] .N)) .N))) (by kernel_rfl) h
def FC (x:Option Addr) (b:Int) (R:VR) (F:PH):Prop:=Bc (b<2) (R (.int .i64 b) F) (∃a,x=some a/\Ls F (Addr.add a 1) fun i=>Ix i (IntKind.i64.wrap (b - 2)) fun j=>∃e,F.cell (Addr.add j (Int.toNat (IntKind.i64.wrap (b - 2))*1))=some (.int .i64 e)/\Bc (0<e) (Ls F (Addr.add a 1) fun k=>Ix k (IntKind.i64.wrap (b - 2)) fun l=>∃f,F.cell (Addr.add l (Int.toNat (IntKind.i64.wrap (b - 2))*1))=some (.int .i64 f)/\R (.int .i64 f) F) (Ls F a fun m=>Ix m (IntKind.i64.wrap (b - 2)) fun n=>∃c,c.size=3/\F.row (Addr.add n (Int.toNat (IntKind.i64.wrap (b - 2))*3)) c/\Nb F (.cells (#[.int .i64 0,.int .i64 0,.int .i64 0]) 103) fun o F=>au F (Am o 0) 3 c fun F=>Li F (Am o 1) fun p=>Ci 234 #[.pointer (some a),.int .i64 p] F fun g F=>Li F (Am o 2) fun q=>Ci 234 #[.pointer (some a),.int .i64 q] F fun h F=>Ls F (Addr.add a 2) fun r=>Li F (Am o 0) fun d=>(#[.int .i64 d,.int .i64 g,.int .i64 h]:Array Value).size=3/\Nb F (.cells (#[.int .i64 d,.int .i64 g,.int .i64 h]:Array Value) 103) fun y F=>Ap 31 #[Sl.v r,Sl.v (Sb y 1)] F fun s F=>F.cell (Am o 0)=some (.int .i64 d)/\sto F (Addr.add a 2) (Sl.v s) fun F=>Ls F (Addr.add a 1) fun t=>Ls F (Addr.add a 2) fun u=>Ix t (IntKind.i64.wrap (b - 2)) fun v=>sto F (Addr.add v (Int.toNat (IntKind.i64.wrap (b - 2))*1)) (.int .i64 (IntKind.i64.wrap ((u.len:Int)+1))) fun F=>Ls F (Addr.add a 2) fun w=>R (.int .i64 (IntKind.i64.wrap ((w.len:Int)+1))) F))
theorem Kh {a:Option Addr} {b:Int} (h:FC a b R F):ae prog 234 #[.pointer a,.int .i64 b] F R:=Rx.sxC (args:=[.pointer a,.int .i64 b]) .N (by kernel_rfl) h
def Az (f:Nat) (R:VR) (F:PH):Prop:=Lr F 2 (Am f 0) fun a=>Ls F (Am f 0) fun b=>Li F (Am f 1) fun c=>Ca 214 #[Sl.v b,.int .i64 c] F fun d F=>F.row (Am f 0) a/\Cbo 242 #[.agg a,.agg d] F fun e F=>R (.bool e) F
def AA (f:Int->PH->Prop) (e:Nat) (R:VR) (a:Int) (F:PH):Prop:=Ls F (Am e 0) fun b=>Bc (a<(b.len:Int)) (Lr F 2 (Am e 0) fun c=>Cbo 241 #[.agg c,.int .i64 a] F fun d F=>Bb ((!d)) (R (.bool false) F) (f (IntKind.i64.wrap (a+1)) F)) (Az e R F)
def Ki (c:Array Value) (R:VR) (F:PH):Prop:=Nb F (.cells c 33) fun b F=>Li F (Am b 1) fun d=>Bc (d<0) (R (.bool false) F) (Li F (Am b 1) fun e=>Ls F (Am b 0) fun a=>Bc ((IntKind.i64.wrap ((a.len:Int)+2))<=e) (R (.bool false) F) (Lp 0 F fun N f F=>AA N b R f F))
theorem PL {a:Array Value} (h:Ki a R F):ae prog 235 #[.agg a] F R:=Rx.sxC (args:=[.agg a]) (.T .N (.T .N (.J false [] (.T .N (.L [(3,.int .i64)] .N)) .N))) (by kernel_rfl) h
def AB (R:VR) (F:PH):Prop:=R (.bool true) F
def AC (h:Int->PH->Prop) (g:Int) (i j:Nat) (R:VR) (a:Int) (F:PH):Prop:=Bc (a<g) (Ls F (Am i 0) fun c=>Ix c a fun d=>Lr F 3 (Addr.add d (Int.toNat a*3)) fun e=>Lr F 3 (Am j 0) fun f=>∃b,(∀F,rdo prog (Op.equal 103 (.agg e) (.agg f)) F b)/\Bb (b) (R (.bool false) F) (h (IntKind.i64.wrap (a+1)) F)) (AB R F)
def Kj (v:Array Value) (b:Int) (R:VR) (F:PH):Prop:=Nb F (.cells v 33) fun u F=>Ls F (Am u 0) fun w=>Ix w b fun e=>Lr F 3 (Addr.add e (Int.toNat b*3)) fun f=>Nb F (.cells (#[.int .i64 0,.int .i64 0,.int .i64 0]) 103) fun a F=>au F (Am a 0) 3 f fun F=>Li F (Am a 0) fun g=>Bc (g<0) (R (.bool false) F) (Li F (Am a 0) fun h=>Bc (63<h) (R (.bool false) F) (Li F (Am a 1) fun i=>Bc (i<0) (R (.bool false) F) (Li F (Am a 2) fun j=>Bc (j<0) (R (.bool false) F) (Li F (Am a 1) fun k=>Bc ((IntKind.i64.wrap (b+2))<=k) (R (.bool false) F) (Li F (Am a 2) fun l=>Bc ((IntKind.i64.wrap (b+2))<=l) (R (.bool false) F) (Li F (Am a 1) fun m=>Li F (Am a 2) fun n=>Bc (m=n) (R (.bool false) F) (Lr F 2 (Am u 0) fun o=>Li F (Am a 1) fun p=>Li F (Am a 0) fun c=>Ci 231 #[.agg o,.int .i64 p] F fun q F=>F.cell (Am a 0)=some (.int .i64 c)/\Bc (q<=c) (R (.bool false) F) (Lr F 2 (Am u 0) fun r=>Li F (Am a 2) fun s=>Li F (Am a 0) fun d=>Ci 231 #[.agg r,.int .i64 s] F fun t F=>F.cell (Am a 0)=some (.int .i64 d)/\F.cell (Am a 0)=some (.int .i64 c)/\Bc (t<=d) (R (.bool false) F) (Lp 0 F fun N x F=>AC N b u a R x F)))))))))
theorem PM {a:Array Value} {b:Int} (h:Kj a b R F):ae prog 241 #[.agg a,.int .i64 b] F R:=Rx.sxC (args:=[.agg a,.int .i64 b]) (.T .N (.T .N (.T .N (.T .N (.J false [] (.T .N (.L [(6,.int .i64)] .N)) .N))))) (by kernel_rfl) h
def IK (R:VR) (F:PH):Prop:=R (.bool true) F
def AD (k:Int->PH->Prop) (j l:Nat) (R:VR) (a:Int) (F:PH):Prop:=Ls F (Am j 0) fun c=>Bc (a<(c.len:Int)) (Ls F (Am j 0) fun d=>Ix d a fun e=>Lr F 3 (Addr.add e (Int.toNat a*3)) fun f=>Ls F (Am l 0) fun g=>Ix g a fun h=>Lr F 3 (Addr.add h (Int.toNat a*3)) fun i=>∃b,(∀F,rdo prog (Op.equal 103 (.agg f) (.agg i)) F b)/\Bb ((!b)) (R (.bool false) F) (k (IntKind.i64.wrap (a+1)) F)) (IK R F)
def Kk (c d:Array Value) (R:VR) (F:PH):Prop:=Nb F (.cells c 33) fun e F=>Nb F (.cells d 33) fun f F=>Li F (Am e 1) fun g=>Li F (Am f 1) fun h=>Bc (g≠h) (R (.bool false) F) (Ls F (Am e 0) fun a=>Ls F (Am f 0) fun b=>Bc ((a.len:Int)≠(b.len:Int)) (R (.bool false) F) (Lp 0 F fun N i F=>AD N e f R i F))
theorem PN {a:Array Value} {b:Array Value} (h:Kk a b R F):ae prog 242 #[.agg a,.agg b] F R:=Rx.sxC (args:=[.agg a,.agg b]) (.T .N (.T .N (.J false [] (.T .N (.L [(5,.int .i64)] .N)) .N))) (by kernel_rfl) h
end Go.Proofs.YtenpmjhnhepfdaaGreatDoor
namespace Go.Proofs.YtenpmjhnhepfdaaGreatDoor
open Go Go.Proofs.Tryz Tr
set_option maxRecDepth 10000
theorem yB {F:PH} {v w:Array Value} {d e:Dia} (hd:DV F v d) (he:DV F w e) (hl:Fit d.1.length):ae prog 242 #[.agg v,.agg w] F fun r F'=>r=.bool (decide (d=e))/\F.le F':=by
 obtain ⟨s,rfl,hr⟩:=hd
 obtain ⟨t,rfl,ht⟩:=he
 refine PN ?_
 unfold Kk
 intro b2 hb2
 refine atI ?_
 have hle2:=ac (.cells #[s.v,vi d.2] 33) hb2
 intro b3 hb3
 refine atI ?_
 have hle3:=ac (.cells #[t.v,vi e.2] 33) hb3
 have hle:F.le _:=fun b o h=>hle3 b o (hle2 b o h)
 have hc2:=hle3 _ _ (an F b2 (.cells #[s.v,vi d.2] 33))
 have hc3:=an (F.set b2 (.cells #[s.v,vi d.2] 33)) b3 (.cells #[t.v,vi e.2] 33)
 generalize (F.set b2 (.cells #[s.v,vi d.2] 33)).set b3 (.cells #[t.v,vi e.2] 33)=G at*
 replace hr:=hr.le hle
 replace ht:=ht.le hle
 have lens:=hr.blen
 have lent:=ht.blen
 have cs:G.cell ⟨b2,0,none⟩=some s.v:=by rw [am hc2];rfl
 have ct:G.cell ⟨b3,0,none⟩=some t.v:=by rw [am hc3];rfl
 obtain ⟨x,d2⟩:=d
 obtain ⟨y,e2⟩:=e
 simp only at hl lens lent hr ht hc2 hc3
 refine ⟨d2,by rw [am hc2];rfl,e2,by rw [am hc3];rfl,fun h=> ?_,fun h=> ?_⟩
 ·refine ⟨?_,hle⟩
  simp [h]
 have h:d2=e2:=by omega
 subst h
 refine ⟨s,cs,t,ct,fun hn=> ?_,fun hn=> ?_⟩
 ·refine ⟨?_,hle⟩
  have:¬x=y:=fun e=>by subst e;omega
  simp [this]
 have hlen:x.length=y.length:=by omega
 refine ⟨fun m i F'=>∃k:Nat,i=k/\k<=x.length/\m=x.length - k/\F'=G/\x.take k=y.take k,x.length,⟨0,rfl,by omega,rfl,rfl,rfl⟩,?_⟩
 rintro m i F' ⟨k,rfl,hk,rfl,rfl,htake⟩
 unfold AD
 refine ⟨s,cs,fun hlt=> ?_,fun hge=> ?_⟩
 ·have hkx:k<x.length:=by omega
  have hky:k<y.length:=by omega
  obtain ⟨p,hp,hpr,_⟩:=rdb hr (List.getElem?_eq_getElem hkx)
  obtain ⟨q,hq,hqr,_⟩:=rdb ht (List.getElem?_eq_getElem hky)
  refine ⟨s,cs,p,hp,by omega,hlt,aQ x[k],rfl,by simpa using hpr,t,ct,q,hq,by omega,by omega,aQ y[k],rfl,by simpa using hqr,decide (x[k]=y[k]),fun F=>FO x[k] y[k] F,fun hne=> ?_,fun heq=> ?_⟩
  ·refine ⟨?_,hle⟩
   have:¬x=y:=by rintro rfl;simp at hne
   simp [this]
  ·refine ⟨x.length - (k+1),by omega,k+1,fd (by omega),by omega,rfl,rfl,?_⟩
   rw [List.take_succ_eq_append_getElem hkx,List.take_succ_eq_append_getElem hky,htake]
   simp at heq
   rw [heq]
 ·refine ⟨?_,hle⟩
  have hk':k=x.length:=by omega
  rw [hk',List.take_length,hlen,List.take_length] at htake
  simp [htake]
def Kl (t:Tr):Prop:=t.ok/\(aH t).length<=4096
theorem Db {t:Tr} (h:Kl t):chk (dia t)=0:=uD h.1 h.2
theorem IL {v:Nat} (h:v<64):rN v=(dia (tv v),0):=by
 unfold rN
 rw [if_neg (by omega),Int.toNat_natCast]
theorem FD {a:Tr} (ha:Kl a) (c:Int):dQ (dia a) c=a.ev (cfg c):=by
 unfold dQ
 rw [Db ha,if_neg (by simp),nO ha.1]
def LoD (F:PH) (b:Nat) (d:Dia):Prop:=∃w,F b=some (.cells w 33)/\DV F w d
def Los (F:PH) (l:List (Nat×Dia)):Prop:=∀p∈l,LoD F p.1 p.2
theorem LoD.le {F G:PH} {b:Nat} {d:Dia} (h:LoD F b d) (hl:F.le G):LoD G b d:=by
 obtain ⟨w,h1,h2⟩:=h
 exact ⟨w,hl _ _ h1,h2.le hl⟩
theorem Los.le {F G:PH} {l:List (Nat×Dia)} (h:Los F l) (hl:F.le G):Los G l:=fun p hp=>(h p hp).le hl
theorem Los.nil (F:PH):Los F []:=fun p hp=>by cases hp
theorem getD {F:PH} {b:Nat} {d:Dia} {l:List (Nat×Dia)} {K:Array Value->Prop} (hl:Los F l) (hm:(b,d)∈l) (k:∀w,DV F w d->K w):∃v:Array Value,v.size=2/\F.row (Addr.mk b 0 none) v/\K v:=by
 obtain ⟨w,h1,h2⟩:=hl _ hm
 exact ⟨w,h2.size,aj h1,k w h2⟩
section
variable {F:PH} {v:Array Value} {d:Dia} {S:List Tr} {t:Tr}
theorem fb (hd:DV F v d) (hp:brs S<+:d.1) (ht:inn S t) (hf:Fit (d.1.length+2)):
  ae prog 231 #[.agg v,vi (num S t)] F fun r F'=>r=vi t.top/\F.le F':=by
 obtain ⟨hfit,hlt⟩:=tX hp ht hf
 obtain ⟨s,rfl,hr⟩:=hd
 refine PI ?_
 unfold Ke
 intro b2 hb2
 refine atI ?_
 have hle:=ac (.cells #[s.v,vi d.2] 33) hb2
 refine ⟨fun h=> ?_,fun h=> ?_⟩
 ·have hl:=tL (S:=S) (t:=t) (by omega)
  cases t with
  |leaf b=>exact ⟨rfl,hle⟩
  |node _ _ _=>cases hl
 ·cases t with
  |leaf b=>have:=cd S b;omega
  |node w l r=>
   have hx:=iM hp (eQ (ca ht rfl) rfl)
   obtain ⟨a,h1,_,h2,_⟩:=rdb (hr.le hle) hx
   have hw:=pz hfit (cZ (S:=S) (t:=node w l r) rfl)
   have hg:=cZ (S:=S) (t:=node w l r) rfl
   refine ⟨s,by simp,a,h1,by rw [hw];omega,by rw [hw,hr.blen];omega,_,by rw [hw];exact h2,rfl,hle⟩
theorem mO (hd:DV F v d) (hp:brs S<+:d.1) (ht:inn S t) (hf:Fit (d.1.length+2)) {w:Nat} (hw:w<64):
  ae prog 232 #[.agg v,vi (num S t),vi w] F fun r F'=>r=.tuple #[vi (num S (lo w t)),vi (num S (hi w t))]/\F.le F':=by
 obtain ⟨hfit,hlt⟩:=tX hp ht hf
 have hd':=hd
 obtain ⟨s,rfl,hr⟩:=hd
 refine PJ ?_
 unfold Kf
 intro b3 hb3
 refine atI ?_
 have hle:=ac (.cells #[s.v,vi d.2] 33) hb3
 refine ⟨_,rfl,aj (an _ _ _),?_⟩
 refine (fb (hd'.le hle) hp ht hf).mono ?_
 rintro _ F2 ⟨rfl,hle2⟩
 have hc:F2 b3=some _:=hle2 _ _ (an _ _ _)
 have hle':F.le F2:=fun b o h=>hle2 b o (hle b o h)
 refine ⟨_,rfl,fun h=> ?_,fun h=> ?_⟩
 ·refine ⟨?_,hle'⟩
  cases t with
  |leaf b=>rfl
  |node w' l r=>
   have:¬w'=w:=fun e=>h (by simp [Tr.top,e])
   simp [lo,hi,this]
 ·cases t with
  |leaf b=>simp only [Tr.top] at h;omega
  |node w' l r=>
   have e:w'=w:=by simp only [Tr.top] at h;omega
   subst e
   have hx:=iM hp (eQ (ca ht rfl) rfl)
   obtain ⟨a,h1,_,_,h3,h4⟩:=rdb (hr.le hle') hx
   have hw:=pz hfit (cZ (S:=S) (t:=node w' l r) rfl)
   have hg:=cZ (S:=S) (t:=node w' l r) rfl
   refine ⟨s,by rw [am hc];rfl,a,h1,by rw [hw];omega,by rw [hw,hr.blen];omega,_,by rw [hw];exact h3,
    s,by rw [am hc];rfl,a,h1,by rw [hw];omega,by rw [hw,hr.blen];omega,_,by rw [hw];exact h4,?_,hle'⟩
   simp [lo,hi,br]
end
section
variable {F:PH}
theorem cE (x:Bool):ae prog 89 #[.bool x] F fun r F'=>∃w,r=.agg w/\DV F' w (dia (leaf x))/\F.le F':=by
 refine Ul ?_
 unfold Pv
 intro b2 hb2
 refine atI ?_
 have l2:=ac (.cells #[Value.slice none 0 0,Value.int .i64 0] 33) hb2
 have q2:=an F b2 (.cells #[Value.slice none 0 0,Value.int .i64 0] 33)
 refine ⟨fun h=> ?_,fun h=> ?_⟩
 ·subst h
  have hd:∀G:PH,DV G #[Value.slice none 0 0,Value.int .i64 1] (dia (leaf true)):=fun G=>⟨Sl.nil,rfl,RdS.nil G 3⟩
  exact gD (K:=fun vres F'=>∃w,Value.agg vres=.agg w/\DV F' w (dia (leaf true))/\F.le F') (hd F) q2 rfl ⟨_,rfl,hd _,aw l2 hb2⟩
 ·subst h
  have hd:∀G:PH,DV G #[Value.slice none 0 0,Value.int .i64 0] (dia (leaf false)):=fun G=>⟨Sl.nil,rfl,RdS.nil G 3⟩
  exact gD (K:=fun vres F'=>∃w,Value.agg vres=.agg w/\DV F' w (dia (leaf false))/\F.le F') (hd F) q2 rfl ⟨_,rfl,hd _,aw l2 hb2⟩
theorem sW (x:Int):ae prog 165 #[vi x] F fun r F'=>DRV F' r (rN x)/\F.le F':=by
 refine Py ?_
 unfold J4
 intro b2 hb2
 refine atI ?_
 have l2:=ac (.cells #[Value.slice none 0 0,Value.int .i64 0] 33) hb2
 have q2:=an F b2 (.cells #[Value.slice none 0 0,Value.int .i64 0] 33)
 generalize F.set b2 (.cells #[Value.slice none 0 0,Value.int .i64 0] 33)=F2 at*
 have bad:x<0\/63<x->kT x b2 true (fun r F'=>DRV F' r (rN x)/\F.le F') F2:=fun h=>by
  unfold kT
  refine ⟨fun _=> ?_,fun hc=>by cases hc⟩
  have e:rN x=(i7,1):=by unfold rN;rw [if_pos h]
  rw [e]
  exact yH q2 rfl l2 hb2
 refine ⟨fun h=>bad (.inl h),fun h=> ?_⟩
 by_cases h2:63<x
 ·rw [decide_eq_true h2]
  exact bad (.inr h2)
 ·rw [decide_eq_false h2]
  unfold kT
  refine ⟨fun hc=>(by cases hc),fun _=>⟨rfl,fun b13 hb13=> ?_⟩⟩
  refine atI ?_
  have e:rN x=(dia (tv x.toNat),0):=by unfold rN;rw [if_neg (by omega)]
  have hx:((x.toNat:Nat):Int)=x:=by omega
  have lx:=ac (.cells #[vi x,vi 0,vi 1] 103) hb13
  have q13:=an F2 b13 (.cells #[vi x,vi 0,vi 1] 103)
  have n:b13≠b2:=(aG hb13 q2).symm
  replace q2:=lx _ _ q2
  have l3:=l2.trans lx
  rw [e]
  have hd:∀G:PH,G b13=some (.cells #[vi x,vi 0,vi 1] 103)->DV G #[(Sl.mk (some ⟨b13,0,none⟩) 1 1).v,vi 2] (dia (tv x.toNat)):=fun G hG=>by
   rw [Nv,hx]
   exact ⟨_,rfl,RdS.new hG rfl rfl (Nat.le_refl _)⟩
  exact gD (K:=fun vres F'=>DRV F' (.tuple #[.agg vres,vi 0]) (dia (tv x.toNat),0)/\F.le F') (hd _ q13) q2 rfl ⟨⟨_,rfl,hd _ (by rw [az _ _ n];exact q13)⟩,aw l3 hb2⟩
end
def rnS (S:List Tr) (t:Tr):Nat:=if t∈S then num S t else 0
def rnL (S0 S:List Tr):List Value:=S0.map fun t=>vi (rnS S t:Int)
structure WS (F0 F:PH) (bw g:Nat) (ns:Sl) (S0 S:List Tr):Prop where
 le:F0.le F
 cl:Cl S
 sub:∀x∈S,x∈S0
 nw:F0 bw=none
 ng:F0 g=none
 rd:RdS F0 ns 3 (aS (brs S0))
 ex:∃s:Sl,F bw=some (.cells #[ns.v,Sl.v ⟨some ⟨g,0,none⟩,S0.length,S0.length⟩,s.v] 313)/\bA F 103 3 s (aS (brs S))/\∀a,s.base=some a->F0 a.block=none
 hg:F g=some (.cells (rnL S0 S).toArray 3)
theorem FE {S0 S:List Tr} (h0:Cl S0) {t:Tr} (hS':Cl (S++[t])) (ht:t∈S0) (hl:t.isL=false):(rnL S0 S).set (num S0 t - 2) (vi ((S.length+2:Nat):Int))=rnL S0 (S++[t]):=by
 apply List.ext_getElem?
 intro j
 unfold rnL
 rw [List.getElem?_set,List.getElem?_map,List.getElem?_map]
 have hg:=cZ (S:=S0) hl
 have hgt:=eQ ht hl
 by_cases hj:num S0 t - 2=j
 ·subst hj
  have hlt:=(List.getElem?_eq_some_iff.1 hgt).1
  rw [if_pos rfl,List.length_map,if_pos hlt,hgt]
  simp only [Option.map_some,rnS]
  rw [if_pos (by simp),dK hS' (k:=S.length) (by simp)]
 ·rw [if_neg hj]
  cases hx:S0[j]? with
  |none=>rfl
  |some u=>
   simp only [Option.map_some,rnS]
   have hne:u≠t:=fun e=>by
    subst e
    have:=dK h0 hx
    omega
   have hm:u∈S++[t]↔u∈S:=by simp [hne]
   by_cases hu:u∈S
   ·rw [if_pos hu,if_pos (hm.2 hu),bM (.inr hu)]
   ·rw [if_neg hu,if_neg (fun h=>hu (hm.1 h))]
theorem xa {bw g:Nat} {ns:Sl} {S0:List Tr} (h0:Cl S0) (hf:Fit (S0.length+4)):∀(t:Tr),inn S0 t->∀(F0 F:PH) (S:List Tr),WS F0 F bw g ns S0 S->
  ae prog 234 #[.pointer (some ⟨bw,0,none⟩),vi (num S0 t)] F fun r F'=>r=vi (num (vis t S) t)/\WS F0 F' bw g ns S0 (vis t S):=by
 intro t
 induction t with
 |leaf x=>
  intro ht F0 F S hs
  refine Kh ?_
  unfold FC
  have:=cd S0 x
  exact ⟨fun _=>⟨rfl,hs⟩,fun h=>by omega⟩
 |node v l h ihl ihh=>
  intro ht F0 F S hs
  have hs':=hs
  obtain ⟨hle,hS,hsub,hnw,hng,hrd,⟨s,hw,ho,hsb⟩,hg⟩:=hs
  have htm:=ca ht rfl
  obtain ⟨hil,hih⟩:=h0.inn_kids ht
  have hok:=h0.inn_ok ht
  have hge:=cZ (S:=S0) (t:=node v l h) rfl
  have hnl:=cY ht
  have hgt:=eQ htm rfl
  have hlt:=(List.getElem?_eq_some_iff.1 hgt).1
  have hw2:=pz (n:=num S0 (node v l h)) (by omega) hge
  refine Kh ?_
  unfold FC
  refine ⟨fun h=>by omega,fun _=> ?_⟩
  rw [hw2]
  have cell0:F.cell ⟨bw,0,none⟩=some ns.v:=by rw [am hw];rfl
  have cell1:F.cell (Addr.add ⟨bw,0,none⟩ 1)=some (Sl.v ⟨some ⟨g,0,none⟩,S0.length,S0.length⟩):=by rw [aK,am hw];rfl
  have cellg:F.cell (Addr.add ⟨g,0,none⟩ (Int.toNat ((num S0 (node v l h) - 2:Nat):Int)*1))=some (vi (rnS S (node v l h))):=by
   simp only [aK]
   rw [am hg]
   have:(rnL S0 S)[num S0 (node v l h) - 2]? =some (vi (rnS S (node v l h))):=by
    unfold rnL
    rw [List.getElem?_map,hgt]
    rfl
   simpa using this
  refine ⟨_,rfl,_,cell1,_,rfl,by omega,by simp only;omega,_,cellg,fun hpos=> ?_,fun hpos=> ?_⟩
  ·have hin:node v l h∈S:=by
    unfold rnS at hpos
    split at hpos
    ·assumption
    ·omega
   have e:vis (node v l h) S=S:=jh (.inr hin)
   rw [e]
   have e2:rnS S (node v l h)=num S (node v l h):=by unfold rnS;rw [if_pos hin]
   rw [e2] at cellg
   exact ⟨_,cell1,_,rfl,by omega,by simp only;omega,_,cellg,rfl,hs'⟩
  ·have hin:node v l h ∉ S:=fun hin=>hpos (by
    have:=cZ (S:=S) (t:=node v l h) rfl
    unfold rnS
    rw [if_pos hin]
    omega)
   obtain ⟨a,ha,hrow,_⟩:=rdb (hrd.le hle) (gL hgt)
   have hns:=hrd.blen
   rw [aO] at hns
   refine ⟨ns,cell0,a,ha,by omega,by omega,aQ (br S0 (node v l h)),rfl,by simpa using hrow,?_⟩
   intro b5 hb5
   refine atI ?_
   refine stW (an _ _ _) rfl rfl (fR _) ?_
   rw [aR]
   have h50:F0 b5=none:=aV hle hb5
   have n5w:bw≠b5:=aG hb5 hw
   have n5g:g≠b5:=aG hb5 hg
   have hs5:WS (F0.set b5 (.cells (aQ (br S0 (node v l h))) 103)) (F.set b5 (.cells (aQ (br S0 (node v l h))) 103)) bw g ns S0 S:=by
    refine ⟨fun x ob hx=> ?_,hS,hsub,by rw [az _ _ n5w];exact hnw,by rw [az _ _ n5g];exact hng,hrd.le (ac _ h50),⟨s,by rw [az _ _ n5w];exact hw,ho.upto (ac _ hb5),fun a ha=> ?_⟩,by rw [az _ _ n5g];exact hg⟩
    ·by_cases hxb:x=b5
     ·subst hxb;rw [an] at hx ⊢;exact hx
     ·rw [az _ _ hxb] at hx ⊢;exact hle _ _ hx
    ·obtain ⟨cur,hcur⟩:=ho.elem ha
     rw [az _ _ (aG hb5 hcur)]
     exact hsb a ha
   have hle0:F0.le (F0.set b5 (.cells (aQ (br S0 (node v l h))) 103)):=ac _ h50
   have hc5:(F0.set b5 (.cells (aQ (br S0 (node v l h))) 103)) b5=some (.cells (aQ (br S0 (node v l h))) 103):=an _ _ _
   generalize F0.set b5 (.cells (aQ (br S0 (node v l h))) 103)=G0 at*
   generalize F.set b5 (.cells (aQ (br S0 (node v l h))) 103)=F1 at*
   refine ⟨_,by rw [am (hs5.le _ _ hc5)];rfl,?_⟩
   refine (ihl hil G0 F1 S hs5).mono ?_
   rintro _ F2 ⟨rfl,hs2⟩
   refine ⟨_,rfl,_,by rw [am (hs2.le _ _ hc5)];rfl,?_⟩
   refine (ihh hih G0 F2 _ hs2).mono ?_
   rintro _ F3 ⟨rfl,hs3⟩
   obtain ⟨hle3,hS3,hsub3,hnw3,hng3,hrd3,⟨s3,hw3,ho3,hsb3⟩,hg3⟩:=hs3
   obtain ⟨fl1,fl2,X,fl3,fl4⟩:=bv l S hok.2.2.2.2.1 hS
   obtain ⟨fh1,fh2,Y,fh3,fh4⟩:=bv h (vis l S) hok.2.2.2.2.2 fl1
   have hnl':num (vis l S) l=num (vis h (vis l S)) l:=by rw [fh3,bM fl2]
   have evis:vis (node v l h) S=vis h (vis l S)++[node v l h]:=by
    conv=>lhs;unfold vis
    rw [if_neg hin]
   obtain ⟨hSv,_,_⟩:=bv (node v l h) S hok hS
   rw [evis] at hSv ⊢
   rw [hnl']
   have hil3:inn (vis h (vis l S)) l:=by rw [fh3];exact bC fl2
   generalize vis h (vis l S)=T at*
   refine ⟨_,rfl,s3,by rw [aK,am hw3];rfl,_,by rw [am (hle3 _ _ hc5)];rfl,rfl,fun b54 hb54=> ?_⟩
   refine atI ?_
   have hTl:T.length<=S0.length:=dv T S0 hS3.nodup hsub3
   have hlen:=ho3.rd.blen
   rw [aO] at hlen
   have hle54:=ac (.cells (aQ ⟨(v:Int),(num T l:Int),(num T h:Int)⟩) 103) hb54
   have h54:=an F3 b54 (.cells (aQ ⟨(v:Int),(num T l:Int),(num T h:Int)⟩) 103)
   show aE prog _ (F3.set b54 (.cells (aQ ⟨(v:Int),(num T l:Int),(num T h:Int)⟩) 103)) _
   replace hle3:G0.le (F3.set b54 (.cells (aQ ⟨(v:Int),(num T l:Int),(num T h:Int)⟩) 103)):=fun x ob hx=>hle54 _ _ (hle3 _ _ hx)
   replace ho3:=ho3.upto hle54
   replace hw3:=hle54 _ _ hw3
   replace hg3:=hle54 _ _ hg3
   generalize F3.set b54 (.cells (aQ ⟨(v:Int),(num T l:Int),(num T h:Int)⟩) 103)=F4 at*
   refine gK underlying31 zI zJ rfl (by decide) hle3 ho3 hsb3 (x:=⟨some ⟨b54,0,none⟩,1,1⟩) (news:=dc ⟨(v:Int),(num T l:Int),(num T h:Int)⟩) (RdS.new h54 rfl rfl (Nat.le_refl _))
    (fun x hx=>iL [⟨(v:Int),(num T l:Int),(num T h:Int)⟩] x (by simpa [aS] using hx)) (by simp only [hlen];omega) (by simp only [hlen];omega) ?_
   intro s5 F5 hle5 ho5 hlen5 hsb5 hk5 _
   have new:∀a,s3.base=some a->a.block≠bw:=fun a ha e=>by
    obtain ⟨cur,hcur⟩:=ho3.elem ha
    rw [e,hw3] at hcur
    simp at hcur
   have neg:∀a,s3.base=some a->a.block≠g:=fun a ha e=>by
    obtain ⟨cur,hcur⟩:=ho3.elem ha
    rw [e,hg3] at hcur
    simp at hcur
   replace hw3:=hk5 _ _ hw3 (fun ⟨a,ha,e⟩=>new a ha e)
   replace hg3:=hk5 _ _ hg3 (fun ⟨a,ha,e⟩=>neg a ha e)
   have nwg:bw≠g:=fun e=>by rw [e,hg3] at hw3;simp at hw3
   have hsb6:∀a,s5.base=some a->a.block≠bw/\a.block≠g:=fun a ha=>by
    obtain ⟨cur,hcur⟩:=ho5.elem ha
    refine ⟨fun e=> ?_,fun e=> ?_⟩
    ·rw [e,hw3] at hcur;simp at hcur
    ·rw [e,hg3] at hcur;simp at hcur
   refine ⟨s5,rfl,by rw [am (hle5 _ _ hc5)];rfl,?_⟩
   refine oY (b:=bw) (o:=2) (by simp) hw3 (by simp) ?_
   rw [show (#[ns.v,Sl.v ⟨some ⟨g,0,none⟩,S0.length,S0.length⟩,s3.v].setIfInBounds 2 s5.v:Array Value)= #[ns.v,Sl.v ⟨some ⟨g,0,none⟩,S0.length,S0.length⟩,s5.v] from rfl]
   have hle6:G0.le (F5.set bw (.cells #[ns.v,Sl.v ⟨some ⟨g,0,none⟩,S0.length,S0.length⟩,s5.v] 313)):=aw hle5 hnw3
   have hw6:=an F5 bw (.cells #[ns.v,Sl.v ⟨some ⟨g,0,none⟩,S0.length,S0.length⟩,s5.v] 313)
   have hg6:(F5.set bw (.cells #[ns.v,Sl.v ⟨some ⟨g,0,none⟩,S0.length,S0.length⟩,s5.v] 313)) g=some (.cells (rnL S0 T).toArray 3):=by rw [az _ _ nwg.symm];exact hg3
   have ho6:bA (F5.set bw (.cells #[ns.v,Sl.v ⟨some ⟨g,0,none⟩,S0.length,S0.length⟩,s5.v] 313)) 103 3 s5 _:=ho5.keep fun a ha=>az _ _ (hsb6 a ha).1
   generalize F5.set bw (.cells #[ns.v,Sl.v ⟨some ⟨g,0,none⟩,S0.length,S0.length⟩,s5.v] 313)=F6 at*
   have hlen6:s5.len=T.length+1:=by rw [hlen5,hlen]
   have hw7:IntKind.i64.wrap ((s5.len:Int)+1)=((T.length+2:Nat):Int):=by rw [hlen6,aN (by omega) (by omega)];omega
   refine ⟨_,by rw [aK,am hw6];rfl,s5,by rw [aK,am hw6];rfl,_,rfl,by omega,by simp only;omega,?_⟩
   rw [hw7]
   refine oY (b:=g) (o:=num S0 (node v l h) - 2) (by simp) hg6 (by simp [rnL];omega) ?_
   rw [List.setIfInBounds_toArray,FE h0 hSv htm rfl]
   refine ⟨s5,by rw [aK,am ((az _ _ nwg).trans hw6)];rfl,?_⟩
   dsimp only
   rw [hw7]
   refine ⟨by rw [dK hSv (k:=T.length) (by simp)],fun x ob hx=>aw hle6 hng3 _ _ (hle0 _ _ hx),hSv,fun x hx=> ?_,hnw,hng,hrd,⟨s5,(az _ _ nwg).trans hw6,?_,fun a ha=>aV hle0 (hsb5 a ha)⟩,an _ _ _⟩
   ·rcases List.mem_append.1 hx with hx|hx
    ·exact hsub3 x hx
    ·rw [List.mem_singleton.1 hx];exact htm
   ·have e3:aS (brs (T++[node v l h]))=aS (brs T)++dc ⟨(v:Int),(num T l:Int),(num T h:Int)⟩:=by
     rw [d9 hS3 hil3 fh2,ed]
     simp [aS]
    rw [e3]
    exact ho6.keep fun a ha=>az _ _ (hsb6 a ha).2
section
variable {F:PH} {ns:Sl} {S0:List Tr} {t:Tr}
theorem jM (hr:RdS F ns 3 (aS (brs S0))) (h0:Cl S0) (ht:inn S0 t) (hf:Fit (S0.length+4)):
  ae prog 214 #[ns.v,vi (num S0 t)] F fun r F'=>∃v,r=.agg v/\DV F' v (dia t)/\F.le F':=by
 have hns:=hr.blen
 rw [aO] at hns
 refine PE ?_
 unfold Ka
 intro b4 hb4
 refine atI ?_
 have l4:=ac (.cells #[Value.slice none 0 0,Value.int .i64 0] 33) hb4
 have q4:=an F b4 (.cells #[Value.slice none 0 0,Value.int .i64 0] 33)
 generalize F.set b4 (.cells #[Value.slice none 0 0,Value.int .i64 0] 33)=F4 at*
 refine bU underlying70 sz3 zr3 rfl (by omega) (Int.le_refl _) (by omega) (by omega) ?_
 intro g hg
 rw [zc1 _ rfl,Int.toNat_natCast,hns]
 refine ⟨_,rfl,?_⟩
 have e0:List.replicate S0.length (Value.int .i64 0)=rnL S0 []:=by
  apply List.ext_getElem?
  intro j
  unfold rnL
  rw [List.getElem?_replicate,List.getElem?_map]
  by_cases hj:j<S0.length
  ·rw [if_pos hj,List.getElem?_eq_getElem hj]
   simp [rnS]
  ·rw [if_neg hj,List.getElem?_eq_none (by omega)]
   rfl
 rw [e0]
 have lg:=ac (.cells (rnL S0 []).toArray 3) hg
 have qg:=an F4 g (.cells (rnL S0 []).toArray 3)
 have q4g:=lg _ _ q4
 have n4g:b4≠g:=aG hg q4
 generalize hG:F4.set g (.cells (rnL S0 []).toArray 3)=Fg at*
 intro b12 hb12
 refine atI ?_
 have n12g:g≠b12:=aG hb12 qg
 have f12:F4 b12=none:=aV lg hb12
 have lx:=ac (.cells #[ns.v,Sl.v ⟨some ⟨g,0,none⟩,S0.length,S0.length⟩,Value.slice none 0 0] 313) hb12
 have hs:WS F4 (Fg.set b12 (.cells #[ns.v,Sl.v ⟨some ⟨g,0,none⟩,S0.length,S0.length⟩,Value.slice none 0 0] 313)) b12 g ns S0 []:=
  ⟨lg.trans lx,.nil,fun x hx=>(by cases hx),f12,hg,hr.le l4,⟨Sl.nil,an _ _ _,.inl ⟨rfl,rfl⟩,fun a ha=>by cases ha⟩,lx _ _ qg⟩
 refine (xa h0 hf t ht F4 _ [] hs).mono ?_
 rintro _ G ⟨rfl,hs'⟩
 have ev:vis t []=aH t:=rfl
 rw [ev] at*
 obtain ⟨gle,gcl,_,_,_,_,⟨s,gw,go,gs⟩,_⟩:=hs'
 refine ⟨_,rfl,s,by rw [am gw];rfl,?_⟩
 have h4:=gle _ _ q4
 have hsb:∀a,s.base=some a->a.block≠b4:=fun a ha e=>by
  obtain ⟨cur,hcur⟩:=go.elem ha
  rw [e,h4] at hcur
  simp at hcur
 have hd:DV (dX G b4) #[s.v,vi (num (aH t) t)] (dia t):=⟨s,rfl,(go.keep fun a ha=>fS (hsb a ha)).rd⟩
 exact gD (K:=fun vres F'=>∃v,Value.agg vres=.agg v/\DV F' v (dia t)/\F.le F') hd h4 rfl ⟨_,rfl,hd.le (aw (AG _ _) (yG _ _)),aw (l4.trans gle) hb4⟩
end
end Go.Proofs.YtenpmjhnhepfdaaGreatDoor
