/-
  The reference's diagrams: level, sides, constants, conditions; the walk that numbers the branches.
-/
import Derived.Test.YtcemhghkipgdiaaGreatDoorPhp
import Derived.Test.YtcemhghkipgdiaaGreatDoorGdiagram
import Derived.Test.YtcemhghkipgdiaaGreatDoorEr
namespace Go.Proofs.YtcemhghkipgdiaaGreatDoor
open Go.IntKind (i64 u8 u64)
open Go Go.Proofs.Tryz
variable {R:VR} {F:PH}
set_option maxRecDepth 10000
set_option maxHeartbeats 4000000
def Ol (a:Bool) (R:VR) (F:PH):Prop:=Nb F (.cells zD 31) λb F=>Bb (a) (az F (Am b 0) 2 (#[.slice none 0 0,(vi 1)]:Γ) λF=>Rr 2 (Am b 0) R F) (az F (Am b 0) 2 zD λF=>Rr 2 (Am b 0) R F)
theorem RM {a:Bool} (h:Ol a R F):aj prog 34 #[.bool a] F R:=Rx.sxC (args:=[.bool a]) .N (by kernel_rfl) h
def Om (a b:Γ) (R:VR) (F:PH):Prop:=Nb F (.cells a 31) λg F=>Nb F (.cells b 31) λh F=>Nb F (.cells zD 31) λf F=>Lr F 2 (Am g 0) λc=>Lr F 2 (Am h 0) λd=>Ca 110 #[.agg c,.agg d,(vi 0)] F λe F=>az F (Am f 0) 2 e λF=>Rr 2 (Am f 0) R F
theorem RN {a:Γ} {b:Γ} (h:Om a b R F):aj prog 45 #[.agg a,.agg b] F R:=Rx.sxC (args:=[.agg a,.agg b]) .N (by kernel_rfl) h
def LA (R:VR) (F:PH):Prop:=R (.bool true) F
def D6 (k:Ω) (j l:Nat) (R:VR) (a:Int) (F:PH):Prop:=Ls F (Am j 0) λc=>Bc (a<(c.len:Int)) (Ls F (Am j 0) λd=>Ix d a λe=>Lr F 3 (Addr.add e (Int.toNat a*3)) λf=>Ls F (Am l 0) λg=>Ix g a λh=>Lr F 3 (Addr.add h (Int.toNat a*3)) λi=>∃b,(∀F,rdo prog (Op.equal 124 (.agg f) (.agg i)) F b)/\Bb ((!b)) (R (.bool false) F) (k (i64.wrap (a+1)) F)) (LA R F)
def On (c d:Γ) (R:VR) (F:PH):Prop:=Nb F (.cells c 31) λe F=>Nb F (.cells d 31) λf F=>Li F (Am e 1) λg=>Li F (Am f 1) λh=>Bc (g≠h) (R (.bool false) F) (Ls F (Am e 0) λa=>Ls F (Am f 0) λb=>Bc ((a.len:Int)≠(b.len:Int)) (R (.bool false) F) (Lp 0 F λN i F=>D6 N e f R i F))
theorem RO {a:Γ} {b:Γ} (h:On a b R F):aj prog 50 #[.agg a,.agg b] F R:=Rx.sxC (args:=[.agg a,.agg b]) (.T .N (.T .N (.J false [] (.T .N (.L [(5,.int .i64)] .N)) .N))) (by kernel_rfl) h
def Oo (b:Sl) (c:Int) (R:VR) (F:PH):Prop:=Nb F (.cells zD 31) λd F=>Ca 135 #[Sl.v b,(vi (max 0 (min c 6))),(vi 0),(vi 0)] F λa F=>az F (Am d 0) 2 a λF=>Rr 2 (Am d 0) R F
theorem RQ {a:Sl} {b:Int} (h:Oo a b R F):aj prog 82 #[Sl.v a,(vi b)] F R:=Rx.sxC (args:=[Sl.v a,(vi b)]) .N (by kernel_rfl) h
def Oq (b:Γ) (R:VR) (F:PH):Prop:=Nb F (.cells b 31) λe F=>Nb F (.cells zD 31) λf F=>Lr F 2 (Am e 0) λa=>Ca 34 #[.bool true] F λc F=>F.row (Am e 0) a/\Ca 110 #[.agg a,.agg c,(vi 2)] F λd F=>az F (Am f 0) 2 d λF=>Rr 2 (Am f 0) R F
theorem RR {a:Γ} (h:Oq a R F):aj prog 86 #[.agg a] F R:=Rx.sxC (args:=[.agg a]) .N (by kernel_rfl) h
def lh (c:Int) (d:Nat) (e:Bool) (R:VR) (F:PH):Prop:=Bb (e) (az F (Am d 0) 2 zD λF=>Lr F 2 (Am d 0) λb=>R (.tuple #[.agg b,(vi 1)]) F) ((#[(vi c),(vi 0),(vi 1)]:Γ).size=3/\Nb F (.cells (#[(vi c),(vi 0),(vi 1)]:Γ) 124) λf F=>az F (Am d 0) 2 (#[Sl.v (Sb f 1),(vi 2)]:Γ) λF=>Lr F 2 (Am d 0) λa=>R (.tuple #[.agg a,(vi 0)]) F)
def Jm (a:Int) (R:VR) (F:PH):Prop:=Nb F (.cells zD 31) λb F=>Bc (a<0) (lh a b true R F) (lh a b (decide (63<a)) R F)
theorem Ot {a:Int} (h:Jm a R F):aj prog 109 #[(vi a)] F R:=Rx.sxC (args:=[(vi a)]) (.T .N (.T (.J false [(9,.bool)] .N .N) .N)) (by kernel_rfl) h
def Jn (j k:Γ) (b:Int) (R:VR) (F:PH):Prop:=Nb F (.cells j 31) λl F=>Nb F (.cells k 31) λm F=>Nb F (.cells zD 31) λn F=>Lr F 2 (Am l 0) λc=>Lr F 2 (Am m 0) λa=>c.size=2/\a.size=2/\Nb F (.cells (Array.setIfInBounds (wr (wr (#[.slice none 0 0,vi 0,.slice none 0 0,vi 0,vi 0,.slice none 0 0,.slice none 0 0]:Γ) 0 c.toList) 2 a.toList) 4 (vi b)) 203) λd F=>Li F (Am l 1) λe=>Li F (Am m 1) λf=>Ci 160 #[(Pp d),(vi e),(vi f)] F λg F=>Ls F (Am d 5) λh=>Ca 161 #[Sl.v h,(vi g)] F λi F=>az F (Am n 0) 2 i λF=>Rr 2 (Am n 0) R F
theorem Ou {b:Γ} {c:Γ} {a:Int} (h:Jn b c a R F):aj prog 110 #[.agg b,.agg c,(vi a)] F R:=Rx.sxC (args:=[.agg b,.agg c,(vi a)]) .N (by kernel_rfl) h
def Jo (a b:Γ) (R:VR) (F:PH):Prop:=Nb F (.cells a 31) λg F=>Nb F (.cells b 31) λh F=>Nb F (.cells zD 31) λf F=>Lr F 2 (Am g 0) λc=>Lr F 2 (Am h 0) λd=>Ca 110 #[.agg c,.agg d,(vi 1)] F λe F=>az F (Am f 0) 2 e λF=>Rr 2 (Am f 0) R F
theorem Ov {a:Γ} {b:Γ} (h:Jo a b R F):aj prog 123 #[.agg a,.agg b] F R:=Rx.sxC (args:=[.agg a,.agg b]) .N (by kernel_rfl) h
def D7 (d:Sl) (j c a:Int) (R:VR) (F:PH):Prop:=Nb F (.cells zD 31) λl F=>Bc (c=j) (Bc ((i64.wrap (Int.tdiv a 8))<(d.len:Int)) (Ix d (i64.wrap (Int.tdiv a 8)) λm=>∃g,F.cell (Addr.add m (Int.toNat (i64.wrap (Int.tdiv a 8))*1))=some (.int .u8 g)/\0<=(u64.wrap (Int.tmod a 8))/\Ca 34 #[.bool (decide ((u8.wrap ((BitVec.ofInt (u8).bits (Int.fdiv g (2 ^ (min (Int.toNat (u64.wrap (Int.tmod a 8))) (u8).bits))) &&& BitVec.ofInt (u8).bits 1).toNat))=1))] F λn F=>az F (Am l 0) 2 n λF=>Rr 2 (Am l 0) R F) (Ca 34 #[.bool false] F λe F=>az F (Am l 0) 2 e λF=>Rr 2 (Am l 0) R F)) (aj prog 109 #[(vi c)] F λv F=>∃h,∃f,v=(.tuple #[.agg h,(vi f)])/\Nb F (.cells zD 31) λk F=>az F (Am k 0) 2 h λF=>Lr F 2 (Am k 0) λi=>0<=(u64.wrap c)/\Lr F 2 (Am k 0) λb=>Ca 135 #[Sl.v d,(vi j),(vi (i64.wrap (c+1))),(vi (i64.wrap (a+(i64.wrap (1*2 ^ (min (Int.toNat (u64.wrap c)) (i64).bits))))))] F λo F=>F.row (Am k 0) b/\F.row (Am k 0) i/\Ca 45 #[.agg i,.agg o] F λp F=>F.row (Am k 0) b/\Ca 135 #[Sl.v d,(vi j),(vi (i64.wrap (c+1))),(vi a)] F λq F=>F.row (Am k 0) b/\Ca 175 #[.agg q,.agg b] F λr F=>Ca 123 #[.agg p,.agg r] F λs F=>az F (Am l 0) 2 s λF=>Rr 2 (Am l 0) R F)
theorem Jp {a:Sl} {b:Int} {c:Int} {d:Int} (h:D7 a b c d R F):aj prog 135 #[Sl.v a,(vi b),(vi c),(vi d)] F R:=Rx.sxC (args:=[Sl.v a,(vi b),(vi c),(vi d)]) .N (by kernel_rfl) h
def uH (w:Θ) (h i:Int) (R:VR) (F:PH):Prop:=∃a,w=some a/\Lr F 2 a λr=>Lr F 2 (Addr.add a 2) λj=>Ci 192 #[.agg r,(vi h)] F λe F=>F.row (Addr.add a 2) j/\Ci 192 #[.agg j,(vi i)] F λf F=>Lr F 2 a λs=>aj prog 193 #[.agg s,(vi h),(vi (min e f))] F λv F=>∃k,∃c,v=(.tuple #[(vi k),(vi c)])/\Lr F 2 (Addr.add a 2) λt=>aj prog 193 #[.agg t,(vi i),(vi (min e f))] F λv F=>∃l,∃d,v=(.tuple #[(vi l),(vi d)])/\Ci 160 #[.pointer (some a),(vi k),(vi l)] F λm F=>Ci 160 #[.pointer (some a),(vi c),(vi d)] F λn F=>Ls F (Addr.add a 5) λo=>aj prog 194 #[Sl.v o,.agg (#[(vi (min e f)),(vi m),(vi n)]:Γ)] F λv F=>∃g,∃b,v=(.tuple #[Sl.v g,(vi b)])/\sto F (Addr.add a 5) (Sl.v g) λF=>Ls F (Addr.add a 6) λp=>(#[(vi h),(vi i),(vi b)]:Γ).size=3/\Nb F (.cells (#[(vi h),(vi i),(vi b)]:Γ) 215) λu F=>Ap 201 #[Sl.v p,Sl.v (Sb u 1)] F λq F=>sto F (Addr.add a 6) (Sl.v q) λF=>R (vi b) F
def oW (g:Ω) (a:Addr) (h i b:Int) (c:Bool) (R:VR) (F:PH):Prop:=Bb (c) (Ls F (Addr.add a 6) λd=>Ix d b λe=>0<=(2:Int)/\(2:Int)<3/\Li F (Addr.add (Addr.add e (Int.toNat b*3)) (Int.toNat 2*1)) λf=>R (vi f) F) (g (i64.wrap (b+1)) F)
def Ar (m:Ω) (l:Θ) (c d:Int) (R:VR) (b:Int) (F:PH):Prop:=∃a,l=some a/\Ls F (Addr.add a 6) λe=>Bc (b<(e.len:Int)) (Ls F (Addr.add a 6) λf=>Ix f b λg=>0<=(0:Int)/\(0:Int)<3/\Li F (Addr.add (Addr.add g (Int.toNat b*3)) (Int.toNat 0*1)) λh=>Bc (h=c) (Ls F (Addr.add a 6) λi=>Ix i b λj=>0<=(1:Int)/\(1:Int)<3/\Li F (Addr.add (Addr.add j (Int.toNat b*3)) (Int.toNat 1*1)) λk=>oW m a c d b (decide (k=d)) R F) (oW m a c d b false R F)) (uH (some a) c d R F)
def li (a:Θ) (b c:Int) (d:Bool) (R:VR) (F:PH):Prop:=Bb (d) (Ci 191 #[.pointer a,(vi b),(vi c)] F λe F=>R (vi e) F) (Lp 0 F λN f F=>Ar N a b c R f F)
def Jq (c:Θ) (a b:Int) (R:VR) (F:PH):Prop:=Bc (a<2) (li c a b (decide (b<2)) R F) (li c a b false R F)
theorem Ow {a:Θ} {b:Int} {c:Int} (h:Jq a b c R F):aj prog 160 #[.pointer a,(vi b),(vi c)] F R:=Rx.sxC (args:=[.pointer a,(vi b),(vi c)]) (.T .N (.T (.J false [(22,.bool)] .N .N) (.J false [(0,.ptr)] (.T .N (.L [(7,.int .i64)] (.T .N (.T (.J false [(57,.bool)] .N .N) .N)))) .N))) (by kernel_rfl) h
def Jr (a:Sl) (b:Int) (R:VR) (F:PH):Prop:=Nb F (.cells zD 31) λg F=>aD prog (Instr.makeSlice 67 (vi (a.len:Int)) (vi (a.len:Int))) F λv F=>∃c,v=(Sl.v c)/\Nb F (.cells (#[Sl.v a,Sl.v c,.slice none 0 0]:Γ) 243) λd F=>Ci 195 #[(Pp d),(vi b)] F λe F=>Ls F (Am d 2) λf=>az F (Am g 0) 2 (#[Sl.v f,(vi e)]:Γ) λF=>Rr 2 (Am g 0) R F
theorem Ox {a:Sl} {b:Int} (h:Jr a b R F):aj prog 161 #[Sl.v a,(vi b)] F R:=Rx.sxC (args:=[Sl.v a,(vi b)]) .N (by kernel_rfl) h
def Js (b c:Γ) (R:VR) (F:PH):Prop:=Nb F (.cells b 31) λg F=>Nb F (.cells c 31) λi F=>Nb F (.cells zD 31) λh F=>Lr F 2 (Am g 0) λa=>Lr F 2 (Am i 0) λd=>Ca 86 #[.agg d] F λe F=>F.row (Am g 0) a/\Ca 45 #[.agg a,.agg e] F λf F=>az F (Am h 0) 2 f λF=>Rr 2 (Am h 0) R F
theorem Oy {a:Γ} {b:Γ} (h:Js a b R F):aj prog 175 #[.agg a,.agg b] F R:=Rx.sxC (args:=[.agg a,.agg b]) .N (by kernel_rfl) h
def Jt (e:Θ) (c d:Int) (R:VR) (F:PH):Prop:=∃a,e=some a/\Li F (Addr.add a 4) λb=>Bc (b=0) (R (vi (i64.wrap (c*d))) F) (Bc (b=1) (R (vi (max c d)) F) (R (vi (Int.tmod (i64.wrap (c+d)) 2)) F))
theorem Oz {a:Θ} {b:Int} {c:Int} (h:Jt a b c R F):aj prog 191 #[.pointer a,(vi b),(vi c)] F R:=Rx.sxC (args:=[.pointer a,(vi b),(vi c)]) .N (by kernel_rfl) h
def Ju (d:Γ) (b:Int) (R:VR) (F:PH):Prop:=Nb F (.cells d 31) λf F=>Bc (b<2) (R (vi 64) F) (Ls F (Am f 0) λe=>Ix e (i64.wrap (b - 2)) λc=>∃a,F.cell (Addr.add c (Int.toNat (i64.wrap (b - 2))*3))=some (vi a)/\R (vi a) F)
theorem OA {a:Γ} {b:Int} (h:Ju a b R F):aj prog 192 #[.agg a,(vi b)] F R:=Rx.sxC (args:=[.agg a,(vi b)]) .N (by kernel_rfl) h
def Jv (i:Γ) (a j:Int) (R:VR) (F:PH):Prop:=Nb F (.cells i 31) λk F=>Lr F 2 (Am k 0) λl=>Ci 192 #[.agg l,(vi a)] F λd F=>Bc (d≠j) (R (.tuple #[(vi a),(vi a)]) F) (Ls F (Am k 0) λe=>Ix e (i64.wrap (a - 2)) λf=>∃b,F.cell (Addr.add (Addr.add f (Int.toNat (i64.wrap (a - 2))*3)) 1)=some (vi b)/\Ls F (Am k 0) λg=>Ix g (i64.wrap (a - 2)) λh=>∃c,F.cell (Addr.add (Addr.add h (Int.toNat (i64.wrap (a - 2))*3)) 2)=some (vi c)/\R (.tuple #[(vi b),(vi c)]) F)
theorem OB {a:Γ} {b:Int} {c:Int} (h:Jv a b c R F):aj prog 193 #[.agg a,(vi b),(vi c)] F R:=Rx.sxC (args:=[.agg a,(vi b),(vi c)]) .N (by kernel_rfl) h
def At (c:Sl) (e:Nat) (R:VR) (F:PH):Prop:=Lr F 3 (Am e 0) λa=>a.size=3/\Nb F (.cells a 124) λd F=>Ap 29 #[Sl.v c,Sl.v (Sb d 1)] F λb F=>R (.tuple #[Sl.v b,(vi (i64.wrap ((b.len:Int)+1)))]) F
def Au (h:Ω) (b:Sl) (g:Nat) (R:VR) (a:Int) (F:PH):Prop:=Bc (a<(b.len:Int)) (Ix b a λd=>Lr F 3 (Addr.add d (Int.toNat a*3)) λe=>Lr F 3 (Am g 0) λf=>∃c,(∀F,rdo prog (Op.equal 124 (.agg e) (.agg f)) F c)/\Bb (c) (R (.tuple #[Sl.v b,(vi (i64.wrap (a+2)))]) F) (h (i64.wrap (a+1)) F)) (At b g R F)
def Jw (a:Sl) (e:Γ) (R:VR) (F:PH):Prop:=Nb F (.cells e 124) λd F=>Li F (Am d 1) λf=>Li F (Am d 2) λb=>Bc (f=b) (Li F (Am d 1) λc=>R (.tuple #[Sl.v a,(vi c)]) F) (Lp 0 F λN g F=>Au N a d R g F)
theorem OC {a:Sl} {b:Γ} (h:Jw a b R F):aj prog 194 #[Sl.v a,.agg b] F R:=Rx.sxC (args:=[Sl.v a,.agg b]) (.T .N (.T .N (.J false [] (.T .N (.L [(6,.int .i64)] .N)) .N))) (by kernel_rfl) h
def D8 (x:Θ) (b:Int) (R:VR) (F:PH):Prop:=Bc (b<2) (R (vi b) F) (∃a,x=some a/\Ls F (Addr.add a 1) λi=>Ix i (i64.wrap (b - 2)) λj=>∃e,F.cell (Addr.add j (Int.toNat (i64.wrap (b - 2))*1))=some (vi e)/\Bc (0<e) (Ls F (Addr.add a 1) λk=>Ix k (i64.wrap (b - 2)) λl=>∃f,F.cell (Addr.add l (Int.toNat (i64.wrap (b - 2))*1))=some (vi f)/\R (vi f) F) (Ls F a λm=>Ix m (i64.wrap (b - 2)) λn=>∃c,c.size=3/\F.row (Addr.add n (Int.toNat (i64.wrap (b - 2))*3)) c/\Nb F (.cells (#[vi 0,vi 0,vi 0]) 124) λo F=>az F (Am o 0) 3 c λF=>Li F (Am o 1) λp=>Ci 195 #[.pointer (some a),(vi p)] F λg F=>Li F (Am o 2) λq=>Ci 195 #[.pointer (some a),(vi q)] F λh F=>Ls F (Addr.add a 2) λr=>Li F (Am o 0) λd=>(#[(vi d),(vi g),(vi h)]:Γ).size=3/\Nb F (.cells (#[(vi d),(vi g),(vi h)]:Γ) 124) λy F=>Ap 29 #[Sl.v r,Sl.v (Sb y 1)] F λs F=>F.cell (Am o 0)=some (vi d)/\sto F (Addr.add a 2) (Sl.v s) λF=>Ls F (Addr.add a 1) λt=>Ls F (Addr.add a 2) λu=>Ix t (i64.wrap (b - 2)) λv=>sto F (Addr.add v (Int.toNat (i64.wrap (b - 2))*1)) (vi (i64.wrap ((u.len:Int)+1))) λF=>Ls F (Addr.add a 2) λw=>R (vi (i64.wrap ((w.len:Int)+1))) F))
theorem Jx {a:Θ} {b:Int} (h:D8 a b R F):aj prog 195 #[.pointer a,(vi b)] F R:=Rx.sxC (args:=[.pointer a,(vi b)]) .N (by kernel_rfl) h
def Jy (a:Γ) (R:VR) (F:PH):Prop:=Nb F (.cells a 31) λe F=>Ls F (Am e 0) λb=>Bc ((4096:Int)<(b.len:Int)) (R (vi 2) F) (Lr F 2 (Am e 0) λc=>Cbo 210 #[.agg c] F λd F=>Bb ((!d)) (R (vi 20) F) (R (vi 0) F))
theorem OD {a:Γ} (h:Jy a R F):aj prog 197 #[.agg a] F R:=Rx.sxC (args:=[.agg a]) .N (by kernel_rfl) h
def Av (f:Nat) (R:VR) (F:PH):Prop:=Lr F 2 (Am f 0) λa=>Ls F (Am f 0) λb=>Li F (Am f 1) λc=>Ca 161 #[Sl.v b,(vi c)] F λd F=>F.row (Am f 0) a/\Cbo 50 #[.agg a,.agg d] F λe F=>R (.bool e) F
def Aw (f:Ω) (e:Nat) (R:VR) (a:Int) (F:PH):Prop:=Ls F (Am e 0) λb=>Bc (a<(b.len:Int)) (Lr F 2 (Am e 0) λc=>Cbo 216 #[.agg c,(vi a)] F λd F=>Bb ((!d)) (R (.bool false) F) (f (i64.wrap (a+1)) F)) (Av e R F)
def Jz (c:Γ) (R:VR) (F:PH):Prop:=Nb F (.cells c 31) λb F=>Li F (Am b 1) λd=>Bc (d<0) (R (.bool false) F) (Li F (Am b 1) λe=>Ls F (Am b 0) λa=>Bc ((i64.wrap ((a.len:Int)+2))<=e) (R (.bool false) F) (Lp 0 F λN f F=>Aw N b R f F))
theorem OE {a:Γ} (h:Jz a R F):aj prog 210 #[.agg a] F R:=Rx.sxC (args:=[.agg a]) (.T .N (.T .N (.J false [] (.T .N (.L [(3,.int .i64)] .N)) .N))) (by kernel_rfl) h
def Ax (R:VR) (F:PH):Prop:=R (.bool true) F
def Ay (h:Ω) (g:Int) (i j:Nat) (R:VR) (a:Int) (F:PH):Prop:=Bc (a<g) (Ls F (Am i 0) λc=>Ix c a λd=>Lr F 3 (Addr.add d (Int.toNat a*3)) λe=>Lr F 3 (Am j 0) λf=>∃b,(∀F,rdo prog (Op.equal 124 (.agg e) (.agg f)) F b)/\Bb (b) (R (.bool false) F) (h (i64.wrap (a+1)) F)) (Ax R F)
def JA (v:Γ) (b:Int) (R:VR) (F:PH):Prop:=Nb F (.cells v 31) λu F=>Ls F (Am u 0) λw=>Ix w b λe=>Lr F 3 (Addr.add e (Int.toNat b*3)) λf=>Nb F (.cells (#[vi 0,vi 0,vi 0]) 124) λa F=>az F (Am a 0) 3 f λF=>Li F (Am a 0) λg=>Bc (g<0) (R (.bool false) F) (Li F (Am a 0) λh=>Bc (63<h) (R (.bool false) F) (Li F (Am a 1) λi=>Bc (i<0) (R (.bool false) F) (Li F (Am a 2) λj=>Bc (j<0) (R (.bool false) F) (Li F (Am a 1) λk=>Bc ((i64.wrap (b+2))<=k) (R (.bool false) F) (Li F (Am a 2) λl=>Bc ((i64.wrap (b+2))<=l) (R (.bool false) F) (Li F (Am a 1) λm=>Li F (Am a 2) λn=>Bc (m=n) (R (.bool false) F) (Lr F 2 (Am u 0) λo=>Li F (Am a 1) λp=>Li F (Am a 0) λc=>Ci 192 #[.agg o,(vi p)] F λq F=>F.cell (Am a 0)=some (vi c)/\Bc (q<=c) (R (.bool false) F) (Lr F 2 (Am u 0) λr=>Li F (Am a 2) λs=>Li F (Am a 0) λd=>Ci 192 #[.agg r,(vi s)] F λt F=>F.cell (Am a 0)=some (vi d)/\F.cell (Am a 0)=some (vi c)/\Bc (t<=d) (R (.bool false) F) (Lp 0 F λN x F=>Ay N b u a R x F)))))))))
theorem OF {a:Γ} {b:Int} (h:JA a b R F):aj prog 216 #[.agg a,(vi b)] F R:=Rx.sxC (args:=[.agg a,(vi b)]) (.T .N (.T .N (.T .N (.T .N (.J false [] (.T .N (.L [(6,.int .i64)] .N)) .N))))) (by kernel_rfl) h
end Go.Proofs.YtcemhghkipgdiaaGreatDoor
namespace Go.Proofs.YtcemhghkipgdiaaGreatDoor
open Go.IntKind (i64 u8 u64)
open Go Go.Proofs.Tryz Tr
set_option maxRecDepth 10000
theorem ic {F:PH} {v w:Γ} {d e:Dia} (hd:DV F v d) (he:DV F w e) (hl:Fit d.1.length):aj prog 50 #[.agg v,.agg w] F λr F'=>r=.bool (decide (d=e))/\F.le F':=by
 obtain ⟨s,rfl,hr⟩:=hd;obtain ⟨t,rfl,ht⟩:=he;refine RO ?_;unfold On;intro b2 hb2;refine atI ?_;have hle2:=ae (.cells #[s.v,vi d.2] 31) hb2;intro b3 hb3;refine atI ?_;have hle3:=ae (.cells #[t.v,vi e.2] 31) hb3;have hle:F.le _:=λb o h=>hle3 b o (hle2 b o h);have hc2:=hle3 _ _ (ak F b2 (.cells #[s.v,vi d.2] 31));have hc3:=ak (F.set b2 (.cells #[s.v,vi d.2] 31)) b3 (.cells #[t.v,vi e.2] 31);generalize (F.set b2 (.cells #[s.v,vi d.2] 31)).set b3 (.cells #[t.v,vi e.2] 31)=G at*;replace hr:=hr.le hle;replace ht:=ht.le hle;have lens:=hr.blen;have lent:=ht.blen;have cs:G.cell ⟨b2,0,none⟩=some s.v:=by rw [am hc2];rfl
 have ct:G.cell ⟨b3,0,none⟩=some t.v:=by rw [am hc3];rfl
 obtain ⟨x,d2⟩:=d;obtain ⟨y,e2⟩:=e;simp only at hl lens lent hr ht hc2 hc3;refine ⟨d2,by rw [am hc2];rfl,e2,by rw [am hc3];rfl,λh=> ?_,λh=> ?_⟩
 ·refine ⟨?_,hle⟩;simp [h]
 have h:d2=e2:=by omega
 subst h;refine ⟨s,cs,t,ct,λhn=> ?_,λhn=> ?_⟩
 ·refine ⟨?_,hle⟩;have:¬x=y:=λe=>by subst e;omega
  simp [this]
 have hlen:x.length=y.length:=by omega
 refine ⟨λm i F'=>∃k:Nat,i=k/\k<=x.length/\m=x.length - k/\F'=G/\x.take k=y.take k,x.length,⟨0,rfl,by omega,rfl,rfl,rfl⟩,?_⟩;rintro m i F' ⟨k,rfl,hk,rfl,rfl,htake⟩;unfold D6;refine ⟨s,cs,λhlt=> ?_,λhge=> ?_⟩
 ·have hkx:k<x.length:=by omega
  have hky:k<y.length:=by omega
  obtain ⟨p,hp,hpr,_⟩:=rdb hr (N4 hkx);obtain ⟨q,hq,hqr,_⟩:=rdb ht (N4 hky);refine ⟨s,cs,p,hp,by omega,hlt,aY x[k],rfl,by simpa using hpr,t,ct,q,hq,by omega,by omega,aY y[k],rfl,by simpa using hqr,decide (x[k]=y[k]),λF=>El x[k] y[k] F,λhne=> ?_,λheq=> ?_⟩
  ·refine ⟨?_,hle⟩;have:¬x=y:=by rintro rfl;simp at hne
   simp [this]
  ·refine ⟨x.length - (k+1),by omega,k+1,i9 (by omega),by omega,rfl,rfl,?_⟩;rw [TF hkx,TF hky,htake];simp at heq;rw [heq]
 ·refine ⟨?_,hle⟩;have hk':k=x.length:=by omega
  rw [hk',Tv,hlen,Tv] at htake;simp [htake]
def gc (t:Tr):Prop:=t.ok/\(aO t).length<=4096
theorem D9 {t:Tr} (h:t.ok) (hc:cnt t<=4096):gc t:=⟨h,Ut (nI t) hc⟩
theorem tf {t:Tr} (h:gc t):chk (dia t)=0:=AB h.1 h.2
theorem Ce {t:Tr} (h:gc t):lim (dia t)=(dia t,0):=by unfold lim;rw [if_neg];have:=h.2;simp only [dia,aL];omega
theorem nP {a b:Tr} (ha:gc a) (hb:gc b):km [dia a,dia b]=0:=by simp [km,tf ha,tf hb]
theorem LB {o:Op2} {a b:Tr} (ha:gc a) (hb:gc b):bin o (dia a) (dia b)=lim (dia (ap (λx y _=>o x y) a b (leaf false))):=by unfold bin;rw [nP ha hb,if_neg (by simp),fD ha.1,fD hb.1]
theorem Ea {o:Op2} {a b t:Tr} (ha:gc a) (hb:gc b) (ht:gc t) (he:∀c,t.ev c=o (a.ev c) (b.ev c)):bin o (dia a) (dia b)=(dia t,0):=by have:ap (λx y _=>o x y) a b (leaf false)=t:=uo ht.1 λc=>he c;rw [LB ha hb,this,Ce ht]
theorem Az {v:Nat} (h:v<64):sc v=(dia (tv v),0):=by unfold sc;rw [if_neg (by omega),N6]
theorem oX {a:Tr} (ha:gc a):Fit (dia a).1.length:=by have:=ha.2;simp only [dia,aL];omega
section
variable {F:PH} {v:Γ} {d:Dia} {S:List Tr} {t:Tr}
theorem eX (hd:DV F v d) (hp:brs S<+:d.1) (ht:inn S t) (hf:Fit (d.1.length+2)):
  aj prog 192 #[.agg v,vi (num S t)] F λr F'=>r=vi t.top/\F.le F':=by
 obtain ⟨hfit,hlt⟩:=pf hp ht hf;obtain ⟨s,rfl,hr⟩:=hd;refine OA ?_;unfold Ju;intro b2 hb2;refine atI ?_;have hle:=ae (.cells #[s.v,vi d.2] 31) hb2;refine ⟨λh=> ?_,λh=> ?_⟩
 ·have hl:=jw (S:=S) (t:=t) (by omega);cases t with
  |leaf b=>exact ⟨rfl,hle⟩
  |node _ _ _=>cases hl
 ·cases t with
  |leaf b=>have:=cL S b;omega
  |node w l r=>have hx:=gf hp (fC (cC ht rfl) rfl);obtain ⟨a,h1,_,h2,_⟩:=rdb (hr.le hle) hx;have hw:=tC hfit (dT (S:=S) (t:=node w l r) rfl);have hg:=dT (S:=S) (t:=node w l r) rfl;refine ⟨s,by simp,a,h1,by rw [hw];omega,by rw [hw,hr.blen];omega,_,by rw [hw];exact h2,rfl,hle⟩
theorem nQ (hd:DV F v d) (hp:brs S<+:d.1) (ht:inn S t) (hf:Fit (d.1.length+2)) {w:Nat} (hw:w<64):
  aj prog 193 #[.agg v,vi (num S t),vi w] F λr F'=>r=.tuple #[vi (num S (lo w t)),vi (num S (hi w t))]/\F.le F':=by
 obtain ⟨hfit,hlt⟩:=pf hp ht hf;have hd':=hd;obtain ⟨s,rfl,hr⟩:=hd;refine OB ?_;unfold Jv;intro b3 hb3;refine atI ?_;have hle:=ae (.cells #[s.v,vi d.2] 31) hb3;refine ⟨_,rfl,ac (ak _ _ _),?_⟩;refine (eX (hd'.le hle) hp ht hf).mono ?_;rintro _ F2 ⟨rfl,hle2⟩;have hc:F2 b3=some _:=hle2 _ _ (ak _ _ _);have hle':F.le F2:=λb o h=>hle2 b o (hle b o h);refine ⟨_,rfl,λh=> ?_,λh=> ?_⟩
 ·refine ⟨?_,hle'⟩;cases t with
  |leaf b=>rfl
  |node w' l r=>have:¬w'=w:=λe=>h (by simp [Tr.top,e]);simp [lo,hi,this]
 ·cases t with
  |leaf b=>simp only [Tr.top] at h;omega
  |node w' l r=>
   have e:w'=w:=by simp only [Tr.top] at h;omega
   subst e;have hx:=gf hp (fC (cC ht rfl) rfl);obtain ⟨a,h1,_,_,h3,h4⟩:=rdb (hr.le hle') hx;have hw:=tC hfit (dT (S:=S) (t:=node w' l r) rfl);have hg:=dT (S:=S) (t:=node w' l r) rfl
   refine ⟨s,by rw [am hc];rfl,a,h1,by rw [hw];omega,by rw [hw,hr.blen];omega,_,by rw [hw];exact h3,
    s,by rw [am hc];rfl,a,h1,by rw [hw];omega,by rw [hw,hr.blen];omega,_,by rw [hw];exact h4,?_,hle'⟩
   simp [lo,hi,br]
end
section
variable {F:PH}
theorem dh (x:Bool):aj prog 34 #[.bool x] F λr F'=>∃w,r=.agg w/\DV F' w (dia (leaf x))/\F.le F':=by
 refine RM ?_;unfold Ol;intro b2 hb2;refine atI ?_;have l2:=ae (.cells zD 31) hb2;have q2:=ak F b2 (.cells zD 31);refine ⟨λh=> ?_,λh=> ?_⟩
 ·subst h;have hd:∀G:PH,DV G #[Value.slice none 0 0,vi 1] (dia (leaf true)):=λG=>⟨Sl.nil,rfl,RdS.nil G 3⟩;exact fV (K:=λvres F'=>∃w,Value.agg vres=.agg w/\DV F' w (dia (leaf true))/\F.le F') (hd F) q2 rfl ⟨_,rfl,hd _,aw l2 hb2⟩
 ·subst h;have hd:∀G:PH,DV G zD (dia (leaf false)):=λG=>⟨Sl.nil,rfl,RdS.nil G 3⟩;exact fV (K:=λvres F'=>∃w,Value.agg vres=.agg w/\DV F' w (dia (leaf false))/\F.le F') (hd F) q2 rfl ⟨_,rfl,hd _,aw l2 hb2⟩
theorem mJ (x:Int):aj prog 109 #[vi x] F λr F'=>DRV F' r (sc x)/\F.le F':=by
 refine Ot ?_;unfold Jm;intro b2 hb2;refine atI ?_;have l2:=ae (.cells zD 31) hb2;have q2:=ak F b2 (.cells zD 31);generalize F.set b2 (.cells zD 31)=F2 at*;have bad:x<0\/63<x->lh x b2 true (λr F'=>DRV F' r (sc x)/\F.le F') F2:=λh=>by
  unfold lh;refine ⟨λ_=> ?_,λhc=>by cases hc⟩;have e:sc x=(nR,1):=by unfold sc;rw [if_pos h]
  rw [e];exact LD q2 rfl l2 hb2
 refine ⟨λh=>bad (.inl h),λh=> ?_⟩;by_cases h2:63<x
 ·rw [decide_eq_true h2];exact bad (.inr h2)
 ·rw [decide_eq_false h2];unfold lh;refine ⟨λhc=>(by cases hc),λ_=>⟨rfl,λb13 hb13=> ?_⟩⟩;refine atI ?_;have e:sc x=(dia (tv x.toNat),0):=by unfold sc;rw [if_neg (by omega)]
  have hx:((x.toNat:Nat):Int)=x:=by omega
  have lx:=ae (.cells #[vi x,vi 0,vi 1] 124) hb13;have q13:=ak F2 b13 (.cells #[vi x,vi 0,vi 1] 124);have n:b13≠b2:=(aE hb13 q2).symm;replace q2:=lx _ _ q2;have l3:=l2.trans lx;rw [e];have hd:∀G:PH,G b13=some (.cells #[vi x,vi 0,vi 1] 124)->DV G #[(Sl.mk (some ⟨b13,0,none⟩) 1 1).v,vi 2] (dia (tv x.toNat)):=λG hG=>by rw [LF,hx];exact ⟨_,rfl,RdS.new hG rfl rfl (Tj _)⟩
  exact fV (K:=λvres F'=>DRV F' (.tuple #[.agg vres,vi 0]) (dia (tv x.toNat),0)/\F.le F') (hd _ q13) q2 rfl ⟨⟨_,rfl,hd _ (by rw [au _ _ n];exact q13)⟩,aw l3 hb2⟩
end
def rnS (S:List Tr) (t:Tr):Nat:=if t∈S then num S t else 0
def rnL (S0 S:List Tr):Ξ:=S0.map λt=>vi (rnS S t:Int)
structure WS (F0 F:PH) (bw g:Nat) (ns:Sl) (S0 S:List Tr):Prop where
 le:F0.le F
 cl:Cl S
 sub:∀x∈S,x∈S0
 nw:F0 bw=none
 ng:F0 g=none
 rd:RdS F0 ns 3 (aW (brs S0))
 ex:∃s:Sl,F bw=some (.cells #[ns.v,Sl.v ⟨some ⟨g,0,none⟩,S0.length,S0.length⟩,s.v] 243)/\cf F 124 3 s (aW (brs S))/\∀a,s.base=some a->F0 a.block=none
 hg:F g=some (.cells (rnL S0 S).toArray 3)
theorem Eb {S0 S:List Tr} (h0:Cl S0) {t:Tr} (hS':Cl (S++[t])) (ht:t∈S0) (hl:t.isL=false):(rnL S0 S).set (num S0 t - 2) (vi ((S.length+2:Nat):Int))=rnL S0 (S++[t]):=by
 apply Ug;intro j;unfold rnL;rw [UT,Tx,Tx];have hg:=dT (S:=S0) hl;have hgt:=fC ht hl;by_cases hj:num S0 t - 2=j
 ·subst hj;have hlt:=(N5.1 hgt).1;rw [if_pos rfl,Tu,if_pos hlt,hgt];simp only [T8,rnS];rw [if_pos (by simp),dU hS' (k:=S.length) (by simp)]
 ·rw [if_neg hj];cases hx:S0[j]? with
  |none=>rfl
  |some u=>
   simp only [T8,rnS];have hne:u≠t:=λe=>by subst e;have:=dU h0 hx;omega
   have hm:u∈S++[t]↔u∈S:=by simp [hne]
   by_cases hu:u∈S
   ·rw [if_pos hu,if_pos (hm.2 hu),bO (.inr hu)]
   ·rw [if_neg hu,if_neg (λh=>hu (hm.1 h))]
theorem wI {bw g:Nat} {ns:Sl} {S0:List Tr} (h0:Cl S0) (hf:Fit (S0.length+4)):∀(t:Tr),inn S0 t->∀(F0 F:PH) (S:List Tr),WS F0 F bw g ns S0 S->
  aj prog 195 #[.pointer (some ⟨bw,0,none⟩),vi (num S0 t)] F λr F'=>r=vi (num (vis t S) t)/\WS F0 F' bw g ns S0 (vis t S):=by
 intro t;induction t with
 |leaf x=>intro ht F0 F S hs;refine Jx ?_;unfold D8;have:=cL S0 x;exact ⟨λ_=>⟨rfl,hs⟩,λh=>by omega⟩
 |node v l h ihl ihh=>
  intro ht F0 F S hs;have hs':=hs;obtain ⟨hle,hS,hsub,hnw,hng,hrd,⟨s,hw,ho,hsb⟩,hg⟩:=hs;have htm:=cC ht rfl;obtain ⟨hil,hih⟩:=h0.inn_kids ht;have hok:=h0.inn_ok ht;have hge:=dT (S:=S0) (t:=node v l h) rfl;have hnl:=eK ht;have hgt:=fC htm rfl;have hlt:=(N5.1 hgt).1;have hw2:=tC (n:=num S0 (node v l h)) (by omega) hge;refine Jx ?_;unfold D8;refine ⟨λh=>by omega,λ_=> ?_⟩;rw [hw2];have cell0:F.cell ⟨bw,0,none⟩=some ns.v:=by rw [am hw];rfl
  have cell1:F.cell (Addr.add ⟨bw,0,none⟩ 1)=some (Sl.v ⟨some ⟨g,0,none⟩,S0.length,S0.length⟩):=by rw [aC,am hw];rfl
  have cellg:F.cell (Addr.add ⟨g,0,none⟩ (Int.toNat ((num S0 (node v l h) - 2:Nat):Int)*1))=some (vi (rnS S (node v l h))):=by
   simp only [aC];rw [am hg];have:(rnL S0 S)[num S0 (node v l h) - 2]? =some (vi (rnS S (node v l h))):=by unfold rnL;rw [Tx,hgt];rfl
   simpa using this
  refine ⟨_,rfl,_,cell1,_,rfl,by omega,by simp only;omega,_,cellg,λhpos=> ?_,λhpos=> ?_⟩
  ·have hin:node v l h∈S:=by
    unfold rnS at hpos;split at hpos
    ·assumption
    ·omega
   have e:vis (node v l h) S=S:=f7 (.inr hin);rw [e];have e2:rnS S (node v l h)=num S (node v l h):=by unfold rnS;rw [if_pos hin]
   rw [e2] at cellg;exact ⟨_,cell1,_,rfl,by omega,by simp only;omega,_,cellg,rfl,hs'⟩
  ·have hin:node v l h ∉ S:=λhin=>hpos (by
    have:=dT (S:=S) (t:=node v l h) rfl;unfold rnS;rw [if_pos hin]
    omega)
   obtain ⟨a,ha,hrow,_⟩:=rdb (hrd.le hle) (oJ hgt);have hns:=hrd.blen;rw [aL] at hns;refine ⟨ns,cell0,a,ha,by omega,by omega,aY (br S0 (node v l h)),rfl,by simpa using hrow,?_⟩;intro b5 hb5;refine atI ?_;refine stW (ak _ _ _) rfl rfl (lH _) ?_;rw [ba];have h50:F0 b5=none:=aS hle hb5;have n5w:bw≠b5:=aE hb5 hw;have n5g:g≠b5:=aE hb5 hg;have hs5:WS (F0.set b5 (.cells (aY (br S0 (node v l h))) 124)) (F.set b5 (.cells (aY (br S0 (node v l h))) 124)) bw g ns S0 S:=by
    refine ⟨λx ob hx=> ?_,hS,hsub,by rw [au _ _ n5w];exact hnw,by rw [au _ _ n5g];exact hng,hrd.le (ae _ h50),⟨s,by rw [au _ _ n5w];exact hw,ho.upto (ae _ hb5),λa ha=> ?_⟩,by rw [au _ _ n5g];exact hg⟩
    ·by_cases hxb:x=b5
     ·subst hxb;rw [ak] at hx ⊢;exact hx
     ·rw [au _ _ hxb] at hx ⊢;exact hle _ _ hx
    ·obtain ⟨cur,hcur⟩:=ho.elem ha;rw [au _ _ (aE hb5 hcur)];exact hsb a ha
   have hle0:F0.le (F0.set b5 (.cells (aY (br S0 (node v l h))) 124)):=ae _ h50;have hc5:(F0.set b5 (.cells (aY (br S0 (node v l h))) 124)) b5=some (.cells (aY (br S0 (node v l h))) 124):=ak _ _ _;generalize F0.set b5 (.cells (aY (br S0 (node v l h))) 124)=G0 at*;generalize F.set b5 (.cells (aY (br S0 (node v l h))) 124)=F1 at*;refine ⟨_,by rw [am (hs5.le _ _ hc5)];rfl,?_⟩;refine (ihl hil G0 F1 S hs5).mono ?_;rintro _ F2 ⟨rfl,hs2⟩;refine ⟨_,rfl,_,by rw [am (hs2.le _ _ hc5)];rfl,?_⟩;refine (ihh hih G0 F2 _ hs2).mono ?_;rintro _ F3 ⟨rfl,hs3⟩;obtain ⟨hle3,hS3,hsub3,hnw3,hng3,hrd3,⟨s3,hw3,ho3,hsb3⟩,hg3⟩:=hs3;obtain ⟨fl1,fl2,X,fl3,fl4⟩:=bo l S hok.2.2.2.2.1 hS;obtain ⟨fh1,fh2,Y,fh3,fh4⟩:=bo h (vis l S) hok.2.2.2.2.2 fl1;have hnl':num (vis l S) l=num (vis h (vis l S)) l:=by rw [fh3,bO fl2]
   have evis:vis (node v l h) S=vis h (vis l S)++[node v l h]:=by
    conv=>lhs;unfold vis
    rw [if_neg hin]
   obtain ⟨hSv,_,_⟩:=bo (node v l h) S hok hS;rw [evis] at hSv ⊢;rw [hnl'];have hil3:inn (vis h (vis l S)) l:=by rw [fh3];exact bT fl2
   generalize vis h (vis l S)=T at*;refine ⟨_,rfl,s3,by rw [aC,am hw3];rfl,_,by rw [am (hle3 _ _ hc5)];rfl,rfl,λb54 hb54=> ?_⟩;refine atI ?_;have hTl:T.length<=S0.length:=dx T S0 hS3.nodup hsub3;have hlen:=ho3.rd.blen;rw [aL] at hlen;have hle54:=ae (.cells (aY ⟨(v:Int),(num T l:Int),(num T h:Int)⟩) 124) hb54;have h54:=ak F3 b54 (.cells (aY ⟨(v:Int),(num T l:Int),(num T h:Int)⟩) 124);show aD prog _ (F3.set b54 (.cells (aY ⟨(v:Int),(num T l:Int),(num T h:Int)⟩) 124)) _;replace hle3:G0.le (F3.set b54 (.cells (aY ⟨(v:Int),(num T l:Int),(num T h:Int)⟩) 124)):=λx ob hx=>hle54 _ _ (hle3 _ _ hx);replace ho3:=ho3.upto hle54;replace hw3:=hle54 _ _ hw3;replace hg3:=hle54 _ _ hg3;generalize F3.set b54 (.cells (aY ⟨(v:Int),(num T l:Int),(num T h:Int)⟩) 124)=F4 at*;refine kW underlying29 wl wm rfl (by decide) hle3 ho3 hsb3 (x:=⟨some ⟨b54,0,none⟩,1,1⟩) (news:=cY ⟨(v:Int),(num T l:Int),(num T h:Int)⟩) (RdS.new h54 rfl rfl (Tj _))
    (λx hx=>gN [⟨(v:Int),(num T l:Int),(num T h:Int)⟩] x (by simpa [aW] using hx)) (by simp only [hlen];omega) (by simp only [hlen];omega) ?_
   intro s5 F5 hle5 ho5 hlen5 hsb5 hk5 _;have new:∀a,s3.base=some a->a.block≠bw:=λa ha e=>by obtain ⟨cur,hcur⟩:=ho3.elem ha;rw [e,hw3] at hcur;simp at hcur
   have neg:∀a,s3.base=some a->a.block≠g:=λa ha e=>by obtain ⟨cur,hcur⟩:=ho3.elem ha;rw [e,hg3] at hcur;simp at hcur
   replace hw3:=hk5 _ _ hw3 (λ⟨a,ha,e⟩=>new a ha e);replace hg3:=hk5 _ _ hg3 (λ⟨a,ha,e⟩=>neg a ha e);have nwg:bw≠g:=λe=>by rw [e,hg3] at hw3;simp at hw3
   have hsb6:∀a,s5.base=some a->a.block≠bw/\a.block≠g:=λa ha=>by
    obtain ⟨cur,hcur⟩:=ho5.elem ha;refine ⟨λe=> ?_,λe=> ?_⟩
    ·rw [e,hw3] at hcur;simp at hcur
    ·rw [e,hg3] at hcur;simp at hcur
   refine ⟨s5,rfl,by rw [am (hle5 _ _ hc5)];rfl,?_⟩;refine rY (b:=bw) (o:=2) (by simp) hw3 (by simp) ?_;rw [show (#[ns.v,Sl.v ⟨some ⟨g,0,none⟩,S0.length,S0.length⟩,s3.v].setIfInBounds 2 s5.v:Γ)= #[ns.v,Sl.v ⟨some ⟨g,0,none⟩,S0.length,S0.length⟩,s5.v] from rfl];have hle6:G0.le (F5.set bw (.cells #[ns.v,Sl.v ⟨some ⟨g,0,none⟩,S0.length,S0.length⟩,s5.v] 243)):=aw hle5 hnw3;have hw6:=ak F5 bw (.cells #[ns.v,Sl.v ⟨some ⟨g,0,none⟩,S0.length,S0.length⟩,s5.v] 243);have hg6:(F5.set bw (.cells #[ns.v,Sl.v ⟨some ⟨g,0,none⟩,S0.length,S0.length⟩,s5.v] 243)) g=some (.cells (rnL S0 T).toArray 3):=by rw [au _ _ nwg.symm];exact hg3
   have ho6:cf (F5.set bw (.cells #[ns.v,Sl.v ⟨some ⟨g,0,none⟩,S0.length,S0.length⟩,s5.v] 243)) 124 3 s5 _:=ho5.keep λa ha=>au _ _ (hsb6 a ha).1;generalize F5.set bw (.cells #[ns.v,Sl.v ⟨some ⟨g,0,none⟩,S0.length,S0.length⟩,s5.v] 243)=F6 at*;have hlen6:s5.len=T.length+1:=by rw [hlen5,hlen]
   have hw7:i64.wrap ((s5.len:Int)+1)=((T.length+2:Nat):Int):=by rw [hlen6,aP (by omega) (by omega)];omega
   refine ⟨_,by rw [aC,am hw6];rfl,s5,by rw [aC,am hw6];rfl,_,rfl,by omega,by simp only;omega,?_⟩;rw [hw7];refine rY (b:=g) (o:=num S0 (node v l h) - 2) (by simp) hg6 (by simp [rnL];omega) ?_;rw [List.setIfInBounds_toArray,Eb h0 hSv htm rfl];refine ⟨s5,by rw [aC,am ((au _ _ nwg).trans hw6)];rfl,?_⟩;dsimp only;rw [hw7];refine ⟨by rw [dU hSv (k:=T.length) (by simp)],λx ob hx=>aw hle6 hng3 _ _ (hle0 _ _ hx),hSv,λx hx=> ?_,hnw,hng,hrd,⟨s5,(au _ _ nwg).trans hw6,?_,λa ha=>aS hle0 (hsb5 a ha)⟩,ak _ _ _⟩
   ·rcases Tm.1 hx with hx|hx
    ·exact hsub3 x hx
    ·rw [Ti.1 hx];exact htm
   ·have e3:aW (brs (T++[node v l h]))=aW (brs T)++cY ⟨(v:Int),(num T l:Int),(num T h:Int)⟩:=by rw [eg hS3 hil3 fh2,eD];simp [aW]
    rw [e3];exact ho6.keep λa ha=>au _ _ (hsb6 a ha).2
section
variable {F:PH} {ns:Sl} {S0:List Tr} {t:Tr}
theorem jU (hr:RdS F ns 3 (aW (brs S0))) (h0:Cl S0) (ht:inn S0 t) (hf:Fit (S0.length+4)):
  aj prog 161 #[ns.v,vi (num S0 t)] F λr F'=>∃v,r=.agg v/\DV F' v (dia t)/\F.le F':=by
 have hns:=hr.blen;rw [aL] at hns;refine Ox ?_;unfold Jr;intro b4 hb4;refine atI ?_;have l4:=ae (.cells zD 31) hb4;have q4:=ak F b4 (.cells zD 31);generalize F.set b4 (.cells zD 31)=F4 at*;refine dg underlying67 sz3 zr3 rfl (by omega) (Int.le_refl _) (by omega) (by omega) ?_;intro g hg;rw [zc1 _ rfl,N6,hns];refine ⟨_,rfl,?_⟩;have e0:List.replicate S0.length (vi 0)=rnL S0 []:=by
  apply Ug;intro j;unfold rnL;rw [List.getElem?_replicate,Tx];by_cases hj:j<S0.length
  ·rw [if_pos hj,N4 hj];simp [rnS]
  ·rw [if_neg hj,T7 (by omega)];rfl
 rw [e0];have lg:=ae (.cells (rnL S0 []).toArray 3) hg;have qg:=ak F4 g (.cells (rnL S0 []).toArray 3);have q4g:=lg _ _ q4;have n4g:b4≠g:=aE hg q4;generalize hG:F4.set g (.cells (rnL S0 []).toArray 3)=Fg at*;intro b12 hb12;refine atI ?_;have n12g:g≠b12:=aE hb12 qg;have f12:F4 b12=none:=aS lg hb12;have lx:=ae (.cells #[ns.v,Sl.v ⟨some ⟨g,0,none⟩,S0.length,S0.length⟩,Value.slice none 0 0] 243) hb12;have hs:WS F4 (Fg.set b12 (.cells #[ns.v,Sl.v ⟨some ⟨g,0,none⟩,S0.length,S0.length⟩,Value.slice none 0 0] 243)) b12 g ns S0 []:=
  ⟨lg.trans lx,.nil,λx hx=>(by cases hx),f12,hg,hr.le l4,⟨Sl.nil,ak _ _ _,.inl ⟨rfl,rfl⟩,λa ha=>by cases ha⟩,lx _ _ qg⟩
 refine (wI h0 hf t ht F4 _ [] hs).mono ?_;rintro _ G ⟨rfl,hs'⟩;have ev:vis t []=aO t:=rfl;rw [ev] at*;obtain ⟨gle,gcl,_,_,_,_,⟨s,gw,go,gs⟩,_⟩:=hs';refine ⟨_,rfl,s,by rw [am gw];rfl,?_⟩;have h4:=gle _ _ q4;have hsb:∀a,s.base=some a->a.block≠b4:=λa ha e=>by obtain ⟨cur,hcur⟩:=go.elem ha;rw [e,h4] at hcur;simp at hcur
 have hd:DV (dH G b4) #[s.v,vi (num (aO t) t)] (dia t):=⟨s,rfl,(go.keep λa ha=>eT (hsb a ha)).rd⟩;exact fV (K:=λvres F'=>∃v,Value.agg vres=.agg v/\DV F' v (dia t)/\F.le F') hd h4 rfl ⟨_,rfl,hd.le (aw (AA _ _) (yz _ _)),aw (l4.trans gle) hb4⟩
end
end Go.Proofs.YtcemhghkipgdiaaGreatDoor
