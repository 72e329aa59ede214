/-
  Sets of places in memory.
-/
import Derived.Test.YtcemhghkipgdiaaGreatDoorPhp
import Derived.Test.YtcemhghkipgdiaaGreatDoorGdiagram
import Derived.Test.YtcemhghkipgdiaaGreatDoorPhn
import Derived.Test.YtcemhghkipgdiaaGreatDoorGbits
namespace Go.Proofs.YtcemhghkipgdiaaGreatDoor
open Go.IntKind (i64 u8 u64)
open Go Go.Proofs.Tryz
variable {R:VR} {F:PH}
set_option maxRecDepth 10000
set_option maxHeartbeats 4000000
def A3 (a:Sl) (R:VR) (F:PH):Prop:=Bc ((a.len:Int)=0) (R (vi 40) F) (R (vi 0) F)
def A4 (f:Ω) (e:Sl) (g:Nat) (R:VR) (a:Int) (F:PH):Prop:=Bc (a<(i64.wrap ((e.len:Int) - 1))) (Ls F (Am g 0) λb=>Ix b a λc=>Lb F (Addr.add c (Int.toNat a*1)) λd=>Bb ((!d)) (R (vi 40) F) (f (i64.wrap (a+1)) F)) (A3 e R F)
def A5 (b:Sl) (c:Nat) (R:VR) (F:PH):Prop:=Lp 0 F λN a F=>A4 N b c R a F
def cd (b:Ω) (c:Sl) (d:Nat) (a:Int) (R:VR) (F:PH):Prop:=b (i64.wrap (a+1)) F
def fN (e:Ω) (c:Sl) (d:Nat) (a:Int) (f:Nat) (b:Int) (B:Bool) (R:VR) (F:PH):Prop:=Bb ((!B)) (R (vi 40) F) (Bc (b<1) (Li F (Am f 3) λC=>Bc (C≠0) (R (vi 40) F) (Bc (b<2) (Li F (Am f 4) λD=>Bc (D≠0) (R (vi 40) F) (Bc (1<=b) (Li F (Am f 3) λE=>Cbo 182 #[(vi E),(vi a),(Pp d)] F λG F=>Bb ((!G)) (R (vi 40) F) (Bc (2<=b) (Li F (Am f 4) λH=>Cbo 182 #[(vi H),(vi a),(Pp d)] F λI F=>Bb ((!I)) (R (vi 40) F) (cd e c d a R F)) (cd e c d a R F))) (Bc (2<=b) (Li F (Am f 4) λg=>Cbo 182 #[(vi g),(vi a),(Pp d)] F λh F=>Bb ((!h)) (R (vi 40) F) (cd e c d a R F)) (cd e c d a R F)))) (Bc (1<=b) (Li F (Am f 3) λi=>Cbo 182 #[(vi i),(vi a),(Pp d)] F λj F=>Bb ((!j)) (R (vi 40) F) (Bc (2<=b) (Li F (Am f 4) λk=>Cbo 182 #[(vi k),(vi a),(Pp d)] F λl F=>Bb ((!l)) (R (vi 40) F) (cd e c d a R F)) (cd e c d a R F))) (Bc (2<=b) (Li F (Am f 4) λm=>Cbo 182 #[(vi m),(vi a),(Pp d)] F λn F=>Bb ((!n)) (R (vi 40) F) (cd e c d a R F)) (cd e c d a R F))))) (Bc (b<2) (Li F (Am f 4) λo=>Bc (o≠0) (R (vi 40) F) (Bc (1<=b) (Li F (Am f 3) λp=>Cbo 182 #[(vi p),(vi a),(Pp d)] F λq F=>Bb ((!q)) (R (vi 40) F) (Bc (2<=b) (Li F (Am f 4) λr=>Cbo 182 #[(vi r),(vi a),(Pp d)] F λs F=>Bb ((!s)) (R (vi 40) F) (cd e c d a R F)) (cd e c d a R F))) (Bc (2<=b) (Li F (Am f 4) λt=>Cbo 182 #[(vi t),(vi a),(Pp d)] F λu F=>Bb ((!u)) (R (vi 40) F) (cd e c d a R F)) (cd e c d a R F)))) (Bc (1<=b) (Li F (Am f 3) λv=>Cbo 182 #[(vi v),(vi a),(Pp d)] F λw F=>Bb ((!w)) (R (vi 40) F) (Bc (2<=b) (Li F (Am f 4) λx=>Cbo 182 #[(vi x),(vi a),(Pp d)] F λy F=>Bb ((!y)) (R (vi 40) F) (cd e c d a R F)) (cd e c d a R F))) (Bc (2<=b) (Li F (Am f 4) λz=>Cbo 182 #[(vi z),(vi a),(Pp d)] F λA F=>Bb ((!A)) (R (vi 40) F) (cd e c d a R F)) (cd e c d a R F)))))
def A6 (f:Ω) (c:Sl) (e:Nat) (R:VR) (a:Int) (F:PH):Prop:=Bc (a<(c.len:Int)) (Ix c a λg=>Lr F 5 (Addr.add g (Int.toNat a*5)) λh=>Nb F (.cells (#[vi 0,vi 0,vi 0,vi 0,vi 0]) 149) λd F=>au F (Am d 0) 5 h λF=>Li F (Am d 0) λi=>Ci 183 #[(vi i)] F λb F=>Li F (Am d 0) λj=>Bc (j=1) (Li F (Am d 1) λk=>Bc (0<=k) (Li F (Am d 1) λl=>Li F (Am d 2) λm=>Bc (l<=m) (Li F (Am d 2) λn=>fN f c e a d b (decide (n<=(255:Int))) R F) (fN f c e a d b false R F)) (fN f c e a d b false R F)) (Li F (Am d 1) λo=>Bc (o≠0) (fN f c e a d b false R F) (Li F (Am d 2) λp=>Bc (p≠0) (fN f c e a d b false R F) (fN f c e a d b (decide (0<=b)) R F)))) (A5 c e R F)
def JP (a:Sl) (R:VR) (F:PH):Prop:=Bc ((512:Int)<(a.len:Int)) (R (vi 2) F) (aG prog (Instr.makeSlice 211 (vi (a.len:Int)) (vi (a.len:Int))) F λv F=>∃b,v=(Sl.v b)/\Nb F (.cells (#[.slice none 0 0]) 211) λd F=>sto F (Am d 0) (Sl.v b) λF=>Lp 0 F λN c F=>A6 N a d R c F)
theorem On {a:Sl} (h:JP a R F):ai prog 144 #[Sl.v a] F R:=Rx.sxC (args:=[Sl.v a]) (.T .N (.T .N (.T .N (.T .N (.J false [] (.T .N (.L [(19,.int .i64)] (.T .N (.T .N (.J false [] (.T .N (.T .N (.T .N (.J false [(8,.bool)] .N .N)))) .N))))) (.J false [] (.T .N (.L [(105,.int .i64)] .N)) .N)))))) (by kernel_rfl) h
def ph (f:Nat) (c b:Θ) (R:VR) (F:PH):Prop:=Lx F (Am f 0) λd=>Cu 185 #[.pointer c,.string d,.func (.func 186) #[] #[(Pp f),.pointer b]] F λF=>∃a,b=some a/\Lb F a λe=>R (.bool e) F
def JQ (d:Sl) (g:ByteArray) (R:VR) (F:PH):Prop:=Nb F (.cells #[.string g] 9) λh F=>Ci 144 #[Sl.v d] F λi F=>Bc (i≠0) (R (.bool false) F) (ai prog 184 #[Sl.v d] F λv F=>∃b,v=(.pointer b)/\Lx F (Am h 0) λe=>Bb ((e.toList==(ByteArray.mk #[]).toList)) (∃a,b=some a/\Lb F (Addr.add a 18) λf=>Nb F (.cells (#[.bool false]) 4) λj F=>sto F (Am j 0) (.bool f) λF=>ph h (some a) (some (Am j 0)) R F) (Nb F (.cells (#[.bool false]) 4) λc F=>sto F (Am c 0) (.bool false) λF=>ph h b (some (Am c 0)) R F))
theorem Oo {a:Sl} {b:ByteArray} (h:JQ a b R F):ai prog 145 #[Sl.v a,.string b] F R:=Rx.sxC (args:=[Sl.v a,.string b]) (.T .N (.T .N (.T .N (.J false [(5,.ptr),(6,.ptr)] .N .N)))) (by kernel_rfl) h
def JR (a c:Int) (i:Θ) (R:VR) (F:PH):Prop:=Bc (a<0) (R (.bool false) F) (Bc (c<=a) (R (.bool false) F) (∃b,i=some b/\Ls F b λd=>Ix d a λe=>Lb F (Addr.add e (Int.toNat a*1)) λf=>Bb (f) (R (.bool false) F) (Ls F b λg=>Ix g a λh=>sto F (Addr.add h (Int.toNat a*1)) (.bool true) λF=>R (.bool true) F)))
theorem Oq {b:Int} {a:Int} {c:Θ} (h:JR b a c R F):ai prog 182 #[(vi b),(vi a),.pointer c] F R:=Rx.sxC (args:=[(vi b),(vi a),.pointer c]) .N (by kernel_rfl) h
def pj (a:Int) (b:Bool) (R:VR) (F:PH):Prop:=Bb (b) (R (vi 0) F) (Bc (a=4) (R (vi 1) F) (Bc (a=2) (Bc (a=2) (R (vi 2) F) (R (vi (-1:Int)) F)) (Bc (a=3) (R (vi 2) F) (R (vi (-1:Int)) F))))
def JS (a:Int) (R:VR) (F:PH):Prop:=Bc (a=0) (pj a (decide (a=0)) R F) (pj a (decide (a=1)) R F)
theorem Ot {a:Int} (h:JS a R F):ai prog 183 #[(vi a)] F R:=Rx.sxC (args:=[(vi a)]) (.T .N (.T (.T .N (.J false [(4,.bool)] .N .N)) .N)) (by kernel_rfl) h
def jK (q:Nat) (i:Θ) (R:VR) (F:PH):Prop:=Nb F (.cells (#[.nilFunc]) 247) λr F=>Nb F (.cells (#[.nilFunc]) 251) λt F=>sto F (Am t 0) (.func (.func 202) #[] #[.pointer i]) λF=>sto F (Am r 0) (.func (.func 206) #[] #[(Pp q),(Pp r),(Pp t)]) λF=>∃a,i=some a/\Lq F a λj=>Lq F a λe=>Lq F a λb=>∃k:Value,F.cell (Am r 0)=some k/\Ls F (Am q 0) λl=>Fn k λs n o=>ai prog s (n++([(vi (i64.wrap ((l.len:Int) - 1)))]).toArray++o) F λv F=>∃m,∃c,∃d,v=(Value.tuple #[(Value.agg m),(Value.agg c),(Value.bool d)])/\F.cell (Am q 0)=some (Sl.v l)/\F.cell a=some (.pointer b)/\F.cell a=some (.pointer e)/\F.cell a=some (.pointer j)/\∃f,j=some f/\au F (Addr.add f 1) 8 m λF=>F.cell a=some (.pointer b)/\F.cell a=some (.pointer e)/\∃g,e=some g/\au F (Addr.add g 9) 8 c λF=>F.cell a=some (.pointer b)/\∃h,b=some h/\sto F (Addr.add h 18) (.bool d) λF=>Lq F a λp=>R (.pointer p) F
def JT (j:Sl) (R:VR) (F:PH):Prop:=Nb F (.cells #[Sl.v j] 144) λd F=>Ls F (Am d 0) λb=>Ls F (Am d 0) λa=>((aG prog (Instr.makeSlice 230 (vi (a.len:Int)) (vi (a.len:Int))) F λv F=>∃g,v=(Sl.v g)/\F.cell (Am d 0)=some (Sl.v a)/\F.cell (Am d 0)=some (Sl.v b)/\((Nb F (.cells (#[Sl.v b,.int .u64 0,.int .u64 0,.int .u64 0,.int .u64 0,.int .u64 0,.int .u64 0,.int .u64 0,.int .u64 0,.int .u64 0,.int .u64 0,.int .u64 0,.int .u64 0,.int .u64 0,.int .u64 0,.int .u64 0,.int .u64 0,Sl.v g,.bool false]:Γ) 232) λk F=>Nb F (.cells (#[.pointer none]) 226) λl F=>sto F (Am l 0) (Pp k) λF=>jK d (some (Am l 0)) R F)/\(Nb F (.cells (#[.pointer none]) 226) λe F=>Nb F (.cells (#[Sl.v b,.int .u64 0,.int .u64 0,.int .u64 0,.int .u64 0,.int .u64 0,.int .u64 0,.int .u64 0,.int .u64 0,.int .u64 0,.int .u64 0,.int .u64 0,.int .u64 0,.int .u64 0,.int .u64 0,.int .u64 0,.int .u64 0,Sl.v g,.bool false]:Γ) 232) λh F=>sto F (Am e 0) (Pp h) λF=>jK d (some (Am e 0)) R F)))/\(Nb F (.cells (#[.pointer none]) 226) λf F=>aG prog (Instr.makeSlice 230 (vi (a.len:Int)) (vi (a.len:Int))) F λv F=>∃c,v=(Sl.v c)/\F.cell (Am d 0)=some (Sl.v a)/\F.cell (Am d 0)=some (Sl.v b)/\Nb F (.cells (#[Sl.v b,.int .u64 0,.int .u64 0,.int .u64 0,.int .u64 0,.int .u64 0,.int .u64 0,.int .u64 0,.int .u64 0,.int .u64 0,.int .u64 0,.int .u64 0,.int .u64 0,.int .u64 0,.int .u64 0,.int .u64 0,.int .u64 0,Sl.v c,.bool false]:Γ) 232) λi F=>sto F (Am f 0) (Pp i) λF=>jK d (some (Am f 0)) R F))
theorem Ou {a:Sl} (h:JT a R F):ai prog 184 #[Sl.v a] F R:=Rx.sxC (args:=[Sl.v a]) (.T .N (.J false [(3,.ptr)] .N .N)) (by kernel_rfl) h
def A7 (u:Ω) (q:Value) (p w s:Nat) (j:ByteArray) (R:VR) (a:Int) (F:PH):Prop:=Bc (a<(j.size:Int)) (Nb F (.cells (#[vi 0]) 3) λk F=>sto F (Am k 0) (vi a) λF=>Nb F (.cells (#[.int .u64 0,.int .u64 0,.int .u64 0,.int .u64 0,.int .u64 0,.int .u64 0,.int .u64 0,.int .u64 0]) 229) λl F=>Nb F (.cells (#[.int .u64 0,.int .u64 0,.int .u64 0,.int .u64 0,.int .u64 0,.int .u64 0,.int .u64 0,.int .u64 0]) 229) λt F=>Cu 203 #[(Pp s),.func (.func 208) #[] #[(Pp w),(Pp k),(Pp p),(Pp l),(Pp t)]] F λF=>Lr F 8 (Am l 0) λb=>∃f,(∀F,rdo prog (Op.equal 229 (.agg b) (.agg (#[.int .u64 0,.int .u64 0,.int .u64 0,.int .u64 0,.int .u64 0,.int .u64 0,.int .u64 0,.int .u64 0]:Γ))) F f)/\Bb (f) (R (.tuple #[]) F) (Li F (Am k 0) λc=>Lq F (Am p 0) λd=>∃e,d=some e/\Lr F 8 (Addr.add e 9) λm=>Cbo 209 #[(Pp l),.agg m] F λn F=>F.cell (Am p 0)=some (Value.pointer d)/\F.cell (Am k 0)=some (vi c)/\F.row (Am l 0) b/\Fn q λr h i=>ai prog r (h++([(vi (i64.wrap (c+1))),(Value.bool n)]).toArray++i) F λv F=>∃g,v=(Value.bool g)/\F.cell (Am p 0)=some (.pointer d)/\F.cell (Am k 0)=some (vi c)/\F.row (Am l 0) b/\Bb ((!g)) (R (.tuple #[]) F) (Lr F 8 (Am t 0) λo=>au F (Am s 0) 8 o λF=>u (i64.wrap (a+1)) F))) (R (.tuple #[]) F)
def JU (b:Θ) (g:ByteArray) (h:Value) (R:VR) (F:PH):Prop:=Nb F (.cells #[.pointer b] 226) λi F=>Nb F (.cells #[.string g] 9) λj F=>Lq F (Am i 0) λc=>∃a,c=some a/\Lr F 8 (Addr.add a 1) λd=>Nb F (.cells (#[.int .u64 0,.int .u64 0,.int .u64 0,.int .u64 0,.int .u64 0,.int .u64 0,.int .u64 0,.int .u64 0]) 229) λk F=>au F (Am k 0) 8 d λF=>Lx F (Am j 0) λe=>Lp 0 F λN f F=>A7 N h i j k e R f F
theorem Ov {a:Θ} {b:ByteArray} {c:Value} (h:JU a b c R F):ai prog 185 #[.pointer a,.string b,c] F R:=Rx.sxC (args:=[.pointer a,.string b,c]) (.T .N (.T .N (.T .N (.L [(16,.int .i64)] .N)))) (by kernel_rfl) h
def JV (f:Int) (d:Bool) (g e:Θ) (R:VR) (F:PH):Prop:=∃b,g=some b/\Lx F b λh=>Bc (f=(h.size:Int)) (∃c,e=some c/\sto F c (.bool d) λF=>R (.bool true) F) (∃a,e=some a/\sto F a (.bool false) λF=>R (.bool true) F)
theorem Ow {b:Int} {a:Bool} {c:Θ} {d:Θ} (h:JV b a c d R F):ai prog 186 #[(vi b),.bool a,.pointer c,.pointer d] F R:=Rx.sxC (args:=[(vi b),.bool a,.pointer c,.pointer d]) .N (by kernel_rfl) h
def JW (a b:Γ) (c:Θ) (R:VR) (F:PH):Prop:=Nb F (.cells a 229) λd F=>Nb F (.cells b 229) λe F=>Cu 203 #[(Pp d),.func (.func 204) #[] #[.pointer c,(Pp e)]] F λF=>R (.tuple #[]) F
theorem Ox {a:Γ} {b:Γ} {c:Θ} (h:JW a b c R F):ai prog 202 #[.agg a,.agg b,.pointer c] F R:=Rx.sxC (args:=[.agg a,.agg b,.pointer c]) .N (by kernel_rfl) h
def A8 (b:Ω) (c:Value) (d:Θ) (a:Int) (R:VR) (F:PH):Prop:=b (i64.wrap (a+1)) F
def A9 (i j:Ω) (d:Value) (e:Int) (f:Addr) (R:VR) (a:Int) (F:PH):Prop:=Bc (a≠0) (Ci 215 #[.int .u64 a] F λg F=>Fn d λh b c=>ai prog h (b++([(vi (i64.wrap ((i64.wrap (64*e))+g)))]).toArray++c) F λv F=>v=(Value.tuple #[])/\j (u64.wrap ((BitVec.ofInt (u64).bits a &&& BitVec.ofInt (u64).bits (u64.wrap (a - 1))).toNat)) F) (A8 i d (some f) e R F)
def Ba (i:Ω) (f:Value) (g:Θ) (R:VR) (a:Int) (F:PH):Prop:=Bc (a<8) (∃b,g=some b/\0<=a/\a<8/\Lk F .u64 (Addr.add b (Int.toNat a*1)) λc=>(∃(h:Nat->Ω) (e:Nat),h e c F/\∀e d F,h e d F-> A9 i (nx1 h e) f a b R d F)) (R (.tuple #[]) F)
def JX (a:Θ) (b:Value) (R:VR) (F:PH):Prop:=Lp 0 F λN c F=>Ba N b a R c F
theorem Oy {a:Θ} {b:Value} (h:JX a b R F):ai prog 203 #[.pointer a,b] F R:=Rx.sxC (args:=[.pointer a,b]) (.T .N (.L [(7,.int .i64)] (.T .N (.T .N (.J false [(6,.ptr)] (.T .N (.L [(5,.int .u64)] .N)) .N))))) (by kernel_rfl) h
def JY (d:Int) (h i:Θ) (R:VR) (F:PH):Prop:=∃a,h=some a/\Lq F a λe=>∃b,e=some b/\Ls F (Addr.add b 17) λf=>Ix f d λj=>∃c,i=some c/\Lr F 8 c λg=>Cu 205 #[.pointer (some (Addr.add j (Int.toNat d*8))),.agg g] F λF=>F.cell (Addr.add b 17)=some (Sl.v f)/\F.cell a=some (.pointer e)/\R (.tuple #[]) F
theorem Oz {a:Int} {b:Θ} {c:Θ} (h:JY a b c R F):ai prog 204 #[(vi a),.pointer b,.pointer c] F R:=Rx.sxC (args:=[(vi a),.pointer b,.pointer c]) .N (by kernel_rfl) h
def Be (f:Ω) (e:Θ) (g:Nat) (R:VR) (a:Int) (F:PH):Prop:=Bc (a<8) (∃b,e=some b/\0<=a/\a<8/\Lk F .u64 (Addr.add b (Int.toNat a*1)) λc=>0<=a/\a<8/\Lk F .u64 (Addr.add (Am g 0) (Int.toNat a*1)) λd=>0<=a/\a<8/\sto F (Addr.add b (Int.toNat a*1)) (.int .u64 (u64.wrap ((BitVec.ofInt (u64).bits c ||| BitVec.ofInt (u64).bits d).toNat))) λF=>f (i64.wrap (a+1)) F) (R (.tuple #[]) F)
def JZ (a:Θ) (b:Γ) (R:VR) (F:PH):Prop:=Nb F (.cells b 229) λd F=>Lp 0 F λN c F=>Be N a d R c F
theorem OA {a:Θ} {b:Γ} (h:JZ a b R F):ai prog 205 #[.pointer a,.agg b] F R:=Rx.sxC (args:=[.pointer a,.agg b]) (.T .N (.T .N (.L [(5,.int .i64)] .N))) (by kernel_rfl) h
def jL (i j l:Nat) (e:Bool) (k:Nat) (f:Bool) (R:VR) (F:PH):Prop:=Lr F 8 (Am l 0) λg=>Lr F 8 (Am k 0) λh=>Bb (e) (au F (Am i 0) 8 g λF=>au F (Am j 0) 8 h λF=>Lr F 8 (Am i 0) λa=>Lr F 8 (Am j 0) λb=>R (.tuple #[.agg a,.agg b,.bool f]) F) (au F (Am i 0) 8 g λF=>au F (Am j 0) 8 h λF=>Lr F 8 (Am i 0) λc=>Lr F 8 (Am j 0) λd=>R (.tuple #[.agg c,.agg d,.bool false]) F)
def pk (f g h e:Nat) (b:Bool) (c:Nat) (a:Bool) (R:VR) (F:PH):Prop:=Bb (a) (Lr F 8 (Am e 0) λd=>Cu 205 #[(Pp c),.agg d] F λF=>jL f g h b c a R F) (jL f g h b c a R F)
def tV (ac:Int) (aX ad aD:Θ) (R:VR) (F:PH):Prop:=Nb F (.cells (#[.int .u64 0,.int .u64 0,.int .u64 0,.int .u64 0,.int .u64 0,.int .u64 0,.int .u64 0,.int .u64 0]) 229) λe F=>Nb F (.cells (#[.int .u64 0,.int .u64 0,.int .u64 0,.int .u64 0,.int .u64 0,.int .u64 0,.int .u64 0,.int .u64 0]) 229) λf F=>∃O,aX=some O/\Ls F O λaE=>Ix aE ac λaF=>Lr F 5 (Addr.add aF (Int.toNat ac*5)) λaG=>Nb F (.cells (#[vi 0,vi 0,vi 0,vi 0,vi 0]) 149) λb8 F=>au F (Am b8 0) 5 aG λF=>Li F (Am b8 0) λg=>Bc (g=1) (Cu 207 #[(Pp e),(vi ac)] F λF=>Lr F 8 (Am e 0) λaH=>Lr F 8 (Am e 0) λaI=>au F (Am e 0) 8 aH λF=>au F (Am f 0) 8 aI λF=>Lr F 8 (Am e 0) λG=>Lr F 8 (Am f 0) λH=>R (.tuple #[.agg G,.agg H,.bool false]) F) (Bc (g=2) (∃y,ad=some y/\∃P:Value,F.cell y=some P/\Li F (Am b8 3) λaJ=>Fn P λaY af ag=>ai prog aY (af++([(vi aJ)]).toArray++ag) F λv F=>∃Q,∃h,∃a,v=(Value.tuple #[(Value.agg Q),(Value.agg h),(Value.bool a)])/\Nb F (.cells (#[.int .u64 0,.int .u64 0,.int .u64 0,.int .u64 0,.int .u64 0,.int .u64 0,.int .u64 0,.int .u64 0]) 229) λb9 F=>Nb F (.cells (#[.int .u64 0,.int .u64 0,.int .u64 0,.int .u64 0,.int .u64 0,.int .u64 0,.int .u64 0,.int .u64 0]) 229) λI F=>au F (Am b9 0) 8 Q λF=>au F (Am I 0) 8 h λF=>∃S:Value,F.cell y=some S/\Li F (Am b8 4) λaK=>Fn S λaZ ah aj=>ai prog aZ (ah++([(vi aK)]).toArray++aj) F λv F=>∃T,∃i,∃b,v=(Value.tuple #[(Value.agg T),(Value.agg i),(Value.bool b)])/\Nb F (.cells (#[.int .u64 0,.int .u64 0,.int .u64 0,.int .u64 0,.int .u64 0,.int .u64 0,.int .u64 0,.int .u64 0]) 229) λak F=>Nb F (.cells (#[.int .u64 0,.int .u64 0,.int .u64 0,.int .u64 0,.int .u64 0,.int .u64 0,.int .u64 0,.int .u64 0]) 229) λal F=>au F (Am ak 0) 8 T λF=>au F (Am al 0) 8 i λF=>∃U,aD=some U/\∃V:Value,F.cell U=some V/\Lr F 8 (Am I 0) λaL=>Lr F 8 (Am ak 0) λaM=>Fn V λa0 am an=>ai prog a0 (am++([(Value.agg aL),(Value.agg aM)]).toArray++an) F λv F=>v=(Value.tuple #[])/\Bb (a) (Lr F 8 (Am ak 0) λaN=>Cu 205 #[(Pp b9),.agg aN] F λF=>pk e f b9 I a al b R F) (pk e f b9 I a al b R F)) (Bc (g=3) (∃c,ad=some c/\∃W:Value,F.cell c=some W/\Li F (Am b8 3) λaO=>Fn W λa1 ao ap=>ai prog a1 (ao++([(vi aO)]).toArray++ap) F λv F=>∃X,∃j,∃k,v=(Value.tuple #[(Value.agg X),(Value.agg j),(Value.bool k)])/\Nb F (.cells (#[.int .u64 0,.int .u64 0,.int .u64 0,.int .u64 0,.int .u64 0,.int .u64 0,.int .u64 0,.int .u64 0]) 229) λaq F=>Nb F (.cells (#[.int .u64 0,.int .u64 0,.int .u64 0,.int .u64 0,.int .u64 0,.int .u64 0,.int .u64 0,.int .u64 0]) 229) λar F=>au F (Am aq 0) 8 X λF=>au F (Am ar 0) 8 j λF=>∃Y:Value,F.cell c=some Y/\Li F (Am b8 4) λaP=>Fn Y λa2 av aw=>ai prog a2 (av++([(vi aP)]).toArray++aw) F λv F=>∃Z,∃l,∃m,v=(Value.tuple #[(Value.agg Z),(Value.agg l),(Value.bool m)])/\Nb F (.cells (#[.int .u64 0,.int .u64 0,.int .u64 0,.int .u64 0,.int .u64 0,.int .u64 0,.int .u64 0,.int .u64 0]) 229) λaQ F=>Nb F (.cells (#[.int .u64 0,.int .u64 0,.int .u64 0,.int .u64 0,.int .u64 0,.int .u64 0,.int .u64 0,.int .u64 0]) 229) λaR F=>au F (Am aQ 0) 8 Z λF=>au F (Am aR 0) 8 l λF=>Lr F 8 (Am aQ 0) λaS=>Cu 205 #[(Pp aq),.agg aS] F λF=>Lr F 8 (Am aR 0) λaT=>Cu 205 #[(Pp ar),.agg aT] F λF=>Lr F 8 (Am aq 0) λaa=>Lr F 8 (Am ar 0) λab=>Bb (k) (au F (Am e 0) 8 aa λF=>au F (Am f 0) 8 ab λF=>Lr F 8 (Am e 0) λp=>Lr F 8 (Am f 0) λq=>R (.tuple #[.agg p,.agg q,.bool true]) F) (au F (Am e 0) 8 aa λF=>au F (Am f 0) 8 ab λF=>Lr F 8 (Am e 0) λr=>Lr F 8 (Am f 0) λs=>R (.tuple #[.agg r,.agg s,.bool m]) F)) (Bc (g=4) (∃n,ad=some n/\∃z:Value,F.cell n=some z/\Li F (Am b8 3) λax=>Fn z λaU J K=>ai prog aU (J++([(vi ax)]).toArray++K) F λv F=>∃A,∃d,∃B,v=(Value.tuple #[(Value.agg A),(Value.agg d),(Value.bool B)])/\Nb F (.cells (#[.int .u64 0,.int .u64 0,.int .u64 0,.int .u64 0,.int .u64 0,.int .u64 0,.int .u64 0,.int .u64 0]) 229) λay F=>Nb F (.cells (#[.int .u64 0,.int .u64 0,.int .u64 0,.int .u64 0,.int .u64 0,.int .u64 0,.int .u64 0,.int .u64 0]) 229) λL F=>au F (Am ay 0) 8 A λF=>au F (Am L 0) 8 d λF=>∃o,aD=some o/\∃C:Value,F.cell o=some C/\Lr F 8 (Am L 0) λaz=>Lr F 8 (Am ay 0) λaA=>Fn C λaV M N=>ai prog aV (M++([(Value.agg az),(Value.agg aA)]).toArray++N) F λv F=>v=(Value.tuple #[])/\Lr F 8 (Am ay 0) λaB=>Lr F 8 (Am L 0) λD=>au F (Am e 0) 8 aB λF=>F.row (Am L 0) D/\au F (Am f 0) 8 D λF=>Lr F 8 (Am e 0) λt=>Lr F 8 (Am f 0) λu=>R (.tuple #[.agg t,.agg u,.bool true]) F) (Lr F 8 (Am e 0) λaC=>Lr F 8 (Am f 0) λE=>au F (Am e 0) 8 aC λF=>F.row (Am f 0) E/\au F (Am f 0) 8 E λF=>Lr F 8 (Am e 0) λw=>Lr F 8 (Am f 0) λx=>R (.tuple #[.agg w,.agg x,.bool true]) F))))
theorem xw {a:Int} {b:Θ} {c:Θ} {d:Θ} (h:tV a b c d R F):ai prog 206 #[(vi a),.pointer b,.pointer c,.pointer d] F R:=Rx.sxC (args:=[(vi a),.pointer b,.pointer c,.pointer d]) (.T .N (.T .N (.T (.T .N (.T .N (.T .N (.T .N (.T (.T .N (.T .N (.T .N (.J false [] .N (.J false [] .N .N))))) .N))))) .N))) (by kernel_rfl) h
def J0 (d:Θ) (a:Int) (R:VR) (F:PH):Prop:=∃b,d=some b/\0<=(i64.wrap (Int.tdiv a 64))/\(i64.wrap (Int.tdiv a 64))<8/\∃c,F.cell (Addr.add b (Int.toNat (i64.wrap (Int.tdiv a 64))*1))=some (.int .u64 c)/\0<=(Int.tmod a 64)/\0<=(i64.wrap (Int.tdiv a 64))/\(i64.wrap (Int.tdiv a 64))<8/\sto F (Addr.add b (Int.toNat (i64.wrap (Int.tdiv a 64))*1)) (.int .u64 (u64.wrap ((BitVec.ofInt (u64).bits c ||| BitVec.ofInt (u64).bits (u64.wrap (1*2 ^ (min (Int.toNat (Int.tmod a 64)) (u64).bits)))).toNat))) λF=>R (.tuple #[]) F
theorem OB {a:Θ} {b:Int} (h:J0 a b R F):ai prog 207 #[.pointer a,(vi b)] F R:=Rx.sxC (args:=[.pointer a,(vi b)]) .N (by kernel_rfl) h
def pm (c:Int) (i j k:Θ) (d:Bool) (R:VR) (F:PH):Prop:=Bb (d) (Cu 207 #[.pointer j,(vi c)] F λF=>∃b,i=some b/\Lq F b λe=>∃a,e=some a/\Ls F (Addr.add a 17) λf=>Ix f c λg=>Lr F 8 (Addr.add g (Int.toNat c*8)) λh=>Cu 205 #[.pointer k,.agg h] F λF=>R (.tuple #[]) F) (R (.tuple #[]) F)
def J1 (b:Int) (t u v j k:Θ) (R:VR) (F:PH):Prop:=∃g,t=some g/\Lx F g λi=>∃h,u=some h/\Li F h λf=>0<=f/\f<(i.size:Int)/\∃(hx:Int.toNat f<i.size) (c:Int),c=((i[Int.toNat f]'hx).toNat:Int)/\∃a,v=some a/\Lq F a λl=>∃d,l=some d/\Ls F d λm=>Ix m b λn=>Li F (Addr.add (Addr.add n (Int.toNat b*5)) 1) λo=>Bc (o<=(i64.wrap c)) (Lq F a λp=>∃e,p=some e/\Ls F e λq=>Ix q b λr=>Li F (Addr.add (Addr.add r (Int.toNat b*5)) 2) λs=>pm b (some a) j k (decide ((i64.wrap c)<=s)) R F) (pm b (some a) j k false R F)
theorem OC {a:Int} {b:Θ} {c:Θ} {d:Θ} {e:Θ} {f:Θ} (h:J1 a b c d e f R F):ai prog 208 #[(vi a),.pointer b,.pointer c,.pointer d,.pointer e,.pointer f] F R:=Rx.sxC (args:=[(vi a),.pointer b,.pointer c,.pointer d,.pointer e,.pointer f]) (.T .N (.J false [(3,.ptr),(33,.bool)] .N .N)) (by kernel_rfl) h
def Bf (R:VR) (F:PH):Prop:=R (.bool false) F
def Bg (f:Ω) (e:Θ) (g:Nat) (R:VR) (a:Int) (F:PH):Prop:=Bc (a<8) (∃b,e=some b/\0<=a/\a<8/\Lk F .u64 (Addr.add b (Int.toNat a*1)) λc=>0<=a/\a<8/\Lk F .u64 (Addr.add (Am g 0) (Int.toNat a*1)) λd=>Bc ((u64.wrap ((BitVec.ofInt (u64).bits c &&& BitVec.ofInt (u64).bits d).toNat))≠0) (R (.bool true) F) (f (i64.wrap (a+1)) F)) (Bf R F)
def J2 (a:Θ) (b:Γ) (R:VR) (F:PH):Prop:=Nb F (.cells b 229) λd F=>Lp 0 F λN c F=>Bg N a d R c F
theorem OD {a:Θ} {b:Γ} (h:J2 a b R F):ai prog 209 #[.pointer a,.agg b] F R:=Rx.sxC (args:=[.pointer a,.agg b]) (.T .N (.J false [] (.T .N (.L [(6,.int .i64)] .N)) .N)) (by kernel_rfl) h
abbrev cW (n:Nat):Value:=.int .u64 (n:Int)
def plA (P:Nat->Bool):Γ:= #[cW (wd P 0),cW (wd P 1),cW (wd P 2),cW (wd P 3),cW (wd P 4),cW (wd P 5),cW (wd P 6),cW (wd P 7)]
def noP:Nat->Bool:=λ_=>false
theorem bM:plA noP= #[.int .u64 0,.int .u64 0,.int .u64 0,.int .u64 0,.int .u64 0,.int .u64 0,.int .u64 0,.int .u64 0]:=by unfold plA noP;simp only [uX];rfl
theorem Ez (P:Nat->Bool):(plA P).size=8:=rfl
theorem fe (P:Nat->Bool) {k:Nat} (h:k<8):(plA P)[k]? =some (cW (wd P k)):=by
 have:k=0\/k=1\/k=2\/k=3\/k=4\/k=5\/k=6\/k=7:=by omega
 rcases this with rfl|rfl|rfl|rfl|rfl|rfl|rfl|rfl<;>rfl
theorem bD (P:Nat->Bool):∀v∈(plA P).toList,ak v:=by intro v hv;simp only [plA,UT,V2,or_false] at hv;rcases hv with rfl|rfl|rfl|rfl|rfl|rfl|rfl|rfl<;>exact kG
def sP (P Q:Nat->Bool) (k:Nat):Ξ:=(List.range 8).map λj=>if j<k then cW (wd Q j) else cW (wd P j)
theorem CX (P Q:Nat->Bool):sP P Q 0=(plA P).toList:=rfl
theorem EA (P Q:Nat->Bool):sP P Q 8=(plA Q).toList:=rfl
theorem EB (P Q:Nat->Bool) {k:Nat} (hk:k<8):(sP P Q k).set k (cW (wd Q k))=sP P Q (k+1):=by
 have:k=0\/k=1\/k=2\/k=3\/k=4\/k=5\/k=6\/k=7:=by omega
 rcases this with rfl|rfl|rfl|rfl|rfl|rfl|rfl|rfl<;>rfl
theorem EC (P Q:Nat->Bool) {k:Nat} (hk:k<8):(sP P Q k)[k]? =some (cW (wd P k)):=by
 have:k=0\/k=1\/k=2\/k=3\/k=4\/k=5\/k=6\/k=7:=by omega
 rcases this with rfl|rfl|rfl|rfl|rfl|rfl|rfl|rfl<;>rfl
theorem cw (b o k:Nat):(Addr.mk b o none).add k=⟨b,o+k,none⟩:=by
 by_cases h:k=0
 ·subst h;rfl
 ·simp [Addr.add,h]
def j8 (F:PH) (b:Nat) (e:TypeId) (pre:Ξ) (P:Nat->Bool) (post:Ξ):Prop:=F b=some (.cells (pre++(plA P).toList++post).toArray e)
theorem j8.row {F:PH} {b:Nat} {e:TypeId} {pre post:Ξ} {P:Nat->Bool} (h:j8 F b e pre P post):F.row ⟨b,pre.length,none⟩ (plA P):=by intro i hi;have hi':i<8:=hi;rw [cw,am h];rw [List.getElem?_toArray,Vo,Vn (by omega),Nat.add_sub_cancel_left,U9 (by exact hi')];simp
theorem j8.own {F:PH} {b:Nat} {e:TypeId} {P:Nat->Bool}:j8 F b e [] P []↔F b=some (.cells (plA P) e):=by unfold j8;simp
section
variable {F:PH}
theorem tW {b:Nat} {e:TypeId} {pre post:Ξ} {P Q:Nat->Bool} (h:j8 F b e pre P post):
  ai prog 205 #[.pointer (some ⟨b,pre.length,none⟩),.agg (plA Q)] F λr F'=>r=.tuple #[]/\j8 F' b e pre (λi=>P i || Q i) post/\cO (λx=>x=b) F F':=by
 refine OA ?_;unfold JZ;intro b3 hb3;refine atI ?_;have hbF:∃o,F b=some o:=⟨_,h⟩;have l3:=ae (.cells (plA Q) 229) hb3;have q3:=al F b3 (.cells (plA Q) 229);have h3:(F.set b3 (.cells (plA Q) 229)) b=some (.cells (pre++sP P (λi=>P i || Q i) 0++post).toArray e):=by rw [CX];exact l3 _ _ h
 have hne:b≠b3:=aJ hb3 h;generalize F.set b3 (.cells (plA Q) 229)=F3 at*;refine ⟨λm i F'=>∃k:Nat,i=k/\k<=8/\m=8 - k/\F' b3=some (.cells (plA Q) 229)/\F' b=some (.cells (pre++sP P (λi=>P i || Q i) k++post).toArray e)/\cO (λx=>x=b) F F',8,⟨0,rfl,by omega,rfl,q3,h3,cO.of_le l3⟩,?_⟩;rintro _ _ F4 ⟨k,rfl,hk,rfl,q4,h4,hk4⟩;unfold Be;refine ⟨λhlt=> ?_,λhge=> ?_⟩
 ·have h8:k<8:=by omega
  have hml:(sP P (λi=>P i || Q i) k).length=8:=by simp [sP]
  have hg:(pre++sP P (λi=>P i || Q i) k++post).toArray[pre.length+k]? =some (cW (wd P k)):=by rw [List.getElem?_toArray,Vo,Vn (by omega),Nat.add_sub_cancel_left,U9 (by omega)];exact EC P _ h8
  have ek:Int.toNat (k:Int)*1=k:=by rw [N4,Vs]
  rw [ek];have hc:F4.cell ((Addr.mk b pre.length none).add k)=some (cW (wd P k)):=by rw [cw,am h4];exact hg
  have hc3:F4.cell ((Addr.mk b3 0 none).add k)=some (cW (wd Q k)):=by rw [cw,Vd,am q4];exact fe Q h8
  refine ⟨_,rfl,by omega,by omega,_,hc,by omega,by omega,_,hc3,by omega,by omega,?_⟩;refine oR (b:=b) (o:=pre.length+k) (cw b pre.length k) h4 (by simp [hml];omega) ?_;rw [D8 (oq P k) (oq Q k),<- NW];refine ⟨8 - (k+1),by omega,k+1,i6 (by omega),h8,rfl,?_,?_,hk4.trans (cO.set _ (.inl rfl))⟩
  ·rw [av _ _ hne.symm];exact q4
  ·rw [al];congr 2;rw [List.setIfInBounds_toArray];congr 1;rw [Vo,List.set_append_right _ _ (by omega),Nat.add_sub_cancel_left,List.set_append_left _ _ (by omega),Vo];congr 2;exact EB P (λi=>P i || Q i) h8
 ·obtain rfl:k=8:=by omega
  rw [EA] at h4;exact ⟨rfl,h4,hk4⟩
theorem xx {b:Nat} {e:TypeId} {pre post:Ξ} {P Q:Nat->Bool} (h:j8 F b e pre P post):
  ai prog 209 #[.pointer (some ⟨b,pre.length,none⟩),.agg (plA Q)] F λr F'=>(∃t:Bool,r=.bool t/\(t=true↔∃i,i<512/\P i=true/\Q i=true))/\F.le F':=by
 refine OD ?_;unfold J2;intro b3 hb3;refine atI ?_;have l3:=ae (.cells (plA Q) 229) hb3;have q3:=al F b3 (.cells (plA Q) 229);have h3:j8 (F.set b3 (.cells (plA Q) 229)) b e pre P post:=l3 _ _ h;generalize F.set b3 (.cells (plA Q) 229)=F3 at*;refine ⟨λm i F'=>∃k:Nat,i=k/\k<=8/\m=8 - k/\F'=F3/\∀i,i<64*k->¬(P i=true/\Q i=true),8,⟨0,rfl,by omega,rfl,rfl,λi hi=>by omega⟩,?_⟩;rintro _ _ F4 ⟨k,rfl,hk,rfl,e4,hall⟩;obtain rfl:=e4.symm;unfold Bg;refine ⟨λhlt=> ?_,λhge=> ?_⟩
 ·have h8:k<8:=by omega
  have ek:Int.toNat (k:Int)*1=k:=by rw [N4,Vs]
  rw [ek];have hc:F3.cell ((Addr.mk b pre.length none).add k)=some (cW (wd P k)):=by have:=h3.row k h8;rw [this];have e:=fe P h8;rw [Vk (by exact h8)] at e;exact e
  have hc3:F3.cell ((Addr.mk b3 0 none).add k)=some (cW (wd Q k)):=by rw [cw,Vd,am q3];exact fe Q h8
  refine ⟨_,rfl,by omega,by omega,_,hc,by omega,by omega,_,hc3,?_⟩;dsimp only;rw [uY (oq P k) (oq Q k),<- L5];refine ⟨λhne=>⟨⟨true,rfl,?_⟩,l3⟩,λhe=>⟨8 - (k+1),by omega,k+1,i6 (by omega),h8,rfl,rfl,λi hi=> ?_⟩⟩
  ·refine ⟨λ_=> ?_,λ_=>rfl⟩;have h0:¬wd (λi=>P i && Q i) k=0:=by omega
   rw [io] at h0;have:∃j,¬(j<64->(P (64*k+j) && Q (64*k+j))=false):=Classical.not_forall.1 h0;obtain ⟨j,hj⟩:=this;have hj64:j<64:=Classical.byContradiction λh=>hj λh'=>absurd h' h;have hj2:¬(P (64*k+j) && Q (64*k+j))=false:=λh=>hj λ_=>h;simp at hj2;exact ⟨64*k+j,by omega,hj2⟩
  ·by_cases hlt2:i<64*k
   ·exact hall i hlt2
   ·have h0:wd (λi=>P i && Q i) k=0:=by omega
    have:=io.1 h0 (i - 64*k) (by omega);rw [show 64*k+(i - 64*k)=i by omega] at this;rintro ⟨a,c⟩;rw [a,c] at this;cases this
 ·obtain rfl:k=8:=by omega
  unfold Bf;exact ⟨⟨false,rfl,λh=>(by cases h),λ⟨i,hi,hp⟩=>absurd hp (hall i (by omega))⟩,l3⟩
theorem CY {b:Nat} {P:Nat->Bool} {i:Nat} (hi:i<512) (h:F b=some (.cells (plA P) 229)):
  ai prog 207 #[pa b,vi i] F λr F'=>r=.tuple #[]/\F'=F.set b (.cells (plA λj=>P j || decide (j=i)) 229):=by
 refine OB ?_;unfold J0;have e1:i64.wrap (Int.tdiv (i:Int) 64)=((i / 64:Nat):Int):=by rw [show Int.tdiv (i:Int) 64=((i / 64:Nat):Int) from rfl,aS (by omega) (by omega)]
 have e2:Int.tmod (i:Int) 64=((i % 64:Nat):Int):=rfl;rw [e1,e2];have ek:Int.toNat ((i / 64:Nat):Int)*1=i / 64:=by rw [N4,Vs]
 rw [ek];have h8:i / 64<8:=by omega
 have hc:F.cell ((Addr.mk b 0 none).add (i / 64))=some (cW (wd P (i / 64))):=by rw [cw,Vd,am h];exact fe P h8
 refine ⟨_,rfl,by omega,by omega,_,hc,by omega,by omega,by omega,?_⟩;refine oR (b:=b) (o:=i / 64) (by rw [cw,Vd]) h (by rw [Ez];exact h8) ⟨rfl,?_⟩;have hp:2 ^ (i % 64)<18446744073709551616:=by have:2 ^ (i % 64)<2 ^ 64:=WB (by omega) (by omega);exact this
 have ep:u64.wrap ((1:Int)*2 ^ (min (Int.toNat ((i % 64:Nat):Int)) (u64).bits))=((2 ^ (i % 64):Nat):Int):=by
  have hm:min (Int.toNat ((i % 64:Nat):Int)) (u64).bits=i % 64:=by rw [N4];show min (i % 64) 64=i % 64;omega
  rw [hm];have:(1:Int)*2 ^ (i % 64)=((2 ^ (i % 64):Nat):Int):=by simp
  rw [this];exact lH (Int.natCast_nonneg _) (Int.ofNat_lt.2 hp)
 rw [ep,D8 (oq P _) hp];congr 2;have ew:wd P (i / 64) ||| 2 ^ (i % 64)=wd (λj=>P j || decide (j=i)) (i / 64):=by refine tN (Nat.or_lt_two_pow (oq P _) hp) λj hj=> ?_;rw [Nat.testBit_or,im P _ hj,WE];congr 1;rw [U3];simp;omega
 rw [ew];have eo:∀k,k≠i / 64->k<8->wd P k=wd (λj=>P j || decide (j=i)) k:=λk hk _=>D7 λj hj=>by show P (64*k+j)=(P (64*k+j) || decide (64*k+j=i));rw [show decide (64*k+j=i)=false by simp;omega,WM]
 apply Array.ext';apply VI;intro k;rw [Array.toList_setIfInBounds,V6];by_cases hk8:k<8
 ·have g1:∀(Q:Nat->Bool),(plA Q).toList[k]? =some (cW (wd Q k)):=λQ=>by rw [Wu];exact fe Q hk8
  rw [g1,g1];by_cases hik:i / 64=k
  ·rw [if_pos hik,if_pos (by exact h8),hik]
  ·rw [if_neg hik,eo k (λe=>hik e.symm) hk8]
 ·have g2:∀(Q:Nat->Bool),(plA Q).toList[k]? =none:=λQ=>VX (by show 8<=k;omega);rw [g2,g2,if_neg (by omega)]
def Tab (F:PH):Prop:=∀k v,xj[k]? =some v->F.cell ⟨0,k,none⟩=some (.int .u8 ((v:Nat):Int))
theorem Tab.le {F G:PH} (h:Tab F) (hl:F.le G):Tab G:=λk v hv=>aH hl (h k v hv)
theorem Ih (hT:Tab F) {x t:Nat} (hx:x<18446744073709551616) (h:Low x t):ai prog 215 #[.int .u64 x] F λr F'=>r=vi t/\F'=F:=by
 refine PM ?_;unfold Ko;have hpos:=h.pos;refine ⟨λh0=>absurd h0 (by omega),λ_=> ?_⟩;have ht:t<64:=by
  rcases Nat.lt_or_ge t 64 with h1|h1
  ·exact h1
  ·obtain ⟨m,rfl⟩:=h;have:2 ^ 64<=2 ^ t:=Vq (by omega) h1;omega
 have e1:u64.wrap (0 - (x:Int))=((2 ^ 64 - x:Nat):Int):=by
  unfold IntKind.wrap;simp only [IntKind.bits,IntKind.signed];simp only [WI,Vu,if_false];have:(2:Nat) ^ 64=18446744073709551616:=by decide
  omega
 have e2:2 ^ 64 - x<18446744073709551616:=by omega
 rw [e1,uY hx e2,h.neg hx];have hC:=NX t ht;have e3:u64.wrap (((2 ^ t:Nat):Int)*285870213051353865)=((2 ^ t*285870213051353865 % 18446744073709551616:Nat):Int):=by
  unfold IntKind.wrap;simp only [IntKind.bits,IntKind.signed];simp only [WI,Vu,if_false];have:((2:Nat) ^ 64:Nat)=18446744073709551616:=by decide
  omega
 rw [e3];generalize hy:2 ^ t*285870213051353865 % 18446744073709551616=y at*;have e4:Int.fdiv ((y:Nat):Int) (2 ^ (min (Int.toNat (58:Int)) (u64).bits))=((y / 288230376151711744:Nat):Int):=by
  have:(2:Int) ^ (min (Int.toNat (58:Int)) (u64).bits)=288230376151711744:=by decide
  rw [this,Int.fdiv_eq_ediv_of_nonneg _ (by decide)];omega
 rw [e4,N4,Vs,cw,Vd];refine ⟨by omega,by omega,_,hT _ _ hC.2,?_,rfl⟩;rw [NY (by omega)]
theorem tX {a:Addr} {P:Nat->Bool} {k:FuncId} {cap:Γ} {Inv:Nat->Ψ} (hk:aE prog k=true) (_:a.spot=none)
  (hI:∀n F,Inv n F->Tab F/\F.row a (plA P)) (h0:∀i F,i<512->P i=false->Inv i F->Inv (i+1) F)
  (h1:∀i F,i<512->P i=true->Inv i F->ai prog k (#[vi i]++cap) F λr F'=>r=.tuple #[]/\Inv (i+1) F') (hF:Inv 0 F):
  ai prog 203 #[.pointer (some a),.func (.func k) #[] cap] F λr F'=>r=.tuple #[]/\Inv 512 F':=by
 refine Oy ?_;unfold JX;refine ⟨λm i F'=>∃w:Nat,i=w/\w<=8/\m=8 - w/\Inv (64*w) F',8,⟨0,rfl,by omega,rfl,hF⟩,?_⟩;rintro _ _ F1 ⟨w,rfl,hw,rfl,hi1⟩;unfold Ba;refine ⟨λhlt=> ?_,λhge=> ?_⟩
 ·have h8:w<8:=by omega
  have ek:Int.toNat (w:Int)*1=w:=by rw [N4,Vs]
  rw [ek];have hc:F1.cell (a.add w)=some (cW (wd P w)):=by rw [(hI _ _ hi1).2 w h8];have e:=fe P h8;rw [Vk (by exact h8)] at e;exact e
  refine ⟨a,rfl,by omega,by omega,_,hc,?_⟩;refine ⟨λm x F'=>∃j y:Nat,x=y/\j<=64/\m=64 - j/\y<18446744073709551616/\(∀i,y.testBit i=((wd P w).testBit i && decide (j<=i)))/\Inv (64*w+j) F',64,⟨0,wd P w,rfl,by omega,rfl,oq P w,λi=>by simp,hi1⟩,?_⟩;rintro _ _ F2 ⟨j,y,rfl,hj,rfl,hy,hbit,hi2⟩;unfold A9;have skip:∀(t:Nat),j<=t->t<=64->(∀i,j<=i->i<t->P (64*w+i)=false)->Inv (64*w+t) F2:=by
   intro t;induction t with
   |zero=>
    intro h _ _;obtain rfl:j=0:=by omega
    exact hi2
   |succ t ih=>
    intro h h2 h3;by_cases e:j=t+1
    ·subst e;exact hi2
    ·have:=ih (by omega) (by omega) λi a c=>h3 i a (by omega);exact h0 (64*w+t) F2 (by omega) (h3 t (by omega) (by omega)) this
  refine ⟨λhne=> ?_,λhe=> ?_⟩
  ·
   have hex:∃t,y.testBit t=true:=Classical.byContradiction λhn=>by
    have:y=0:=Nat.eq_of_testBit_eq λi=>by rw [Nat.zero_testBit];exact VV.2 λh=>hn ⟨i,h⟩
    omega
   obtain ⟨t,ht,hmin⟩:∃t,y.testBit t=true/\∀i,i<t->y.testBit i=false:=by
    obtain ⟨t,ht⟩:=hex;have key:∀n t,t<=n->y.testBit t=true->∃t,y.testBit t=true/\∀i,i<t->y.testBit i=false:=by
     intro n;induction n with
     |zero=>
      intro t h ht;obtain rfl:t=0:=by omega
      exact ⟨0,ht,λi hi=>by omega⟩
     |succ n ih=>
      intro t h ht;by_cases hl:∃i,i<t/\y.testBit i=true
      ·obtain ⟨i,h1,h2⟩:=hl;exact ih i (by omega) h2
      ·exact ⟨t,ht,λi hi=>VV.2 λh=>hl ⟨i,hi,h⟩⟩
    exact key t t (UW _) ht
   have hlow:Low y t:=Low.of ht hmin;have htb:=hbit t;rw [ht] at htb;simp at htb;have ht64:t<64:=by
    rcases Nat.lt_or_ge t 64 with h|h
    ·exact h
    ·rw [VJ (Wr (oq P w) (by have:2 ^ 64<=2 ^ t:=Vq (by omega) h;exact this))] at htb;simp at htb
   have hPt:P (64*w+t)=true:=by rw [<- im P w ht64];exact htb.1
   have hz:∀i,j<=i->i<t->P (64*w+i)=false:=λi a c=>by have:=hbit i;rw [hmin i c,im P w (by omega)] at this;simp only [decide_eq_true a,Bool.and_true] at this;exact this.symm
   have hi3:=skip t htb.2 (by omega) hz;refine (Ih (hI _ _ hi3).1 hy hlow).mono ?_;rintro _ F3 ⟨rfl,e3⟩;obtain rfl:=e3.symm;have ei:i64.wrap (i64.wrap ((64:Int)*(w:Int))+(t:Int))=((64*w+t:Nat):Int):=by rw [aS (x:=(64:Int)*w) (by omega) (by omega),aS (by omega) (by omega)];omega
   refine ⟨_,rfl,k,#[],cap,rfl,hk,?_⟩;rw [ei];have:=h1 (64*w+t) F2 (by omega) hPt hi3;refine ai.mono (R:=λr F'=>r=.tuple #[]/\Inv (64*w+t+1) F') (by simpa using this) ?_;rintro _ F4 ⟨rfl,hi4⟩;refine ⟨rfl,64 - (t+1),by omega,t+1,y &&& (y - 1),?_,by omega,rfl,Nat.lt_of_le_of_lt Nat.and_le_left hy,λi=> ?_,hi4⟩
   ·have e:u64.wrap ((y:Int) - 1)=((y - 1:Nat):Int):=by have:=hlow.pos;rw [lH (by omega) (by omega)];omega
    rw [e,uY hy (by omega)]
   ·rw [hlow.clear,hbit i];by_cases hit:i<t
    ·have:=hmin i hit;rw [hbit i] at this;rw [this];simp;omega
    ·by_cases e:i=t
     ·subst e;simp
     ·have:j<=i:=by omega
      simp [this,e];omega
  ·have hy0:y=0:=by omega
   subst hy0;unfold A8;refine ⟨8 - (w+1),by omega,w+1,i6 (by omega),h8,rfl,?_⟩;rw [show 64*(w+1)=64*w+64 by omega];refine skip 64 hj (UW _) λi a c=> ?_;have:=hbit i;rw [Nat.zero_testBit,im P w c] at this;simp only [decide_eq_true a,Bool.and_true] at this;exact this.symm
 ·obtain rfl:w=8:=by omega
  exact ⟨rfl,hi1⟩
end
end Go.Proofs.YtcemhghkipgdiaaGreatDoor
