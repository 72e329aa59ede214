/-
  Small functions of package grammar: names, identifiers, sets that fit; lists that are searched.
-/
import Derived.Test.YtcemhghkipgdiaaGreatDoorPhp
import Derived.Test.YtcemhghkipgdiaaGreatDoorGdiagram
import Derived.Test.YtcemhghkipgdiaaGreatDoorHc
namespace Go.Proofs.YtcemhghkipgdiaaGreatDoor
open Go.IntKind (i64 u8 u64)
open Go Go.Proofs.Tryz
variable {R:VR} {F:PH}
set_option maxRecDepth 10000
set_option maxHeartbeats 4000000
def Dr (R:VR) (F:PH):Prop:=R (vi 0) F
def yf (j:Ω) (k i:Nat) (R:VR) (a:Int) (F:PH):Prop:=Bc (a<((Sb i 6).len:Int)) (Ix (Sb i 6) a λf=>∃c:Value,F.cell (Addr.add f (Int.toNat a*1))=some c/\Lr F 9 (Am k 0) λg=>Fn c λh d e=>aj prog h (d++([(Value.agg g)]).toArray++e) F λv F=>∃b,v=(vi b)/\Bc (b≠0) (R (vi b) F) (j (i64.wrap (a+1)) F)) (Dr R F)
def M7 (b:Γ) (R:VR) (F:PH):Prop:=Nb F (.cells b 37) λe F=>Lr F 9 (Am e 0) λc=>Cbo 88 #[.agg c] F λd F=>Bb (d) (R (vi 2) F) (Nb F (.cells #[.func (.func 89) #[] #[],.func (.func 90) #[] #[],.func (.func 91) #[] #[],.func (.func 92) #[] #[],.func (.func 93) #[] #[],.func (.func 94) #[] #[]] 44) λf F=>Lp 0 F λN a F=>yf N e f R a F)
theorem Rv {a:Γ} (h:M7 a R F):aj prog 36 #[.agg a] F R:=Rx.sxC (args:=[.agg a]) (.T .N (.T .N (.T .N (.J false [] (.T .N (.L [(12,.int .i64)] .N)) .N)))) (by kernel_rfl) h
def M8 (k:Γ) (a:Int) (R:VR) (F:PH):Prop:=Nb F (.cells k 37) λl F=>Nb F (.cells #[(vi a)] 3) λp F=>Lr F 9 (Am l 0) λm=>Ci 36 #[.agg m] F λf F=>Bc (f≠0) (R (.tuple #[Sl.v Sl.nil,.bool false]) F) (Li F (Am p 0) λg=>Bc (g<1) (R (.tuple #[Sl.v Sl.nil,.bool false]) F) (Nb F (.cells (#[.slice none 0 0]) 73) λq F=>Nb F (.cells (#[.nilFunc]) 137) λn F=>sto F (Am n 0) (.func (.func 97) #[] #[(Pp q),(Pp p),(Pp n)]) λF=>∃b:Value,F.cell (Am n 0)=some b/\Lr F 2 (Am l 1) λh=>Ls F (Am l 0) λi=>Fn b λo d e=>aj prog o (d++([(Value.agg h),(vi (i.len:Int)),(Value.int .u64 0)]).toArray++e) F λv F=>∃c,v=(Value.bool c)/\Ls F (Am q 0) λj=>R (.tuple #[Sl.v j,.bool c]) F))
theorem Ry {b:Γ} {a:Int} (h:M8 b a R F):aj prog 39 #[.agg b,(vi a)] F R:=Rx.sxC (args:=[.agg b,(vi a)]) .N (by kernel_rfl) h
def M9 (h:Γ) (R:VR) (F:PH):Prop:=Nb F (.cells h 37) λa F=>Ls F (Am a 0) λi=>Bc ((64:Int)<(i.len:Int)) (R (.bool true) F) (Ls F (Am a 3) λj=>Bc ((256:Int)<(j.len:Int)) (R (.bool true) F) (Ls F (Am a 8) λb=>Bc ((4096:Int)<(b.len:Int)) (R (.bool true) F) (Ls F (Am a 4) λc=>Ls F (Am a 5) λd=>Ls F (Am a 7) λe=>Bc ((2000:Int)<(max (max (c.len:Int) (d.len:Int)) (e.len:Int))) (R (.bool true) F) (Ls F (Am a 5) λf=>Cbo 139 #[Sl.v f,.func (.func 140) #[] #[]] F λg F=>R (.bool g) F))))
theorem Rz {a:Γ} (h:M9 a R F):aj prog 88 #[.agg a] F R:=Rx.sxC (args:=[.agg a]) .N (by kernel_rfl) h
def Ds (e:Nat) (R:VR) (F:PH):Prop:=Lr F 2 (Am e 1) λa=>Ls F (Am e 0) λb=>Cbo 143 #[.agg a,(vi (b.len:Int))] F λc F=>Bb ((!c)) (R (vi 54) F) (Li F (Am e 2) λd=>Bc (d=0) (R (vi 54) F) (R (vi 0) F))
def yg (k:Ω) (l:Nat) (i:Value) (f:Sl) (R:VR) (a:Int) (F:PH):Prop:=Bc (a<(f.len:Int)) (Ix f a λg=>Lx F (Addr.add g (Int.toNat a*1)) λb=>Cbo 142 #[.string b] F λh F=>Bb ((!h)) (R (vi 54) F) (Bb ((b.toList==(ByteArray.mk #[116,114,117,101]).toList)) (R (vi 54) F) (Bb ((b.toList==(ByteArray.mk #[102,97,108,115,101]).toList)) (R (vi 54) F) (Fn i λj d e=>aj prog j (d++([(Value.string b)]).toArray++e) F λv F=>∃c,v=(Value.bool c)/\Bb ((!c)) (R (vi 54) F) (k (i64.wrap (a+1)) F))))) (Ds l R F)
def Na (c:Γ) (R:VR) (F:PH):Prop:=Nb F (.cells c 37) λe F=>aj prog 141 #[] F λv F=>∃a:Value,v=a/\Ls F (Am e 0) λd=>Lp 0 F λN b F=>yg N e a d R b F
theorem RA {a:Γ} (h:Na a R F):aj prog 89 #[.agg a] F R:=Rx.sxC (args:=[.agg a]) (.T .N (.T .N (.J false [] (.T .N (.L [(10,.int .i64)] .N)) .N))) (by kernel_rfl) h
def Dt (R:VR) (F:PH):Prop:=R (vi 0) F
def i7 (c:Ω) (f:Nat) (d:Value) (e:Sl) (b:Int) (a:Bool) (R:VR) (F:PH):Prop:=Bb ((!a)) (R (vi 51) F) (c (i64.wrap (b+1)) F)
def yh (j:Ω) (g:Nat) (c:Value) (b:Sl) (R:VR) (a:Int) (F:PH):Prop:=Bc (a<(b.len:Int)) (Ix b a λk=>Lr F 7 (Addr.add k (Int.toNat a*7)) λl=>Nb F (.cells zT 146) λd F=>az F (Am d 0) 7 l λF=>Lx F (Am d 0) λm=>Fn c λB h i=>aj prog B (h++([(Value.string m)]).toArray++i) F λv F=>∃f,v=(Value.bool f)/\Bb ((!f)) (R (vi 51) F) (Li F (Am d 1) λn=>Bc (n<0) (R (vi 51) F) (Li F (Am d 1) λo=>Bc (2<o) (R (vi 51) F) (Lr F 2 (Am d 5) λp=>Ls F (Am g 0) λq=>Cbo 143 #[.agg p,(vi (q.len:Int))] F λr F=>Bb ((!r)) (R (vi 51) F) (Lx F (Am d 4) λe=>Lx F (Am d 2) λs=>Bb ((!(s.toList==(ByteArray.mk #[]).toList))) (Bb ((e.toList==(ByteArray.mk #[]).toList)) (Ls F (Am d 3) λt=>i7 j g c b a (decide ((t.len:Int)=0)) R F) (i7 j g c b a false R F)) (Ls F (Am d 3) λu=>Ci 144 #[Sl.v u] F λw F=>Bc (w≠0) (i7 j g c b a false R F) (Li F (Am d 1) λx=>Bc (x=0) (Bb ((!(e.toList==(ByteArray.mk #[]).toList))) (Ls F (Am d 3) λy=>Lx F (Am d 4) λz=>Cbo 145 #[Sl.v y,.string z] F λA F=>i7 j g c b a A R F) (i7 j g c b a false R F)) (i7 j g c b a (e.toList==(ByteArray.mk #[]).toList) R F)))))))) (Dt R F)
def Nc (c:Γ) (R:VR) (F:PH):Prop:=Nb F (.cells c 37) λe F=>aj prog 141 #[] F λv F=>∃a:Value,v=a/\Ls F (Am e 3) λd=>Lp 0 F λN b F=>yh N e a d R b F
theorem RB {a:Γ} (h:Nc a R F):aj prog 90 #[.agg a] F R:=Rx.sxC (args:=[.agg a]) (.T .N (.T .N (.J false [] (.T .N (.L [(11,.int .i64)] (.T .N (.T .N (.T (.T .N (.T .N (.T .N (.J false [(6,.bool)] .N .N)))) .N))))) .N))) (by kernel_rfl) h
def Du (d:Nat) (R:VR) (F:PH):Prop:=Li F (Am d 6) λa=>Bc (a<0) (R (vi 50) F) (Li F (Am d 6) λb=>Ls F (Am d 4) λc=>Bc ((c.len:Int)<=b) (R (vi 50) F) (R (vi 0) F))
def yi (j:Ω) (k:Nat) (h:Value) (e:Sl) (R:VR) (a:Int) (F:PH):Prop:=Bc (a<(e.len:Int)) (Ix e a λf=>Lx F (Addr.add f (Int.toNat a*1)) λg=>Fn h λi c d=>aj prog i (c++([(Value.string g)]).toArray++d) F λv F=>∃b,v=(Value.bool b)/\Bb ((!b)) (R (vi 50) F) (j (i64.wrap (a+1)) F)) (Du k R F)
def Nf (c:Γ) (R:VR) (F:PH):Prop:=Nb F (.cells c 37) λe F=>aj prog 141 #[] F λv F=>∃a:Value,v=a/\Ls F (Am e 4) λd=>Lp 0 F λN b F=>yi N e a d R b F
theorem RC {a:Γ} (h:Nf a R F):aj prog 91 #[.agg a] F R:=Rx.sxC (args:=[.agg a]) (.T .N (.T .N (.J false [] (.T .N (.L [(10,.int .i64)] .N)) .N))) (by kernel_rfl) h
def Dv (R:VR) (F:PH):Prop:=R (vi 0) F
def yj (y:Ω) (u:Nat) (w:Value) (f:Sl) (R:VR) (a:Int) (F:PH):Prop:=Bc (a<(f.len:Int)) (Ix f a λg=>Lr F 13 (Addr.add g (Int.toNat a*13)) λh=>Nb F (.cells zP 55) λb F=>az F (Am b 0) 13 h λF=>Li F (Am b 1) λi=>Cbo 146 #[.agg (#[.bool false,(vi i)]:Γ),(Pp u)] F λj F=>Bb (j) (R (vi 50) F) (Ls F (Am b 2) λk=>Cbo 148 #[Sl.v k,.func (.func 146) #[] #[(Pp u)]] F λl F=>Bb (l) (R (vi 50) F) (Lx F (Am b 0) λm=>Fn w λx d e=>aj prog x (d++([(Value.string m)]).toArray++e) F λv F=>∃c,v=(Value.bool c)/\Bb ((!c)) (R (vi 52) F) (Lr F 2 (Am b 3) λn=>Ls F (Am u 0) λo=>Cbo 143 #[.agg n,(vi (o.len:Int))] F λp F=>Bb ((!p)) (R (vi 52) F) (Li F (Am b 6) λq=>Bc (q<(-1:Int)) (R (vi 52) F) (Li F (Am b 6) λr=>Bc (1<r) (R (vi 52) F) (Lr F 13 (Am b 0) λs=>Cbo 149 #[.agg s] F λt F=>Bb ((!t)) (R (vi 52) F) (y (i64.wrap (a+1)) F)))))))) (Dv R F)
def Ng (c:Γ) (R:VR) (F:PH):Prop:=Nb F (.cells c 37) λe F=>aj prog 141 #[] F λv F=>∃a:Value,v=a/\Ls F (Am e 5) λd=>Lp 0 F λN b F=>yj N e a d R b F
theorem RI {a:Γ} (h:Ng a R F):aj prog 92 #[.agg a] F R:=Rx.sxC (args:=[.agg a]) (.T .N (.T .N (.J false [] (.T .N (.L [(11,.int .i64)] .N)) .N))) (by kernel_rfl) h
def Dw (R:VR) (F:PH):Prop:=R (vi 0) F
def Dx (c:Ω) (d e:Nat) (b:Sl) (a:Int) (R:VR) (F:PH):Prop:=c (i64.wrap (a+1)) F
def yk (k l:Ω) (j i:Nat) (e:Sl) (f:Int) (c:Sl) (R:VR) (a:Int) (F:PH):Prop:=Bc (a<(c.len:Int)) (Ix c a λg=>Li F (Addr.add g (Int.toNat a*1)) λb=>Bc (b<0) (R (vi 53) F) (Ls F (Am j 5) λh=>Bc ((h.len:Int)<=b) (R (vi 53) F) (∃d,rdo prog (Instr.lookup 186 (.map (some i)) (vi b) false) F (.bool d)/\Bb (d) (R (vi 53) F) (aD prog (Instr.mapUpdate 186 (.map (some i)) (vi b) (.bool true)) F λ_ F=>l (i64.wrap (a+1)) F)))) (Dx k j i e f R F)
def yl (p:Ω) (o q:Nat) (b:Sl) (R:VR) (a:Int) (F:PH):Prop:=Bc (a<(b.len:Int)) (Ix b a λd=>Lr F 4 (Addr.add d (Int.toNat a*4)) λe=>Nb F (.cells zL 69) λf F=>az F (Am f 0) 4 e λF=>Li F (Am f 1) λg=>Bc (g<0) (R (vi 53) F) (Li F (Am f 1) λh=>Bc (3<h) (R (vi 53) F) (Lr F 2 (Am f 2) λi=>Ls F (Am o 0) λj=>Cbo 143 #[.agg i,(vi (j.len:Int))] F λk F=>Bb ((!k)) (R (vi 53) F) (Ls F (Am f 0) λl=>(∃(n:Nat->Ω) (m:Nat),n m 0 F/\∀m c F,n m c F-> yk p (nx1 n m) o q b a l R c F))))) (Dw R F)
def Nh (c:Γ) (R:VR) (F:PH):Prop:=Nb F (.cells c 37) λd F=>Nb F (.map #[] 0) λe F=>Ls F (Am d 7) λa=>Lp 0 F λN b F=>yl N d e a R b F
theorem RJ {a:Γ} (h:Nh a R F):aj prog 93 #[.agg a] F R:=Rx.sxC (args:=[.agg a]) (.T .N (.T .N (.J false [] (.T .N (.L [(12,.int .i64)] (.T .N (.T .N (.J false [] (.T .N (.T .N (.T .N (.L [(36,.int .i64)] .N)))) .N))))) .N))) (by kernel_rfl) h
def Dy (R:VR) (F:PH):Prop:=R (vi 0) F
def fk (k:Ω) (l h:Nat) (j:Sl) (i:Int) (a:Bool) (R:VR) (F:PH):Prop:=Bb ((!a)) (R (vi 53) F) (Li F (Am h 1) λb=>Bc (b≠0) (R (vi 53) F) (Li F (Am h 2) λc=>Bc (c≠0) (R (vi 53) F) (Li F (Am h 3) λd=>Bc (d≠0) (R (vi 53) F) (Li F (Am h 4) λe=>Bc (e≠0) (R (vi 53) F) (Li F (Am h 5) λf=>Bc (f≠0) (R (vi 53) F) (Ls F (Am h 6) λg=>Bc ((0:Int)<(g.len:Int)) (R (vi 53) F) (k (i64.wrap (i+1)) F)))))))
def j5 (o:Ω) (k q p:Nat) (b:Sl) (c:Int) (a:Bool) (R:VR) (F:PH):Prop:=Bb (a) (Ls F (Am k 3) λl=>Li F (Am q 5) λe=>Ix l e λm=>Lr F 7 (Addr.add m (Int.toNat e*7)) λn=>Cbo 150 #[.agg n] F λf F=>Bb (f) (Ls F (Am k 3) λg=>Li F (Am q 5) λd=>Ix g d λh=>Lr F 7 (Addr.add h (Int.toNat d*7)) λi=>Cbo 151 #[.agg i] F λj F=>fk o k p b c (!j) R F) (fk o k p b c false R F)) (fk o k p b c false R F)
def ur (f:Ω) (c e:Nat) (g:Bool) (d:Nat) (a:Sl) (b h:Int) (i:Bool) (R:VR) (F:PH):Prop:=Bb (i) (sto F (Am d 4) (vi 0) λF=>sto F (Am d 6) (Sl.v Sl.nil) λF=>Bb (g) (Li F (Am e 4) λj=>Bc (0<=j) (Li F (Am e 4) λk=>Ls F (Am c 4) λl=>Bc (k<(l.len:Int)) (Lr F 9 (Am c 0) λm=>Ls F (Am e 6) λn=>Cbo 153 #[.agg m,Sl.v n,.func (.func 150) #[] #[]] F λo F=>fk f c d a b o R F) (fk f c d a b false R F)) (fk f c d a b false R F)) (fk f c d a b false R F)) (Bc (h=5) (sto F (Am d 5) (vi 0) λF=>sto F (Am d 6) (Sl.v Sl.nil) λF=>Bb (g) (Lr F 9 (Am c 0) λp=>Ls F (Am e 6) λq=>Cbo 153 #[.agg p,Sl.v q,.func (.func 151) #[] #[]] F λr F=>Bb (r) (Li F (Am e 5) λs=>Bc (0<=s) (Li F (Am e 5) λt=>Ls F (Am c 3) λu=>j5 f c e d a b (decide (t<(u.len:Int))) R F) (j5 f c e d a b false R F)) (j5 f c e d a b false R F)) (j5 f c e d a b false R F)) (fk f c d a b false R F))
def ut (k:Ω) (f l:Nat) (d:Bool) (e:Nat) (b:Sl) (c a:Int) (g:Bool) (R:VR) (F:PH):Prop:=Bb (g) (sto F (Am e 1) (vi 0) λF=>sto F (Am e 2) (vi 0) λF=>sto F (Am e 3) (vi 0) λF=>Bb (d) (Lr F 9 (Am f 0) λh=>Lr F 9 (Am l 0) λi=>Cbo 152 #[.agg h,.agg i] F λj F=>fk k f e b c j R F) (fk k f e b c false R F)) (Bc (a=3) (ur k f l d e b c a (decide (a=3)) R F) (ur k f l d e b c a (decide (a=4)) R F))
def ym (m:Ω) (l:Nat) (c:Sl) (R:VR) (a:Int) (F:PH):Prop:=Bc (a<(c.len:Int)) (Ix c a λf=>Lr F 9 (Addr.add f (Int.toNat a*9)) λg=>Nb F (.cells zF 156) λe F=>az F (Am e 0) 9 g λF=>Lr F 2 (Am e 7) λh=>Ls F (Am l 0) λi=>Cbo 143 #[.agg h,(vi (i.len:Int))] F λd F=>Lr F 9 (Am e 0) λj=>Nb F (.cells zF 156) λk F=>az F (Am k 0) 9 j λF=>sto F (Am k 0) (vi 0) λF=>az F (Am k 7) 2 zD λF=>Li F (Am e 0) λb=>Bc (b=1) (ut m l e d k c a b (decide (b=1)) R F) (ut m l e d k c a b (decide (b=2)) R F)) (Dy R F)
def Ni (c:Γ) (R:VR) (F:PH):Prop:=Nb F (.cells c 37) λd F=>Ls F (Am d 8) λa=>Lp 0 F λN b F=>ym N d a R b F
theorem RM {a:Γ} (h:Ni a R F):aj prog 94 #[.agg a] F R:=Rx.sxC (args:=[.agg a]) (.T .N (.T .N (.T .N (.J false [] (.T .N (.L [(12,.int .i64)] (.T .N (.T .N (.T (.T .N (.T .N (.T .N (.T .N (.J false [(7,.bool)] (.T .N (.J false [(28,.bool)] .N (.T .N (.J false [(40,.bool)] .N (.T .N (.T .N (.T (.T .N (.J false [(7,.bool)] .N .N)) .N))))))) .N))))) .N))))) .N)))) (by kernel_rfl) h
def KZ (D:Γ) (b a:Int) (E G H:Θ) (R:VR) (F:PH):Prop:=Nb F (.cells D 31) λI F=>Li F (Am I 1) λr=>Bc (r=0) (R (.bool true) F) (Bc (b=0) (∃c,E=some c/\Ls F c λs=>∃g,G=some g/\Li F g λt=>Bc ((s.len:Int)=t) (R (.bool false) F) (Ls F c λu=>Nb F (.cells #[.int .u64 a] 77) λJ F=>Ap 73 #[Sl.v u,Sl.v (Sb J 1)] F λw F=>sto F c (Sl.v w) λF=>R (.bool true) F)) (Lr F 2 (Am I 0) λx=>aj prog 98 #[.agg x,(vi (i64.wrap (b - 1))),.bool false] F λv F=>∃h,∃e,v=(.tuple #[.agg h,(vi e)])/\Nb F (.cells zD 31) λy F=>az F (Am y 0) 2 h λF=>Lr F 2 (Am I 0) λz=>aj prog 98 #[.agg z,(vi (i64.wrap (b - 1))),.bool true] F λv F=>∃i,∃f,v=(.tuple #[.agg i,(vi f)])/\Nb F (.cells zD 31) λA F=>az F (Am A 0) 2 i λF=>∃d,H=some d/\∃j:Value,F.cell d=some j/\Lr F 2 (Am y 0) λB=>Fn j λK n o=>aj prog K (n++([(Value.agg B),(vi (i64.wrap (b - 1))),(Value.int .u64 a)]).toArray++o) F λv F=>∃k,v=(Value.bool k)/\Bb (k) (∃l:Value,F.cell d=some l/\Lr F 2 (Am A 0) λC=>0<=(i64.wrap (b - 1))/\Fn l λL p q=>aj prog L (p++([(Value.agg C),(vi (i64.wrap (b - 1))),(Value.int .u64 (u64.wrap ((BitVec.ofInt (u64).bits a ||| BitVec.ofInt (u64).bits (u64.wrap (1*2 ^ (min (Int.toNat (i64.wrap (b - 1))) (u64).bits)))).toNat)))]).toArray++q) F λv F=>∃m,v=(Value.bool m)/\R (.bool m) F) (R (.bool false) F)))
theorem Nj {b:Γ} {c:Int} {a:Int} {d:Θ} {e:Θ} {f:Θ} (h:KZ b c a d e f R F):aj prog 97 #[.agg b,(vi c),.int .u64 a,.pointer d,.pointer e,.pointer f] F R:=Rx.sxC (args:=[.agg b,(vi c),.int .u64 a,.pointer d,.pointer e,.pointer f]) .N (by kernel_rfl) h
def IV (a:Γ) (R:VR) (F:PH):Prop:=Nb F (.cells a 55) λd F=>Ls F (Am d 2) λb=>Ls F (Am d 7) λc=>R (.bool (decide ((16:Int)<(max (b.len:Int) (c.len:Int))))) F
theorem Nk {a:Γ} (h:IV a R F):aj prog 140 #[.agg a] F R:=Rx.sxC (args:=[.agg a]) .N (by kernel_rfl) h
def IW (R:VR) (F:PH):Prop:=Nb F (.map #[] 0) λa F=>aD prog (Instr.mapUpdate 222 (.map (some a)) (.string ⟨#[]⟩) (.bool true)) F λ_ F=>Nb F (.cells (#[.map none]) 222) λb F=>sto F (Am b 0) (.map (some a)) λF=>R (.func (.func 179) #[] #[(Pp b)]) F
theorem Nl (h:IW R F):aj prog 141 #[] F R:=Rx.sxC (args:=[]) .N (by kernel_rfl) h
def Aq (a:ByteArray) (R:VR) (F:PH):Prop:=R (.bool (!(a.toList==(ByteArray.mk #[]).toList))) F
def oK (b:Ω) (c:ByteArray) (a:Int) (R:VR) (F:PH):Prop:=b (i64.wrap (a+1)) F
def fC (e:Ω) (d:ByteArray) (c b:Int) (a:Bool) (R:VR) (F:PH):Prop:=Bb ((!a)) (Bc (c=0) (R (.bool false) F) (Bc (b<48) (R (.bool false) F) (Bc (57<b) (R (.bool false) F) (oK e d c R F)))) (oK e d c R F)
def uu (d:Ω) (b:ByteArray) (R:VR) (c:Int) (F:PH):Prop:=Bc (c<(b.size:Int)) (0<=c/\c<(b.size:Int)/\∃(hx:Int.toNat c<b.size) (a:Int),a=((b[Int.toNat c]'hx).toNat:Int)/\Bc (97<=a) (Bc (a<=(122:Int)) (fC d b c a true R F) (Bc (65<=a) (Bc (a<=(90:Int)) (fC d b c a true R F) (fC d b c a (decide (a=95)) R F)) (fC d b c a (decide (a=95)) R F))) (Bc (65<=a) (Bc (a<=(90:Int)) (fC d b c a true R F) (fC d b c a (decide (a=95)) R F)) (fC d b c a (decide (a=95)) R F))) (Aq b R F)
def IX (a:ByteArray) (R:VR) (F:PH):Prop:=Lp 0 F λN b F=>uu N a R b F
theorem Nm {a:ByteArray} (h:IX a R F):aj prog 142 #[.string a] F R:=Rx.sxC (args:=[.string a]) (.T .N (.J false [] (.T .N (.L [(8,.int .i64)] (.T .N (.T .N (.J false [] (.T .N (.T .N (.J false [(5,.bool)] .N .N))) .N))))) .N)) (by kernel_rfl) h
def IY (b:Γ) (c:Int) (R:VR) (F:PH):Prop:=Nb F (.cells b 31) λg F=>Nb F (.cells #[(vi c)] 3) λh F=>Lr F 2 (Am g 0) λd=>Ci 100 #[.agg d] F λe F=>Bc (e≠0) (R (.bool false) F) (Ls F (Am g 0) λf=>Cbo 180 #[Sl.v f,.func (.func 181) #[] #[(Pp h)]] F λa F=>R (.bool (!a)) F)
theorem Nn {a:Γ} {b:Int} (h:IY a b R F):aj prog 143 #[.agg a,(vi b)] F R:=Rx.sxC (args:=[.agg a,(vi b)]) .N (by kernel_rfl) h
def IZ (b:Γ) (c:Θ) (R:VR) (F:PH):Prop:=Nb F (.cells b 63) λg F=>∃a,c=some a/\Lr F 9 a λd=>Lr F 2 (Am g 0) λe=>Cbo 147 #[.agg d,.agg e] F λf F=>R (.bool (!f)) F
theorem No {a:Γ} {b:Θ} (h:IZ a b R F):aj prog 146 #[.agg a,.pointer b] F R:=Rx.sxC (args:=[.agg a,.pointer b]) .N (by kernel_rfl) h
def I0 (k l:Γ) (R:VR) (F:PH):Prop:=Nb F (.cells k 37) λm F=>Nb F (.cells l 63) λb F=>Lb F (Am b 0) λn=>Bb ((!n)) (Li F (Am b 1) λo=>Bc (0<=o) (Li F (Am b 1) λc=>Ls F (Am m 4) λd=>R (.bool (decide (c<(d.len:Int)))) F) (R (.bool false) F)) (Li F (Am b 1) λe=>Bc (0<=e) (Li F (Am b 1) λf=>Ls F (Am m 3) λg=>Bc (f<(g.len:Int)) (Ls F (Am m 3) λh=>Li F (Am b 1) λa=>Ix h a λi=>Li F (Addr.add (Addr.add i (Int.toNat a*7)) 1) λj=>R (.bool (decide (j=0))) F) (R (.bool false) F)) (R (.bool false) F))
theorem Np {a:Γ} {b:Γ} (h:I0 a b R F):aj prog 147 #[.agg a,.agg b] F R:=Rx.sxC (args:=[.agg a,.agg b]) .N (by kernel_rfl) h
def Ar (a:Nat) (R:VR) (F:PH):Prop:=Lr F 5 (Am a 8) λj=>Nb F (.cells (#[.bool false,vi 0,vi 0,vi 0,vi 0]) 53) λi F=>az F (Am i 0) 5 j λF=>Li F (Am i 1) λk=>Li F (Am i 2) λl=>Cbo 189 #[(vi k),(vi l),(vi 1),(vi 7),(Pp a)] F λm F=>Bb ((!m)) (R (.bool false) F) (Li F (Am i 3) λn=>Li F (Am i 4) λo=>Cbo 189 #[(vi n),(vi o),(vi 0),(vi 255),(Pp a)] F λp F=>Bb ((!p)) (R (.bool false) F) (Lb F (Am a 5) λq=>Bb ((!q)) (R (.bool true) F) (Ls F (Am a 2) λr=>Bc ((r.len:Int)≠3) (R (.bool false) F) (Li F (Am a 6) λs=>Bc (s≠0) (R (.bool false) F) (Ls F (Am a 7) λt=>Bc ((0:Int)<(t.len:Int)) (R (.bool false) F) (Lr F 5 (Am i 0) λu=>∃c,(∀F,rdo prog (Op.equal 53 (.agg u) (.agg (#[.bool false,vi 0,vi 0,vi 0,vi 0]:Γ))) F c)/\Bb ((!c)) (R (.bool false) F) (Ls F (Am a 2) λv=>Ix v 0 λw=>Lb F (Addr.add w (Int.toNat 0*2)) λx=>Bb (x) (Ls F (Am a 2) λy=>Ix y 1 λz=>Lr F 2 (Addr.add z (Int.toNat 1*2)) λd=>Li F (Am a 1) λe=>∃b,(∀F,rdo prog (Op.equal 63 (.agg d) (.agg (#[.bool false,(vi e)]:Γ))) F b)/\Bb (b) (Ls F (Am a 2) λf=>Ix f 2 λg=>Lb F (Addr.add g (Int.toNat 2*2)) λh=>R (.bool h) F) (R (.bool false) F)) (R (.bool false) F))))))))
def oL (b:Ω) (d:Nat) (c:Sl) (a:Int) (R:VR) (F:PH):Prop:=b (i64.wrap (a+1)) F
def uv (o:Ω) (d:Nat) (b:Sl) (R:VR) (a:Int) (F:PH):Prop:=Bc (a<(b.len:Int)) (Ix b a λe=>Lr F 3 (Addr.add e (Int.toNat a*3)) λf=>Nb F (.cells (#[vi 0,vi 0,vi 0]) 153) λc F=>az F (Am c 0) 3 f λF=>Li F (Am c 0) λg=>Bc (g<1) (R (.bool false) F) (Li F (Am c 0) λh=>Bc (4<h) (R (.bool false) F) (Li F (Am c 1) λi=>Cbo 188 #[(vi i),(Pp d)] F λj F=>Bb ((!j)) (R (.bool false) F) (Li F (Am c 2) λk=>Cbo 188 #[(vi k),(Pp d)] F λl F=>Bb ((!l)) (R (.bool false) F) (Li F (Am c 0) λm=>Bc (m=1) (Li F (Am c 2) λn=>Bc (n≠0) (R (.bool false) F) (oL o d b a R F)) (oL o d b a R F)))))) (Ar d R F)
def Ja (b:Γ) (R:VR) (F:PH):Prop:=Nb F (.cells b 55) λd F=>Ls F (Am d 7) λc=>Lp 0 F λN a F=>uv N d c R a F
theorem Nq {a:Γ} (h:Ja a R F):aj prog 149 #[.agg a] F R:=Rx.sxC (args:=[.agg a]) (.T .N (.J false [] (.T .N (.L [(11,.int .i64)] (.T .N (.T .N (.J false [] .N .N))))) .N)) (by kernel_rfl) h
def Jb (a:Γ) (R:VR) (F:PH):Prop:=Nb F (.cells a 146) λc F=>Li F (Am c 1) λb=>R (.bool (decide (b=0))) F
theorem Nr {a:Γ} (h:Jb a R F):aj prog 150 #[.agg a] F R:=Rx.sxC (args:=[.agg a]) .N (by kernel_rfl) h
def Jc (a:Γ) (R:VR) (F:PH):Prop:=Nb F (.cells a 146) λc F=>Lx F (Am c 2) λb=>R (.bool (!(b.toList==(ByteArray.mk #[]).toList))) F
theorem Nt {a:Γ} (h:Jc a R F):aj prog 151 #[.agg a] F R:=Rx.sxC (args:=[.agg a]) .N (by kernel_rfl) h
def Jd (v w:Γ) (R:VR) (F:PH):Prop:=Nb F (.cells v 37) λu F=>Nb F (.cells w 156) λa F=>Li F (Am a 1) λx=>Bc (x<0) (R (.bool false) F) (Li F (Am a 1) λg=>Ls F (Am u 5) λh=>Bc ((h.len:Int)<=g) (R (.bool false) F) (Li F (Am a 3) λi=>Bc (i<0) (R (.bool false) F) (Li F (Am a 3) λj=>Ls F (Am u 5) λk=>Bc ((k.len:Int)<=j) (R (.bool false) F) (Ls F (Am u 5) λl=>Li F (Am a 1) λb=>Ix l b λm=>Ls F (Addr.add (Addr.add m (Int.toNat b*13)) 2) λc=>Li F (Am a 2) λn=>Bc (0<=n) (Li F (Am a 2) λo=>Bc (o<(c.len:Int)) (Li F (Am a 2) λd=>Ix c d λp=>Lr F 2 (Addr.add p (Int.toNat d*2)) λq=>Ls F (Am u 5) λr=>Li F (Am a 3) λe=>Ix r e λs=>Li F (Addr.add (Addr.add s (Int.toNat e*13)) 1) λt=>∃f,(∀F,rdo prog (Op.equal 63 (.agg q) (.agg (#[.bool false,(vi t)]:Γ))) F f)/\R (.bool f) F) (R (.bool false) F)) (R (.bool false) F)))))
theorem Nu {a:Γ} {b:Γ} (h:Jd a b R F):aj prog 152 #[.agg a,.agg b] F R:=Rx.sxC (args:=[.agg a,.agg b]) .N (by kernel_rfl) h
def At (a:Sl) (R:VR) (F:PH):Prop:=R (.bool (decide ((0:Int)<(a.len:Int)))) F
def oM (c:Ω) (d:Sl) (b:Value) (e:Nat) (a:Int) (R:VR) (F:PH):Prop:=c (i64.wrap (a+1)) F
def uw (u:Ω) (g:Sl) (b:Value) (n:Nat) (R:VR) (a:Int) (F:PH):Prop:=Bc (a<(g.len:Int)) (Ix g a λo=>Li F (Addr.add o (Int.toNat a*1)) λc=>Bc (c<0) (R (.bool false) F) (Ls F (Am n 3) λp=>Bc ((p.len:Int)<=c) (R (.bool false) F) (Bc (0<a) (Ix g (i64.wrap (a - 1)) λq=>∃k,F.cell (Addr.add q (Int.toNat (i64.wrap (a - 1))*1))=some (vi k)/\Bc (c<=k) (R (.bool false) F) (Ls F (Am n 3) λr=>Ix r c λs=>Lr F 7 (Addr.add s (Int.toNat c*7)) λt=>Fn b λm d e=>aj prog m (d++([(Value.agg t)]).toArray++e) F λv F=>∃l,v=(Value.bool l)/\Bb ((!l)) (R (.bool false) F) (oM u g b n a R F))) (Ls F (Am n 3) λh=>Ix h c λi=>Lr F 7 (Addr.add i (Int.toNat c*7)) λj=>Fn b λm d e=>aj prog m (d++([(Value.agg j)]).toArray++e) F λv F=>∃f,v=(Value.bool f)/\Bb ((!f)) (R (.bool false) F) (oM u g b n a R F))))) (At g R F)
def Je (c:Γ) (d:Sl) (a:Value) (R:VR) (F:PH):Prop:=Nb F (.cells c 37) λe F=>Lp 0 F λN b F=>uw N d a e R b F
theorem Nv {b:Γ} {c:Sl} {a:Value} (h:Je b c a R F):aj prog 153 #[.agg b,Sl.v c,a] F R:=Rx.sxC (args:=[.agg b,Sl.v c,a]) (.T .N (.J false [] (.T .N (.L [(11,.int .i64)] (.T .N (.T .N (.J false [] .N .N))))) .N)) (by kernel_rfl) h
def Jf (b:ByteArray) (f:Θ) (R:VR) (F:PH):Prop:=∃a,f=some a/\∃c:Option Nat,F.cell a=some (.map c)/\∃d,rdo prog (Instr.lookup 222 (.map c) (.string b) false) F (.bool d)/\Bb (d) (R (.bool false) F) (∃e:Option Nat,F.cell a=some (.map e)/\aD prog (Instr.mapUpdate 222 (.map e) (.string b) (.bool true)) F λ_ F=>R (.bool true) F)
theorem Nw {a:ByteArray} {b:Θ} (h:Jf a b R F):aj prog 179 #[.string a,.pointer b] F R:=Rx.sxC (args:=[.string a,.pointer b]) .N (by kernel_rfl) h
def Jg (b:Γ) (c:Θ) (R:VR) (F:PH):Prop:=Nb F (.cells b 124) λf F=>Li F (Am f 0) λd=>∃a,c=some a/\Li F a λe=>R (.bool (decide (e<=d))) F
theorem Ny {a:Γ} {b:Θ} (h:Jg a b R F):aj prog 181 #[.agg a,.pointer b] F R:=Rx.sxC (args:=[.agg a,.pointer b]) .N (by kernel_rfl) h
def Jh (b:Int) (c:Θ) (R:VR) (F:PH):Prop:=Bc (0<=b) (∃a,c=some a/\Ls F (Addr.add a 2) λd=>R (.bool (decide (b<(d.len:Int)))) F) (R (.bool false) F)
theorem Nz {a:Int} {b:Θ} (h:Jh a b R F):aj prog 188 #[(vi a),.pointer b] F R:=Rx.sxC (args:=[(vi a),.pointer b]) .N (by kernel_rfl) h
def Ji (b a f d:Int) (j:Θ) (R:VR) (F:PH):Prop:=Bc (b=0) (R (.bool (decide (a=0))) F) (Bc (0<b) (∃c,j=some c/\Ls F (Addr.add c 2) λg=>Bc (b<=(g.len:Int)) (Ls F (Addr.add c 2) λh=>Ix h (i64.wrap (b - 1)) λi=>∃e,F.cell (Addr.add i (Int.toNat (i64.wrap (b - 1))*2))=some (.bool e)/\Bb (e) (Bc (f<=a) (R (.bool (decide (a<=d))) F) (R (.bool false) F)) (R (.bool false) F)) (R (.bool false) F)) (R (.bool false) F))
theorem NA {d:Int} {a:Int} {c:Int} {b:Int} {e:Θ} (h:Ji d a c b e R F):aj prog 189 #[(vi d),(vi a),(vi c),(vi b),.pointer e] F R:=Rx.sxC (args:=[(vi d),(vi a),(vi c),(vi b),.pointer e]) .N (by kernel_rfl) h
theorem pZ (a b:ByteArray):(a.toList==b.toList)=decide (a=b):=by rw [EG,TW,decide_eq_true_eq,decide_eq_true_eq];exact ⟨yR,λh=>by rw [h]⟩
theorem wA (a b:ByteArray):(a==b)=decide (a=b):=by show (a.data==b.data)=_;rw [TW,beq_iff_eq,decide_eq_true_eq];exact ⟨λh=>by cases a;cases b;cases h;rfl,λh=>by rw [h]⟩
instance:LawfulBEq ByteArray where
 eq_of_beq {a b} h:=by rw [wA] at h;exact of_decide_eq_true h
 rfl {a}:=by rw [wA];exact decide_eq_true rfl
abbrev emp:ByteArray:=ByteArray.mk #[]
theorem RN:nP prog 9 Value.string:=by
 refine ⟨λF a b=> ?_,λF e a=> ?_,λa=> ?_,_,underlying9,.inl λa b=> ?_⟩
 ·unfold Op.equal Op.maxDepth;show rdo prog (Op.equalIn (9999+1) 9 (.string a) (.string b)) F _;unfold Op.equalIn;simp only [ai];refine ⟨_,(aw underlying9 _).2 rfl,?_⟩;exact wA a b
 ·show rdo prog (Instr.checkKey e (9999+1) 9 (.string a)) F ();unfold Instr.checkKey;simp only [ai];exact ⟨_,(aw underlying9 _).2 rfl,rfl⟩
 ·show (a==a)=true;rw [wA];simp
 ·show some (a==b)=_;rw [wA]
theorem NB:bP prog 4=some (.bool false):=by kernel_rfl
theorem K9:fM prog 222 Value.string (.bool false):=⟨_,_,underlying222,NB,RN⟩
def gH (l:List ByteArray) (s:ByteArray):Option Value:=if s=emp\/s∈l then some (.bool true) else none
def bF (m:Nat) (l:List ByteArray):Ψ:=λH=>∃o,H m=some o/\d8 Value.string (gH l) o
theorem St.mapAt {G F:PH} {As:List (Ψ)} {m:Nat} {l:List ByteArray} (h:St G F (bF m l::As)):∃o,F m=some o/\d8 Value.string (gH l) o:=by obtain ⟨H,⟨o,h1,h2⟩,_,h3⟩:=h.get (i:=0) rfl;exact ⟨o,h3 _ _ h1,h2⟩
theorem St.mapSet {G F:PH} {As:List (Ψ)} {m:Nat} {l l':List ByteArray} {o':Obj} (h:St G F (bF m l::As)) (ho:d8 Value.string (gH l') o'):St G (F.set m o') (bF m l'::As):=by
 obtain ⟨H,⟨o,a1,_⟩,a2,a3,a4⟩:=h.set (i:=0) (A':=bF m l') rfl;refine a4 (H.set m o') _ ⟨o',ak _ _ _,ho⟩ (λx hx=> ?_) (λx p hx=> ?_) (λx p hx hn=> ?_)
 ·by_cases e:x=m
  ·rw [e,a1];exact .inl (by simp)
  ·rw [au _ _ e] at hx;exact .inl hx
 ·by_cases e:x=m
  ·rw [e,ak] at hx ⊢;exact hx
  ·rw [au _ _ e] at hx ⊢;exact a3 _ _ hx
 ·have e:x≠m:=λe=>by rw [e,a1] at hn;cases hn
  rw [au _ _ e];exact hx
abbrev wB (b:Nat):Value:=.func (.func 179) #[] #[.pointer (some ⟨b,0,none⟩)]
theorem gV (F:PH):aj prog 141 #[] F λr F'=>∃G' b m,r=wB b/\F.le G'/\G'.cell ⟨b,0,none⟩=some (.map (some m))/\St G' F' [bF m []]:=by
 refine Nl ?_;unfold IW;intro m hm;refine atI ?_;refine aU K9 (ak _ _ _) (d8.empty _) emp (.bool true) λo' ho'=> ?_;rw [aX];have hs:St F (F.set m o') [bF m []]:=by
  have ho2:d8 Value.string (gH []) o':=by obtain ⟨es,c,L,h1,h2,h3⟩:=ho';refine ⟨es,c,L,h1,h2,λk=> ?_⟩;rw [<- h3 k];unfold gH;by_cases e:k=emp<;>simp [e]
  refine (St.start F).push (H:=PH.set (λ_=>none) m o') ⟨o',ak _ _ _,ho2⟩ (λx hx=> ?_) (λx p hx=> ?_) (ae o' hm)
  ·by_cases e:x=m
   ·rw [e];exact hm
   ·rw [au _ _ e] at hx;exact absurd rfl hx
  ·by_cases e:x=m
   ·rw [e,ak] at hx ⊢;exact hx
   ·rw [au _ _ e] at hx;cases hx
 refine hs.new λb1 F1 h=> ?_;refine h.set0 (by decide) rfl λF2 h=> ?_;refine h.pinb (K:=λF2=>∃G' b m,_=wB b/\F.le G'/\G'.cell ⟨b,0,none⟩=some (.map (some m))/\St G' F2 [bF m []]) λG' l q h=> ?_;exact ⟨G',b1,m,rfl,l,ld q rfl,h⟩
theorem yn {G F:PH} {b m:Nat} {l:List ByteArray} (h:St G F [bF m l]) (hc:G.cell ⟨b,0,none⟩=some (.map (some m))) (s:ByteArray):
  aj prog 179 #[.string s,.pointer (some ⟨b,0,none⟩)] F λr F'=>∃G',r=.bool (decide (s≠emp/\s ∉ l))/\G.le G'/\St G' F' [bF m (s::l)]:=by
 refine Nw ?_;unfold Jf;obtain ⟨o,ho,hmo⟩:=h.mapAt;have hc':=aG h.le hc;have hlk:=bH (F:=F) K9 ho hmo s false;have hin:∀k,gH (s::l) k=if k=s then some (.bool true) else gH l k:=λk=>by
  unfold gH;by_cases e:k=s
  ·simp [e]
  ·simp [e]
 by_cases hs:s=emp\/s∈l
 ·have e1:gH l s=some (.bool true):=if_pos hs;rw [e1] at hlk;refine ⟨_,rfl,some m,hc',true,hlk,λ_=> ?_,λh=>(by cases h)⟩;have hd:decide (s≠emp/\s ∉ l)=false:=by
   rw [decide_eq_false_iff_not];rintro ⟨h1,h2⟩;rcases hs with h|h
   ·exact h1 h
   ·exact h2 h
  refine ⟨G,by rw [hd],aq G,?_⟩;have:bF m (s::l)=bF m l:=by
   unfold bF;funext H
   rw [show gH (s::l)=gH l from funext λk=>by
    rw [hin];by_cases e:k=s
    ·rw [if_pos e,e,e1]
    ·rw [if_neg e]]
  rw [this];exact h
 ·have e1:gH l s=none:=if_neg hs;rw [e1] at hlk;refine ⟨_,rfl,some m,hc',false,hlk,λh=>(by cases h),λ_=>⟨some m,hc',?_⟩⟩;refine aU K9 ho hmo s (.bool true) λo' ho'=> ?_;have hd:decide (s≠emp/\s ∉ l)=true:=by rw [decide_eq_true_eq];exact ⟨λe=>hs (.inl e),λe=>hs (.inr e)⟩
  refine ⟨G,by rw [hd],aq G,h.mapSet ?_⟩;rw [show gH (s::l)=_ from funext hin];exact ho'
theorem NC:aB prog 179=true:=by kernel_rfl
def ow (b:Nat):Prop:=(97<=b/\b<=122)\/(65<=b/\b<=90)\/b=95
def ux (b:Nat):Prop:=48<=b/\b<=57
instance (b:Nat):Decidable (ow b):=inferInstanceAs (Decidable (_\/_))
instance (b:Nat):Decidable (ux b):=inferInstanceAs (Decidable (_/\_))
def yo (l:Δ):Bool:=(List.range l.length).all (λi=>decide (ow (l.getD i 0)) || (i !=0 && decide (ux (l.getD i 0)))) && !l.isEmpty
def nK (s:ByteArray):Bool:=yo (bs s)
theorem La (s:ByteArray) (i:Nat) (h:i<s.size):(s[i]'h).toNat=(bs s).getD i 0:=by rw [<- J7];unfold cb;rw [dif_pos h]
theorem ox {F:PH} (s:ByteArray) (hs:s.size<=1000000000):aj prog 142 #[.string s] F λr F'=>r=.bool (nK s)/\F.le F':=by
 refine Nm ?_;unfold IX;have hlen:=fH s;refine bD (uu · s _) s.size (λk F'=>F.le F'/\∀i,i<k->(ow ((bs s).getD i 0)\/(i≠0/\ux ((bs s).getD i 0)))) ⟨aq F,λi h=>by omega⟩ ?_;rintro k F1 N hk ⟨hl,hi⟩ next;unfold uu;refine ⟨λhlt=> ?_,λhge=> ?_⟩
 ·have hlt:k<s.size:=by omega
  refine ⟨by omega,by omega,by simpa using hlt,((bs s).getD k 0:Nat),?_,?_⟩
  ·rw [<- La s k hlt];rfl
  generalize hc:(bs s).getD k 0=c;have bad:¬(ow c\/(k≠0/\ux c))->Value.bool false=.bool (nK s)/\F.le F1:=λhn=>by
   refine ⟨?_,hl⟩;have:nK s=false:=by unfold nK yo;rw [Bool.and_eq_false_iff];refine .inl ?_;rw [List.all_eq_false];refine ⟨k,Uu.2 (by omega),?_⟩;rw [hc];simp only [UG,decide_eq_true_eq,Uw,bne_iff_ne,ne_eq];exact hn
   rw [this]
  have good:(ow c\/(k≠0/\ux c))->oK N s (k:Int) (λr F'=>r=.bool (nK s)/\F.le F') F1:=λhg=>by
   unfold oK;rw [aH hlt (by omega)];refine next _ hlt ⟨hl,λi hi'=> ?_⟩;by_cases e:i=k
   ·rw [e,hc];exact hg
   ·exact hi i (by omega)
  have j3:∀t:Bool,(t=true↔ow c)->fC N s (k:Int) (c:Int) t (λr F'=>r=.bool (nK s)/\F.le F') F1:=λt ht=>by
   unfold fC;refine ⟨λh=> ?_,λh=>good (.inl (ht.1 (by simpa using h)))⟩;have hnl:¬ow c:=λhl'=>by rw [ht.2 hl'] at h;cases h
   refine ⟨λh0=>bad ?_,λh0=>⟨λh1=>bad ?_,λh1=>⟨λh2=>bad ?_,λh2=>good ?_⟩⟩⟩
   ·rintro (h|h)
    ·exact hnl h
    ·omega
   ·rintro (h|h)
    ·exact hnl h
    ·unfold ux at h;omega
   ·rintro (h|h)
    ·exact hnl h
    ·unfold ux at h;omega
   ·exact .inr ⟨by omega,by unfold ux;omega⟩
  refine ⟨λh1=>⟨λh2=>j3 _ ⟨λ_=>by unfold ow;omega,λ_=>rfl⟩,λh2=>⟨λh3=>⟨λh4=>j3 _ ⟨λ_=>by unfold ow;omega,λ_=>rfl⟩,λh4=>j3 _ ?_⟩,λh3=>j3 _ ?_⟩⟩,
   λh1=>⟨λh3=>⟨λh4=>j3 _ ⟨λ_=>by unfold ow;omega,λ_=>rfl⟩,λh4=>j3 _ ?_⟩,λh3=>j3 _ ?_⟩⟩
  all_goals (rw [decide_eq_true_eq];unfold ow;omega)
 ·have e:k=s.size:=by omega
  subst e;unfold Aq;refine ⟨?_,hl⟩;congr 1;rw [pZ];unfold nK yo;have h1:(List.range (bs s).length).all (λi=>decide (ow ((bs s).getD i 0)) || (i !=0 && decide (ux ((bs s).getD i 0))))=true:=by rw [Uk];intro i hi';rw [hlen] at hi';have:=hi i (Uu.1 hi');simp only [UG,decide_eq_true_eq,Uw,bne_iff_ne,ne_eq];exact this
  rw [h1,UU,TW];simp only [Bool.not_eq_true',decide_eq_false_iff_not,List.isEmpty_eq_false_iff];refine not_congr ⟨λe=>by rw [e];rfl,λe=>yR (e.trans rfl)⟩
section
variable {α:Type} [Mem α] {F:PH}
def Lc (n:Nat) (j:Ω) (f:Sl) (i:Value) (R:VR) (a:Int) (F:PH):Prop:=((a<(f.len:Int)-> ∃g:Addr,f.base=some g/\0<=a/\a<(f.len:Int)/\∃b:Γ,b.size=n/\F.row (Addr.add g (Int.toNat a*n)) b/\∃(h:Nat) (c d:Γ),i=.func (.func h) c d/\aB prog h=true/\aj prog h (c++([.agg b]).toArray++d) F λv F=>∃e:Bool,v=(.bool e)/\((e=true-> R (.int .i64 a) F)/\(e=false-> j (i64.wrap (a+(1:Int))) F)))/\(¬(a<(f.len:Int))-> R (.int .i64 (-1:Int)) F))
def RO (n:Nat) (d:Sl) (e:Value) (R:VR) (F:PH):Prop:=(∃(f:Nat->Ω) (c:Nat),f c (0:Int) F/\∀c a F,f c a F-> Lc n (λb F=>∃g,g<c/\f g b F) d e R a F)
theorem yp {s:Sl} {l:List α} (hs:RL F s l) (hn:0<Mem.n α) (hl:l.length<=1000000000) {k:Nat} {fst cap:Γ} (hk:aB prog k=true) (p:α->Bool)
  (hf:∀x∈l,∀c F1,F.le F1->Mem.rep F1 x c->aj prog k (fst++([Value.agg c]).toArray++cap) F1 λr F'=>r=.bool (p x)/\F1.le F'):
  RO (Mem.n α) s (.func (.func k) fst cap) (λr F'=>∃i,r=vi i/\(0<=i↔l.any p=true)/\F.le F') F:=by
 have hlen:=hs.len hn;refine bD (Lc (Mem.n α) · s (.func (.func k) fst cap) _) l.length (λk F'=>F.le F'/\(l.take k).any p=false) ⟨aq F,by simp⟩ ?_;rintro i F1 N hi ⟨hle,hany⟩ next;unfold Lc;refine ⟨λhlt=> ?_,λhge=> ?_⟩
 ·have hlt:i<l.length:=by omega
  obtain ⟨a,c,ha,hr,hc⟩:=(hs.le hle).get hn (N4 hlt);refine ⟨a,ha,by omega,by omega,c,Mem.len hc,by rw [N5];exact hr,k,fst,cap,rfl,hk,?_⟩;refine (hf _ (U7 hlt) c F1 hle hc).mono ?_;rintro _ F2 ⟨rfl,l2⟩;refine ⟨_,rfl,λh=> ?_,λh=> ?_⟩
  ·exact ⟨_,rfl,⟨λ_=>UP.2 ⟨_,U7 hlt,h⟩,λ_=>by omega⟩,aa hle l2⟩
  ·rw [aH hlt (by omega)];refine next _ hlt ⟨aa hle l2,?_⟩;rw [T9 hlt,List.any_append,hany];simp [h]
 ·have e:i=l.length:=by omega
  subst e;rw [T2] at hany;exact ⟨_,rfl,⟨λh=>by omega,λh=>by rw [hany] at h;cases h⟩,hle⟩
end
end Go.Proofs.YtcemhghkipgdiaaGreatDoor
