/-
  What functions of the program do, in a clean form, each with the proof that its code does so. Printed by a program.
-/
import Derived.Test.YtcemhghkipgdiaaGreatDoorHb
import Derived.Test.YtcemhghkipgdiaaGreatDoorPhp
import Derived.Test.YtcemhghkipgdiaaGreatDoorGslices
namespace Go.Proofs.YtcemhghkipgdiaaGreatDoor
open Go.IntKind (i64 u8 u64)
open Go Go.Proofs.Tryz
namespace St
section
variable {G F:PH} {As:List (Ψ)} {b:Nat} {w:Γ} {e:TypeId}
theorem ld0 (h:St G F (pt b (.cells w e)::As)) {i:Nat} {v:Value} (hv:w[i]? =some v):F.cell (Addr.mk b i none)=some v:=ld (h.ptAt (i:=0) rfl) hv
theorem whole0 (h:St G F (pt b (.cells w e)::As)):F.row (Addr.mk b 0 none) w:=ac (h.ptAt (i:=0) rfl)
theorem put0 (h:St G F (pt b (.cells w e)::As)) {n:Nat} {w':Γ} (h1:w'.size=n) (h2:w.size=n) (hst:∀v∈w'.toList,ak v) {K:Ψ} (kk:∀F',St G F' (pt b (.cells w' e)::As)->K F'):
  au F (Addr.mk b 0 none) n w' K:=stW (h.ptAt (i:=0) rfl) h1 h2 hst (kk _ (h.putAt 0 _ rfl))
theorem set0 (h:St G F (pt b (.cells w e)::As)) {i:Nat} {v:Value} {w':Γ} (hi:i<w.size) (hw:w.setIfInBounds i v=w') {K:Ψ} (kk:∀F',St G F' (pt b (.cells w' e)::As)->K F'):
  sto F (Addr.mk b i none) v K:=st1 (h.ptAt (i:=0) rfl) hi (by subst hw;exact kk _ (h.putAt 0 _ rfl))
theorem putR0 (h:St G F (pt b (.cells w e)::As)) {o n:Nat} {v w':Γ} (h1:v.size=n) (hst:∀x∈v.toList,ak x) (hs:o+n<=w.size) (hw:wr w o v.toList=w') {K:Ψ} (kk:∀F',St G F' (pt b (.cells w' e)::As)->K F'):
  au F (Addr.mk b o none) n v K:=⟨h1,hst,w,e,h.ptAt (i:=0) rfl,rfl,hs,atI (by subst hw;exact kk _ (h.putAt 0 _ rfl))⟩
theorem ld1 {p0:Ψ} (h:St G F (p0::pt b (.cells w e)::As)) {i:Nat} {v:Value} (hv:w[i]? =some v):F.cell (Addr.mk b i none)=some v:=ld (h.ptAt (i:=1) rfl) hv
theorem whole1 {p0:Ψ} (h:St G F (p0::pt b (.cells w e)::As)):F.row (Addr.mk b 0 none) w:=ac (h.ptAt (i:=1) rfl)
theorem put1 {p0:Ψ} (h:St G F (p0::pt b (.cells w e)::As)) {n:Nat} {w':Γ} (h1:w'.size=n) (h2:w.size=n) (hst:∀v∈w'.toList,ak v) {K:Ψ} (kk:∀F',St G F' (p0::pt b (.cells w' e)::As)->K F'):
  au F (Addr.mk b 0 none) n w' K:=stW (h.ptAt (i:=1) rfl) h1 h2 hst (kk _ (h.putAt 1 _ rfl))
theorem set1 {p0:Ψ} (h:St G F (p0::pt b (.cells w e)::As)) {i:Nat} {v:Value} {w':Γ} (hi:i<w.size) (hw:w.setIfInBounds i v=w') {K:Ψ} (kk:∀F',St G F' (p0::pt b (.cells w' e)::As)->K F'):
  sto F (Addr.mk b i none) v K:=st1 (h.ptAt (i:=1) rfl) hi (by subst hw;exact kk _ (h.putAt 1 _ rfl))
theorem putR1 {p0:Ψ} (h:St G F (p0::pt b (.cells w e)::As)) {o n:Nat} {v w':Γ} (h1:v.size=n) (hst:∀x∈v.toList,ak x) (hs:o+n<=w.size) (hw:wr w o v.toList=w') {K:Ψ} (kk:∀F',St G F' (p0::pt b (.cells w' e)::As)->K F'):
  au F (Addr.mk b o none) n v K:=⟨h1,hst,w,e,h.ptAt (i:=1) rfl,rfl,hs,atI (by subst hw;exact kk _ (h.putAt 1 _ rfl))⟩
theorem front1 {p0:Ψ} {A:Ψ} (h:St G F (p0::A::As)):St G F (A::p0::As):=by
 refine h.pick (λi=>if i=0 then 1 else if i<=1 then i - 1 else i) (λi j _ _ e=> ?_) (λi _=> ?_)
 ·repeat' split at e
  all_goals omega
 ·match i with
  |0=>rfl
  |1=>rfl
  |i+2=>rfl
theorem ld2 {p0 p1:Ψ} (h:St G F (p0::p1::pt b (.cells w e)::As)) {i:Nat} {v:Value} (hv:w[i]? =some v):F.cell (Addr.mk b i none)=some v:=ld (h.ptAt (i:=2) rfl) hv
theorem whole2 {p0 p1:Ψ} (h:St G F (p0::p1::pt b (.cells w e)::As)):F.row (Addr.mk b 0 none) w:=ac (h.ptAt (i:=2) rfl)
theorem put2 {p0 p1:Ψ} (h:St G F (p0::p1::pt b (.cells w e)::As)) {n:Nat} {w':Γ} (h1:w'.size=n) (h2:w.size=n) (hst:∀v∈w'.toList,ak v) {K:Ψ} (kk:∀F',St G F' (p0::p1::pt b (.cells w' e)::As)->K F'):
  au F (Addr.mk b 0 none) n w' K:=stW (h.ptAt (i:=2) rfl) h1 h2 hst (kk _ (h.putAt 2 _ rfl))
theorem set2 {p0 p1:Ψ} (h:St G F (p0::p1::pt b (.cells w e)::As)) {i:Nat} {v:Value} {w':Γ} (hi:i<w.size) (hw:w.setIfInBounds i v=w') {K:Ψ} (kk:∀F',St G F' (p0::p1::pt b (.cells w' e)::As)->K F'):
  sto F (Addr.mk b i none) v K:=st1 (h.ptAt (i:=2) rfl) hi (by subst hw;exact kk _ (h.putAt 2 _ rfl))
theorem front2 {p0 p1:Ψ} {A:Ψ} (h:St G F (p0::p1::A::As)):St G F (A::p0::p1::As):=by
 refine h.pick (λi=>if i=0 then 2 else if i<=2 then i - 1 else i) (λi j _ _ e=> ?_) (λi _=> ?_)
 ·repeat' split at e
  all_goals omega
 ·match i with
  |0=>rfl
  |1=>rfl
  |2=>rfl
  |i+3=>rfl
theorem back2 {p0 p1:Ψ} {A:Ψ} (h:St G F (A::p0::p1::As)):St G F (p0::p1::A::As):=by
 refine h.pick (λi=>if i=2 then 0 else if i<2 then i+1 else i) (λi j _ _ e=> ?_) (λi _=> ?_)
 ·repeat' split at e
  all_goals omega
 ·match i with
  |0=>rfl
  |1=>rfl
  |2=>rfl
  |i+3=>show (A::p0::p1::As)[if i+3=2 then 0 else if i+3<2 then i+3+1 else i+3]? =_;rw [if_neg (by omega),if_neg (by omega)];rfl
theorem ld3 {p0 p1 p2:Ψ} (h:St G F (p0::p1::p2::pt b (.cells w e)::As)) {i:Nat} {v:Value} (hv:w[i]? =some v):F.cell (Addr.mk b i none)=some v:=ld (h.ptAt (i:=3) rfl) hv
theorem front3 {p0 p1 p2:Ψ} {A:Ψ} (h:St G F (p0::p1::p2::A::As)):St G F (A::p0::p1::p2::As):=by
 refine h.pick (λi=>if i=0 then 3 else if i<=3 then i - 1 else i) (λi j _ _ e=> ?_) (λi _=> ?_)
 ·repeat' split at e
  all_goals omega
 ·match i with
  |0=>rfl
  |1=>rfl
  |2=>rfl
  |3=>rfl
  |i+4=>rfl
theorem back3 {p0 p1 p2:Ψ} {A:Ψ} (h:St G F (A::p0::p1::p2::As)):St G F (p0::p1::p2::A::As):=by
 refine h.pick (λi=>if i=3 then 0 else if i<3 then i+1 else i) (λi j _ _ e=> ?_) (λi _=> ?_)
 ·repeat' split at e
  all_goals omega
 ·match i with
  |0=>rfl
  |1=>rfl
  |2=>rfl
  |3=>rfl
  |i+4=>show (A::p0::p1::p2::As)[if i+4=3 then 0 else if i+4<3 then i+4+1 else i+4]? =_;rw [if_neg (by omega),if_neg (by omega)];rfl
theorem ld4 {p0 p1 p2 p3:Ψ} (h:St G F (p0::p1::p2::p3::pt b (.cells w e)::As)) {i:Nat} {v:Value} (hv:w[i]? =some v):F.cell (Addr.mk b i none)=some v:=ld (h.ptAt (i:=4) rfl) hv
theorem whole4 {p0 p1 p2 p3:Ψ} (h:St G F (p0::p1::p2::p3::pt b (.cells w e)::As)):F.row (Addr.mk b 0 none) w:=ac (h.ptAt (i:=4) rfl)
theorem put4 {p0 p1 p2 p3:Ψ} (h:St G F (p0::p1::p2::p3::pt b (.cells w e)::As)) {n:Nat} {w':Γ} (h1:w'.size=n) (h2:w.size=n) (hst:∀v∈w'.toList,ak v) {K:Ψ} (kk:∀F',St G F' (p0::p1::p2::p3::pt b (.cells w' e)::As)->K F'):
  au F (Addr.mk b 0 none) n w' K:=stW (h.ptAt (i:=4) rfl) h1 h2 hst (kk _ (h.putAt 4 _ rfl))
theorem front4 {p0 p1 p2 p3:Ψ} {A:Ψ} (h:St G F (p0::p1::p2::p3::A::As)):St G F (A::p0::p1::p2::p3::As):=by
 refine h.pick (λi=>if i=0 then 4 else if i<=4 then i - 1 else i) (λi j _ _ e=> ?_) (λi _=> ?_)
 ·repeat' split at e
  all_goals omega
 ·match i with
  |0=>rfl
  |1=>rfl
  |2=>rfl
  |3=>rfl
  |4=>rfl
  |i+5=>rfl
theorem back4 {p0 p1 p2 p3:Ψ} {A:Ψ} (h:St G F (A::p0::p1::p2::p3::As)):St G F (p0::p1::p2::p3::A::As):=by
 refine h.pick (λi=>if i=4 then 0 else if i<4 then i+1 else i) (λi j _ _ e=> ?_) (λi _=> ?_)
 ·repeat' split at e
  all_goals omega
 ·match i with
  |0=>rfl
  |1=>rfl
  |2=>rfl
  |3=>rfl
  |4=>rfl
  |i+5=>show (A::p0::p1::p2::p3::As)[if i+5=4 then 0 else if i+5<4 then i+5+1 else i+5]? =_;rw [if_neg (by omega),if_neg (by omega)];rfl
end
end St
variable {R:VR} {F:PH}
set_option maxRecDepth 10000
set_option maxHeartbeats 4000000
def CJ (R:VR) (F:PH):Prop:=R (vi 0) F
def xw (j:Ω) (k i:Nat) (R:VR) (a:Int) (F:PH):Prop:=Bc (a<((Sb i 6).len:Int)) (Ix (Sb i 6) a λf=>∃c:Value,F.cell (Addr.add f (Int.toNat a*1))=some c/\Lr F 9 (Am k 0) λg=>Fn c λh d e=>aj prog h (d++([(Value.agg g)]).toArray++e) F λv F=>∃b,v=(vi b)/\Bc (b≠0) (R (vi b) F) (j (i64.wrap (a+1)) F)) (CJ R F)
def Mh (b:Γ) (R:VR) (F:PH):Prop:=Nb F (.cells b 37) λe F=>Lr F 9 (Am e 0) λc=>Cbo 88 #[.agg c] F λd F=>Bb (d) (R (vi 2) F) (Nb F (.cells #[.func (.func 89) #[] #[],.func (.func 90) #[] #[],.func (.func 91) #[] #[],.func (.func 92) #[] #[],.func (.func 93) #[] #[],.func (.func 94) #[] #[]] 44) λf F=>Lp 0 F λN a F=>xw N e f R a F)
theorem Qv {a:Γ} (h:Mh a R F):aj prog 36 #[.agg a] F R:=Rx.sxC (args:=[.agg a]) (.T .N (.T .N (.T .N (.J false [] (.T .N (.L [(12,.int .i64)] .N)) .N)))) (by kernel_rfl) h
def Mi (h:Γ) (R:VR) (F:PH):Prop:=Nb F (.cells h 37) λa F=>Ls F (Am a 0) λi=>Bc ((64:Int)<(i.len:Int)) (R (.bool true) F) (Ls F (Am a 3) λj=>Bc ((256:Int)<(j.len:Int)) (R (.bool true) F) (Ls F (Am a 8) λb=>Bc ((4096:Int)<(b.len:Int)) (R (.bool true) F) (Ls F (Am a 4) λc=>Ls F (Am a 5) λd=>Ls F (Am a 7) λe=>Bc ((2000:Int)<(max (max (c.len:Int) (d.len:Int)) (e.len:Int))) (R (.bool true) F) (Ls F (Am a 5) λf=>Cbo 139 #[Sl.v f,.func (.func 140) #[] #[]] F λg F=>R (.bool g) F))))
theorem Qw {a:Γ} (h:Mi a R F):aj prog 88 #[.agg a] F R:=Rx.sxC (args:=[.agg a]) .N (by kernel_rfl) h
def CL (e:Nat) (R:VR) (F:PH):Prop:=Lr F 2 (Am e 1) λa=>Ls F (Am e 0) λb=>Cbo 143 #[.agg a,(vi (b.len:Int))] F λc F=>Bb ((!c)) (R (vi 54) F) (Li F (Am e 2) λd=>Bc (d=0) (R (vi 54) F) (R (vi 0) F))
def xx (k:Ω) (l:Nat) (i:Value) (f:Sl) (R:VR) (a:Int) (F:PH):Prop:=Bc (a<(f.len:Int)) (Ix f a λg=>Lx F (Addr.add g (Int.toNat a*1)) λb=>Cbo 142 #[.string b] F λh F=>Bb ((!h)) (R (vi 54) F) (Bb ((b.toList==(ByteArray.mk #[116,114,117,101]).toList)) (R (vi 54) F) (Bb ((b.toList==(ByteArray.mk #[102,97,108,115,101]).toList)) (R (vi 54) F) (Fn i λj d e=>aj prog j (d++([(Value.string b)]).toArray++e) F λv F=>∃c,v=(Value.bool c)/\Bb ((!c)) (R (vi 54) F) (k (i64.wrap (a+1)) F))))) (CL l R F)
def Mj (c:Γ) (R:VR) (F:PH):Prop:=Nb F (.cells c 37) λe F=>aj prog 141 #[] F λv F=>∃a:Value,v=a/\Ls F (Am e 0) λd=>Lp 0 F λN b F=>xx N e a d R b F
theorem Qx {a:Γ} (h:Mj a R F):aj prog 89 #[.agg a] F R:=Rx.sxC (args:=[.agg a]) (.T .N (.T .N (.J false [] (.T .N (.L [(10,.int .i64)] .N)) .N))) (by kernel_rfl) h
def CM (R:VR) (F:PH):Prop:=R (vi 0) F
def iQ (c:Ω) (_:Nat) (_:Value) (_:Sl) (b:Int) (a:Bool) (R:VR) (F:PH):Prop:=Bb ((!a)) (R (vi 51) F) (c (i64.wrap (b+1)) F)
def xy (j:Ω) (g:Nat) (c:Value) (b:Sl) (R:VR) (a:Int) (F:PH):Prop:=Bc (a<(b.len:Int)) (Ix b a λk=>Lr F 7 (Addr.add k (Int.toNat a*7)) λl=>Nb F (.cells zT 146) λd F=>au F (Am d 0) 7 l λF=>Lx F (Am d 0) λm=>Fn c λB h i=>aj prog B (h++([(Value.string m)]).toArray++i) F λv F=>∃f,v=(Value.bool f)/\Bb ((!f)) (R (vi 51) F) (Li F (Am d 1) λn=>Bc (n<0) (R (vi 51) F) (Li F (Am d 1) λo=>Bc (2<o) (R (vi 51) F) (Lr F 2 (Am d 5) λp=>Ls F (Am g 0) λq=>Cbo 143 #[.agg p,(vi (q.len:Int))] F λr F=>Bb ((!r)) (R (vi 51) F) (Lx F (Am d 4) λe=>Lx F (Am d 2) λs=>Bb ((!(s.toList==(ByteArray.mk #[]).toList))) (Bb ((e.toList==(ByteArray.mk #[]).toList)) (Ls F (Am d 3) λt=>iQ j g c b a (decide ((t.len:Int)=0)) R F) (iQ j g c b a false R F)) (Ls F (Am d 3) λu=>Ci 144 #[Sl.v u] F λw F=>Bc (w≠0) (iQ j g c b a false R F) (Li F (Am d 1) λx=>Bc (x=0) (Bb ((!(e.toList==(ByteArray.mk #[]).toList))) (Ls F (Am d 3) λy=>Lx F (Am d 4) λz=>Cbo 145 #[Sl.v y,.string z] F λA F=>iQ j g c b a A R F) (iQ j g c b a false R F)) (iQ j g c b a (e.toList==(ByteArray.mk #[]).toList) R F)))))))) (CM R F)
def Mk (c:Γ) (R:VR) (F:PH):Prop:=Nb F (.cells c 37) λe F=>aj prog 141 #[] F λv F=>∃a:Value,v=a/\Ls F (Am e 3) λd=>Lp 0 F λN b F=>xy N e a d R b F
theorem Qy {a:Γ} (h:Mk a R F):aj prog 90 #[.agg a] F R:=Rx.sxC (args:=[.agg a]) (.T .N (.T .N (.J false [] (.T .N (.L [(11,.int .i64)] (.T .N (.T .N (.T (.T .N (.T .N (.T .N (.J false [(6,.bool)] .N .N)))) .N))))) .N))) (by kernel_rfl) h
def CN (d:Nat) (R:VR) (F:PH):Prop:=Li F (Am d 6) λa=>Bc (a<0) (R (vi 50) F) (Li F (Am d 6) λb=>Ls F (Am d 4) λc=>Bc ((c.len:Int)<=b) (R (vi 50) F) (R (vi 0) F))
def xz (j:Ω) (k:Nat) (h:Value) (e:Sl) (R:VR) (a:Int) (F:PH):Prop:=Bc (a<(e.len:Int)) (Ix e a λf=>Lx F (Addr.add f (Int.toNat a*1)) λg=>Fn h λi c d=>aj prog i (c++([(Value.string g)]).toArray++d) F λv F=>∃b,v=(Value.bool b)/\Bb ((!b)) (R (vi 50) F) (j (i64.wrap (a+1)) F)) (CN k R F)
def Ml (c:Γ) (R:VR) (F:PH):Prop:=Nb F (.cells c 37) λe F=>aj prog 141 #[] F λv F=>∃a:Value,v=a/\Ls F (Am e 4) λd=>Lp 0 F λN b F=>xz N e a d R b F
theorem Qz {a:Γ} (h:Ml a R F):aj prog 91 #[.agg a] F R:=Rx.sxC (args:=[.agg a]) (.T .N (.T .N (.J false [] (.T .N (.L [(10,.int .i64)] .N)) .N))) (by kernel_rfl) h
def CO (R:VR) (F:PH):Prop:=R (vi 0) F
def xA (y:Ω) (u:Nat) (w:Value) (f:Sl) (R:VR) (a:Int) (F:PH):Prop:=Bc (a<(f.len:Int)) (Ix f a λg=>Lr F 13 (Addr.add g (Int.toNat a*13)) λh=>Nb F (.cells zP 55) λb F=>au F (Am b 0) 13 h λF=>Li F (Am b 1) λi=>Cbo 146 #[.agg (#[.bool false,(vi i)]:Γ),(Pp u)] F λj F=>Bb (j) (R (vi 50) F) (Ls F (Am b 2) λk=>Cbo 148 #[Sl.v k,.func (.func 146) #[] #[(Pp u)]] F λl F=>Bb (l) (R (vi 50) F) (Lx F (Am b 0) λm=>Fn w λx d e=>aj prog x (d++([(Value.string m)]).toArray++e) F λv F=>∃c,v=(Value.bool c)/\Bb ((!c)) (R (vi 52) F) (Lr F 2 (Am b 3) λn=>Ls F (Am u 0) λo=>Cbo 143 #[.agg n,(vi (o.len:Int))] F λp F=>Bb ((!p)) (R (vi 52) F) (Li F (Am b 6) λq=>Bc (q<(-1:Int)) (R (vi 52) F) (Li F (Am b 6) λr=>Bc (1<r) (R (vi 52) F) (Lr F 13 (Am b 0) λs=>Cbo 149 #[.agg s] F λt F=>Bb ((!t)) (R (vi 52) F) (y (i64.wrap (a+1)) F)))))))) (CO R F)
def Mm (c:Γ) (R:VR) (F:PH):Prop:=Nb F (.cells c 37) λe F=>aj prog 141 #[] F λv F=>∃a:Value,v=a/\Ls F (Am e 5) λd=>Lp 0 F λN b F=>xA N e a d R b F
theorem QA {a:Γ} (h:Mm a R F):aj prog 92 #[.agg a] F R:=Rx.sxC (args:=[.agg a]) (.T .N (.T .N (.J false [] (.T .N (.L [(11,.int .i64)] .N)) .N))) (by kernel_rfl) h
def CP (R:VR) (F:PH):Prop:=R (vi 0) F
def CQ (c:Ω) (_ _:Nat) (_:Sl) (a:Int) (_:VR) (F:PH):Prop:=c (i64.wrap (a+1)) F
def xB (k l:Ω) (j i:Nat) (e:Sl) (f:Int) (c:Sl) (R:VR) (a:Int) (F:PH):Prop:=Bc (a<(c.len:Int)) (Ix c a λg=>Li F (Addr.add g (Int.toNat a*1)) λb=>Bc (b<0) (R (vi 53) F) (Ls F (Am j 5) λh=>Bc ((h.len:Int)<=b) (R (vi 53) F) (∃d,rdo prog (Instr.lookup 186 (.map (some i)) (vi b) false) F (.bool d)/\Bb (d) (R (vi 53) F) (aD prog (Instr.mapUpdate 186 (.map (some i)) (vi b) (.bool true)) F λ_ F=>l (i64.wrap (a+1)) F)))) (CQ k j i e f R F)
def xC (p:Ω) (o q:Nat) (b:Sl) (R:VR) (a:Int) (F:PH):Prop:=Bc (a<(b.len:Int)) (Ix b a λd=>Lr F 4 (Addr.add d (Int.toNat a*4)) λe=>Nb F (.cells zL 69) λf F=>au F (Am f 0) 4 e λF=>Li F (Am f 1) λg=>Bc (g<0) (R (vi 53) F) (Li F (Am f 1) λh=>Bc (3<h) (R (vi 53) F) (Lr F 2 (Am f 2) λi=>Ls F (Am o 0) λj=>Cbo 143 #[.agg i,(vi (j.len:Int))] F λk F=>Bb ((!k)) (R (vi 53) F) (Ls F (Am f 0) λl=>(∃(n:Nat->Ω) (m:Nat),n m 0 F/\∀m c F,n m c F-> xB p (nx1 n m) o q b a l R c F))))) (CP R F)
def Mn (c:Γ) (R:VR) (F:PH):Prop:=Nb F (.cells c 37) λd F=>Nb F (.map #[] 0) λe F=>Ls F (Am d 7) λa=>Lp 0 F λN b F=>xC N d e a R b F
theorem QB {a:Γ} (h:Mn a R F):aj prog 93 #[.agg a] F R:=Rx.sxC (args:=[.agg a]) (.T .N (.T .N (.J false [] (.T .N (.L [(12,.int .i64)] (.T .N (.T .N (.J false [] (.T .N (.T .N (.T .N (.L [(36,.int .i64)] .N)))) .N))))) .N))) (by kernel_rfl) h
def CR (R:VR) (F:PH):Prop:=R (vi 0) F
def fe (k:Ω) (_ h:Nat) (_:Sl) (i:Int) (a:Bool) (R:VR) (F:PH):Prop:=Bb ((!a)) (R (vi 53) F) (Li F (Am h 1) λb=>Bc (b≠0) (R (vi 53) F) (Li F (Am h 2) λc=>Bc (c≠0) (R (vi 53) F) (Li F (Am h 3) λd=>Bc (d≠0) (R (vi 53) F) (Li F (Am h 4) λe=>Bc (e≠0) (R (vi 53) F) (Li F (Am h 5) λf=>Bc (f≠0) (R (vi 53) F) (Ls F (Am h 6) λg=>Bc ((0:Int)<(g.len:Int)) (R (vi 53) F) (k (i64.wrap (i+1)) F)))))))
def jQ (o:Ω) (k q p:Nat) (b:Sl) (c:Int) (a:Bool) (R:VR) (F:PH):Prop:=Bb (a) (Ls F (Am k 3) λl=>Li F (Am q 5) λe=>Ix l e λm=>Lr F 7 (Addr.add m (Int.toNat e*7)) λn=>Cbo 150 #[.agg n] F λf F=>Bb (f) (Ls F (Am k 3) λg=>Li F (Am q 5) λd=>Ix g d λh=>Lr F 7 (Addr.add h (Int.toNat d*7)) λi=>Cbo 151 #[.agg i] F λj F=>fe o k p b c (!j) R F) (fe o k p b c false R F)) (fe o k p b c false R F)
def tP (f:Ω) (c e:Nat) (g:Bool) (d:Nat) (a:Sl) (b h:Int) (i:Bool) (R:VR) (F:PH):Prop:=Bb (i) (sto F (Am d 4) (vi 0) λF=>sto F (Am d 6) (Sl.v Sl.nil) λF=>Bb (g) (Li F (Am e 4) λj=>Bc (0<=j) (Li F (Am e 4) λk=>Ls F (Am c 4) λl=>Bc (k<(l.len:Int)) (Lr F 9 (Am c 0) λm=>Ls F (Am e 6) λn=>Cbo 153 #[.agg m,Sl.v n,.func (.func 150) #[] #[]] F λo F=>fe f c d a b o R F) (fe f c d a b false R F)) (fe f c d a b false R F)) (fe f c d a b false R F)) (Bc (h=5) (sto F (Am d 5) (vi 0) λF=>sto F (Am d 6) (Sl.v Sl.nil) λF=>Bb (g) (Lr F 9 (Am c 0) λp=>Ls F (Am e 6) λq=>Cbo 153 #[.agg p,Sl.v q,.func (.func 151) #[] #[]] F λr F=>Bb (r) (Li F (Am e 5) λs=>Bc (0<=s) (Li F (Am e 5) λt=>Ls F (Am c 3) λu=>jQ f c e d a b (decide (t<(u.len:Int))) R F) (jQ f c e d a b false R F)) (jQ f c e d a b false R F)) (jQ f c e d a b false R F)) (fe f c d a b false R F))
def tQ (k:Ω) (f l:Nat) (d:Bool) (e:Nat) (b:Sl) (c a:Int) (g:Bool) (R:VR) (F:PH):Prop:=Bb (g) (sto F (Am e 1) (vi 0) λF=>sto F (Am e 2) (vi 0) λF=>sto F (Am e 3) (vi 0) λF=>Bb (d) (Lr F 9 (Am f 0) λh=>Lr F 9 (Am l 0) λi=>Cbo 152 #[.agg h,.agg i] F λj F=>fe k f e b c j R F) (fe k f e b c false R F)) (Bc (a=3) (tP k f l d e b c a (decide (a=3)) R F) (tP k f l d e b c a (decide (a=4)) R F))
def xD (m:Ω) (l:Nat) (c:Sl) (R:VR) (a:Int) (F:PH):Prop:=Bc (a<(c.len:Int)) (Ix c a λf=>Lr F 9 (Addr.add f (Int.toNat a*9)) λg=>Nb F (.cells zF 156) λe F=>au F (Am e 0) 9 g λF=>Lr F 2 (Am e 7) λh=>Ls F (Am l 0) λi=>Cbo 143 #[.agg h,(vi (i.len:Int))] F λd F=>Lr F 9 (Am e 0) λj=>Nb F (.cells zF 156) λk F=>au F (Am k 0) 9 j λF=>sto F (Am k 0) (vi 0) λF=>au F (Am k 7) 2 zD λF=>Li F (Am e 0) λb=>Bc (b=1) (tQ m l e d k c a b (decide (b=1)) R F) (tQ m l e d k c a b (decide (b=2)) R F)) (CR R F)
def Mo (c:Γ) (R:VR) (F:PH):Prop:=Nb F (.cells c 37) λd F=>Ls F (Am d 8) λa=>Lp 0 F λN b F=>xD N d a R b F
theorem QC {a:Γ} (h:Mo a R F):aj prog 94 #[.agg a] F R:=Rx.sxC (args:=[.agg a]) (.T .N (.T .N (.T .N (.J false [] (.T .N (.L [(12,.int .i64)] (.T .N (.T .N (.T (.T .N (.T .N (.T .N (.T .N (.J false [(7,.bool)] (.T .N (.J false [(28,.bool)] .N (.T .N (.J false [(40,.bool)] .N (.T .N (.T .N (.T (.T .N (.J false [(7,.bool)] .N .N)) .N))))))) .N))))) .N))))) .N)))) (by kernel_rfl) h
def HO (a:Γ) (R:VR) (F:PH):Prop:=Nb F (.cells a 55) λd F=>Ls F (Am d 2) λb=>Ls F (Am d 7) λc=>R (.bool (decide ((16:Int)<(max (b.len:Int) (c.len:Int))))) F
theorem Mp {a:Γ} (h:HO a R F):aj prog 140 #[.agg a] F R:=Rx.sxC (args:=[.agg a]) .N (by kernel_rfl) h
def HP (R:VR) (F:PH):Prop:=Nb F (.map #[] 0) λa F=>aD prog (Instr.mapUpdate 222 (.map (some a)) (.string ⟨#[]⟩) (.bool true)) F λ_ F=>Nb F (.cells (#[.map none]) 222) λb F=>sto F (Am b 0) (.map (some a)) λF=>R (.func (.func 179) #[] #[(Pp b)]) F
theorem Mq (h:HP R F):aj prog 141 #[] F R:=Rx.sxC (args:=[]) .N (by kernel_rfl) h
def zr (a:ByteArray) (R:VR) (F:PH):Prop:=R (.bool (!(a.toList==(ByteArray.mk #[]).toList))) F
def nZ (b:Ω) (_:ByteArray) (a:Int) (_:VR) (F:PH):Prop:=b (i64.wrap (a+1)) F
def fq (e:Ω) (d:ByteArray) (c b:Int) (a:Bool) (R:VR) (F:PH):Prop:=Bb ((!a)) (Bc (c=0) (R (.bool false) F) (Bc (b<48) (R (.bool false) F) (Bc (57<b) (R (.bool false) F) (nZ e d c R F)))) (nZ e d c R F)
def tR (d:Ω) (b:ByteArray) (R:VR) (c:Int) (F:PH):Prop:=Bc (c<(b.size:Int)) (0<=c/\c<(b.size:Int)/\∃(hx:Int.toNat c<b.size) (a:Int),a=((b[Int.toNat c]'hx).toNat:Int)/\Bc (97<=a) (Bc (a<=(122:Int)) (fq d b c a true R F) (Bc (65<=a) (Bc (a<=(90:Int)) (fq d b c a true R F) (fq d b c a (decide (a=95)) R F)) (fq d b c a (decide (a=95)) R F))) (Bc (65<=a) (Bc (a<=(90:Int)) (fq d b c a true R F) (fq d b c a (decide (a=95)) R F)) (fq d b c a (decide (a=95)) R F))) (zr b R F)
def HQ (a:ByteArray) (R:VR) (F:PH):Prop:=Lp 0 F λN b F=>tR N a R b F
theorem Mr {a:ByteArray} (h:HQ a R F):aj prog 142 #[.string a] F R:=Rx.sxC (args:=[.string a]) (.T .N (.J false [] (.T .N (.L [(8,.int .i64)] (.T .N (.T .N (.J false [] (.T .N (.T .N (.J false [(5,.bool)] .N .N))) .N))))) .N)) (by kernel_rfl) h
def HR (b:Γ) (c:Int) (R:VR) (F:PH):Prop:=Nb F (.cells b 31) λg F=>Nb F (.cells #[(vi c)] 3) λh F=>Lr F 2 (Am g 0) λd=>Ci 100 #[.agg d] F λe F=>Bc (e≠0) (R (.bool false) F) (Ls F (Am g 0) λf=>Cbo 180 #[Sl.v f,.func (.func 181) #[] #[(Pp h)]] F λa F=>R (.bool (!a)) F)
theorem Ms {a:Γ} {b:Int} (h:HR a b R F):aj prog 143 #[.agg a,(vi b)] F R:=Rx.sxC (args:=[.agg a,(vi b)]) .N (by kernel_rfl) h
def HS (b:Γ) (c:Θ) (R:VR) (F:PH):Prop:=Nb F (.cells b 63) λg F=>∃a,c=some a/\Lr F 9 a λd=>Lr F 2 (Am g 0) λe=>Cbo 147 #[.agg d,.agg e] F λf F=>R (.bool (!f)) F
theorem Mt {a:Γ} {b:Θ} (h:HS a b R F):aj prog 146 #[.agg a,.pointer b] F R:=Rx.sxC (args:=[.agg a,.pointer b]) .N (by kernel_rfl) h
def HT (k l:Γ) (R:VR) (F:PH):Prop:=Nb F (.cells k 37) λm F=>Nb F (.cells l 63) λb F=>Lb F (Am b 0) λn=>Bb ((!n)) (Li F (Am b 1) λo=>Bc (0<=o) (Li F (Am b 1) λc=>Ls F (Am m 4) λd=>R (.bool (decide (c<(d.len:Int)))) F) (R (.bool false) F)) (Li F (Am b 1) λe=>Bc (0<=e) (Li F (Am b 1) λf=>Ls F (Am m 3) λg=>Bc (f<(g.len:Int)) (Ls F (Am m 3) λh=>Li F (Am b 1) λa=>Ix h a λi=>Li F (Addr.add (Addr.add i (Int.toNat a*7)) 1) λj=>R (.bool (decide (j=0))) F) (R (.bool false) F)) (R (.bool false) F))
theorem Mu {a:Γ} {b:Γ} (h:HT a b R F):aj prog 147 #[.agg a,.agg b] F R:=Rx.sxC (args:=[.agg a,.agg b]) .N (by kernel_rfl) h
def zt (a:Nat) (R:VR) (F:PH):Prop:=Lr F 5 (Am a 8) λj=>Nb F (.cells (#[.bool false,vi 0,vi 0,vi 0,vi 0]) 53) λi F=>au F (Am i 0) 5 j λF=>Li F (Am i 1) λk=>Li F (Am i 2) λl=>Cbo 189 #[(vi k),(vi l),(vi 1),(vi 7),(Pp a)] F λm F=>Bb ((!m)) (R (.bool false) F) (Li F (Am i 3) λn=>Li F (Am i 4) λo=>Cbo 189 #[(vi n),(vi o),(vi 0),(vi 255),(Pp a)] F λp F=>Bb ((!p)) (R (.bool false) F) (Lb F (Am a 5) λq=>Bb ((!q)) (R (.bool true) F) (Ls F (Am a 2) λr=>Bc ((r.len:Int)≠3) (R (.bool false) F) (Li F (Am a 6) λs=>Bc (s≠0) (R (.bool false) F) (Ls F (Am a 7) λt=>Bc ((0:Int)<(t.len:Int)) (R (.bool false) F) (Lr F 5 (Am i 0) λu=>∃c,(∀F,rdo prog (Op.equal 53 (.agg u) (.agg (#[.bool false,vi 0,vi 0,vi 0,vi 0]:Γ))) F c)/\Bb ((!c)) (R (.bool false) F) (Ls F (Am a 2) λv=>Ix v 0 λw=>Lb F (Addr.add w (Int.toNat 0*2)) λx=>Bb (x) (Ls F (Am a 2) λy=>Ix y 1 λz=>Lr F 2 (Addr.add z (Int.toNat 1*2)) λd=>Li F (Am a 1) λe=>∃b,(∀F,rdo prog (Op.equal 63 (.agg d) (.agg (#[.bool false,(vi e)]:Γ))) F b)/\Bb (b) (Ls F (Am a 2) λf=>Ix f 2 λg=>Lb F (Addr.add g (Int.toNat 2*2)) λh=>R (.bool h) F) (R (.bool false) F)) (R (.bool false) F))))))))
def oa (b:Ω) (_:Nat) (_:Sl) (a:Int) (_:VR) (F:PH):Prop:=b (i64.wrap (a+1)) F
def tS (o:Ω) (d:Nat) (b:Sl) (R:VR) (a:Int) (F:PH):Prop:=Bc (a<(b.len:Int)) (Ix b a λe=>Lr F 3 (Addr.add e (Int.toNat a*3)) λf=>Nb F (.cells (#[vi 0,vi 0,vi 0]) 153) λc F=>au F (Am c 0) 3 f λF=>Li F (Am c 0) λg=>Bc (g<1) (R (.bool false) F) (Li F (Am c 0) λh=>Bc (4<h) (R (.bool false) F) (Li F (Am c 1) λi=>Cbo 188 #[(vi i),(Pp d)] F λj F=>Bb ((!j)) (R (.bool false) F) (Li F (Am c 2) λk=>Cbo 188 #[(vi k),(Pp d)] F λl F=>Bb ((!l)) (R (.bool false) F) (Li F (Am c 0) λm=>Bc (m=1) (Li F (Am c 2) λn=>Bc (n≠0) (R (.bool false) F) (oa o d b a R F)) (oa o d b a R F)))))) (zt d R F)
def HU (b:Γ) (R:VR) (F:PH):Prop:=Nb F (.cells b 55) λd F=>Ls F (Am d 7) λc=>Lp 0 F λN a F=>tS N d c R a F
theorem Mv {a:Γ} (h:HU a R F):aj prog 149 #[.agg a] F R:=Rx.sxC (args:=[.agg a]) (.T .N (.J false [] (.T .N (.L [(11,.int .i64)] (.T .N (.T .N (.J false [] .N .N))))) .N)) (by kernel_rfl) h
def HV (a:Γ) (R:VR) (F:PH):Prop:=Nb F (.cells a 146) λc F=>Li F (Am c 1) λb=>R (.bool (decide (b=0))) F
theorem Mw {a:Γ} (h:HV a R F):aj prog 150 #[.agg a] F R:=Rx.sxC (args:=[.agg a]) .N (by kernel_rfl) h
def HW (a:Γ) (R:VR) (F:PH):Prop:=Nb F (.cells a 146) λc F=>Lx F (Am c 2) λb=>R (.bool (!(b.toList==(ByteArray.mk #[]).toList))) F
theorem Mx {a:Γ} (h:HW a R F):aj prog 151 #[.agg a] F R:=Rx.sxC (args:=[.agg a]) .N (by kernel_rfl) h
def HX (v w:Γ) (R:VR) (F:PH):Prop:=Nb F (.cells v 37) λu F=>Nb F (.cells w 156) λa F=>Li F (Am a 1) λx=>Bc (x<0) (R (.bool false) F) (Li F (Am a 1) λg=>Ls F (Am u 5) λh=>Bc ((h.len:Int)<=g) (R (.bool false) F) (Li F (Am a 3) λi=>Bc (i<0) (R (.bool false) F) (Li F (Am a 3) λj=>Ls F (Am u 5) λk=>Bc ((k.len:Int)<=j) (R (.bool false) F) (Ls F (Am u 5) λl=>Li F (Am a 1) λb=>Ix l b λm=>Ls F (Addr.add (Addr.add m (Int.toNat b*13)) 2) λc=>Li F (Am a 2) λn=>Bc (0<=n) (Li F (Am a 2) λo=>Bc (o<(c.len:Int)) (Li F (Am a 2) λd=>Ix c d λp=>Lr F 2 (Addr.add p (Int.toNat d*2)) λq=>Ls F (Am u 5) λr=>Li F (Am a 3) λe=>Ix r e λs=>Li F (Addr.add (Addr.add s (Int.toNat e*13)) 1) λt=>∃f,(∀F,rdo prog (Op.equal 63 (.agg q) (.agg (#[.bool false,(vi t)]:Γ))) F f)/\R (.bool f) F) (R (.bool false) F)) (R (.bool false) F)))))
theorem My {a:Γ} {b:Γ} (h:HX a b R F):aj prog 152 #[.agg a,.agg b] F R:=Rx.sxC (args:=[.agg a,.agg b]) .N (by kernel_rfl) h
def zv (a:Sl) (R:VR) (F:PH):Prop:=R (.bool (decide ((0:Int)<(a.len:Int)))) F
def oc (c:Ω) (_:Sl) (_:Value) (_:Nat) (a:Int) (_:VR) (F:PH):Prop:=c (i64.wrap (a+1)) F
def tT (u:Ω) (g:Sl) (b:Value) (n:Nat) (R:VR) (a:Int) (F:PH):Prop:=Bc (a<(g.len:Int)) (Ix g a λo=>Li F (Addr.add o (Int.toNat a*1)) λc=>Bc (c<0) (R (.bool false) F) (Ls F (Am n 3) λp=>Bc ((p.len:Int)<=c) (R (.bool false) F) (Bc (0<a) (Ix g (i64.wrap (a - 1)) λq=>∃k,F.cell (Addr.add q (Int.toNat (i64.wrap (a - 1))*1))=some (vi k)/\Bc (c<=k) (R (.bool false) F) (Ls F (Am n 3) λr=>Ix r c λs=>Lr F 7 (Addr.add s (Int.toNat c*7)) λt=>Fn b λm d e=>aj prog m (d++([(Value.agg t)]).toArray++e) F λv F=>∃l,v=(Value.bool l)/\Bb ((!l)) (R (.bool false) F) (oc u g b n a R F))) (Ls F (Am n 3) λh=>Ix h c λi=>Lr F 7 (Addr.add i (Int.toNat c*7)) λj=>Fn b λm d e=>aj prog m (d++([(Value.agg j)]).toArray++e) F λv F=>∃f,v=(Value.bool f)/\Bb ((!f)) (R (.bool false) F) (oc u g b n a R F))))) (zv g R F)
def HY (c:Γ) (d:Sl) (a:Value) (R:VR) (F:PH):Prop:=Nb F (.cells c 37) λe F=>Lp 0 F λN b F=>tT N d a e R b F
theorem Mz {b:Γ} {c:Sl} {a:Value} (h:HY b c a R F):aj prog 153 #[.agg b,Sl.v c,a] F R:=Rx.sxC (args:=[.agg b,Sl.v c,a]) (.T .N (.J false [] (.T .N (.L [(11,.int .i64)] (.T .N (.T .N (.J false [] .N .N))))) .N)) (by kernel_rfl) h
def HZ (b:ByteArray) (f:Θ) (R:VR) (F:PH):Prop:=∃a,f=some a/\∃c:Option Nat,F.cell a=some (.map c)/\∃d,rdo prog (Instr.lookup 222 (.map c) (.string b) false) F (.bool d)/\Bb (d) (R (.bool false) F) (∃e:Option Nat,F.cell a=some (.map e)/\aD prog (Instr.mapUpdate 222 (.map e) (.string b) (.bool true)) F λ_ F=>R (.bool true) F)
theorem MA {a:ByteArray} {b:Θ} (h:HZ a b R F):aj prog 179 #[.string a,.pointer b] F R:=Rx.sxC (args:=[.string a,.pointer b]) .N (by kernel_rfl) h
def H0 (b:Γ) (c:Θ) (R:VR) (F:PH):Prop:=Nb F (.cells b 124) λf F=>Li F (Am f 0) λd=>∃a,c=some a/\Li F a λe=>R (.bool (decide (e<=d))) F
theorem MB {a:Γ} {b:Θ} (h:H0 a b R F):aj prog 181 #[.agg a,.pointer b] F R:=Rx.sxC (args:=[.agg a,.pointer b]) .N (by kernel_rfl) h
def Ia (b:Int) (c:Θ) (R:VR) (F:PH):Prop:=Bc (0<=b) (∃a,c=some a/\Ls F (Addr.add a 2) λd=>R (.bool (decide (b<(d.len:Int)))) F) (R (.bool false) F)
theorem MC {a:Int} {b:Θ} (h:Ia a b R F):aj prog 188 #[(vi a),.pointer b] F R:=Rx.sxC (args:=[(vi a),.pointer b]) .N (by kernel_rfl) h
def Ib (b a f d:Int) (j:Θ) (R:VR) (F:PH):Prop:=Bc (b=0) (R (.bool (decide (a=0))) F) (Bc (0<b) (∃c,j=some c/\Ls F (Addr.add c 2) λg=>Bc (b<=(g.len:Int)) (Ls F (Addr.add c 2) λh=>Ix h (i64.wrap (b - 1)) λi=>∃e,F.cell (Addr.add i (Int.toNat (i64.wrap (b - 1))*2))=some (.bool e)/\Bb (e) (Bc (f<=a) (R (.bool (decide (a<=d))) F) (R (.bool false) F)) (R (.bool false) F)) (R (.bool false) F)) (R (.bool false) F))
theorem MD {d:Int} {a:Int} {c:Int} {b:Int} {e:Θ} (h:Ib d a c b e R F):aj prog 189 #[(vi d),(vi a),(vi c),(vi b),.pointer e] F R:=Rx.sxC (args:=[(vi d),(vi a),(vi c),(vi b),.pointer e]) .N (by kernel_rfl) h
end Go.Proofs.YtcemhghkipgdiaaGreatDoor
