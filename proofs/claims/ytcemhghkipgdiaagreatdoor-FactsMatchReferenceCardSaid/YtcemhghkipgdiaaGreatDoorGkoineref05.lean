/-
  What functions of the program do, in a clean form, each with the proof that its code does so. Printed by a program.
-/
import Derived.Test.YtcemhghkipgdiaaGreatDoorHb
set_option maxRecDepth 10000
open Option renaming some->ZO,none->ZR
open Go.Obj renaming cells->ZP
open Bool renaming false->ZQ,true->ZT
open Go.Value renaming agg->ZU,bool->ZV,pointer->ZZ,int->Z0,string->Z1,slice->Z7
open Go.Addr renaming add->ZW,mk->ZX
open Int renaming toNat->ZY,tmod->Z5
open Array renaming setIfInBounds->Z6
noncomputable section
namespace Go.Proofs.YtcemhghkipgdiaaGreatDoor
open Go.IntKind (i64 u8 u64)
open Sl renaming v->ZS,nil->Z3,mk->Z4
open Go Go.Proofs.Tryz
section
namespace St
section
variable {G F:PH} {As:List (Ψ)} {b:Nat} {w:Γ} {e:TypeId}
theorem ld0 (h:St G F (pt b (ZP w e)::As)) {i:Nat} {v:ξ} (hv:w[i]? =ZO v):F.cell (ZX b i ZR)=ZO v:=ld (h.ptAt (i:=0) rfl) hv
theorem whole0 (h:St G F (pt b (ZP w e)::As)):F.row (ZX b 0 ZR) w:=ac (h.ptAt (i:=0) rfl)
theorem put0 (h:St G F (pt b (ZP w e)::As)) {n:Nat} {w':Γ} (h1:w'.size=n) (h2:w.size=n) (hst:∀v∈w'.toList,am v) {K:Ψ} (kk:∀F',St G F' (pt b (ZP w' e)::As)->K F'):
  aw F (ZX b 0 ZR) n w' K:=stW (h.ptAt (i:=0) rfl) h1 h2 hst (kk _ (h.putAt 0 _ rfl))
theorem set0 (h:St G F (pt b (ZP w e)::As)) {i:Nat} {v:ξ} {w':Γ} (hi:i<w.size) (hw:w.setIfInBounds i v=w') {K:Ψ} (kk:∀F',St G F' (pt b (ZP w' e)::As)->K F'):
  sto F (ZX b i ZR) v K:=st1 (h.ptAt (i:=0) rfl) hi (by subst hw;exact kk _ (h.putAt 0 _ rfl))
theorem putR0 (h:St G F (pt b (ZP w e)::As)) {o n:Nat} {v w':Γ} (h1:v.size=n) (hst:∀x∈v.toList,am x) (hs:o+n<=w.size) (hw:wr w o v.toList=w') {K:Ψ} (kk:∀F',St G F' (pt b (ZP w' e)::As)->K F'):
  aw F (ZX b o ZR) n v K:=⟨h1,hst,w,e,h.ptAt (i:=0) rfl,rfl,hs,atI (by subst hw;exact kk _ (h.putAt 0 _ rfl))⟩
theorem ld1 {p0:Ψ} (h:St G F (p0::pt b (ZP w e)::As)) {i:Nat} {v:ξ} (hv:w[i]? =ZO v):F.cell (ZX b i ZR)=ZO v:=ld (h.ptAt (i:=1) rfl) hv
theorem whole1 {p0:Ψ} (h:St G F (p0::pt b (ZP w e)::As)):F.row (ZX b 0 ZR) w:=ac (h.ptAt (i:=1) rfl)
theorem put1 {p0:Ψ} (h:St G F (p0::pt b (ZP w e)::As)) {n:Nat} {w':Γ} (h1:w'.size=n) (h2:w.size=n) (hst:∀v∈w'.toList,am v) {K:Ψ} (kk:∀F',St G F' (p0::pt b (ZP w' e)::As)->K F'):
  aw F (ZX b 0 ZR) n w' K:=stW (h.ptAt (i:=1) rfl) h1 h2 hst (kk _ (h.putAt 1 _ rfl))
theorem set1 {p0:Ψ} (h:St G F (p0::pt b (ZP w e)::As)) {i:Nat} {v:ξ} {w':Γ} (hi:i<w.size) (hw:w.setIfInBounds i v=w') {K:Ψ} (kk:∀F',St G F' (p0::pt b (ZP w' e)::As)->K F'):
  sto F (ZX b i ZR) v K:=st1 (h.ptAt (i:=1) rfl) hi (by subst hw;exact kk _ (h.putAt 1 _ rfl))
theorem putR1 {p0:Ψ} (h:St G F (p0::pt b (ZP w e)::As)) {o n:Nat} {v w':Γ} (h1:v.size=n) (hst:∀x∈v.toList,am x) (hs:o+n<=w.size) (hw:wr w o v.toList=w') {K:Ψ} (kk:∀F',St G F' (p0::pt b (ZP w' e)::As)->K F'):
  aw F (ZX b o ZR) n v K:=⟨h1,hst,w,e,h.ptAt (i:=1) rfl,rfl,hs,atI (by subst hw;exact kk _ (h.putAt 1 _ rfl))⟩
theorem front1 {p0:Ψ} {A:Ψ} (h:St G F (p0::A::As)):St G F (A::p0::As):=by
 refine h.pick (λi=>if i=0 then 1 else if i<=1 then i - 1 else i) (λi j _ _ e=> ?_) (λi _=> ?_)
 ·repeat' split at e
  all_goals omega
 ·match i with
  |0=>rfl
  |1=>rfl
  |i+2=>rfl
theorem ld2 {p0 p1:Ψ} (h:St G F (p0::p1::pt b (ZP w e)::As)) {i:Nat} {v:ξ} (hv:w[i]? =ZO v):F.cell (ZX b i ZR)=ZO v:=ld (h.ptAt (i:=2) rfl) hv
theorem whole2 {p0 p1:Ψ} (h:St G F (p0::p1::pt b (ZP w e)::As)):F.row (ZX b 0 ZR) w:=ac (h.ptAt (i:=2) rfl)
theorem put2 {p0 p1:Ψ} (h:St G F (p0::p1::pt b (ZP w e)::As)) {n:Nat} {w':Γ} (h1:w'.size=n) (h2:w.size=n) (hst:∀v∈w'.toList,am v) {K:Ψ} (kk:∀F',St G F' (p0::p1::pt b (ZP w' e)::As)->K F'):
  aw F (ZX b 0 ZR) n w' K:=stW (h.ptAt (i:=2) rfl) h1 h2 hst (kk _ (h.putAt 2 _ rfl))
theorem set2 {p0 p1:Ψ} (h:St G F (p0::p1::pt b (ZP w e)::As)) {i:Nat} {v:ξ} {w':Γ} (hi:i<w.size) (hw:w.setIfInBounds i v=w') {K:Ψ} (kk:∀F',St G F' (p0::p1::pt b (ZP w' e)::As)->K F'):
  sto F (ZX b i ZR) v K:=st1 (h.ptAt (i:=2) rfl) hi (by subst hw;exact kk _ (h.putAt 2 _ rfl))
theorem front2 {p0 p1:Ψ} {A:Ψ} (h:St G F (p0::p1::A::As)):St G F (A::p0::p1::As):=by
 refine h.pick (λi=>if i=0 then 2 else if i<=2 then i - 1 else i) (λi j _ _ e=> ?_) (λi _=> ?_)
 ·repeat' split at e
  all_goals omega
 ·match i with
  |0=>rfl
  |1=>rfl
  |2=>rfl
  |i+3=>rfl
theorem back2 {p0 p1:Ψ} {A:Ψ} (h:St G F (A::p0::p1::As)):St G F (p0::p1::A::As):=by
 refine h.pick (λi=>if i=2 then 0 else if i<2 then i+1 else i) (λi j _ _ e=> ?_) (λi _=> ?_)
 ·repeat' split at e
  all_goals omega
 ·match i with
  |0=>rfl
  |1=>rfl
  |2=>rfl
  |i+3=>show (A::p0::p1::As)[if i+3=2 then 0 else if i+3<2 then i+3+1 else i+3]? =_;rw [Υ (by omega),Υ (by omega)];rfl
theorem ld3 {p0 p1 p2:Ψ} (h:St G F (p0::p1::p2::pt b (ZP w e)::As)) {i:Nat} {v:ξ} (hv:w[i]? =ZO v):F.cell (ZX b i ZR)=ZO v:=ld (h.ptAt (i:=3) rfl) hv
theorem front3 {p0 p1 p2:Ψ} {A:Ψ} (h:St G F (p0::p1::p2::A::As)):St G F (A::p0::p1::p2::As):=by
 refine h.pick (λi=>if i=0 then 3 else if i<=3 then i - 1 else i) (λi j _ _ e=> ?_) (λi _=> ?_)
 ·repeat' split at e
  all_goals omega
 ·match i with
  |0=>rfl
  |1=>rfl
  |2=>rfl
  |3=>rfl
  |i+4=>rfl
theorem back3 {p0 p1 p2:Ψ} {A:Ψ} (h:St G F (A::p0::p1::p2::As)):St G F (p0::p1::p2::A::As):=by
 refine h.pick (λi=>if i=3 then 0 else if i<3 then i+1 else i) (λi j _ _ e=> ?_) (λi _=> ?_)
 ·repeat' split at e
  all_goals omega
 ·match i with
  |0=>rfl
  |1=>rfl
  |2=>rfl
  |3=>rfl
  |i+4=>show (A::p0::p1::p2::As)[if i+4=3 then 0 else if i+4<3 then i+4+1 else i+4]? =_;rw [Υ (by omega),Υ (by omega)];rfl
theorem ld4 {p0 p1 p2 p3:Ψ} (h:St G F (p0::p1::p2::p3::pt b (ZP w e)::As)) {i:Nat} {v:ξ} (hv:w[i]? =ZO v):F.cell (ZX b i ZR)=ZO v:=ld (h.ptAt (i:=4) rfl) hv
theorem whole4 {p0 p1 p2 p3:Ψ} (h:St G F (p0::p1::p2::p3::pt b (ZP w e)::As)):F.row (ZX b 0 ZR) w:=ac (h.ptAt (i:=4) rfl)
theorem put4 {p0 p1 p2 p3:Ψ} (h:St G F (p0::p1::p2::p3::pt b (ZP w e)::As)) {n:Nat} {w':Γ} (h1:w'.size=n) (h2:w.size=n) (hst:∀v∈w'.toList,am v) {K:Ψ} (kk:∀F',St G F' (p0::p1::p2::p3::pt b (ZP w' e)::As)->K F'):
  aw F (ZX b 0 ZR) n w' K:=stW (h.ptAt (i:=4) rfl) h1 h2 hst (kk _ (h.putAt 4 _ rfl))
theorem front4 {p0 p1 p2 p3:Ψ} {A:Ψ} (h:St G F (p0::p1::p2::p3::A::As)):St G F (A::p0::p1::p2::p3::As):=by
 refine h.pick (λi=>if i=0 then 4 else if i<=4 then i - 1 else i) (λi j _ _ e=> ?_) (λi _=> ?_)
 ·repeat' split at e
  all_goals omega
 ·match i with
  |0=>rfl
  |1=>rfl
  |2=>rfl
  |3=>rfl
  |4=>rfl
  |i+5=>rfl
theorem back4 {p0 p1 p2 p3:Ψ} {A:Ψ} (h:St G F (A::p0::p1::p2::p3::As)):St G F (p0::p1::p2::p3::A::As):=by
 refine h.pick (λi=>if i=4 then 0 else if i<4 then i+1 else i) (λi j _ _ e=> ?_) (λi _=> ?_)
 ·repeat' split at e
  all_goals omega
 ·match i with
  |0=>rfl
  |1=>rfl
  |2=>rfl
  |3=>rfl
  |4=>rfl
  |i+5=>show (A::p0::p1::p2::p3::As)[if i+5=4 then 0 else if i+5<4 then i+5+1 else i+5]? =_;rw [Υ (by omega),Υ (by omega)];rfl
end
end St
variable {R:VR} {F:PH}
set_option maxHeartbeats 4000000
def Gy (R:VR) (F:PH):Prop:=R (vi 0) F
def Aa (j:Ω) (k i:Nat) (R:VR) (a:Int) (F:PH):Prop:=Bc (a<((Sb i 6).len:Int)) (Ix (Sb i 6) a λf=>∃c:ξ,F.cell (ZW f (ZY a*1))=ZO c/\Lr F 9 (Am k 0) λg=>Fn c λh d e=>aj prog h (d++([(ZU g)]).toArray++e) F λv F=>∃b,v=(vi b)/\Bc (b≠0) (R (vi b) F) (j (i64.wrap (a+1)) F)) (Gy R F)
def Rd (b:Γ) (R:VR) (F:PH):Prop:=Nb F (ZP b 37) λe F=>Lr F 9 (Am e 0) λc=>Cbo 88 #[ZU c] F λd F=>Bb (d) (R (vi 2) F) (Nb F (ZP #[.func (.func 89) #[] #[],.func (.func 90) #[] #[],.func (.func 91) #[] #[],.func (.func 92) #[] #[],.func (.func 93) #[] #[],.func (.func 94) #[] #[]] 44) λf F=>Lp 0 F λN a F=>Aa N e f R a F)
theorem Wm {a:Γ} (h:Rd a R F):ν 36 #[ZU a] F R:=Rx.Λ (.ZN (.ZN (.ZN (.J ZQ [] (.ZN (.L [(12,.int .i64)] .N)) .N)))) h
def Re (h:Γ) (R:VR) (F:PH):Prop:=Nb F (ZP h 37) λa F=>Ls F (Am a 0) λi=>Bc ((64:Int)<(i.len:Int)) (R (ZV ZT) F) (Ls F (Am a 3) λj=>Bc ((256:Int)<(j.len:Int)) (R (ZV ZT) F) (Ls F (Am a 8) λb=>Bc ((4096:Int)<(b.len:Int)) (R (ZV ZT) F) (Ls F (Am a 4) λc=>Ls F (Am a 5) λd=>Ls F (Am a 7) λe=>Bc ((2000:Int)<(max (max (c.len:Int) (d.len:Int)) (e.len:Int))) (R (ZV ZT) F) (Ls F (Am a 5) λf=>Cbo 139 #[ZS f,.func (.func 140) #[] #[]] F λg F=>R (ZV g) F))))
theorem Wn {a:Γ} (h:Re a R F):ν 88 #[ZU a] F R:=Rx.Λ .N h
def Gz (e:Nat) (R:VR) (F:PH):Prop:=Lr F 2 (Am e 1) λa=>Ls F (Am e 0) λb=>Cbo 143 #[ZU a,(vi (b.len:Int))] F λc F=>Bb ((!c)) (R (vi 54) F) (Li F (Am e 2) λd=>Bc (d=0) (R (vi 54) F) (R (vi 0) F))
def Ab (k:Ω) (l:Nat) (i:ξ) (f:Sl) (R:VR) (a:Int) (F:PH):Prop:=Bc (a<(f.len:Int)) (Ix f a λg=>Lx F (ZW g (ZY a*1)) λb=>Cbo 142 #[Z1 b] F λh F=>Bb ((!h)) (R (vi 54) F) (Bb ((b.toList==(ByteArray.mk #[116,114,117,101]).toList)) (R (vi 54) F) (Bb ((b.toList==(ByteArray.mk #[102,97,108,115,101]).toList)) (R (vi 54) F) (Fn i λj d e=>aj prog j (d++([(Z1 b)]).toArray++e) F λv F=>∃c,v=(ZV c)/\Bb ((!c)) (R (vi 54) F) (k (i64.wrap (a+1)) F))))) (Gz l R F)
def Rf (c:Γ) (R:VR) (F:PH):Prop:=Nb F (ZP c 37) λe F=>ν 141 #[] F λv F=>∃a:ξ,v=a/\Ls F (Am e 0) λd=>Lp 0 F λN b F=>Ab N e a d R b F
theorem Wo {a:Γ} (h:Rf a R F):ν 89 #[ZU a] F R:=Rx.Λ (.ZN (.ZN (.J ZQ [] (.ZN (.L [(10,.int .i64)] .N)) .N))) h
def GA (R:VR) (F:PH):Prop:=R (vi 0) F
def jB (c:Ω) (_:Nat) (_:ξ) (_:Sl) (b:Int) (a:Bool) (R:VR) (F:PH):Prop:=Bb ((!a)) (R (vi 51) F) (c (i64.wrap (b+1)) F)
def Ac (j:Ω) (g:Nat) (c:ξ) (b:Sl) (R:VR) (a:Int) (F:PH):Prop:=Bc (a<(b.len:Int)) (Ix b a λk=>Lr F 7 (ZW k (ZY a*7)) λl=>Nb F (ZP zT 146) λd F=>aw F (Am d 0) 7 l λF=>Lx F (Am d 0) λm=>Fn c λB h i=>aj prog B (h++([(Z1 m)]).toArray++i) F λv F=>∃f,v=(ZV f)/\Bb ((!f)) (R (vi 51) F) (Li F (Am d 1) λn=>Bc (n<0) (R (vi 51) F) (Li F (Am d 1) λo=>Bc (2<o) (R (vi 51) F) (Lr F 2 (Am d 5) λp=>Ls F (Am g 0) λq=>Cbo 143 #[ZU p,(vi (q.len:Int))] F λr F=>Bb ((!r)) (R (vi 51) F) (Lx F (Am d 4) λe=>Lx F (Am d 2) λs=>Bb ((!(s.toList==(ByteArray.mk #[]).toList))) (Bb ((e.toList==(ByteArray.mk #[]).toList)) (Ls F (Am d 3) λt=>jB j g c b a (decide ((t.len:Int)=0)) R F) (jB j g c b a ZQ R F)) (Ls F (Am d 3) λu=>Ci 144 #[ZS u] F λw F=>Bc (w≠0) (jB j g c b a ZQ R F) (Li F (Am d 1) λx=>Bc (x=0) (Bb ((!(e.toList==(ByteArray.mk #[]).toList))) (Ls F (Am d 3) λy=>Lx F (Am d 4) λz=>Cbo 145 #[ZS y,Z1 z] F λA F=>jB j g c b a A R F) (jB j g c b a ZQ R F)) (jB j g c b a (e.toList==(ByteArray.mk #[]).toList) R F)))))))) (GA R F)
def Rg (c:Γ) (R:VR) (F:PH):Prop:=Nb F (ZP c 37) λe F=>ν 141 #[] F λv F=>∃a:ξ,v=a/\Ls F (Am e 3) λd=>Lp 0 F λN b F=>Ac N e a d R b F
theorem Wp {a:Γ} (h:Rg a R F):ν 90 #[ZU a] F R:=Rx.Λ (.ZN (.ZN (.J ZQ [] (.ZN (.L [(11,.int .i64)] (.ZN (.ZN (.T (.ZN (.ZN (.ZN (.J ZQ [(6,.bool)] .N .N)))) .N))))) .N))) h
def GB (d:Nat) (R:VR) (F:PH):Prop:=Li F (Am d 6) λa=>Bc (a<0) (R (vi 50) F) (Li F (Am d 6) λb=>Ls F (Am d 4) λc=>Bc ((c.len:Int)<=b) (R (vi 50) F) (R (vi 0) F))
def Ad (j:Ω) (k:Nat) (h:ξ) (e:Sl) (R:VR) (a:Int) (F:PH):Prop:=Bc (a<(e.len:Int)) (Ix e a λf=>Lx F (ZW f (ZY a*1)) λg=>Fn h λi c d=>aj prog i (c++([(Z1 g)]).toArray++d) F λv F=>∃b,v=(ZV b)/\Bb ((!b)) (R (vi 50) F) (j (i64.wrap (a+1)) F)) (GB k R F)
def Rh (c:Γ) (R:VR) (F:PH):Prop:=Nb F (ZP c 37) λe F=>ν 141 #[] F λv F=>∃a:ξ,v=a/\Ls F (Am e 4) λd=>Lp 0 F λN b F=>Ad N e a d R b F
theorem Wq {a:Γ} (h:Rh a R F):ν 91 #[ZU a] F R:=Rx.Λ (.ZN (.ZN (.J ZQ [] (.ZN (.L [(10,.int .i64)] .N)) .N))) h
def GC (R:VR) (F:PH):Prop:=R (vi 0) F
def Ae (y:Ω) (u:Nat) (w:ξ) (f:Sl) (R:VR) (a:Int) (F:PH):Prop:=Bc (a<(f.len:Int)) (Ix f a λg=>Lr F 13 (ZW g (ZY a*13)) λh=>Nb F (ZP zP 55) λb F=>aw F (Am b 0) 13 h λF=>Li F (Am b 1) λi=>Cbo 146 #[ZU (#[ZV ZQ,(vi i)]:Γ),(Pp u)] F λj F=>Bb (j) (R (vi 50) F) (Ls F (Am b 2) λk=>Cbo 148 #[ZS k,.func (.func 146) #[] #[(Pp u)]] F λl F=>Bb (l) (R (vi 50) F) (Lx F (Am b 0) λm=>Fn w λx d e=>aj prog x (d++([(Z1 m)]).toArray++e) F λv F=>∃c,v=(ZV c)/\Bb ((!c)) (R (vi 52) F) (Lr F 2 (Am b 3) λn=>Ls F (Am u 0) λo=>Cbo 143 #[ZU n,(vi (o.len:Int))] F λp F=>Bb ((!p)) (R (vi 52) F) (Li F (Am b 6) λq=>Bc (q<(-1:Int)) (R (vi 52) F) (Li F (Am b 6) λr=>Bc (1<r) (R (vi 52) F) (Lr F 13 (Am b 0) λs=>Cbo 149 #[ZU s] F λt F=>Bb ((!t)) (R (vi 52) F) (y (i64.wrap (a+1)) F)))))))) (GC R F)
def Ri (c:Γ) (R:VR) (F:PH):Prop:=Nb F (ZP c 37) λe F=>ν 141 #[] F λv F=>∃a:ξ,v=a/\Ls F (Am e 5) λd=>Lp 0 F λN b F=>Ae N e a d R b F
theorem Wr {a:Γ} (h:Ri a R F):ν 92 #[ZU a] F R:=Rx.Λ (.ZN (.ZN (.J ZQ [] (.ZN (.L [(11,.int .i64)] .N)) .N))) h
def GD (R:VR) (F:PH):Prop:=R (vi 0) F
def GE (c:Ω) (_ _:Nat) (_:Sl) (a:Int) (_:VR) (F:PH):Prop:=c (i64.wrap (a+1)) F
def Af (k l:Ω) (j i:Nat) (e:Sl) (f:Int) (c:Sl) (R:VR) (a:Int) (F:PH):Prop:=Bc (a<(c.len:Int)) (Ix c a λg=>Li F (ZW g (ZY a*1)) λb=>Bc (b<0) (R (vi 53) F) (Ls F (Am j 5) λh=>Bc ((h.len:Int)<=b) (R (vi 53) F) (∃d,rdo prog (Instr.lookup 186 (.map (ZO i)) (vi b) ZQ) F (ZV d)/\Bb (d) (R (vi 53) F) (aH prog (Instr.mapUpdate 186 (.map (ZO i)) (vi b) (ZV ZT)) F λ_ F=>l (i64.wrap (a+1)) F)))) (GE k j i e f R F)
def Ah (p:Ω) (o q:Nat) (b:Sl) (R:VR) (a:Int) (F:PH):Prop:=Bc (a<(b.len:Int)) (Ix b a λd=>Lr F 4 (ZW d (ZY a*4)) λe=>Nb F (ZP zL 69) λf F=>aw F (Am f 0) 4 e λF=>Li F (Am f 1) λg=>Bc (g<0) (R (vi 53) F) (Li F (Am f 1) λh=>Bc (3<h) (R (vi 53) F) (Lr F 2 (Am f 2) λi=>Ls F (Am o 0) λj=>Cbo 143 #[ZU i,(vi (j.len:Int))] F λk F=>Bb ((!k)) (R (vi 53) F) (Ls F (Am f 0) λl=>(∃(n:Nat->Ω) (m:Nat),n m 0 F/\∀m c F,n m c F-> Af p (nx1 n m) o q b a l R c F))))) (GD R F)
def Rj (c:Γ) (R:VR) (F:PH):Prop:=Nb F (ZP c 37) λd F=>Nb F (.map #[] 0) λe F=>Ls F (Am d 7) λa=>Lp 0 F λN b F=>Ah N d e a R b F
theorem Ws {a:Γ} (h:Rj a R F):ν 93 #[ZU a] F R:=Rx.Λ (.ZN (.ZN (.J ZQ [] (.ZN (.L [(12,.int .i64)] (.ZN (.ZN (.J ZQ [] (.ZN (.ZN (.ZN (.L [(36,.int .i64)] .N)))) .N))))) .N))) h
def GF (R:VR) (F:PH):Prop:=R (vi 0) F
def fK (k:Ω) (_ h:Nat) (_:Sl) (i:Int) (a:Bool) (R:VR) (F:PH):Prop:=Bb ((!a)) (R (vi 53) F) (Li F (Am h 1) λb=>Bc (b≠0) (R (vi 53) F) (Li F (Am h 2) λc=>Bc (c≠0) (R (vi 53) F) (Li F (Am h 3) λd=>Bc (d≠0) (R (vi 53) F) (Li F (Am h 4) λe=>Bc (e≠0) (R (vi 53) F) (Li F (Am h 5) λf=>Bc (f≠0) (R (vi 53) F) (Ls F (Am h 6) λg=>Bc ((0:Int)<(g.len:Int)) (R (vi 53) F) (k (i64.wrap (i+1)) F)))))))
def kU (o:Ω) (k q p:Nat) (b:Sl) (c:Int) (a:Bool) (R:VR) (F:PH):Prop:=Bb (a) (Ls F (Am k 3) λl=>Li F (Am q 5) λe=>Ix l e λm=>Lr F 7 (ZW m (ZY e*7)) λn=>Cbo 150 #[ZU n] F λf F=>Bb (f) (Ls F (Am k 3) λg=>Li F (Am q 5) λd=>Ix g d λh=>Lr F 7 (ZW h (ZY d*7)) λi=>Cbo 151 #[ZU i] F λj F=>fK o k p b c (!j) R F) (fK o k p b c ZQ R F)) (fK o k p b c ZQ R F)
def vT (f:Ω) (c e:Nat) (g:Bool) (d:Nat) (a:Sl) (b h:Int) (i:Bool) (R:VR) (F:PH):Prop:=Bb (i) (sto F (Am d 4) (vi 0) λF=>sto F (Am d 6) (ZS Z3) λF=>Bb (g) (Li F (Am e 4) λj=>Bc (0<=j) (Li F (Am e 4) λk=>Ls F (Am c 4) λl=>Bc (k<(l.len:Int)) (Lr F 9 (Am c 0) λm=>Ls F (Am e 6) λn=>Cbo 153 #[ZU m,ZS n,.func (.func 150) #[] #[]] F λo F=>fK f c d a b o R F) (fK f c d a b ZQ R F)) (fK f c d a b ZQ R F)) (fK f c d a b ZQ R F)) (Bc (h=5) (sto F (Am d 5) (vi 0) λF=>sto F (Am d 6) (ZS Z3) λF=>Bb (g) (Lr F 9 (Am c 0) λp=>Ls F (Am e 6) λq=>Cbo 153 #[ZU p,ZS q,.func (.func 151) #[] #[]] F λr F=>Bb (r) (Li F (Am e 5) λs=>Bc (0<=s) (Li F (Am e 5) λt=>Ls F (Am c 3) λu=>kU f c e d a b (decide (t<(u.len:Int))) R F) (kU f c e d a b ZQ R F)) (kU f c e d a b ZQ R F)) (kU f c e d a b ZQ R F)) (fK f c d a b ZQ R F))
def vU (k:Ω) (f l:Nat) (d:Bool) (e:Nat) (b:Sl) (c a:Int) (g:Bool) (R:VR) (F:PH):Prop:=Bb (g) (sto F (Am e 1) (vi 0) λF=>sto F (Am e 2) (vi 0) λF=>sto F (Am e 3) (vi 0) λF=>Bb (d) (Lr F 9 (Am f 0) λh=>Lr F 9 (Am l 0) λi=>Cbo 152 #[ZU h,ZU i] F λj F=>fK k f e b c j R F) (fK k f e b c ZQ R F)) (Bc (a=3) (vT k f l d e b c a (decide (a=3)) R F) (vT k f l d e b c a (decide (a=4)) R F))
def Ai (m:Ω) (l:Nat) (c:Sl) (R:VR) (a:Int) (F:PH):Prop:=Bc (a<(c.len:Int)) (Ix c a λf=>Lr F 9 (ZW f (ZY a*9)) λg=>Nb F (ZP zF 156) λe F=>aw F (Am e 0) 9 g λF=>Lr F 2 (Am e 7) λh=>Ls F (Am l 0) λi=>Cbo 143 #[ZU h,(vi (i.len:Int))] F λd F=>Lr F 9 (Am e 0) λj=>Nb F (ZP zF 156) λk F=>aw F (Am k 0) 9 j λF=>sto F (Am k 0) (vi 0) λF=>aw F (Am k 7) 2 zD λF=>Li F (Am e 0) λb=>Bc (b=1) (vU m l e d k c a b (decide (b=1)) R F) (vU m l e d k c a b (decide (b=2)) R F)) (GF R F)
def Rk (c:Γ) (R:VR) (F:PH):Prop:=Nb F (ZP c 37) λd F=>Ls F (Am d 8) λa=>Lp 0 F λN b F=>Ai N d a R b F
theorem Wt {a:Γ} (h:Rk a R F):ν 94 #[ZU a] F R:=Rx.Λ (.ZN (.ZN (.ZN (.J ZQ [] (.ZN (.L [(12,.int .i64)] (.ZN (.ZN (.T (.ZN (.ZN (.ZN (.ZN (.J ZQ [(7,.bool)] (.ZN (.J ZQ [(28,.bool)] .N (.ZN (.J ZQ [(40,.bool)] .N (.ZN (.ZN (.T (.ZN (.J ZQ [(7,.bool)] .N .N)) .N))))))) .N))))) .N))))) .N)))) h
def Mo (a:Γ) (R:VR) (F:PH):Prop:=Nb F (ZP a 55) λd F=>Ls F (Am d 2) λb=>Ls F (Am d 7) λc=>R (ZV (decide ((16:Int)<(max (b.len:Int) (c.len:Int))))) F
theorem Rl {a:Γ} (h:Mo a R F):ν 140 #[ZU a] F R:=Rx.Λ .N h
def Mp (R:VR) (F:PH):Prop:=Nb F (.map #[] 0) λa F=>aH prog (Instr.mapUpdate 222 (.map (ZO a)) (Z1 ⟨#[]⟩) (ZV ZT)) F λ_ F=>Nb F (ZP (#[.map ZR]) 222) λb F=>sto F (Am b 0) (.map (ZO a)) λF=>R (.func (.func 179) #[] #[(Pp b)]) F
theorem Rm (h:Mp R F):ν 141 #[] F R:=Rx.Λ .N h
def Cc (a:ο) (R:VR) (F:PH):Prop:=R (ZV (!(a.toList==(ByteArray.mk #[]).toList))) F
def pF (b:Ω) (_:ο) (a:Int) (_:VR) (F:PH):Prop:=b (i64.wrap (a+1)) F
def fW (e:Ω) (d:ο) (c b:Int) (a:Bool) (R:VR) (F:PH):Prop:=Bb ((!a)) (Bc (c=0) (R (ZV ZQ) F) (Bc (b<48) (R (ZV ZQ) F) (Bc (57<b) (R (ZV ZQ) F) (pF e d c R F)))) (pF e d c R F)
def vV (d:Ω) (b:ο) (R:VR) (c:Int) (F:PH):Prop:=Bc (c<(b.size:Int)) (0<=c/\c<(b.size:Int)/\∃(hx:ZY c<b.size) (a:Int),a=((b[ZY c]'hx).toNat:Int)/\Bc (97<=a) (Bc (a<=(122:Int)) (fW d b c a ZT R F) (Bc (65<=a) (Bc (a<=(90:Int)) (fW d b c a ZT R F) (fW d b c a (decide (a=95)) R F)) (fW d b c a (decide (a=95)) R F))) (Bc (65<=a) (Bc (a<=(90:Int)) (fW d b c a ZT R F) (fW d b c a (decide (a=95)) R F)) (fW d b c a (decide (a=95)) R F))) (Cc b R F)
def Mq (a:ο) (R:VR) (F:PH):Prop:=Lp 0 F λN b F=>vV N a R b F
theorem Ro {a:ο} (h:Mq a R F):ν 142 #[Z1 a] F R:=Rx.Λ (.ZN (.J ZQ [] (.ZN (.L [(8,.int .i64)] (.ZN (.ZN (.J ZQ [] (.ZN (.ZN (.J ZQ [(5,.bool)] .N .N))) .N))))) .N)) h
def Mr (b:Γ) (c:Int) (R:VR) (F:PH):Prop:=Nb F (ZP b 31) λg F=>Nb F (ZP #[(vi c)] 3) λh F=>Lr F 2 (Am g 0) λd=>Ci 100 #[ZU d] F λe F=>Bc (e≠0) (R (ZV ZQ) F) (Ls F (Am g 0) λf=>Cbo 180 #[ZS f,.func (.func 181) #[] #[(Pp h)]] F λa F=>R (ZV (!a)) F)
theorem Rp {a:Γ} {b:Int} (h:Mr a b R F):ν 143 #[ZU a,(vi b)] F R:=Rx.Λ .N h
def Ms (b:Γ) (c:Θ) (R:VR) (F:PH):Prop:=Nb F (ZP b 63) λg F=>∃a,c=ZO a/\Lr F 9 a λd=>Lr F 2 (Am g 0) λe=>Cbo 147 #[ZU d,ZU e] F λf F=>R (ZV (!f)) F
theorem Rq {a:Γ} {b:Θ} (h:Ms a b R F):ν 146 #[ZU a,ZZ b] F R:=Rx.Λ .N h
def Mt (k l:Γ) (R:VR) (F:PH):Prop:=Nb F (ZP k 37) λm F=>Nb F (ZP l 63) λb F=>Lb F (Am b 0) λn=>Bb ((!n)) (Li F (Am b 1) λo=>Bc (0<=o) (Li F (Am b 1) λc=>Ls F (Am m 4) λd=>R (ZV (decide (c<(d.len:Int)))) F) (R (ZV ZQ) F)) (Li F (Am b 1) λe=>Bc (0<=e) (Li F (Am b 1) λf=>Ls F (Am m 3) λg=>Bc (f<(g.len:Int)) (Ls F (Am m 3) λh=>Li F (Am b 1) λa=>Ix h a λi=>Li F (ZW (ZW i (ZY a*7)) 1) λj=>R (ZV (decide (j=0))) F) (R (ZV ZQ) F)) (R (ZV ZQ) F))
theorem Rs {a:Γ} {b:Γ} (h:Mt a b R F):ν 147 #[ZU a,ZU b] F R:=Rx.Λ .N h
def Cd (a:Nat) (R:VR) (F:PH):Prop:=Lr F 5 (Am a 8) λj=>Nb F (ZP (#[ZV ZQ,vi 0,vi 0,vi 0,vi 0]) 53) λi F=>aw F (Am i 0) 5 j λF=>Li F (Am i 1) λk=>Li F (Am i 2) λl=>Cbo 189 #[(vi k),(vi l),(vi 1),(vi 7),(Pp a)] F λm F=>Bb ((!m)) (R (ZV ZQ) F) (Li F (Am i 3) λn=>Li F (Am i 4) λo=>Cbo 189 #[(vi n),(vi o),(vi 0),(vi 255),(Pp a)] F λp F=>Bb ((!p)) (R (ZV ZQ) F) (Lb F (Am a 5) λq=>Bb ((!q)) (R (ZV ZT) F) (Ls F (Am a 2) λr=>Bc ((r.len:Int)≠3) (R (ZV ZQ) F) (Li F (Am a 6) λs=>Bc (s≠0) (R (ZV ZQ) F) (Ls F (Am a 7) λt=>Bc ((0:Int)<(t.len:Int)) (R (ZV ZQ) F) (Lr F 5 (Am i 0) λu=>∃c,(∀F,rdo prog (Op.equal 53 (ZU u) (ZU (#[ZV ZQ,vi 0,vi 0,vi 0,vi 0]:Γ))) F c)/\Bb ((!c)) (R (ZV ZQ) F) (Ls F (Am a 2) λv=>Ix v 0 λw=>Lb F (ZW w (ZY 0*2)) λx=>Bb (x) (Ls F (Am a 2) λy=>Ix y 1 λz=>Lr F 2 (ZW z (ZY 1*2)) λd=>Li F (Am a 1) λe=>∃b,(∀F,rdo prog (Op.equal 63 (ZU d) (ZU (#[ZV ZQ,(vi e)]:Γ))) F b)/\Bb (b) (Ls F (Am a 2) λf=>Ix f 2 λg=>Lb F (ZW g (ZY 2*2)) λh=>R (ZV h) F) (R (ZV ZQ) F)) (R (ZV ZQ) F))))))))
def pG (b:Ω) (_:Nat) (_:Sl) (a:Int) (_:VR) (F:PH):Prop:=b (i64.wrap (a+1)) F
def vW (o:Ω) (d:Nat) (b:Sl) (R:VR) (a:Int) (F:PH):Prop:=Bc (a<(b.len:Int)) (Ix b a λe=>Lr F 3 (ZW e (ZY a*3)) λf=>Nb F (ZP (#[vi 0,vi 0,vi 0]) 153) λc F=>aw F (Am c 0) 3 f λF=>Li F (Am c 0) λg=>Bc (g<1) (R (ZV ZQ) F) (Li F (Am c 0) λh=>Bc (4<h) (R (ZV ZQ) F) (Li F (Am c 1) λi=>Cbo 188 #[(vi i),(Pp d)] F λj F=>Bb ((!j)) (R (ZV ZQ) F) (Li F (Am c 2) λk=>Cbo 188 #[(vi k),(Pp d)] F λl F=>Bb ((!l)) (R (ZV ZQ) F) (Li F (Am c 0) λm=>Bc (m=1) (Li F (Am c 2) λn=>Bc (n≠0) (R (ZV ZQ) F) (pG o d b a R F)) (pG o d b a R F)))))) (Cd d R F)
def Mu (b:Γ) (R:VR) (F:PH):Prop:=Nb F (ZP b 55) λd F=>Ls F (Am d 7) λc=>Lp 0 F λN a F=>vW N d c R a F
theorem Rt {a:Γ} (h:Mu a R F):ν 149 #[ZU a] F R:=Rx.Λ (.ZN (.J ZQ [] (.ZN (.L [(11,.int .i64)] (.ZN (.ZN (.J ZQ [] .N .N))))) .N)) h
def Mv (a:Γ) (R:VR) (F:PH):Prop:=Nb F (ZP a 146) λc F=>Li F (Am c 1) λb=>R (ZV (decide (b=0))) F
theorem Rv {a:Γ} (h:Mv a R F):ν 150 #[ZU a] F R:=Rx.Λ .N h
def Mw (a:Γ) (R:VR) (F:PH):Prop:=Nb F (ZP a 146) λc F=>Lx F (Am c 2) λb=>R (ZV (!(b.toList==(ByteArray.mk #[]).toList))) F
theorem Ry {a:Γ} (h:Mw a R F):ν 151 #[ZU a] F R:=Rx.Λ .N h
def Mx (v w:Γ) (R:VR) (F:PH):Prop:=Nb F (ZP v 37) λu F=>Nb F (ZP w 156) λa F=>Li F (Am a 1) λx=>Bc (x<0) (R (ZV ZQ) F) (Li F (Am a 1) λg=>Ls F (Am u 5) λh=>Bc ((h.len:Int)<=g) (R (ZV ZQ) F) (Li F (Am a 3) λi=>Bc (i<0) (R (ZV ZQ) F) (Li F (Am a 3) λj=>Ls F (Am u 5) λk=>Bc ((k.len:Int)<=j) (R (ZV ZQ) F) (Ls F (Am u 5) λl=>Li F (Am a 1) λb=>Ix l b λm=>Ls F (ZW (ZW m (ZY b*13)) 2) λc=>Li F (Am a 2) λn=>Bc (0<=n) (Li F (Am a 2) λo=>Bc (o<(c.len:Int)) (Li F (Am a 2) λd=>Ix c d λp=>Lr F 2 (ZW p (ZY d*2)) λq=>Ls F (Am u 5) λr=>Li F (Am a 3) λe=>Ix r e λs=>Li F (ZW (ZW s (ZY e*13)) 1) λt=>∃f,(∀F,rdo prog (Op.equal 63 (ZU q) (ZU (#[ZV ZQ,(vi t)]:Γ))) F f)/\R (ZV f) F) (R (ZV ZQ) F)) (R (ZV ZQ) F)))))
theorem Rz {a:Γ} {b:Γ} (h:Mx a b R F):ν 152 #[ZU a,ZU b] F R:=Rx.Λ .N h
def Ce (a:Sl) (R:VR) (F:PH):Prop:=R (ZV (decide ((0:Int)<(a.len:Int)))) F
def pH (c:Ω) (_:Sl) (_:ξ) (_:Nat) (a:Int) (_:VR) (F:PH):Prop:=c (i64.wrap (a+1)) F
def vX (u:Ω) (g:Sl) (b:ξ) (n:Nat) (R:VR) (a:Int) (F:PH):Prop:=Bc (a<(g.len:Int)) (Ix g a λo=>Li F (ZW o (ZY a*1)) λc=>Bc (c<0) (R (ZV ZQ) F) (Ls F (Am n 3) λp=>Bc ((p.len:Int)<=c) (R (ZV ZQ) F) (Bc (0<a) (Ix g (i64.wrap (a - 1)) λq=>∃k,F.cell (ZW q (ZY (i64.wrap (a - 1))*1))=ZO (vi k)/\Bc (c<=k) (R (ZV ZQ) F) (Ls F (Am n 3) λr=>Ix r c λs=>Lr F 7 (ZW s (ZY c*7)) λt=>Fn b λm d e=>aj prog m (d++([(ZU t)]).toArray++e) F λv F=>∃l,v=(ZV l)/\Bb ((!l)) (R (ZV ZQ) F) (pH u g b n a R F))) (Ls F (Am n 3) λh=>Ix h c λi=>Lr F 7 (ZW i (ZY c*7)) λj=>Fn b λm d e=>aj prog m (d++([(ZU j)]).toArray++e) F λv F=>∃f,v=(ZV f)/\Bb ((!f)) (R (ZV ZQ) F) (pH u g b n a R F))))) (Ce g R F)
def My (c:Γ) (d:Sl) (a:ξ) (R:VR) (F:PH):Prop:=Nb F (ZP c 37) λe F=>Lp 0 F λN b F=>vX N d a e R b F
theorem RA {b:Γ} {c:Sl} {a:ξ} (h:My b c a R F):ν 153 #[ZU b,ZS c,a] F R:=Rx.Λ (.ZN (.J ZQ [] (.ZN (.L [(11,.int .i64)] (.ZN (.ZN (.J ZQ [] .N .N))))) .N)) h
def Mz (b:ο) (f:Θ) (R:VR) (F:PH):Prop:=∃a,f=ZO a/\∃c:Option Nat,F.cell a=ZO (.map c)/\∃d,rdo prog (Instr.lookup 222 (.map c) (Z1 b) ZQ) F (ZV d)/\Bb (d) (R (ZV ZQ) F) (∃e:Option Nat,F.cell a=ZO (.map e)/\aH prog (Instr.mapUpdate 222 (.map e) (Z1 b) (ZV ZT)) F λ_ F=>R (ZV ZT) F)
theorem RC {a:ο} {b:Θ} (h:Mz a b R F):ν 179 #[Z1 a,ZZ b] F R:=Rx.Λ .N h
def MA (b:Γ) (c:Θ) (R:VR) (F:PH):Prop:=Nb F (ZP b 124) λf F=>Li F (Am f 0) λd=>∃a,c=ZO a/\Li F a λe=>R (ZV (decide (e<=d))) F
theorem RI {a:Γ} {b:Θ} (h:MA a b R F):ν 181 #[ZU a,ZZ b] F R:=Rx.Λ .N h
def MB (b:Int) (c:Θ) (R:VR) (F:PH):Prop:=Bc (0<=b) (∃a,c=ZO a/\Ls F (ZW a 2) λd=>R (ZV (decide (b<(d.len:Int)))) F) (R (ZV ZQ) F)
theorem RJ {a:Int} {b:Θ} (h:MB a b R F):ν 188 #[(vi a),ZZ b] F R:=Rx.Λ .N h
def MC (b a f d:Int) (j:Θ) (R:VR) (F:PH):Prop:=Bc (b=0) (R (ZV (decide (a=0))) F) (Bc (0<b) (∃c,j=ZO c/\Ls F (ZW c 2) λg=>Bc (b<=(g.len:Int)) (Ls F (ZW c 2) λh=>Ix h (i64.wrap (b - 1)) λi=>∃e,F.cell (ZW i (ZY (i64.wrap (b - 1))*2))=ZO (ZV e)/\Bb (e) (Bc (f<=a) (R (ZV (decide (a<=d))) F) (R (ZV ZQ) F)) (R (ZV ZQ) F)) (R (ZV ZQ) F)) (R (ZV ZQ) F))
theorem RM {d:Int} {a:Int} {c:Int} {b:Int} {e:Θ} (h:MC d a c b e R F):ν 189 #[(vi d),(vi a),(vi c),(vi b),ZZ e] F R:=Rx.Λ .N h
theorem hY (a b:ο):(a.toList==b.toList)=decide (a=b):=by rw [Hu,XV,δ,δ];exact ⟨wQ,λh=>by rw [h]⟩
theorem yh (a b:ο):(a==b)=decide (a=b):=by show (a.data==b.data)=_;rw [XV,beq_iff_eq,δ];exact ⟨λh=>by cases a;cases b;cases h;rfl,λh=>by rw [h]⟩
instance:LawfulBEq ο where
 eq_of_beq {a b} h:=by rw [yh] at h;exact ε h
 rfl {a}:=by rw [yh];exact ζ rfl
abbrev emp:ByteArray:=ByteArray.mk #[]
theorem Wu:oV prog 9 Z1:=by
 refine ⟨λF a b=> ?_,λF e a=> ?_,λa=> ?_,_,underlying9,.inl λa b=> ?_⟩
 ·unfold Op.equal Op.maxDepth;show rdo prog (Op.equalIn (9999+1) 9 (.string a) (.string b)) F _;unfold Op.equalIn;simp only [ak];refine ⟨_,(az underlying9 _).2 rfl,?_⟩;exact yh a b
 ·show rdo prog (Instr.checkKey e (9999+1) 9 (.string a)) F ();unfold Instr.checkKey;simp only [ak];exact ⟨_,(az underlying9 _).2 rfl,rfl⟩
 ·show (a==a)=ZT;rw [yh];simp
 ·show ZO (a==b)=_;rw [yh]
theorem RN:bP prog 4=ZO (ZV ZQ):=by kernel_rfl
theorem OR:gn prog 222 Value.string (.bool ZQ):=⟨_,_,underlying222,RN,Wu⟩
def ia (l:List ο) (s:ο):Option ξ:=if s=emp\/s∈l then ZO (ZV ZT) else ZR
def bJ (m:Nat) (l:List ο):Ψ:=λH=>∃o,H m=ZO o/\eM Z1 (ia l) o
theorem St.mapAt {G F:PH} {As:List (Ψ)} {m:Nat} {l:List ο} (h:St G F (bJ m l::As)):∃o,F m=ZO o/\eM Z1 (ia l) o:=by obtain ⟨H,⟨o,h1,h2⟩,_,h3⟩:=h.get (i:=0) rfl;exact ⟨o,h3 _ _ h1,h2⟩
theorem St.mapSet {G F:PH} {As:List (Ψ)} {m:Nat} {l l':List ο} {o':Obj} (h:St G F (bJ m l::As)) (ho:eM Z1 (ia l') o'):St G (F.set m o') (bJ m l'::As):=by
 obtain ⟨H,⟨o,a1,_⟩,a2,a3,a4⟩:=h.set (i:=0) (A':=bJ m l') rfl;refine a4 (H.set m o') _ ⟨o',au _ _ _,ho⟩ (λx hx=> ?_) (λx p hx=> ?_) (λx p hx hn=> ?_)
 ·by_cases e:x=m
  ·rw [e,a1];exact .inl (by simp)
  ·rw [aB _ _ e] at hx;exact .inl hx
 ·by_cases e:x=m
  ·rw [e,au] at hx ⊢;exact hx
  ·rw [aB _ _ e] at hx ⊢;exact a3 _ _ hx
 ·have e:x≠m:=λe=>by rw [e,a1] at hn;cases hn
  rw [aB _ _ e];exact hx
abbrev yi (b:Nat):Value:=.func (.func 179) #[] #[ZZ (ZO ⟨b,0,ZR⟩)]
theorem iE (F:PH):ν 141 #[] F λr F'=>∃G' b m,r=yi b/\F.le G'/\G'.cell ⟨b,0,ZR⟩=ZO (.map (ZO m))/\St G' F' [bJ m []]:=by
 refine Rm ?_;unfold Mp;intro m hm;refine atI ?_;refine aX OR (au _ _ _) (eM.empty _) emp (ZV ZT) λo' ho'=> ?_;rw [aW];have hs:St F (F.set m o') [bJ m []]:=by
  have ho2:eM Z1 (ia []) o':=by obtain ⟨es,c,L,h1,h2,h3⟩:=ho';refine ⟨es,c,L,h1,h2,λk=> ?_⟩;rw [<- h3 k];unfold ia;by_cases e:k=emp<;>simp [e]
  refine (St.start F).push (H:=PH.set (λ_=>ZR) m o') ⟨o',au _ _ _,ho2⟩ (λx hx=> ?_) (λx p hx=> ?_) (ae o' hm)
  ·by_cases e:x=m
   ·rw [e];exact hm
   ·rw [aB _ _ e] at hx;exact absurd rfl hx
  ·by_cases e:x=m
   ·rw [e,au] at hx ⊢;exact hx
   ·rw [aB _ _ e] at hx;cases hx
 refine hs.new λb1 F1 h=> ?_;refine h.set0 (by decide) rfl λF2 h=> ?_;refine h.pinb (K:=λF2=>∃G' b m,_=yi b/\F.le G'/\G'.cell ⟨b,0,ZR⟩=ZO (.map (ZO m))/\St G' F2 [bJ m []]) λG' l q h=> ?_;exact ⟨G',b1,m,rfl,l,ld q rfl,h⟩
theorem Aj {G F:PH} {b m:Nat} {l:List ο} (h:St G F [bJ m l]) (hc:G.cell ⟨b,0,ZR⟩=ZO (.map (ZO m))) (s:ο):
  ν 179 #[Z1 s,ZZ (ZO ⟨b,0,ZR⟩)] F λr F'=>∃G',r=ZV (decide (s≠emp/\s ∉ l))/\G.le G'/\St G' F' [bJ m (s::l)]:=by
 refine RC ?_;unfold Mz;obtain ⟨o,ho,hmo⟩:=h.mapAt;have hc':=aK h.le hc;have hlk:=bL (F:=F) OR ho hmo s ZQ;have hin:∀k,ia (s::l) k=if k=s then ZO (ZV ZT) else ia l k:=λk=>by
  unfold ia;by_cases e:k=s
  ·simp [e]
  ·simp [e]
 by_cases hs:s=emp\/s∈l
 ·have e1:ia l s=ZO (ZV ZT):=Χ hs;rw [e1] at hlk;refine ⟨_,rfl,ZO m,hc',ZT,hlk,λ_=> ?_,λh=>(by cases h)⟩;have hd:decide (s≠emp/\s ∉ l)=ZQ:=by
   rw [decide_eq_false_iff_not];rintro ⟨h1,h2⟩;rcases hs with h|h
   ·exact h1 h
   ·exact h2 h
  refine ⟨G,by rw [hd],al G,?_⟩;have:bJ m (s::l)=bJ m l:=by
   unfold bJ;funext H
   rw [show ia (s::l)=ia l from funext λk=>by
    rw [hin];by_cases e:k=s
    ·rw [Χ e,e,e1]
    ·rw [Υ e]]
  rw [this];exact h
 ·have e1:ia l s=ZR:=Υ hs;rw [e1] at hlk;refine ⟨_,rfl,ZO m,hc',ZQ,hlk,λh=>(by cases h),λ_=>⟨ZO m,hc',?_⟩⟩;refine aX OR ho hmo s (ZV ZT) λo' ho'=> ?_;have hd:decide (s≠emp/\s ∉ l)=ZT:=by rw [δ];exact ⟨λe=>hs (.inl e),λe=>hs (.inr e)⟩
  refine ⟨G,by rw [hd],al G,h.mapSet ?_⟩;rw [show ia (s::l)=_ from funext hin];exact ho'
theorem RO:aE prog 179=ZT:=by kernel_rfl
def gx (b:Nat):Prop:=(97<=b/\b<=122)\/(65<=b/\b<=90)\/b=95
def iF (b:Nat):Prop:=48<=b/\b<=57
instance (b:Nat):Decidable (gx b):=inferInstanceAs (Decidable (_\/_))
instance (b:Nat):Decidable (iF b):=inferInstanceAs (Decidable (_/\_))
def vY (l:Δ):Bool:=(List.range l.length).all (λi=>decide (gx (l.getD i 0)) || (i !=0 && decide (iF (l.getD i 0)))) && !l.isEmpty
def jC (s:ο):Bool:=vY (bs s)
theorem GG (s:ο) (i:Nat) (h:i<s.size):(s[i]'h).toNat=(bs s).getD i 0:=by rw [<- Ht];unfold cb;rw [dif_pos h]
theorem pf {F:PH} (s:ο) (hs:s.size<=1000000000):ν 142 #[Z1 s] F λr F'=>r=ZV (jC s)/\F.le F':=by
 refine Ro ?_;unfold Mq;have hlen:=cX s;refine bi (vV · s _) s.size (λk F'=>F.le F'/\∀i,i<k->(gx ((bs s).getD i 0)\/(i≠0/\iF ((bs s).getD i 0)))) ⟨al F,λi h=>by omega⟩ ?_;rintro k F1 N hk ⟨hl,hi⟩ next;unfold vV;refine ⟨λhlt=> ?_,λhge=> ?_⟩
 ·have hlt:k<s.size:=by omega
  refine ⟨by omega,by omega,by simpa using hlt,((bs s).getD k 0:Nat),?_,?_⟩
  ·rw [<- GG s k hlt];rfl
  generalize hc:(bs s).getD k 0=c;have bad:¬(gx c\/(k≠0/\iF c))->ZV ZQ=ZV (jC s)/\F.le F1:=λhn=>by
   refine ⟨?_,hl⟩;have:jC s=ZQ:=by unfold jC vY;rw [Bool.and_eq_false_iff];refine .inl ?_;rw [List.all_eq_false];refine ⟨k,Yv.2 (by omega),?_⟩;rw [hc];simp only [YE,δ,Yt,bne_iff_ne,ne_eq];exact hn
   rw [this]
  have good:(gx c\/(k≠0/\iF c))->pF N s (k:Int) (λr F'=>r=ZV (jC s)/\F.le F') F1:=λhg=>by
   unfold pF;rw [aC hlt];refine next _ hlt ⟨hl,λi hi'=> ?_⟩;by_cases e:i=k
   ·rw [e,hc];exact hg
   ·exact hi i (by omega)
  have j3:∀t:Bool,(t=ZT↔gx c)->fW N s (k:Int) (c:Int) t (λr F'=>r=ZV (jC s)/\F.le F') F1:=λt ht=>by
   unfold fW;refine ⟨λh=> ?_,λh=>good (.inl (ht.1 (by simpa using h)))⟩;have hnl:¬gx c:=λhl'=>by rw [ht.2 hl'] at h;cases h
   refine ⟨λh0=>bad ?_,λh0=>⟨λh1=>bad ?_,λh1=>⟨λh2=>bad ?_,λh2=>good ?_⟩⟩⟩
   ·rintro (h|h)
    ·exact hnl h
    ·omega
   ·rintro (h|h)
    ·exact hnl h
    ·unfold iF at h;omega
   ·rintro (h|h)
    ·exact hnl h
    ·unfold iF at h;omega
   ·exact .inr ⟨by omega,by unfold iF;omega⟩
  refine ⟨λh1=>⟨λh2=>j3 _ ⟨λ_=>by unfold gx;omega,λ_=>rfl⟩,λh2=>⟨λh3=>⟨λh4=>j3 _ ⟨λ_=>by unfold gx;omega,λ_=>rfl⟩,λh4=>j3 _ ?_⟩,λh3=>j3 _ ?_⟩⟩,
   λh1=>⟨λh3=>⟨λh4=>j3 _ ⟨λ_=>by unfold gx;omega,λ_=>rfl⟩,λh4=>j3 _ ?_⟩,λh3=>j3 _ ?_⟩⟩
  all_goals (rw [δ];unfold gx;omega)
 ·have e:k=s.size:=by omega
  subst e;unfold Cc;refine ⟨?_,hl⟩;congr 1;rw [hY];unfold jC vY;have h1:(List.range (bs s).length).all (λi=>decide (gx ((bs s).getD i 0)) || (i !=0 && decide (iF ((bs s).getD i 0))))=ZT:=by rw [Ym];intro i hi';rw [hlen] at hi';have:=hi i (Yv.1 hi');simp only [YE,δ,Yt,bne_iff_ne,ne_eq];exact this
  rw [h1,YY,XV];simp only [YZ,decide_eq_false_iff_not,List.isEmpty_eq_false_iff];refine not_congr ⟨λe=>by rw [e];rfl,λe=>wQ (e.trans rfl)⟩
section
variable {α:Type} [Mem α] {F:PH}
def OS (n:Nat) (j:Ω) (f:Sl) (i:ξ) (R:VR) (a:Int) (F:PH):Prop:=((a<(f.len:Int)-> ∃g:Addr,f.ZK=ZO g/\0<=a/\a<(f.len:Int)/\∃b:Γ,b.size=n/\F.row (ZW g (ZY a*n)) b/\∃(h:Nat) (c d:Γ),i=.func (.func h) c d/\aE prog h=ZT/\aj prog h (c++([ZU b]).toArray++d) F λv F=>∃e:Bool,v=(ZV e)/\((e=ZT-> R (Z0 .i64 a) F)/\(e=ZQ-> j (i64.wrap (a+(1:Int))) F)))/\(¬(a<(f.len:Int))-> R (Z0 .i64 (-1:Int)) F))
def Wv (n:Nat) (d:Sl) (e:ξ) (R:VR) (F:PH):Prop:=(∃(f:Nat->Ω) (c:Nat),f c (0:Int) F/\∀c a F,f c a F-> OS n (λb F=>∃g,g<c/\f g b F) d e R a F)
theorem Ak {s:Sl} {l:List α} (hs:RL F s l) (hn:0<Mem.n α) (hl:l.length<=1000000000) {k:Nat} {fst cap:Γ} (hk:aE prog k=ZT) (p:α->Bool)
  (hf:∀x∈l,∀c F1,F.le F1->Mem.rep F1 x c->aj prog k (fst++([ZU c]).toArray++cap) F1 λr F'=>r=ZV (p x)/\F1.le F'):
  Wv (Mem.n α) s (.func (.func k) fst cap) (λr F'=>∃i,r=vi i/\(0<=i↔l.any p=ZT)/\F.le F') F:=by
 have hlen:=hs.len hn;refine bi (OS (Mem.n α) · s (.func (.func k) fst cap) _) l.length (λk F'=>F.le F'/\(l.take k).any p=ZQ) ⟨al F,by simp⟩ ?_;rintro i F1 N hi ⟨hle,hany⟩ next;unfold OS;refine ⟨λhlt=> ?_,λhge=> ?_⟩
 ·have hlt:i<l.length:=by omega
  obtain ⟨a,c,ha,hr,hc⟩:=(hs.le hle).get hn (N6 hlt);refine ⟨a,ha,by omega,by omega,c,Mem.len hc,by rw [N5];exact hr,k,fst,cap,rfl,hk,?_⟩;refine (hf _ (YM hlt) c F1 hle hc).mono ?_;rintro _ F2 ⟨rfl,l2⟩;refine ⟨_,rfl,λh=> ?_,λh=> ?_⟩
  ·exact ⟨_,rfl,⟨λ_=>YO.2 ⟨_,YM hlt,h⟩,λ_=>by omega⟩,aa hle l2⟩
  ·rw [aC hlt];refine next _ hlt ⟨aa hle l2,?_⟩;rw [Ya hlt,List.any_append,hany];simp [h]
 ·have e:i=l.length:=by omega
  subst e;rw [XZ] at hany;exact ⟨_,rfl,⟨λh=>by omega,λh=>by rw [hany] at h;cases h⟩,hle⟩
end
theorem ixc {α:Type} [Mem α] {F:PH} {s:Sl} {l:List α} (h:RL F s l) (hn:0<Mem.n α) {i:Int} (h0:0<=i) (h1:i<(s.len:Int)) {K:Addr->Prop}
  (k:∀a c x,l[i.toNat]? =ZO x->F.row (a.add (i.toNat*Mem.n α)) c->Mem.rep F x c->K a):∃a,s.ZK=ZO a/\0<=i/\i<(s.len:Int)/\K a:=by
 have hlen:=h.len hn;have hlt:i.toNat<l.length:=by omega
 obtain ⟨a,c,ha,hr,hc⟩:=h.get hn (N6 hlt);exact ⟨a,ha,h0,h1,k a c _ (N6 hlt) hr hc⟩
def iI (d:Dia) (n:Nat):Prop:=chk d=0/\∀b∈d.1,b.v<n
open Classical in
def rB (d:Dia) (n:Nat):Bool:=decide (iI d n)
theorem bG {d:Dia} {n:Nat}:rB d n=ZT↔iI d n:=by unfold rB;simp
theorem vZ {d:Dia} {n:Nat}:rB d n=ZQ↔¬iI d n:=by unfold rB;simp
theorem RQ:aE prog 181=ZT:=by kernel_rfl
theorem ib {F:PH} {v:Γ} {d:Dia} {n:Nat} (hd:DV F v d):ν 143 #[ZU v,vi n] F λr F'=>r=ZV (rB d n)/\F.le F':=by
 obtain ⟨s,rfl,hr⟩:=hd;refine Rp ?_;unfold Mr;refine fresh λb2 F1 l1 q1 _=> ?_;refine fresh λb3 F2 l2 q2 _=> ?_;have q1:=l2 _ _ q1;have hr:=hr.le (aa l1 l2);have l1:=aa l1 l2;refine ⟨_,rfl,ac q1,?_⟩;refine (sE (d:=d) ⟨s,rfl,hr⟩).mono ?_;rintro _ F3 ⟨rfl,l3⟩;refine ⟨_,rfl,λh=>⟨?_,aa l1 l3⟩,λh=> ?_⟩
 ·have:rB d n=ZQ:=vZ.2 λhg=>h hg.1;rw [this]
 ·have h:chk d=0:=Classical.not_not.1 h;have hle:d.1.length<=4096:=by apply Classical.byContradiction;intro hb;unfold chk at h;rw [Χ (by omega)] at h;omega
  refine ⟨_,ld (l3 _ _ q1) rfl,?_⟩;refine TV ?_;unfold NJ;have hs:RL F3 s d.1:=(RL.brs.2 hr).le l3
  refine (show ν 201 #[s.v,.func (.func 181) #[] #[ZZ (ZO ⟨b3,0,ZR⟩)]] F3 (λr F'=>∃i,r=vi i/\(0<=i↔d.1.any (λb=>decide ((n:Int)<=b.v))=ZT)/\F3.le F')
   from TZ (Ak hs (by decide) (by omega) RQ (λb=>decide ((n:Int)<=b.v)) λx hx c F4 l4 hc=> ?_)).mono ?_
  ·rw [show c=bh x from hc];refine RI ?_;unfold MA;refine fresh λb F5 l5 q5 _=> ?_;exact ⟨_,ld q5 rfl,_,rfl,_,ld (l5 _ _ (l4 _ _ (l3 _ _ q2))) rfl,rfl,l5⟩
  ·rintro _ F4 ⟨i,rfl,hi,l4⟩;refine ⟨_,rfl,_,rfl,?_,aa l1 (aa l3 l4)⟩;congr 1;rw [XV,bG];simp only [YZ,decide_eq_false_iff_not];rw [hi,YO];constructor
   ·intro hn;refine ⟨h,λb hb=>Int.not_le.1 λhb'=>hn ⟨b,hb,by simpa using hb'⟩⟩
   ·rintro ⟨_,hb⟩ ⟨b,hb1,hb2⟩;have:=hb b hb1;simp at hb2;omega
def bN (g:Gr):Bool:=decide (64<g.ZJ.length\/256<g.ZI.length\/4096<g.fils.length\/2000<g.ZH.length\/2000<g.ZG.length\/2000<g.lvs.length) || g.ZG.any λp=>decide (16<p.right.length\/16<p.lay.length)
theorem Kf:aE prog 140=ZT:=by kernel_rfl
theorem Al {F:PH} {v:Γ} {g:Gr} (hg:GV F v g):ν 88 #[ZU v] F λr F'=>r=ZV (bN g)/\F.le F':=by
 obtain ⟨c,n,t,s,p,l,f,rfl,hs⟩:=hg;refine Wn ?_;unfold Re;refine fresh λb1 F1 l1 q1 _=> ?_;have e1:=hs.c.len;have e2:=hs.t.len;have e3:=hs.s.len;have e4:=hs.p.len;have e5:=hs.l.len;have e6:=hs.f.len;have bad:(64<g.ZJ.length\/256<g.ZI.length\/4096<g.fils.length\/2000<g.ZH.length\/2000<g.ZG.length\/2000<g.lvs.length)->(ZV ZT=ZV (bN g)/\F.le F1):=λh=>by refine ⟨?_,l1⟩;unfold bN;rw [ζ h,Bool.true_or]
 refine ⟨_,ld q1 rfl,λh=>bad (by omega),λh1=>⟨_,ld q1 rfl,λh=>bad (by omega),λh2=>⟨_,ld q1 rfl,λh=>bad (by omega),λh3=>⟨_,ld q1 rfl,_,ld q1 rfl,_,ld q1 rfl,λh=>bad (by omega),λh4=>⟨_,ld q1 rfl,?_⟩⟩⟩⟩⟩;refine TQ ?_;unfold NH
 refine (show ν 178 #[p.v,.func (.func 140) #[] #[]] F1 (λr F'=>∃i,r=vi i/\(0<=i↔g.ZG.any (λp=>decide (16<p.right.length\/16<p.lay.length))=ZT)/\F1.le F')
  from TU (Ak (hs.p.le l1) (by decide) (by omega) Kf (λp=>decide (16<p.right.length\/16<p.lay.length)) λx hx c F4 l4 hc=> ?_)).mono ?_
 ·obtain ⟨r,n',l',rfl,h1,h2,h3⟩:=hc;refine Rl ?_;unfold Mo;refine fresh λb F5 l5 q5 _=> ?_;have e1:=h1.len;have e2:=h3.len;refine ⟨_,ld q5 rfl,_,ld q5 rfl,?_,l5⟩;congr 1;rw [XV];simp only [δ];omega
 ·rintro _ F4 ⟨i,rfl,hi,l4⟩;refine ⟨_,rfl,_,rfl,?_,aa l1 l4⟩;congr 1;unfold bN;have hno:¬(64<g.ZJ.length\/256<g.ZI.length\/4096<g.fils.length\/2000<g.ZH.length\/2000<g.ZG.length\/2000<g.lvs.length):=by omega
  rw [ι hno,Zy,XV,δ];exact hi
structure Sz (g:Gr):Prop where
 c:∀s∈g.ZJ,s.size<=1000000000
 t:∀t∈g.ZI,t.smp.size<=100000
 l:∀l∈g.lvs,l.ps.length<=1000000000
 f:∀f∈g.fils,f.ZI.length<=1000000000
def bA (l:List ο):Prop:=l.Nodup/\emp ∉ l
theorem cJ {l:List ο} {s:ο}:bA (l++[s])↔bA l/\s≠emp/\s ∉ l:=by
 unfold bA;rw [Ye];simp only [XR,XO,not_or];constructor
 ·rintro ⟨⟨h1,_,h2⟩,h3,h4⟩;exact ⟨⟨h1,h3⟩,λe=>h4 e.symm,λhm=>h2 s hm s rfl rfl⟩
 ·rintro ⟨⟨h1,h2⟩,h3,h4⟩;exact ⟨⟨h1,by simp,λa ha b hb e=>h4 (by rw [<- hb,<- e];exact ha)⟩,h2,λe=>h3 e.symm⟩
theorem fX {l:List ο} (h:bA l) (k:Nat):bA (l.take k):=⟨h.1.sublist (List.take_sublist k l),λhm=>h.2 (Zd hm)⟩
theorem aQ {α:Type} {l:List α} {k:Nat} {x:α} (h:l[k]? =ZO x):l.take (k+1)=l.take k++[x]:=by obtain ⟨hk,rfl⟩:=XN.1 h;exact Ya hk
theorem pI {G F:PH} {As:List (Ψ)} {b m:Nat} {l:List ο} (h:St G F (bJ m l.reverse::As)) (hc:G.cell ⟨b,0,ZR⟩=ZO (.map (ZO m))) (s:ο) {R:VR}
  (k:∀G' F',G.le G'->St G' F' (bJ m (l++[s]).reverse::As)->R (ZV (decide (s≠emp/\s ∉ l))) F'):
  ∃(k28:Nat) (fst28 cap28:Γ),yi b=.func (.func k28) fst28 cap28/\aE prog k28=ZT/\aj prog k28 (fst28++([(Z1 s)]).toArray++cap28) F R:=by
 refine ⟨_,_,_,rfl,RO,?_⟩;have sp:=St.callL (Bs:=[bJ m l.reverse]) (Cs:=As) (Bs':=λ_ _=>[bJ m (s::l.reverse)]) (P:=λr _=>r=ZV (decide (s≠emp/\s ∉ l.reverse))) h λF1 h1=>(Aj h1 hc s).mono λr F' ⟨G',hr,hl,hst⟩=>⟨G',hr,hl,hst⟩;refine sp.mono ?_;rintro r F' ⟨G',rfl,hl,hst⟩;have:=k G' F' hl (by rw [List.reverse_append];exact hst);rw [show decide (s≠emp/\s ∉ l.reverse)=decide (s≠emp/\s ∉ l) by simp];exact this
def RR:ο:=ByteArray.mk #[116,114,117,101]
def OT:ο:=ByteArray.mk #[102,97,108,115,101]
def nJ (s:ο):Prop:=jC s=ZT/\s≠RR/\s≠OT
def gh (g:Gr):Prop:=(∀s∈g.ZJ,nJ s)/\bA g.ZJ/\iI g.fam g.ZJ.length/\g.fam.2≠0
open Classical in
theorem nK {F:PH} {v:Γ} {g:Gr} (hg:GV F v g) (hz:Sz g) (hl:g.ZJ.length<=64):ν 89 #[ZU v] F λr F'=>r=vi (if gh g then 0 else 54)/\F.le F':=by
 obtain ⟨c,n,t,s,p,l,f,rfl,hs⟩:=hg;have ec:=hs.c.len;refine Wo ?_;unfold Rf;refine fresh λb1 F1 l1 q1 _=> ?_;have hs:=hs.le l1;refine (iE F1).mono ?_;rintro _ F2 ⟨G2,bn,m,rfl,l2,hcn,h⟩;refine ⟨_,rfl,_,ld (h.le _ _ (l2 _ _ q1)) rfl,?_⟩;have bad:∀{F'},F1.le F'->¬gh g->(vi 54=vi (if gh g then 0 else 54)/\F.le F'):=λ{F'} l hn=>⟨by rw [Υ hn],aa l1 l⟩;refine bi (Ab · b1 (yi bn) c _) g.ZJ.length (λk F'=>∃G,G2.le G/\St G F' [bJ m (g.ZJ.take k).reverse]/\(∀s∈g.ZJ.take k,nJ s)/\bA (g.ZJ.take k))
  ⟨G2,al _,h,by simp,by simp [bA]⟩ ?_
 rintro k F3 N hk ⟨G3,l3,h,hi,hi2⟩ next;have l13:=aa l2 l3;unfold Ab;refine ⟨λhlt=> ?_,λhge=> ?_⟩
 ·have hlt:k<g.ZJ.length:=by omega
  refine ixc ((hs.c.le l13).le h.le) (by decide) (by omega) (by omega) λa cc x hx hr hc=> ?_;rw [N5] at hx hr;rw [show cc= #[Z1 x] from hc] at hr;have hxm:x∈g.ZJ:=XQ hx;refine ⟨_,aS hr rfl,?_⟩;refine h.runv (pf x (hz.c x hxm)) λG4 F4 l4 h=>⟨_,rfl,λhb=> ?_,λhb=>⟨λhb2=> ?_,λhb2=>⟨λhb3=> ?_,λhb3=> ?_⟩⟩⟩
  ·exact bad (aa l13 (aa l4 h.le)) λhn=>by rw [(hn.1 x hxm).1] at hb;cases hb
  ·exact bad (aa l13 (aa l4 h.le)) λhn=>(hn.1 x hxm).2.1 (by rw [hY] at hb2;exact ε hb2)
  ·exact bad (aa l13 (aa l4 h.le)) λhn=>(hn.1 x hxm).2.2 (by rw [hY] at hb3;exact ε hb3)
  ·refine pI h (aK (aa l3 l4) hcn) x λG5 F5 l5 h=> ?_;have l15:=aa l13 (aa l4 l5);refine ⟨_,rfl,λhb4=> ?_,λhb4=> ?_⟩
   ·refine bad (aa l15 h.le) λhn=> ?_;have:=fX hn.2.1 (k+1);rw [aQ hx,cJ] at this;rw [ζ this.2] at hb4;cases hb4
   ·rw [aC hlt];have hb4:x≠emp/\x ∉ g.ZJ.take k:=by simpa using hb4
    rw [<- aQ hx] at h;refine next _ hlt ⟨G5,aa l3 (aa l4 l5),h,λs hs=> ?_,?_⟩
    ·rw [aQ hx] at hs;rcases XR.1 hs with hs|hs
     ·exact hi s hs
     ·rw [XO.1 hs];rw [hY] at hb2 hb3;exact ⟨by simpa using hb,η hb2,η hb3⟩
    ·rw [aQ hx,cJ];exact ⟨hi2,hb4⟩
 ·have e:k=g.ZJ.length:=by omega
  subst e;rw [XZ] at hi hi2;unfold Gz;refine ⟨#[n.v,vi g.fam.2],rfl,iM (h.le _ _ (l13 _ _ q1)) rfl,_,ld (h.le _ _ (l13 _ _ q1)) rfl,?_⟩;dsimp only;rw [ec];refine h.runv (ib (d:=g.fam) (DV.mk (hs.n.le l13))) λG4 F4 l4 h=>⟨_,rfl,λhb=> ?_,λhb=> ?_⟩
  ·refine bad (aa l13 (aa l4 h.le)) λhn=> ?_;have:rB g.fam g.ZJ.length=ZT:=bG.2 hn.2.2.1;rw [this] at hb;cases hb
  ·refine ⟨_,ld (h.le _ _ (l4 _ _ (l13 _ _ q1))) rfl,λh0=> ?_,λh0=> ?_⟩
   ·exact bad (aa l13 (aa l4 h.le)) λhn=>hn.2.2.2 h0
   ·refine ⟨?_,aa l1 (aa l13 (aa l4 h.le))⟩;rw [Χ ⟨hi,hi2,bG.1 (by simpa using hb),h0⟩]
def eZ (g:Gr):Prop:=bA g.ZH/\0<=g.start/\g.start<g.ZH.length
open Classical in
theorem rC {F:PH} {v:Γ} {g:Gr} (hg:GV F v g) (hl:g.ZH.length<=2000):ν 91 #[ZU v] F λr F'=>r=vi (if eZ g then 0 else 50)/\F.le F':=by
 obtain ⟨c,n,t,s,p,l,f,rfl,hs⟩:=hg;have es:=hs.s.len;refine Wq ?_;unfold Rh;refine fresh λb1 F1 l1 q1 _=> ?_;have hs:=hs.le l1;refine (iE F1).mono ?_;rintro _ F2 ⟨G2,bn,m,rfl,l2,hcn,h⟩;refine ⟨_,rfl,_,ld (h.le _ _ (l2 _ _ q1)) rfl,?_⟩;have bad:∀{F'},F1.le F'->¬eZ g->(vi 50=vi (if eZ g then 0 else 50)/\F.le F'):=λ{F'} l hn=>⟨by rw [Υ hn],aa l1 l⟩;refine bi (Ad · b1 (yi bn) s _) g.ZH.length (λk F'=>∃G,G2.le G/\St G F' [bJ m (g.ZH.take k).reverse]/\bA (g.ZH.take k))
  ⟨G2,al _,h,by simp [bA]⟩ ?_
 rintro k F3 N hk ⟨G3,l3,h,hi2⟩ next;have l13:=aa l2 l3;unfold Ad;refine ⟨λhlt=> ?_,λhge=> ?_⟩
 ·have hlt:k<g.ZH.length:=by omega
  refine ixc ((hs.s.le l13).le h.le) (by decide) (by omega) (by omega) λa cc x hx hr hc=> ?_;rw [N5] at hx hr;rw [show cc= #[Z1 x] from hc] at hr;refine ⟨_,aS hr rfl,?_⟩;refine pI h (aK l3 hcn) x λG5 F5 l5 h=> ?_;have l15:=aa l13 l5;refine ⟨_,rfl,λhb4=> ?_,λhb4=> ?_⟩
  ·refine bad (aa l15 h.le) λhn=> ?_;have:=fX hn.1 (k+1);rw [aQ hx,cJ] at this;rw [ζ this.2] at hb4;cases hb4
  ·rw [aC hlt];have hb4:x≠emp/\x ∉ g.ZH.take k:=by simpa using hb4
   rw [<- aQ hx] at h;refine next _ hlt ⟨G5,aa l3 l5,h,?_⟩;rw [aQ hx,cJ];exact ⟨hi2,hb4⟩
 ·have e:k=g.ZH.length:=by omega
  subst e;rw [XZ] at hi2;unfold GB;have q:=h.le _ _ (l13 _ _ q1);refine ⟨_,ld q rfl,λh0=>bad (aa l13 h.le) λhn=>by have:=hn.2.1;omega,λh0=>⟨_,ld q rfl,_,ld q rfl,λh1=>bad (aa l13 h.le) λhn=>by have:=hn.2.2;omega,λh1=>⟨?_,aa l1 (aa l13 h.le)⟩⟩⟩;rw [Χ ⟨hi2,by omega,by omega⟩]
inductive Scl:TypeId->Value->Value->Bool->Prop
 |int {t:TypeId} {k:IntKind} {a b:Int}:prog.underlying t=ZO (.int k)->Scl t (.int k a) (.int k b) (decide (a=b))
 |bool {t:TypeId} {a b:Bool}:prog.underlying t=ZO .bool->Scl t (.bool a) (.bool b) (decide (a=b))
 |str {t:TypeId} {a b:ο}:prog.underlying t=ZO .string->Scl t (.string a) (.string b) (decide (a=b))
theorem Scl.eq {t:TypeId} {v w:ξ} {r:Bool} (h:Scl t v w r) (d:Nat) (F:PH):rdo prog (Op.equalIn (d+1) t v w) F r:=by
 cases h with
 | @int k a b ht=>exact Dx t k ht d a b
 | @bool a b ht=>simp only [Op.equalIn,ak];refine ⟨_,(az ht _).2 rfl,?_⟩;show (a==b)=decide (a=b);cases a<;>cases b<;>rfl
 | @str a b ht=>simp only [Op.equalIn,ak];refine ⟨_,(az ht _).2 rfl,?_⟩;show (a==b)=decide (a=b);rw [XV];simp
theorem Scl.part {t:TypeId} {v w:ξ} {r:Bool} (h:Scl t v w r) {cs:Γ} {off:Nat} {x:ξ} (hx:cs[off]? =ZO x) (F:PH):rdo prog (part t cs off) F x:=by
 have ha:∀d,prog.underlying t=ZO d->((∃k,d=.int k)\/d=.bool\/d=.string)->rdo prog (Go.part t cs off) F x:=λd hd hk=>by unfold Go.part;simp only [ak];refine ⟨ZQ,(dP hd _).2 (by rcases hk with ⟨k,rfl⟩|rfl|rfl<;>rfl),?_⟩;simp only [Yn,if_false,hx];rfl
 cases h with
 | @int k a b ht=>exact ha _ ht (.inl ⟨k,rfl⟩)
 | @bool a b ht=>exact ha _ ht (.inr (.inl rfl))
 | @str a b ht=>exact ha _ ht (.inr (.inr rfl))
theorem yj {t:TypeId} {fs:Array Field} (ht:prog.underlying t=ZO (.struct fs)) (hsi:prog.stoodInHeld t=ZQ) {cs ds:Γ} (e:Field->Bool)
  (hall:∀f∈fs.toList,f.name≠ "_"/\∃v w,cs[f.offset]? =ZO v/\ds[f.offset]? =ZO w/\Scl f.type v w (e f)) (F:PH):
  rdo prog (Op.equal t (ZU cs) (ZU ds)) F (fs.toList.all e):=by
 unfold Op.equal Op.maxDepth;show rdo prog (Op.equalIn (9998+1+1) t _ _) _ _;unfold Op.equalIn;simp only [ak];refine ⟨_,(az ht _).2 rfl,?_⟩;dsimp only;rw [ak];refine ⟨prog,rfl,?_⟩;rw [hsi];simp only [Yn,if_false];rw [<- Array.forIn_toList,ak];refine ⟨_,AN _ e _ λf hf=> ?_,?_⟩
 ·obtain ⟨h1,v,w,h2,h3,h4⟩:=hall f hf;rw [Χ h1];simp only [ak];refine ⟨_,h4.part h2 F,_,h4.part h3 F,_,h4.eq 9998 F,?_⟩;cases e f<;>rfl
 ·cases fs.toList.all e<;>rfl
theorem RT (x y:Sy) (F:PH):rdo prog (Op.equal 63 (ZU x.arr) (ZU y.arr)) F (decide (x=y)):=by
 have h:=yj (t:=63) underlying63 (by kernel_rfl) (cs:=x.arr) (ds:=y.arr) (λf=>if f.offset=0 then decide (x.t=y.t) else decide (x.i=y.i)) (λf hf=>by
  simp only [XP,YP,or_false] at hf;rcases hf with rfl|rfl
  ·exact ⟨by decide,_,_,rfl,rfl,.bool underlying4⟩
  ·exact ⟨by decide,_,_,rfl,rfl,.int underlying3⟩) F
 refine cast ?_ h;congr 1;cases x;cases y;rw [XV];simp [Sy.mk.injEq]
abbrev Sco.arr (s:Sco):Γ:= #[ZV s.o,vi s.d,vi s.k,vi s.u,vi s.a]
theorem MD (x y:Sco) (F:PH):rdo prog (Op.equal 53 (ZU x.arr) (ZU y.arr)) F (decide (x=y)):=by
 have h:=yj (t:=53) underlying53 (by kernel_rfl) (cs:=x.arr) (ds:=y.arr)
  (λf=>if f.offset=0 then decide (x.o=y.o) else if f.offset=1 then decide (x.d=y.d) else if f.offset=2 then decide (x.k=y.k) else if f.offset=3 then decide (x.u=y.u) else decide (x.a=y.a)) (λf hf=>by
  simp only [XP,YP,or_false] at hf;rcases hf with rfl|rfl|rfl|rfl|rfl
  ·exact ⟨by decide,_,_,rfl,rfl,.bool underlying4⟩
  all_goals exact ⟨by decide,_,_,rfl,rfl,.int underlying3⟩) F
 refine cast ?_ h;congr 1;cases x;cases y;rw [XV];simp [Sco.mk.injEq]
def kB (g:Gr) (s:Sy):Prop:=0<=s.i/\(s.t=ZQ->s.i<g.ZH.length)/\(s.t=ZT->∃t,g.ZI[s.i.toNat]? =ZO t/\t.cls=0)
instance (g:Gr) (s:Sy):Decidable (kB g s):=by
 have:Decidable (∃t,g.ZI[s.i.toNat]? =ZO t/\t.cls=0):=by
  cases h:g.ZI[s.i.toNat]? with
  |none=>exact isFalse λ⟨t,h1,_⟩=>by cases h1
  |some t=>exact decidable_of_iff (t.cls=0) ⟨λe=>⟨t,rfl,e⟩,λ⟨u,h1,h2⟩=>by cases h1;exact h2⟩
 unfold kB;exact inferInstance
theorem yk {F:PH} {v:Γ} {g:Gr} (hg:GV F v g) (x:Sy):ν 147 #[ZU v,ZU x.arr] F λr F'=>r=ZV (decide (kB g x))/\F.le F':=by
 obtain ⟨c,n,t,s,p,l,f,rfl,hs⟩:=hg;refine Rs ?_;unfold Mt;refine fresh λb2 F1 l1 q1 _=> ?_;refine fresh λb3 F2 l2 q2 _=> ?_;have q1:=l2 _ _ q1;have l1:=aa l1 l2;have es:=hs.s.len;have et:=hs.t.len;obtain ⟨xt,xi⟩:=x;have no:¬kB g ⟨xt,xi⟩->(ZV ZQ=ZV (decide (kB g ⟨xt,xi⟩))/\F.le F2):=λh=>⟨by rw [ι h],l1⟩;refine ⟨_,ld q2 rfl,λh=>⟨_,ld q2 rfl,λh0=>⟨_,ld q2 rfl,_,ld q1 rfl,?_,l1⟩,λh0=>no λhp=>h0 hp.1⟩,λh=>⟨_,ld q2 rfl,λh0=>⟨_,ld q2 rfl,_,ld q1 rfl,λh1=>⟨_,ld q1 rfl,_,ld q2 rfl,?_⟩,λh1=>no λhp=> ?_⟩,λh0=>no λhp=>h0 hp.1⟩⟩
 ·have h:xt=ZQ:=by simpa using h
  subst h;congr 1;rw [XV,decide_eq_true_eq,decide_eq_true_eq];exact ⟨λh1=>⟨h0,λ_=>by dsimp only at h1 ⊢;omega,λh=>(by cases h)⟩,λhp=>by have:=hp.2.1 rfl;dsimp only at this ⊢;omega⟩
 ·have h:xt=ZT:=by simpa using h
  subst h;refine ixc (hs.t.le l1) (by decide) h0 h1 λa cc y hy hr hc=> ?_;obtain ⟨pp,nn,rfl,_,_⟩:=hc;refine ⟨_,aZ hr rfl,?_,l1⟩;congr 1;rw [XV,δ,δ]
  exact ⟨λh1=>⟨h0,λh=>(by cases h),λ_=>⟨y,hy,h1⟩⟩,λhp=>by
   obtain ⟨z,hz,h2⟩:=hp.2.2 rfl;rw [hy] at hz;cases hz
   exact h2⟩
 ·have h:xt=ZT:=by simpa using h
  subst h;obtain ⟨z,hz,_⟩:=hp.2.2 rfl;have:=(XN.1 hz).1;dsimp only at this h1;omega
def cW (r:List Sy) (k v lo hi:Int):Prop:=(k=0/\v=0)\/(0<k/\k<=r.length/\(∃s,r[(k - 1).toNat]? =ZO s/\s.t=ZT)/\lo<=v/\v<=hi)
def lP (r:List Sy) (x:Cn):Prop:=1<=x.k/\x.k<=4/\0<=x.a/\x.a<r.length/\0<=x.b/\x.b<r.length/\(x.k=1->x.b=0)
def rD:Sco:=⟨ZQ,0,0,0,0⟩
def yl (p:Pr):Prop:=p.right.length=3/\p.rank=0/\p.lay=[]/\p.sco=rD/\(∃s,p.right[0]? =ZO s/\s.t=ZT)/\p.right[1]? =ZO ⟨ZQ,p.left⟩/\(∃s,p.right[2]? =ZO s/\s.t=ZT)
def nL (p:Pr):Prop:=(∀x∈p.lay,lP p.right x)/\cW p.right p.sco.d p.sco.k 1 7/\cW p.right p.sco.u p.sco.a 0 255/\(p.brk=ZT->yl p)
open Classical in
theorem rE {F:PH} {b:Nat} {x:Pr} {r n l:Sl} (hr:RL F r x.right) (q:F b=ZO (ZP (x.arr r n l) 55)) (k v lo hi:Int) (hk:x.right.length<=16):
  ν 189 #[vi k,vi v,vi lo,vi hi,ZZ (ZO ⟨b,0,ZR⟩)] F λres F'=>res=ZV (decide (cW x.right k v lo hi))/\F.le F':=by
 refine RM ?_;unfold MC;have er:=hr.len;have no:¬cW x.right k v lo hi->(ZV ZQ=ZV (decide (cW x.right k v lo hi))/\F.le F):=λh=>⟨by rw [ι h],al F⟩;have hcell:F.cell (ZW (ZX b 0 ZR) 2)=ZO r.v:=by rw [aG];exact ld q rfl
 refine ⟨λh0=>⟨?_,al F⟩,λh0=>⟨λh1=>⟨_,rfl,_,hcell,λh2=>⟨_,hcell,?_⟩,λh2=>no ?_⟩,λh1=>no ?_⟩⟩
 ·congr 1;rw [XV,δ,δ];exact ⟨λh=> .inl ⟨h0,h⟩,λh=>h.elim (λh=>h.2) λh=>by omega⟩
 ·have ew:i64.wrap (k - 1)=k - 1:=aR (by omega);rw [ew];refine ixc hr (by decide) (by omega) (by omega) λa c s hs hrow hc=> ?_;rw [show c=s.arr from hc] at hrow;refine ⟨_,aS hrow rfl,λht=>⟨λh3=>⟨?_,al F⟩,λh3=>no ?_⟩,λht=>no ?_⟩
  ·congr 1;rw [XV,δ,δ];exact ⟨λh=> .inr ⟨h1,by omega,⟨s,hs,ht⟩,h3,h⟩,λh=>h.elim (λh=>by omega) λh=>h.2.2.2.2⟩
  ·rintro (h|h)
   ·omega
   ·exact h3 h.2.2.2.1
  ·rintro (h|h)
   ·omega
   ·obtain ⟨s',hs',ht'⟩:=h.2.2.1;rw [hs] at hs';cases hs';rw [ht] at ht';cases ht'
 ·rintro (h|h)
  ·omega
  ·omega
 ·rintro (h|h)
  ·omega
  ·omega
theorem rF {F:PH} {b:Nat} {x:Pr} {r n l:Sl} (hr:RL F r x.right) (q:F b=ZO (ZP (x.arr r n l) 55)) (i:Int):
  ν 188 #[vi i,ZZ (ZO ⟨b,0,ZR⟩)] F λres F'=>res=ZV (decide (0<=i/\i<x.right.length))/\F.le F':=by
 refine RJ ?_;unfold MB;have er:=hr.len;have hcell:F.cell (ZW (ZX b 0 ZR) 2)=ZO r.v:=by rw [aG];exact ld q rfl
 refine ⟨λh=>⟨_,rfl,_,hcell,?_,al F⟩,λh=>⟨?_,al F⟩⟩
 ·congr 1;rw [XV,δ,δ];omega
 ·rw [ι (λhn=>h hn.1)]
open Classical in
theorem v8 {F:PH} {v:Γ} {x:Pr} (hp:Mem.rep F x v) (h1:x.right.length<=16) (h2:x.lay.length<=16):ν 149 #[ZU v] F λr F'=>r=ZV (decide (nL x))/\F.le F':=by
 obtain ⟨r,n,l,rfl,hr,hn,hl⟩:=hp;have er:=hr.len;have el:=hl.len;refine Rt ?_;unfold Mu;refine fresh λb1 F1 l1 q1 _=>⟨_,ld q1 rfl,?_⟩;have hr:=hr.le l1;have hl:=hl.le l1;have no:∀{F':PH},F1.le F'->¬nL x->(ZV ZQ=ZV (decide (nL x))/\F.le F'):=λ{F'} l h=>⟨by rw [ι h],aa l1 l⟩;refine bi (vW · b1 l _) x.lay.length (λk F'=>F1.le F'/\∀y∈x.lay.take k,lP x.right y) ⟨al _,by simp⟩ ?_;rintro k F2 N hk ⟨l2,hi⟩ next;unfold vW;refine ⟨λhlt=> ?_,λhge=> ?_⟩
 ·have hlt:k<x.lay.length:=by omega
  refine ixc (hl.le l2) (by decide) (by omega) (by omega) λa c y hy hrow hc=> ?_;rw [show c=y.arr from hc] at hrow;rw [N5] at hy hrow;have hym:y∈x.lay:=XQ hy;refine ⟨_,rfl,hrow,?_⟩;refine (St.start F2).new λb4 F3 h=> ?_;refine h.put0 (w':=y.arr) rfl rfl (by simp [am]) λF4 h=> ?_;obtain ⟨_,_,q4,h⟩:∃G',F2.le G'/\G' b4=ZO (ZP y.arr 153)/\G'.le F4:=h.pinb (K:=λF4=>∃G',F2.le G'/\G' b4=ZO (ZP y.arr 153)/\G'.le F4) λG' l q h=>⟨G',l,q,h.le⟩;have l4:F2.le F4:=aa ‹F2.le _› h;have q4:=h _ _ q4;have l4:=aa l2 l4;have good:lP x.right y->∀F5,F1.le F5->pG N b1 l (k:Int) (λr F'=>r=ZV (decide (nL x))/\F.le F') F5:=λhg F5 l5=>by
   unfold pG;rw [aC hlt];refine next _ hlt ⟨l5,λz hz=> ?_⟩;rw [aQ hy] at hz;rcases XR.1 hz with hz|hz
   ·exact hi z hz
   ·rw [XO.1 hz];exact hg
  have bad:∀{F':PH},F1.le F'->¬lP x.right y->(ZV ZQ=ZV (decide (nL x))/\F.le F'):=λ{F'} l h=>no l λhd=>h (hd.1 y hym);refine ⟨_,ld q4 rfl,λh=>bad l4 λhp=>by have:=hp.1;omega,λk1=>⟨_,ld q4 rfl,λh=>bad l4 λhp=>by have:=hp.2.1;omega,λk2=>⟨_,ld q4 rfl,?_⟩⟩⟩;refine (rF (hr.le l4) (l4 _ _ q1) y.a).mono ?_;rintro _ F5 ⟨rfl,l5⟩;refine ⟨_,rfl,λh=>bad (aa l4 l5) λhp=> ?_,λk3=>⟨_,ld (l5 _ _ q4) rfl,?_⟩⟩
  ·rw [ζ ⟨hp.2.2.1,hp.2.2.2.1⟩] at h;cases h
  refine (rF (hr.le (aa l4 l5)) (l5 _ _ (l4 _ _ q1)) y.b).mono ?_;rintro _ F6 ⟨rfl,l6⟩;have l46:=aa l4 (aa l5 l6);have q6:=l6 _ _ (l5 _ _ q4);refine ⟨_,rfl,λh=>bad l46 λhp=> ?_,λk4=>⟨_,ld q6 rfl,λk5=>⟨_,ld q6 rfl,λk6=>bad l46 λhp=>k6 (hp.2.2.2.2.2.2 k5),λk6=>good ?_ _ l46⟩,λk5=>good ?_ _ l46⟩⟩
  ·rw [ζ ⟨hp.2.2.2.2.1,hp.2.2.2.2.2.1⟩] at h;cases h
  ·simp at k3 k4;exact ⟨by omega,by omega,k3.1,k3.2,k4.1,k4.2,λ_=>by omega⟩
  ·simp at k3 k4;exact ⟨by omega,by omega,k3.1,k3.2,k4.1,k4.2,λh=>absurd h k5⟩
 ·have e:k=x.lay.length:=by omega
  subst e;rw [XZ] at hi;unfold Cd;refine ⟨x.sco.arr,rfl,iM (l2 _ _ q1) rfl,?_⟩;refine (St.start F2).new λb7 F3 h=> ?_;refine h.put0 (w':=x.sco.arr) rfl rfl (by simp [am]) λF4 h=> ?_;obtain ⟨_,_,q4,h⟩:∃G',F2.le G'/\G' b7=ZO (ZP x.sco.arr 53)/\G'.le F4:=h.pinb (K:=λF4=>∃G',F2.le G'/\G' b7=ZO (ZP x.sco.arr 53)/\G'.le F4) λG' l q h=>⟨G',l,q,h.le⟩;have l4:F2.le F4:=aa ‹F2.le _› h;have q4:=h _ _ q4;have l4:=aa l2 l4;refine ⟨_,ld q4 rfl,_,ld q4 rfl,?_⟩;refine (rE (hr.le l4) (l4 _ _ q1) x.sco.d x.sco.k 1 7 h1).mono ?_;rintro _ F5 ⟨rfl,l5⟩;refine ⟨_,rfl,λh=>no (aa l4 l5) λhp=> ?_,λk3=>⟨_,ld (l5 _ _ q4) rfl,_,ld (l5 _ _ q4) rfl,?_⟩⟩
  ·rw [ζ hp.2.1] at h;cases h
  refine (rE (hr.le (aa l4 l5)) (l5 _ _ (l4 _ _ q1)) x.sco.u x.sco.a 0 255 h1).mono ?_;rintro _ F6 ⟨rfl,l6⟩;have l46:=aa l4 (aa l5 l6);have q6:=l6 _ _ (l5 _ _ q4);have p1:=l46 _ _ q1;refine ⟨_,rfl,λh=>no l46 λhp=> ?_,λk4=> ?_⟩
  ·rw [ζ hp.2.2.1] at h;cases h
  have k3:cW x.right x.sco.d x.sco.k 1 7:=by simpa using k3
  have k4:cW x.right x.sco.u x.sco.a 0 255:=by simpa using k4
  refine ⟨_,ld p1 rfl,λhb=>⟨?_,aa l1 l46⟩,λhb=> ?_⟩
  ·rw [ζ ⟨hi,k3,k4,λh=>by rw [h] at hb;cases hb⟩]
  have hb:x.brk=ZT:=by simpa using hb
  have nob:¬yl x->(ZV ZQ=ZV (decide (nL x))/\F.le F6):=λh=>no l46 λhp=>h (hp.2.2.2 hb);refine ⟨_,ld p1 rfl,λh=>nob λhp=>h (by have:=hp.1;omega),λk5=>⟨_,ld p1 rfl,λh=>nob λhp=>h hp.2.1,λk6=>⟨_,ld p1 rfl,λh=>nob λhp=> ?_,λk7=>⟨_,rfl,ac q6,_,λF=>MD x.sco rD F,λh=>nob λhp=> ?_,λk8=> ?_⟩⟩⟩⟩
  ·have:=hp.2.2.1;rw [this] at el;simp at el;omega
  ·rw [ζ hp.2.2.2.1] at h;cases h
  have k8:x.sco=rD:=by simpa using k8
  have hr6:=hr.le l46;refine ⟨_,ld p1 rfl,ixc hr6 (by decide) (by omega) (by omega) λa c y hy hrow hc=> ?_⟩;rw [show c=y.arr from hc] at hrow;refine ⟨_,aS hrow rfl,λk9=>⟨_,ld p1 rfl,ixc hr6 (by decide) (by omega) (by omega) λa c z hz hrow hc=> ?_⟩,λk9=>nob λhp=> ?_⟩
  ·rw [show c=z.arr from hc] at hrow;refine ⟨_,rfl,hrow,_,ld p1 rfl,_,λF=>RT z ⟨ZQ,x.left⟩ F,λk10=>⟨_,ld p1 rfl,ixc hr6 (by decide) (by omega) (by omega) λa c w hw hrow hc=> ?_⟩,λk10=>nob λhp=> ?_⟩
   ·rw [show c=w.arr from hc] at hrow;refine ⟨_,aS hrow rfl,?_,aa l1 l46⟩;have k10:z=⟨ZQ,x.left⟩:=by simpa using k10
    subst k10;congr 1;cases hwt:w.t with
    |true=>refine (ζ ⟨hi,k3,k4,λ_=>⟨by omega,Classical.not_not.1 k6,?_,k8,⟨y,hy,k9⟩,hz,⟨w,hw,hwt⟩⟩⟩).symm;exact X9 (by omega)
    |false=>refine (ι λhp=> ?_).symm;obtain ⟨s,hs,hst⟩:=(hp.2.2.2 hb).2.2.2.2.2.2;rw [show x.right[2]? =ZO w from hw] at hs;cases hs;rw [hwt] at hst;cases hst
   ·have e:ZO z=_:=hz.symm.trans hp.2.2.2.2.2.1;cases e;simp at k10
  ·obtain ⟨s,hs,hst⟩:=hp.2.2.2.2.1;have e:ZO y=_:=hy.symm.trans hs;cases e;rw [k9] at hst;cases hst
theorem St.var {G F:PH} {As:List (Ψ)} (h:St G F As) {n:Nat} {z w:Γ} {e:TypeId} {K:Nat->Ψ} (hst:∀x∈w.toList,am x)
  (k:∀b G' F',G.le G'->G' b=ZO (ZP w e)->St G' F' As->K b F') (hz:z.size=n:=by rfl) (hw:w.size=n:=by rfl):∀b,F b=ZR->atF (F.set b (ZP z e)) λF=>aw F (ZX b 0 ZR) n w (K b):=by
 refine h.new λb F1 h=> ?_;refine h.put0 hw hz hst λF2 h=> ?_;exact h.pinb λG' l q h=>k b G' F2 l q h
theorem var1 {F:PH} {n:Nat} {z w:Γ} {e:TypeId} {K:Nat->Ψ} (hst:∀x∈w.toList,am x)
  (k:∀b F',F.le F'->F' b=ZO (ZP w e)->K b F') (hz:z.size=n:=by rfl) (hw:w.size=n:=by rfl):∀b,F b=ZR->atF (F.set b (ZP z e)) λF=>aw F (ZX b 0 ZR) n w (K b):=
 (St.start F).var hst (λb _ F' l q h=>k b F' (aa l h.le) (h.le _ _ q)) hz hw
theorem St.ix {α:Type} [Mem α] {G F:PH} {As:List (Ψ)} (h:St G F As) {s:Sl} {l:List α} (hl:RL G s l) (hn:0<Mem.n α) {i:Int} (h0:0<=i) (h1:i<(s.len:Int)) {K:Addr->Prop}
  (k:∀a c x,l[i.toNat]? =ZO x->F.row (a.add (i.toNat*Mem.n α)) c->Mem.rep G x c->K a):∃a,s.ZK=ZO a/\0<=i/\i<(s.len:Int)/\K a:=
 ixc hl hn h0 h1 λa c x hx hr hc=>k a c x hx (aT h.le hr) hc
section
variable {K:Type} [DecidableEq K] {enc:K->ξ} {f:K->Option ξ} {m:Nat} {G F:PH} {As:List (Ψ)} {t:TypeId} {z:ξ}
def mpE (m:Nat) (enc:K->ξ) (f:K->Option ξ):Ψ:=λH=>∃o,H m=ZO o/\eM enc f o
theorem St.newMap (h:St G F As) (enc:K->ξ) {Q:Nat->Ψ} (k:∀b F',St G F' (mpE b enc (λ_=>ZR)::As)->Q b F'):∀b,F b=ZR->atF (F.set b (.map #[] 0)) (Q b):=λb hb=>by
 refine atI (k b _ (h.push (H:=PH.set (λ_=>ZR) b (.map #[] 0)) ⟨_,au _ _ _,eM.empty enc⟩ (λx hx=> ?_) (λx p hx=> ?_) (ae _ hb)))
 ·by_cases e:x=b
  ·rw [e];exact hb
  ·rw [aB _ _ e] at hx;exact absurd rfl hx
 ·by_cases e:x=b
  ·rw [e,au] at hx ⊢;exact hx
  ·rw [aB _ _ e] at hx;cases hx
theorem St.lookAt (h:St G F As) {i:Nat} (hi:As[i]? =ZO (mpE m enc f)) (mt:gn prog t enc z) (k:K) (ok:Bool):rdo prog (Instr.lookup t (.map (ZO m)) (enc k) ok) F (if ok then .tuple #[(f k).getD z,ZV (f k).isSome] else (f k).getD z):=by obtain ⟨H,⟨o,h1,h2⟩,_,h3⟩:=h.get hi;exact bL mt (h3 _ _ h1) h2 k ok
theorem St.updAt (h:St G F As) (i:Nat) (hi:As[i]? =ZO (mpE m enc f)) (mt:gn prog t enc z) (k:K) (v:ξ) {Q:Unit->Ψ} (kk:∀F',St G F' (As.set i (mpE m enc λk'=>if k'=k then ZO v else f k'))->Q () F'):
  aH prog (Instr.mapUpdate t (.map (ZO m)) (enc k) v) F Q:=by
 obtain ⟨H,⟨o,a1,a0⟩,a2,a3,a4⟩:=h.set (A':=mpE m enc λk'=>if k'=k then ZO v else f k') hi;refine aX mt (a3 _ _ a1) a0 k v λo' ho'=>kk _ ?_;refine a4 (H.set m o') _ ⟨o',au _ _ _,ho'⟩ (λx hx=> ?_) (λx p hx=> ?_) (λx p hx hn=> ?_)
 ·by_cases e:x=m
  ·rw [e,a1];exact .inl (by simp)
  ·rw [aB _ _ e] at hx;exact .inl hx
 ·by_cases e:x=m
  ·rw [e,au] at hx ⊢;exact hx
  ·rw [aB _ _ e] at hx ⊢;exact a3 _ _ hx
 ·have e:x≠m:=λe=>by rw [e,a1] at hn;cases hn
  rw [aB _ _ e];exact hx
end
def An (g:Gr) (done:List ο) (p:Pr):Prop:=p.name≠emp/\p.name ∉ done/\iI p.cond g.ZJ.length/\-1<=p.rank/\p.rank<=1/\nL p
def fa (g:Gr) (p:Pr):Prop:=kB g ⟨ZQ,p.left⟩/\∀s∈p.right,kB g s
open Classical in
def cP (g:Gr) (done:List ο):List Pr->Int
 |[]=>0
 |p::l=>if ¬fa g p then 50 else if ¬An g done p then 52 else cP g (done++[p.name]) l
theorem bQ {α:Type} {l:List α} {k:Nat} {x:α} (h:l[k]? =ZO x):l.drop k=x::l.drop (k+1):=by obtain ⟨hk,rfl⟩:=XN.1 h;exact List.drop_eq_getElem_cons hk
theorem Kg:aE prog 146=ZT:=by kernel_rfl
theorem rG {F:PH} {b:Nat} {v:Γ} {g:Gr} (hg:GV F v g) (q:F b=ZO (ZP v 37)) (x:Sy):ν 146 #[ZU x.arr,ZZ (ZO ⟨b,0,ZR⟩)] F λr F'=>r=ZV (!decide (kB g x))/\F.le F':=by refine Rq ?_;unfold Ms;refine fresh λb2 F1 l1 q1 _=>⟨_,rfl,v,hg.size,ac (l1 _ _ q),_,rfl,ac q1,?_⟩;refine (yk (hg.le l1) x).mono ?_;rintro _ F2 ⟨rfl,l2⟩;exact ⟨_,rfl,rfl,aa l1 l2⟩
theorem fb {g:Gr} (h:bN g=ZQ):g.ZJ.length<=64/\g.ZI.length<=256/\g.fils.length<=4096/\g.ZH.length<=2000/\g.ZG.length<=2000/\g.lvs.length<=2000/\∀p∈g.ZG,p.right.length<=16/\p.lay.length<=16:=by unfold bN at h;rw [Bool.or_eq_false_iff,decide_eq_false_iff_not,List.any_eq_false] at h;obtain ⟨h1,h2⟩:=h;refine ⟨by omega,by omega,by omega,by omega,by omega,by omega,λp hp=> ?_⟩;have:=h2 p hp;simp only [δ] at this;omega
open Classical in
theorem pg {F:PH} {v:Γ} {g:Gr} (hg:GV F v g) (hl:bN g=ZQ):ν 92 #[ZU v] F λr F'=>r=vi (cP g [] g.ZG)/\F.le F':=by
 obtain ⟨_,_,_,_,hlp,_,hlr⟩:=fb hl;have hg0:=hg;obtain ⟨c,n,t,s,p,l,f,rfl,hs⟩:=hg;have ec:=hs.c.len;have ep:=hs.p.len;refine Wr ?_;unfold Ri;refine fresh λb1 F1 l1 q1 _=> ?_;have hs:=hs.le l1;have hg0:=hg0.le l1;refine (iE F1).mono ?_;rintro _ F2 ⟨G2,bn,m,rfl,l2,hcn,h⟩;refine ⟨_,rfl,_,ld (h.le _ _ (l2 _ _ q1)) rfl,?_⟩;refine bi (Ae · b1 (yi bn) p _) g.ZG.length (λk F'=>∃G,G2.le G/\St G F' [bJ m ((g.ZG.take k).map Pr.name).reverse]/\cP g [] g.ZG=cP g ((g.ZG.take k).map Pr.name) (g.ZG.drop k))
  ⟨G2,al _,h,by simp⟩ ?_
 rintro k F3 N hk ⟨G3,l3,h,hE⟩ next;have l13:=aa l2 l3;unfold Ae;refine ⟨λhlt=> ?_,λhge=> ?_⟩
 ·have hlt:k<g.ZG.length:=by omega
  refine h.ix (hs.p.le l13) (by decide) (by omega) (by omega) λa cc x hx hr hc=> ?_;rw [N5] at hx;have hxm:x∈g.ZG:=XQ hx;obtain ⟨hxr,hxl⟩:=hlr x hxm;have hE':=hE;rw [bQ hx,cP] at hE';have hst:=Mem.st hc;have hc0:=hc;obtain ⟨rr,nn,ll,rfl,h1,h2,h3⟩:=hc;refine ⟨x.arr rr nn ll,rfl,hr,?_⟩;refine h.var hst λb5 G4 F4 l4 q5 h=> ?_;have bad50:∀{F'},G3.le F'->¬fa g x->(vi 50=vi (cP g [] g.ZG)/\F.le F'):=λ{F'} l hn=>⟨by rw [hE',Χ hn],aa l1 (aa l13 l)⟩;have bad52:∀{F'},G3.le F'->fa g x->¬An g ((g.ZG.take k).map Pr.name) x->(vi 52=vi (cP g [] g.ZG)/\F.le F'):=λ{F'} l h1 hn=>⟨by rw [hE',Υ (λh=>h h1),Χ hn],aa l1 (aa l13 l)⟩;refine ⟨_,ld (h.le _ _ q5) rfl,?_⟩;refine h.runv (rG (x:=⟨ZQ,x.left⟩) (hg0.le (aa l13 l4)) (l4 _ _ (l13 _ _ q1))) λG5 F5 l5 h=>⟨_,rfl,λhb=>bad50 (aa l4 (aa l5 h.le)) λhn=> ?_,λhb=>⟨_,ld (h.le _ _ (l5 _ _ q5)) rfl,?_⟩⟩
  ·rw [ζ hn.1] at hb;cases hb
  have hs1:kB g ⟨ZQ,x.left⟩:=by simpa using hb
  have l35:=aa l4 l5;have sp:ν 148 #[rr.v,.func (.func 146) #[] #[ZZ (ZO ⟨b1,0,ZR⟩)]] G5 λr F'=>r=ZV (x.right.any λs=> !decide (kB g s))/\G5.le F':=by
   refine TR ?_;unfold NI
   refine (show ν 187 #[rr.v,.func (.func 146) #[] #[ZZ (ZO ⟨b1,0,ZR⟩)]] G5 (λr F'=>∃i,r=vi i/\(0<=i↔(x.right.any λs=> !decide (kB g s))=ZT)/\G5.le F')
    from TX (Ak (h1.le l35) (by decide) (by omega) Kg (λs=> !decide (kB g s)) λy hy c F6 l6 hc=> ?_)).mono ?_
   ·rw [show c=y.arr from hc];exact rG (hg0.le (aa l13 (aa l35 l6))) (l6 _ _ (l35 _ _ (l13 _ _ q1))) y
   ·rintro _ F6 ⟨i,rfl,hi,l6⟩;refine ⟨_,rfl,?_,l6⟩;congr 1;rw [XV,δ];exact hi
  refine h.runv sp λG6 F6 l6 h=>⟨_,rfl,λhb=>bad50 (aa l35 (aa l6 h.le)) λhn=> ?_,λhb=> ?_⟩
  ·obtain ⟨y,hy,hy2⟩:=YO.1 hb;rw [ζ (hn.2 y hy)] at hy2;cases hy2
  have hsy:fa g x:=⟨hs1,λy hy=>by
   have:=List.any_eq_false.1 hb y hy
   simpa using this⟩
  have l35:=aa l35 l6;have q6:=l6 _ _ (l5 _ _ q5);refine ⟨_,ld (h.le _ _ q6) rfl,?_⟩;refine pI h (aK (aa l3 l35) hcn) x.name λG7 F7 l7 h=>⟨_,rfl,λhb=>bad52 (aa l35 (aa l7 h.le)) hsy λhn=> ?_,λhb=> ?_⟩
  ·rw [ζ ⟨hn.1,hn.2.1⟩] at hb;cases hb
  have hnm:x.name≠emp/\x.name ∉ (g.ZG.take k).map Pr.name:=by simpa using hb
  have l35:=aa l35 l7;have q7:=l7 _ _ q6;refine ⟨#[nn.v,vi x.cond.2],rfl,iM (h.le _ _ q7) rfl,_,ld (h.le _ _ (l35 _ _ (l13 _ _ q1))) rfl,?_⟩;dsimp only;rw [ec];refine h.runv (ib (d:=x.cond) (DV.mk (h2.le l35))) λG8 F8 l8 h=>⟨_,rfl,λhb=>bad52 (aa l35 (aa l8 h.le)) hsy λhn=> ?_,λhb=> ?_⟩
  ·rw [bG.2 hn.2.2.1] at hb;cases hb
  have hfit:iI x.cond g.ZJ.length:=bG.1 (by simpa using hb);have l35:=aa l35 l8;have q8:=l8 _ _ q7;refine ⟨_,ld (h.le _ _ q8) rfl,λhb=>bad52 (aa l35 h.le) hsy λhn=>by have:=hn.2.2.2.1;omega,λhr1=>⟨_,ld (h.le _ _ q8) rfl,λhb=>bad52 (aa l35 h.le) hsy λhn=>by have:=hn.2.2.2.2.1;omega,λhr2=>⟨_,rfl,ac (h.le _ _ q8),?_⟩⟩⟩;refine h.runv (v8 (Mem.le l35 hc0) hxr hxl) λG9 F9 l9 h=>⟨_,rfl,λhb=>bad52 (aa l35 (aa l9 h.le)) hsy λhn=> ?_,λhb=> ?_⟩
  ·rw [ζ hn.2.2.2.2.2] at hb;cases hb
  have hdet:nL x:=by simpa using hb
  rw [aC hlt];have e:(g.ZG.take k).map Pr.name++[x.name]=(g.ZG.take (k+1)).map Pr.name:=by rw [aQ hx,Yd];rfl
  refine next _ hlt ⟨G9,aa l3 (aa l35 l9),by rw [<- e];exact h,?_⟩;rw [hE',Υ (λh=>h hsy),Υ (λh=>h ⟨hnm.1,hnm.2,hfit,by omega,by omega,hdet⟩),e]
 ·have e:k=g.ZG.length:=by omega
  subst e;rw [YB,cP] at hE;unfold GC;exact ⟨by rw [hE],aa l1 (aa l13 h.le)⟩
def Kh (g:Gr) (done:Φ) (l:Lv):Prop:=0<=l.assoc/\l.assoc<=3/\iI l.cond g.ZJ.length/\(∀p∈l.ps,0<=p/\p<g.ZG.length)/\l.ps.Nodup/\∀p∈l.ps,p ∉ done
def dg (g:Gr) (done:Φ):List Lv->Prop
 |[]=>True
 |l::r=>Kh g done l/\dg g (done++l.ps) r
def lQ (l:Φ) (i:Int):Option ξ:=if i∈l then ZO (ZV ZT) else ZR
theorem Ao (l:Φ) (x:Int):lQ (l++[x])=λk=>if k=x then ZO (ZV ZT) else lQ l k:=by funext k;unfold lQ;by_cases e:k=x<;>simp [e]
theorem RU:gn prog 186 aJ (.bool ZQ):=⟨_,_,underlying186,RN,Kj⟩
open Classical in
theorem nN {F:PH} {v:Γ} {g:Gr} (hg:GV F v g) (hl:bN g=ZQ) (hz:Sz g):ν 93 #[ZU v] F λr F'=>r=vi (if dg g [] g.lvs then 0 else 53)/\F.le F':=by
 obtain ⟨_,_,_,_,hlp,hll,_⟩:=fb hl;obtain ⟨c,n,t,s,p,l,f,rfl,hs⟩:=hg;have ec:=hs.c.len;have ep:=hs.p.len;have el:=hs.l.len;refine Ws ?_;unfold Rj;refine fresh λb1 F1 l1 q1 _=> ?_;have hs:=hs.le l1;refine (St.start F1).newMap aJ λb8 F2 h=> ?_;refine ⟨_,ld (h.le _ _ q1) rfl,?_⟩;refine bi (Ah · b1 b8 l _) g.lvs.length (λk F'=>∃G,F1.le G/\St G F' [mpE b8 aJ (lQ ((g.lvs.take k).flatMap Lv.ps))]/\(dg g [] g.lvs↔dg g ((g.lvs.take k).flatMap Lv.ps) (g.lvs.drop k)))
  ⟨F1,al _,by rw [show lQ ((g.lvs.take 0).flatMap Lv.ps)=λ_=>ZR from funext λi=>by simp [lQ]];exact h,by simp⟩ ?_
 rintro k F3 N hk ⟨G3,l3,h,hE⟩ next;unfold Ah;refine ⟨λhlt=> ?_,λhge=> ?_⟩
 ·have hlt:k<g.lvs.length:=by omega
  refine h.ix (hs.l.le l3) (by decide) (by omega) (by omega) λa cc x hx hr hc=> ?_;rw [N5] at hx;have hxm:x∈g.lvs:=XQ hx;have hpl:=hz.l x hxm;rw [bQ hx,dg] at hE;have hst:=Mem.st hc;obtain ⟨pp,nn,rfl,h1,h2⟩:=hc;have epp:=h1.len;refine ⟨x.arr pp nn,rfl,hr,?_⟩;refine h.var hst λb5 G4 F4 l4 q5 h=> ?_;have bad:∀{F'},G3.le F'->¬Kh g ((g.lvs.take k).flatMap Lv.ps) x->(vi 53=vi (if dg g [] g.lvs then 0 else 53)/\F.le F'):=λ{F'} l hn=>⟨by rw [if_neg (λh=>hn (hE.1 h).1)],aa l1 (aa l3 l)⟩;refine ⟨_,ld (h.le _ _ q5) rfl,λhb=>bad (aa l4 h.le) λhn=>by have:=hn.1;omega,λk1=>⟨_,ld (h.le _ _ q5) rfl,λhb=>bad (aa l4 h.le) λhn=>by have:=hn.2.1;omega,λk2=>⟨#[nn.v,vi x.cond.2],rfl,iM (h.le _ _ q5) rfl,_,ld (h.le _ _ (l4 _ _ (l3 _ _ q1))) rfl,?_⟩⟩⟩;dsimp only;rw [ec];refine h.runv (ib (d:=x.cond) (DV.mk (h2.le l4))) λG5 F5 l5 h=>⟨_,rfl,λhb=>bad (aa l4 (aa l5 h.le)) λhn=> ?_,λhb=> ?_⟩
  ·rw [bG.2 hn.2.2.1] at hb;cases hb
  have hfit:iI x.cond g.ZJ.length:=bG.1 (by simpa using hb);have l35:=aa l4 l5;refine ⟨_,ld (h.le _ _ (l5 _ _ q5)) rfl,?_⟩;refine bi (Af N · b1 b8 l (k:Int) pp _) x.ps.length (λj F'=>∃G,G5.le G/\St G F' [mpE b8 aJ (lQ ((g.lvs.take k).flatMap Lv.ps++x.ps.take j))]/\(∀p∈x.ps.take j,0<=p/\p<g.ZG.length)/\(x.ps.take j).Nodup/\∀p∈x.ps.take j,p ∉ (g.lvs.take k).flatMap Lv.ps)
   ⟨G5,al _,by simpa using h,by simp,by simp,by simp⟩ ?_
  rintro j F6 N2 hj ⟨G6,l6,h,i1,i2,i3⟩ next2;have l36:=aa l35 l6;unfold Af;refine ⟨λhlt2=> ?_,λhge2=> ?_⟩
  ·have hlt2:j<x.ps.length:=by omega
   refine h.ix (h1.le l36) (by decide) (by omega) (by omega) λa cc y hy hr hc=> ?_;rw [N5] at hy hr;rw [show cc= #[vi y] from hc] at hr;have hym:y∈x.ps:=XQ hy;have hlk:=h.lookAt (i:=0) rfl RU y ZQ;refine ⟨_,aS hr rfl,λhb=>bad (aa l36 h.le) λhn=>by have:=(hn.2.2.2.1 y hym).1;omega,λy0=>⟨_,ld (h.le _ _ (l36 _ _ (l3 _ _ q1))) rfl,λhb=>bad (aa l36 h.le) λhn=>by have:=(hn.2.2.2.1 y hym).2;omega,λy1=> ?_⟩⟩;by_cases hu:y∈(g.lvs.take k).flatMap Lv.ps++x.ps.take j
   ·rw [show lQ _ y=ZO (ZV ZT) from Χ hu] at hlk;refine ⟨ZT,hlk,λ_=>bad (aa l36 h.le) λhn=> ?_,λh=>(by cases h)⟩;rcases XR.1 hu with hu|hu
    ·exact hn.2.2.2.2.2 y hym hu
    ·have hnd:=hn.2.2.2.2.1.sublist (List.take_sublist (j+1) x.ps);rw [aQ hy,Ye] at hnd;exact hnd.2.2 y hu y (by simp) rfl
   ·rw [show lQ _ y=ZR from Υ hu] at hlk;refine ⟨ZQ,hlk,λh=>(by cases h),λ_=> ?_⟩;refine h.updAt 0 rfl RU y (ZV ZT) λF7 h=> ?_;rw [aC hlt2];rw [XR,not_or] at hu;refine next2 _ hlt2 ⟨G6,l6,?_,λp hp=> ?_,?_,λp hp=> ?_⟩
    ·rw [aQ hy,<- Yk,Ao];exact h
    ·rw [aQ hy] at hp;rcases XR.1 hp with hp|hp
     ·exact i1 p hp
     ·rw [XO.1 hp];omega
    ·rw [aQ hy,Ye];exact ⟨i2,by simp,λa ha b hb e=>hu.2 (by rw [<- XO.1 hb,<- e];exact ha)⟩
    ·rw [aQ hy] at hp;rcases XR.1 hp with hp|hp
     ·exact i3 p hp
     ·rw [XO.1 hp];exact hu.1
  ·have e:j=x.ps.length:=by omega
   subst e;rw [XZ] at i1 i2 i3 h;unfold GE;rw [aC hlt];have e:(g.lvs.take k).flatMap Lv.ps++x.ps=(g.lvs.take (k+1)).flatMap Lv.ps:=by rw [aQ hx,YS];simp
   rw [e] at h hE;refine next _ hlt ⟨G6,aa l3 l36,h,hE.trans ⟨λh=>h.2,λh=>⟨⟨by omega,by omega,hfit,i1,i2,i3⟩,h⟩⟩⟩
 ·have e:k=g.lvs.length:=by omega
  subst e;rw [YB,dg] at hE;unfold GD;exact ⟨by rw [Χ (hE.2 trivial)],aa l1 (aa l3 h.le)⟩
def gi (g:Gr) (kd:Tk->Bool) (l:Φ):Prop:=l≠[]/\(∀n∈l,0<=n/\∃t,g.ZI[n.toNat]? =ZO t/\kd t=ZT)/\∀(i:Nat) (x y:Int),l[i]? =ZO x->l[i+1]? =ZO y->x<y
open Classical in
theorem jD {F:PH} {v:Γ} {g:Gr} (hg:GV F v g) {sl:Sl} {l:Φ} (hl:RL F sl l) (hll:l.length<=1000000000) {k:Nat} {fst cap:Γ} (hk:aE prog k=ZT) (kd:Tk->Bool)
  (hkd:∀t c F1,F.le F1->Mem.rep F1 t c->aj prog k (fst++([ZU c]).toArray++cap) F1 λr F'=>r=ZV (kd t)/\F1.le F'):
  ν 153 #[ZU v,sl.v,.func (.func k) fst cap] F λr F'=>r=ZV (decide (gi g kd l))/\F.le F':=by
 obtain ⟨c,n,t,s,p,lv,f,rfl,hs⟩:=hg;have et:=hs.t.len;have el:=hl.len;refine RA ?_;unfold My;refine fresh λb1 F1 l1 q1 _=> ?_;have hs:=hs.le l1;have hl:=hl.le l1;have no:∀{F':PH},F1.le F'->¬gi g kd l->(ZV ZQ=ZV (decide (gi g kd l))/\F.le F'):=λ{F'} l h=>⟨by rw [ι h],aa l1 l⟩;refine bi (vX · sl (.func (.func k) fst cap) b1 _) l.length (λj F'=>F1.le F'/\(∀n∈l.take j,0<=n/\∃t,g.ZI[n.toNat]? =ZO t/\kd t=ZT)/\∀(i:Nat) (x y:Int),i+1<j->l[i]? =ZO x->l[i+1]? =ZO y->x<y)
  ⟨al _,by simp,λi x y h=>by omega⟩ ?_
 rintro j F2 N hj ⟨l2,i1,i2⟩ next;unfold vX;refine ⟨λhlt=> ?_,λhge=> ?_⟩
 ·have hlt:j<l.length:=by omega
  refine ixc (hl.le l2) (by decide) (by omega) (by omega) λa cc x hx hr hc=> ?_;rw [N5] at hx hr;rw [show cc= #[vi x] from hc] at hr;have hxm:x∈l:=XQ hx;have p1:=l2 _ _ q1;have noR:¬(0<=x/\x<g.ZI.length)->(ZV ZQ=ZV (decide (gi g kd l))/\F.le F2):=λh=>no l2 λhp=>by obtain ⟨h0,t',ht,_⟩:=hp.2.1 x hxm;have:=(XN.1 ht).1;exact h ⟨h0,by omega⟩
  refine ⟨_,aS hr rfl,λh=>noR (by omega),λx0=>⟨_,ld p1 rfl,λh=>noR (by omega),λx1=> ?_⟩⟩;have body:(∀y,0<j->l[j - 1]? =ZO y->y<x)->∃v_41:Sl,F2.cell (ZX b1 3 ZR)=ZO (ZS v_41)/\
   ∃a43_:Addr,v_41.ZK=ZO a43_/\0<=x/\x<(v_41.len:Int)/\
   ∃v_44:Γ,v_44.size=7/\F2.row (ZW a43_ (ZY x*7)) v_44/\
   ∃(k45:Nat) (fst45 cap45:Γ),Value.func (.func k) fst cap=.func (.func k45) fst45 cap45/\aE prog k45=ZT/\aj prog k45 (fst45++([(ZU v_44)]).toArray++cap45) F2 λv F'=>∃v_45:Bool,v=(ZV v_45)/\
   (((!v_45)=ZT->(ZV ZQ=ZV (decide (gi g kd l))/\F.le F'))/\
   ((!v_45)=ZQ->pH N sl (.func (.func k) fst cap) b1 (j:Int) (λr F'=>r=ZV (decide (gi g kd l))/\F.le F') F')):=λhprev=>by
   refine ⟨_,ld p1 rfl,ixc (hs.t.le l2) (by decide) (by omega) (by omega) λa cc y hy hr hc=>⟨cc,Mem.len hc,hr,k,fst,cap,rfl,hk,?_⟩⟩;refine (hkd y cc F2 (aa l1 l2) hc).mono ?_;rintro _ F3 ⟨rfl,l3⟩;refine ⟨_,rfl,λh=>no (aa l2 l3) λhp=> ?_,λh=> ?_⟩
   ·obtain ⟨h0,t',ht,hk'⟩:=hp.2.1 x hxm;rw [hy] at ht;cases ht;rw [hk'] at h;cases h
   ·unfold pH;rw [aC hlt];refine next _ hlt ⟨aa l2 l3,λm hm=> ?_,λi u w hi hu hw=> ?_⟩
    ·rw [aQ hx] at hm;rcases XR.1 hm with hm|hm
     ·exact i1 m hm
     ·rw [XO.1 hm];exact ⟨by omega,y,hy,by simpa using h⟩
    ·by_cases e:i+1<j
     ·exact i2 i u w e hu hw
     ·have e:j=i+1:=by omega
      subst e;rw [hx] at hw;cases hw;exact hprev u (by omega) hu
  refine ⟨λhj0=> ?_,λhj0=>body λy h=>by omega⟩;have hj0:0<j:=by omega
  have ew:i64.wrap ((j:Int) - 1)=((j - 1:Nat):Int):=by rw [aR (by omega)];omega
  rw [ew];refine ixc (hl.le l2) (by decide) (by omega) (by omega) λa cc y hy hr hc=> ?_;rw [N5] at hy hr;rw [show cc= #[vi y] from hc] at hr;refine ⟨_,aS (by rw [N5];exact hr) rfl,λh=>no l2 λhp=> ?_,λh=>body λz _ hz=> ?_⟩
  ·have:=hp.2.2 (j - 1) y x hy (by rw [show j - 1+1=j by omega];exact hx);omega
  ·rw [hy] at hz;cases hz;omega
 ·have e:j=l.length:=by omega
  subst e;rw [XZ] at i1;unfold Ce;refine ⟨?_,aa l1 l2⟩;congr 1;rw [XV,δ,δ];constructor
  ·intro h;refine ⟨λe=>by rw [e] at el;simp at el;omega,i1,λi x y hx hy=>i2 i x y ?_ hx hy⟩;exact (XN.1 hy).1
  ·intro h;have:l.length≠0:=λe=>h.1 (X9 e);omega
def oK (g:Gr) (x:Fi):Prop:=0<=x.par/\0<=x.ch/\0<=x.pos/\∃p q,g.ZG[x.par.toNat]? =ZO p/\g.ZG[x.ch.toNat]? =ZO q/\p.right[x.pos.toNat]? =ZO ⟨ZQ,q.left⟩
open Classical in
theorem EB {F:PH} {v w:Γ} {g:Gr} {x:Fi} (hg:GV F v g) (hx:Mem.rep F x w):ν 152 #[ZU v,ZU w] F λr F'=>r=ZV (decide (oK g x))/\F.le F':=by
 obtain ⟨c,n,t,s,p,lv,f,rfl,hs⟩:=hg;obtain ⟨tt,nn,rfl,_,_⟩:=hx;have ep:=hs.p.len;refine Rz ?_;unfold Mx;refine fresh λb2 F1 l1 q1 _=> ?_;refine fresh λb3 F2 l2 q2 _=> ?_;have q1:=l2 _ _ q1;have l1:=aa l1 l2;have hp:=hs.p.le l1;have no:¬oK g x->(ZV ZQ=ZV (decide (oK g x))/\F.le F2):=λh=>⟨by rw [ι h],l1⟩;have noR:¬(x.par<g.ZG.length/\x.ch<g.ZG.length)->¬oK g x:=λh hq=>by obtain ⟨_,_,_,p',q',hp',hq',_⟩:=hq;have:=(XN.1 hp').1;have:=(XN.1 hq').1;exact h (by omega)
 refine ⟨_,ld q2 rfl,λh=>no λhq=>by have:=hq.1;omega,λk1=>⟨_,ld q2 rfl,_,ld q1 rfl,λh=>no (noR (by omega)),λk2=>⟨_,ld q2 rfl,λh=>no λhq=>by have:=hq.2.1;omega,λk3=>⟨_,ld q2 rfl,_,ld q1 rfl,λh=>no (noR (by omega)),λk4=>⟨_,ld q1 rfl,_,ld q2 rfl,?_⟩⟩⟩⟩⟩;refine ixc hp (by decide) (by omega) (by omega) λa cc y hy hr hc=> ?_;obtain ⟨rr,n2,l2',rfl,h1,_,_⟩:=hc;have er:=h1.len;have noA:¬x.pos<y.right.length->¬oK g x:=λh hq=>by obtain ⟨_,_,_,p',q',hp',hq',hs'⟩:=hq;rw [hy] at hp';cases hp';have:=(XN.1 hs').1;omega
 refine ⟨_,aZ hr rfl,_,ld q2 rfl,λk5=>⟨_,ld q2 rfl,λk6=>⟨_,ld q2 rfl,?_⟩,λk6=>no (noA (by omega))⟩,λk5=>no λhq=>k5 hq.2.2.1⟩;refine ixc h1 (by decide) (by omega) (by omega) λa cc z hz hr hc=> ?_;rw [show cc=z.arr from hc] at hr;refine ⟨_,rfl,hr,_,ld q1 rfl,_,ld q2 rfl,ixc hp (by decide) (by omega) (by omega) λa cc u hu hr hc=> ?_⟩;obtain ⟨r3,n3,l3',rfl,_,_,_⟩:=hc;refine ⟨_,aZ hr rfl,_,λF=>RT z ⟨ZQ,u.left⟩ F,?_,l1⟩;congr 1;rw [XV,δ,δ];constructor
 ·rintro rfl;exact ⟨by omega,by omega,by omega,y,u,hy,hu,hz⟩
 ·rintro ⟨_,_,_,p',q',hp',hq',hs'⟩;rw [hy] at hp';cases hp';rw [hu] at hq';cases hq';rw [hz] at hs';exact Yh hs'
def ce (g:Gr) (x:Fi):Prop:=iI x.cond g.ZJ.length/\
  (((x.k=1\/x.k=2)/\oK g x/\x.left=0/\x.tok=0/\x.ZI=[])\/
   ((x.k=3\/x.k=4)/\(0<=x.left/\x.left<g.ZH.length/\gi g (λt=>decide (t.cls=0)) x.ZI)/\x.par=0/\x.pos=0/\x.ch=0/\x.tok=0)\/
   (x.k=5/\(gi g (λt=> !decide (t.lit=emp)) x.ZI/\0<=x.tok/\∃t,g.ZI[x.tok.toNat]? =ZO t/\t.cls=0/\t.lit=emp)/\x.par=0/\x.pos=0/\x.ch=0/\x.left=0))
theorem RV:aE prog 150=ZT:=by kernel_rfl
theorem RW:aE prog 151=ZT:=by kernel_rfl
theorem kF {F:PH} {t:Tk} {c:Γ} (h:Mem.rep F t c):ν 150 #[ZU c] F λr F'=>r=ZV (decide (t.cls=0))/\F.le F':=by obtain ⟨p,n,rfl,_,_⟩:=h;refine Rv ?_;unfold Mv;exact fresh λb F1 l1 q1 _=>⟨_,ld q1 rfl,rfl,l1⟩
theorem kG {F:PH} {t:Tk} {c:Γ} (h:Mem.rep F t c):ν 151 #[ZU c] F λr F'=>r=ZV (!decide (t.lit=emp))/\F.le F':=by obtain ⟨p,n,rfl,_,_⟩:=h;refine Ry ?_;unfold Mw;exact fresh λb F1 l1 q1 _=>⟨_,ld q1 rfl,by rw [hY],l1⟩
abbrev rH (a0 a1 a2 a3 a4 a5:Int) (s6 s7:Sl) (a8:Int):Γ:= #[vi a0,vi a1,vi a2,vi a3,vi a4,vi a5,s6.v,s7.v,vi a8]
open Classical in
theorem lR {F:PH} {v:Γ} {g:Gr} (hg:GV F v g) (hl:bN g=ZQ) (hz:Sz g):ν 94 #[ZU v] F λr F'=>r=vi (if ∀x∈g.fils,ce g x then 0 else 53)/\F.le F':=by
 obtain ⟨_,_,hlf,_,_,_,_⟩:=fb hl;have hg0:=hg;obtain ⟨c,n,t,s,p,lv,f,rfl,hs⟩:=hg;have ec:=hs.c.len;have et:=hs.t.len;have es:=hs.s.len;have ef:=hs.f.len;refine Wt ?_;unfold Rk;refine fresh λb1 F1 l1 q1 _=> ?_;have hs:=hs.le l1;have hg0:=hg0.le l1;refine ⟨_,ld q1 rfl,?_⟩;refine bi (Ai · b1 f _) g.fils.length (λk F'=>∃G,F1.le G/\St G F' []/\∀x∈g.fils.take k,ce g x) ⟨F1,al _,.start _,by simp⟩ ?_;rintro k F3 N hk ⟨G3,l3,h,hi⟩ next;unfold Ai;refine ⟨λhlt=> ?_,λhge=> ?_⟩
 ·have hlt:k<g.fils.length:=by omega
  refine h.ix (hs.f.le l3) (by decide) (by omega) (by omega) λa cc x hx hr hc=> ?_;rw [N5] at hx;have hxm:x∈g.fils:=XQ hx;have hxl:=hz.f x hxm;have hst:=Mem.st hc;have hc0:=hc;obtain ⟨tt,nn,rfl,h1,h2⟩:=hc;have ett:=h1.len;refine ⟨x.arr tt nn,rfl,hr,?_⟩;refine h.var hst λb6 G4 F4 l4 q6 h=> ?_;have bad:∀{F'},G3.le F'->¬ce g x->(vi 53=vi (if ∀x∈g.fils,ce g x then 0 else 53)/\F.le F'):=λ{F'} l hn=>⟨by rw [if_neg (λh=>hn (h x hxm))],aa l1 (aa l3 l)⟩;refine ⟨#[nn.v,vi x.cond.2],rfl,iM (h.le _ _ q6) rfl,_,ld (h.le _ _ (l4 _ _ (l3 _ _ q1))) rfl,?_⟩;dsimp only;rw [ec];refine h.runv (ib (d:=x.cond) (DV.mk (h2.le l4))) λG5 F5 l5 h=>⟨_,rfl,_,rfl,ac (h.le _ _ (l5 _ _ q6)),?_⟩;have l35:=aa l4 l5;have q6:=l5 _ _ q6;refine h.new λb8 F6 h=> ?_;refine h.put0 (w':=x.arr tt nn) rfl rfl hst λF7 h=> ?_;refine h.set0 (w':=rH 0 x.par x.pos x.ch x.left x.tok tt nn x.cond.2) (by simp) rfl λF8 h=> ?_;refine h.putR0 (w':=rH 0 x.par x.pos x.ch x.left x.tok tt Z3 0) rfl (by simp [am]) (by simp) rfl λF9 h=> ?_;have j2:∀(fine:Bool) (a1 a2 a3 a4 a5:Int) (s6:Sl) G9 F9,G3.le G9->St G9 F9 [pt b8 (ZP (rH 0 a1 a2 a3 a4 a5 s6 Z3 0) 156)]->
    ((fine=ZT/\a1=0/\a2=0/\a3=0/\a4=0/\a5=0/\s6.len=0)↔ce g x)->
    fK N b1 b8 f (k:Int) fine (λr F'=>r=vi (if ∀x∈g.fils,ce g x then 0 else 53)/\F.le F') F9:=λfine a1 a2 a3 a4 a5 s6 G9 F9 l9 h hiff=>by
   unfold fK;have l:=aa l9 h.le
   refine ⟨λhb=>bad l λhn=>(by rw [(hiff.2 hn).1] at hb;cases hb),λhb=>⟨_,h.ld0 rfl,λe=>bad l λhn=>e (hiff.2 hn).2.1,λe1=>⟨_,h.ld0 rfl,λe=>bad l λhn=>e (hiff.2 hn).2.2.1,λe2=>⟨_,h.ld0 rfl,λe=>bad l λhn=>e (hiff.2 hn).2.2.2.1,λe3=>
    ⟨_,h.ld0 rfl,λe=>bad l λhn=>e (hiff.2 hn).2.2.2.2.1,λe4=>⟨_,h.ld0 rfl,λe=>bad l λhn=>e (hiff.2 hn).2.2.2.2.2.1,λe5=>⟨_,h.ld0 rfl,λe=>bad l λhn=>by have:=(hiff.2 hn).2.2.2.2.2.2;omega,λe6=> ?_⟩⟩⟩⟩⟩⟩⟩
   rw [aC hlt];refine next _ hlt ⟨G9,aa l3 l9,h.tail,λy hy=> ?_⟩;rw [aQ hx] at hy;rcases XR.1 hy with hy|hy
   ·exact hi y hy
   ·rw [XO.1 hy];exact hiff.1 ⟨by simpa using hb,Classical.not_not.1 e1,Classical.not_not.1 e2,Classical.not_not.1 e3,Classical.not_not.1 e4,Classical.not_not.1 e5,by omega⟩
  have hF:=bG (d:=x.cond) (n:=g.ZJ.length);generalize rB x.cond g.ZJ.length=fit at*;have nil6:tt.len=0↔x.ZI=[]:=by rw [ett];exact YG
  refine ⟨_,ld (h.le _ _ q6) rfl,?_⟩;have j4:∀(b:Bool),(b=ZT↔x.k=3\/x.k=4)->¬(x.k=1\/x.k=2)->vT N b1 b6 fit b8 f (k:Int) x.k b (λr F'=>r=vi (if ∀x∈g.fils,ce g x then 0 else 53)/\F.le F') F9:=λb hb hn12=>by
   unfold vT;refine ⟨λhbt=> ?_,λhbf=>⟨λk5=> ?_,λk5=> ?_⟩⟩
   ·have hk:=hb.1 hbt;refine h.set0 (w':=rH 0 x.par x.pos x.ch 0 x.tok tt Z3 0) (by simp) rfl λF10 h=> ?_;refine h.set0 (w':=rH 0 x.par x.pos x.ch 0 x.tok Z3 Z3 0) (by simp) rfl λF11 h=> ?_;have bad':¬(0<=x.left/\x.left<g.ZH.length/\gi g (λt=>decide (t.cls=0)) x.ZI)->¬ce g x:=λhn hok=>by
     rcases hok.2 with h'|h'|h'
     ·omega
     ·exact hn h'.2.1
     ·omega
    refine ⟨λhft=>⟨_,ld (h.le _ _ q6) rfl,λk1=>⟨_,ld (h.le _ _ q6) rfl,_,ld (h.le _ _ (l35 _ _ (l3 _ _ q1))) rfl,λk2=>⟨_,rfl,ac (h.le _ _ (l35 _ _ (l3 _ _ q1))),_,ld (h.le _ _ q6) rfl,?_⟩,λk2=> ?_⟩,λk1=> ?_⟩,λhff=> ?_⟩
    ·refine h.runv (jD (hg0.le (aa l3 l35)) (h1.le l35) hxl RV (λt=>decide (t.cls=0)) λt c F1 _ hc=>kF hc) λG10 F10 l10 h=>⟨_,rfl,?_⟩;refine j2 _ _ _ _ _ _ _ G10 F10 (aa l35 l10) h ?_;rw [δ];constructor
     ·rintro ⟨ha,e1,e2,e3,_,e5,_⟩;exact ⟨hF.1 hft,.inr (.inl ⟨hk,⟨k1,by omega,ha⟩,e1,e2,e3,e5⟩)⟩
     ·intro hok;rcases hok.2 with h'|h'|h'
      ·omega
      ·exact ⟨h'.2.1.2.2,h'.2.2.1,h'.2.2.2.1,h'.2.2.2.2.1,rfl,h'.2.2.2.2.2,rfl⟩
      ·omega
    ·exact j2 _ _ _ _ _ _ _ G5 F11 l35 h ⟨λh=>(by cases h.1),λhok=>absurd hok (bad' λh=>k2 (by omega))⟩
    ·exact j2 _ _ _ _ _ _ _ G5 F11 l35 h ⟨λh=>(by cases h.1),λhok=>absurd hok (bad' λh=>k1 h.1)⟩
    ·exact j2 _ _ _ _ _ _ _ G5 F11 l35 h ⟨λh=>(by cases h.1),λhok=>by rw [hF.2 hok.1] at hff;cases hff⟩
   ·refine h.set0 (w':=rH 0 x.par x.pos x.ch x.left 0 tt Z3 0) (by simp) rfl λF10 h=> ?_;refine h.set0 (w':=rH 0 x.par x.pos x.ch x.left 0 Z3 Z3 0) (by simp) rfl λF11 h=> ?_;have bad':¬(gi g (λt=> !decide (t.lit=emp)) x.ZI/\0<=x.tok/\∃t,g.ZI[x.tok.toNat]? =ZO t/\t.cls=0/\t.lit=emp)->¬ce g x:=λhn hok=>by
     rcases hok.2 with h'|h'|h'
     ·omega
     ·omega
     ·exact hn h'.2.1
    have j5f:∀G10 F10,G3.le G10->St G10 F10 [pt b8 (ZP (rH 0 x.par x.pos x.ch x.left 0 Z3 Z3 0) 156)]->¬ce g x->kU N b1 b6 b8 f (k:Int) ZQ (λr F'=>r=vi (if ∀x∈g.fils,ce g x then 0 else 53)/\F.le F') F10:=λG10 F10 l10 h hn=>by unfold kU;exact ⟨λh=>(by cases h),λ_=>j2 _ _ _ _ _ _ _ G10 F10 l10 h ⟨λh=>(by cases h.1),λhok=>absurd hok hn⟩⟩
    refine ⟨λhft=>⟨_,rfl,ac (h.le _ _ (l35 _ _ (l3 _ _ q1))),_,ld (h.le _ _ q6) rfl,?_⟩,λhff=>j5f G5 F11 l35 h λhok=>by rw [hF.2 hok.1] at hff;cases hff⟩;refine h.runv (jD (hg0.le (aa l3 l35)) (h1.le l35) hxl RW (λt=> !decide (t.lit=emp)) λt c F1 _ hc=>kG hc) λG10 F10 l10 h=>⟨_,rfl,λha=> ?_,λha=>j5f G10 F10 (aa l35 l10) h (bad' λh=>η ha h.1)⟩;have ha:=ε ha;have l35:=aa l35 l10;have q6:=l10 _ _ q6;have p1:=l35 _ _ (l3 _ _ q1);refine ⟨_,ld (h.le _ _ q6) rfl,λk1=>⟨_,ld (h.le _ _ q6) rfl,_,ld (h.le _ _ p1) rfl,?_⟩,λk1=>j5f G10 F10 l35 h (bad' λh=>k1 h.2.1)⟩;by_cases k2:x.tok<(t.len:Int)
    ·dsimp only;rw [decide_eq_true k2];unfold kU;refine ⟨λ_=>⟨_,ld (h.le _ _ p1) rfl,_,ld (h.le _ _ q6) rfl,h.ix (hs.t.le (aa l3 l35)) (by decide) k1 k2 λa cc y hy hr hc=>⟨cc,Mem.len hc,hr,?_⟩⟩,λh=>(by cases h)⟩;refine h.runv (kF hc) λG11 F11 l11 h=>⟨_,rfl,λk3=>⟨_,ld (h.le _ _ (l11 _ _ p1)) rfl,_,ld (h.le _ _ (l11 _ _ q6)) rfl,h.ix (hs.t.le (aa l3 (aa l35 l11))) (by decide) k1 k2 λa cc z hz hr hc=>⟨cc,Mem.len hc,hr,?_⟩⟩,λk3=> ?_⟩
     ·rw [hy] at hz;cases hz;refine h.runv (kG hc) λG12 F12 l12 h=>⟨_,rfl,?_⟩;refine j2 _ _ _ _ _ _ _ G12 F12 (aa l35 (aa l11 l12)) h ?_;rw [Bool.not_not,δ];constructor
      ·rintro ⟨hlit,e1,e2,e3,e4,_⟩;exact ⟨hF.1 hft,.inr (.inr ⟨k5,⟨ha,k1,y,hy,ε k3,hlit⟩,e1,e2,e3,e4⟩)⟩
      ·intro hok;rcases hok.2 with h'|h'|h'
       ·omega
       ·omega
       ·obtain ⟨_,_,u,hu,_,hul⟩:=h'.2.1;rw [hy] at hu;cases hu;exact ⟨hul,h'.2.2.1,h'.2.2.2.1,h'.2.2.2.2.1,h'.2.2.2.2.2,rfl,rfl⟩
     ·refine j2 _ _ _ _ _ _ _ G11 F11 (aa l35 l11) h ⟨λh=>(by cases h.1),λhok=>absurd hok (bad' λh=> ?_)⟩;obtain ⟨_,_,u,hu,hul,_⟩:=h;rw [hy] at hu;cases hu;exact η k3 hul
    ·dsimp only;rw [decide_eq_false k2];refine j5f G10 F10 l35 h (bad' λh=> ?_);obtain ⟨_,_,u,hu,_,_⟩:=h;have:=(XN.1 hu).1;omega
   ·refine j2 _ _ _ _ _ _ _ G5 F9 l35 h ⟨λh=>(by cases h.1),λhok=> ?_⟩;have:¬(x.k=3\/x.k=4):=λh=>by rw [hb.2 h] at hbf;cases hbf
    rcases hok.2 with h'|h'|h'<;>omega
  have j3:∀(b:Bool),(b=ZT↔x.k=1\/x.k=2)->vU N b1 b6 fit b8 f (k:Int) x.k b (λr F'=>r=vi (if ∀x∈g.fils,ce g x then 0 else 53)/\F.le F') F9:=λb hb=>by
   unfold vU;refine ⟨λhbt=> ?_,λhbf=> ?_⟩
   ·have hk:=hb.1 hbt;refine h.set0 (w':=rH 0 0 x.pos x.ch x.left x.tok tt Z3 0) (by simp) rfl λF10 h=> ?_;refine h.set0 (w':=rH 0 0 0 x.ch x.left x.tok tt Z3 0) (by simp) rfl λF11 h=> ?_;refine h.set0 (w':=rH 0 0 0 0 x.left x.tok tt Z3 0) (by simp) rfl λF12 h=> ?_;refine ⟨λhft=>⟨_,rfl,ac (h.le _ _ (l35 _ _ (l3 _ _ q1))),_,rfl,ac (h.le _ _ q6),?_⟩,λhff=> ?_⟩
    ·refine h.runv (EB (hg0.le (aa l3 l35)) (Mem.le l35 hc0)) λG10 F10 l10 h=>⟨_,rfl,?_⟩;refine j2 _ _ _ _ _ _ _ G10 F10 (aa l35 l10) h ?_;rw [δ];constructor
     ·rintro ⟨ha,_,_,_,e4,e5,e6⟩;exact ⟨hF.1 hft,.inl ⟨hk,ha,e4,e5,nil6.1 e6⟩⟩
     ·intro hok;rcases hok.2 with h'|h'|h'
      ·exact ⟨h'.2.1,rfl,rfl,rfl,h'.2.2.1,h'.2.2.2.1,nil6.2 h'.2.2.2.2⟩
      ·omega
      ·omega
    ·exact j2 _ _ _ _ _ _ _ G5 F12 l35 h ⟨λh=>(by cases h.1),λhok=>by rw [hF.2 hok.1] at hff;cases hff⟩
   ·have hn:¬(x.k=1\/x.k=2):=λh=>by rw [hb.2 h] at hbf;cases hbf
    exact ⟨λe=>j4 _ (by rw [δ];omega) hn,λe=>j4 _ (by rw [δ];omega) hn⟩
  exact ⟨λe=>j3 _ (by rw [δ];omega),λe=>j3 _ (by rw [δ];omega)⟩
 ·have e:k=g.fils.length:=by omega
  subst e;rw [XZ] at hi;unfold GF;exact ⟨by rw [Χ hi],aa l1 (aa l3 h.le)⟩
def Aq (n:Nat) (done:List ο) (t:Tk):Prop:=t.name≠emp/\t.name ∉ done/\0<=t.cls/\t.cls<=2/\iI t.cond n/\(t.lit≠emp->t.smp=emp/\t.pat=[])/\
 (t.lit=emp->fL t.pat=0/\(t.cls=0->t.smp≠emp/\LgL t.pat (bs t.smp))/\(t.cls≠0->t.smp=emp))
def dn (n:Nat) (done:List ο):List Tk->Prop
 |[]=>True
 |t::r=>Aq n done t/\dn n (done++[t.name]) r
open Classical in
theorem nO {F:PH} {v:Γ} {g:Gr} (hT:Tab F) (hg:GV F v g) (hl:bN g=ZQ) (hz:Sz g):ν 90 #[ZU v] F λr F'=>r=vi (if dn g.ZJ.length [] g.ZI then 0 else 51)/\F.le F':=by
 obtain ⟨_,hlt',_⟩:=fb hl;obtain ⟨c,n,t,s,p,lv,f,rfl,hs⟩:=hg;have ec:=hs.c.len;have et:=hs.t.len;refine Wp ?_;unfold Rg;refine fresh λb1 F1 l1 q1 _=> ?_;have hs:=hs.le l1;have hT:=hT.le l1;refine (iE F1).mono ?_;rintro _ F2 ⟨G2,bn,m,rfl,l2,hcn,h⟩;refine ⟨_,rfl,_,ld (h.le _ _ (l2 _ _ q1)) rfl,?_⟩;refine bi (Ac · b1 (yi bn) t _) g.ZI.length (λk F'=>∃G,G2.le G/\St G F' [bJ m ((g.ZI.take k).map Tk.name).reverse]/\(dn g.ZJ.length [] g.ZI↔dn g.ZJ.length ((g.ZI.take k).map Tk.name) (g.ZI.drop k)))
  ⟨G2,al _,h,by simp⟩ ?_
 rintro k F3 N hk ⟨G3,l3,h,hE⟩ next;have l13:=aa l2 l3;unfold Ac;refine ⟨λhlt=> ?_,λhge=> ?_⟩
 ·have hlt:k<g.ZI.length:=by omega
  refine h.ix (hs.t.le l13) (by decide) (by omega) (by omega) λa cc x hx hr hc=> ?_;rw [N5] at hx;have hxm:x∈g.ZI:=XQ hx;have hxz:=hz.t x hxm;rw [bQ hx,dn] at hE;have hst:=Mem.st hc;obtain ⟨pp,nn,rfl,h1,h2⟩:=hc;have epp:=h1.len;refine ⟨x.arr pp nn,rfl,hr,?_⟩;refine h.var hst λb5 G4 F4 l4 q5 h=> ?_;have bad:∀{F'},G3.le F'->¬Aq g.ZJ.length ((g.ZI.take k).map Tk.name) x->(vi 51=vi (if dn g.ZJ.length [] g.ZI then 0 else 51)/\F.le F'):=λ{F'} l hn=>⟨by rw [Υ (λh=>hn (hE.1 h).1)],aa l1 (aa l13 l)⟩;refine ⟨_,ld (h.le _ _ q5) rfl,?_⟩;refine pI h (aK (aa l3 l4) hcn) x.name λG5 F5 l5 h=>⟨_,rfl,λhb=>bad (aa l4 (aa l5 h.le)) λhn=> ?_,λhb=> ?_⟩
  ·rw [ζ ⟨hn.1,hn.2.1⟩] at hb;cases hb
  have hnm:x.name≠emp/\x.name ∉ (g.ZI.take k).map Tk.name:=by simpa using hb
  have l35:=aa l4 l5;have q5:=l5 _ _ q5;refine ⟨_,ld (h.le _ _ q5) rfl,λhb=>bad (aa l35 h.le) λhn=>by have:=hn.2.2.1;omega,λc0=>⟨_,ld (h.le _ _ q5) rfl,λhb=>bad (aa l35 h.le) λhn=>by have:=hn.2.2.2.1;omega,λc2=>⟨#[nn.v,vi x.cond.2],rfl,iM (h.le _ _ q5) rfl,_,ld (h.le _ _ (l35 _ _ (l13 _ _ q1))) rfl,?_⟩⟩⟩;dsimp only;rw [ec];refine h.runv (ib (d:=x.cond) (DV.mk (h2.le l35))) λG6 F6 l6 h=>⟨_,rfl,λhb=>bad (aa l35 (aa l6 h.le)) λhn=> ?_,λhb=> ?_⟩
  ·rw [bG.2 hn.2.2.2.2.1] at hb;cases hb
  have hfit:iI x.cond g.ZJ.length:=bG.1 (by simpa using hb);have l35:=aa l35 l6;have q5:=l6 _ _ q5;have e:(g.ZI.take k).map Tk.name++[x.name]=(g.ZI.take (k+1)).map Tk.name:=by rw [aQ hx,Yd];rfl
  have j2:∀(fine:Bool) G9 F9,G3.le G9->St G9 F9 [bJ m ((g.ZI.take k).map Tk.name++[x.name]).reverse]->(fine=ZT↔Aq g.ZJ.length ((g.ZI.take k).map Tk.name) x)->
    jB N b1 (yi bn) t (k:Int) fine (λr F'=>r=vi (if dn g.ZJ.length [] g.ZI then 0 else 51)/\F.le F') F9:=λfine G9 F9 l9 h hiff=>by
   unfold jB;refine ⟨λhb=>bad (aa l9 h.le) λhn=>(by rw [hiff.2 hn] at hb;cases hb),λhb=> ?_⟩;rw [aC hlt];have hok:=hiff.1 (by simpa using hb);rw [e] at h hE;exact next _ hlt ⟨G9,aa l3 l9,h,hE.trans ⟨λh=>h.2,λh=>⟨hok,h⟩⟩⟩
  refine ⟨_,ld (h.le _ _ q5) rfl,_,ld (h.le _ _ q5) rfl,λhlit=> ?_,λhlit=> ?_⟩
  ·rw [hY] at hlit;have hlit:x.lit≠emp:=by simpa using hlit
   rw [hY];refine ⟨λhsm=>⟨_,ld (h.le _ _ q5) rfl,?_⟩,λhsm=> ?_⟩
   ·have hsm:=ε hsm;refine j2 _ G6 F6 l35 h ?_;rw [δ];constructor
    ·intro h0;exact ⟨hnm.1,hnm.2,by omega,by omega,hfit,λ_=>⟨hsm,X9 (by omega)⟩,λh=>absurd h hlit⟩
    ·intro hok;rw [(hok.2.2.2.2.2.1 hlit).2] at epp;simp at epp;omega
   ·have hsm:=η hsm;exact j2 _ G6 F6 l35 h ⟨λh=>(by cases h),λhok=>absurd (hok.2.2.2.2.2.1 hlit).1 hsm⟩
  ·rw [hY] at hlit;have hlit:x.lit=emp:=by simpa using hlit
   refine ⟨_,ld (h.le _ _ q5) rfl,?_⟩;refine h.runv (oP (RL.nds.1 (h1.le l35))) λG7 F7 l7 h=>⟨_,rfl,λhp=>j2 _ G7 F7 (aa l35 l7) h ⟨λh=>(by cases h),λhok=>absurd (hok.2.2.2.2.2.2 hlit).1 hp⟩,λhp=>⟨_,ld (h.le _ _ (l7 _ _ q5)) rfl,?_⟩⟩;have hp:=Classical.not_not.1 hp;have l35:=aa l35 l7;have q5:=l7 _ _ q5;have mk:((x.cls=0->x.smp≠emp/\LgL x.pat (bs x.smp))/\(x.cls≠0->x.smp=emp))->Aq g.ZJ.length ((g.ZI.take k).map Tk.name) x:=λhm=>⟨hnm.1,hnm.2,by omega,by omega,hfit,λh=>absurd hlit h,λ_=>⟨hp,hm⟩⟩;rw [hY];refine ⟨λhc0=>⟨λhsm=>⟨_,ld (h.le _ _ q5) rfl,_,ld (h.le _ _ q5) rfl,?_⟩,λhsm=> ?_⟩,λhc0=> ?_⟩
   ·have hsm:x.smp≠emp:=by simpa using hsm
    refine (h.call (tU (hT.le (aa l13 l35)) (RL.nds.1 (h1.le l35)) x.smp (by omega))).mono ?_;rintro _ F8 ⟨G8,⟨⟨q,rfl,hq⟩,l8⟩,h⟩;refine ⟨_,rfl,j2 _ G8 F8 (aa l35 l8) h ?_⟩;rw [hq];exact ⟨λhm=>mk ⟨λ_=>⟨hsm,hm.2⟩,λh=>absurd hc0 h⟩,λhok=>⟨hp,((hok.2.2.2.2.2.2 hlit).2.1 hc0).2⟩⟩
   ·have hsm:x.smp=emp:=by simpa using hsm
    exact j2 _ G7 F7 l35 h ⟨λh=>(by cases h),λhok=>absurd hsm ((hok.2.2.2.2.2.2 hlit).2.1 hc0).1⟩
   ·refine j2 _ G7 F7 l35 h ?_;rw [δ];exact ⟨λhm=>mk ⟨λh=>absurd h hc0,λ_=>hm⟩,λhok=>(hok.2.2.2.2.2.2 hlit).2.2 hc0⟩
 ·have e:k=g.ZI.length:=by omega
  subst e;rw [YB,dn] at hE;unfold GA;exact ⟨by rw [Χ (hE.2 trivial)],aa l1 (aa l13 h.le)⟩
open Classical in
def ic (g:Gr):Int:=
 if bN g=ZT then 2 else if ¬gh g then 54 else if ¬dn g.ZJ.length [] g.ZI then 51 else if ¬eZ g then 50 else if cP g [] g.ZG≠0 then cP g [] g.ZG
 else if ¬dg g [] g.lvs then 53 else if ¬∀x∈g.fils,ce g x then 53 else 0
structure OkG (g:Gr):Prop where
 large:bN g=ZQ
 fam:gh g
 ZI:dn g.ZJ.length [] g.ZI
 ZH:eZ g
 ZG:cP g [] g.ZG=0
 lvs:dg g [] g.lvs
 fils:∀x∈g.fils,ce g x
theorem pJ {g:Gr}:ic g=0↔OkG g:=by
 unfold ic;constructor
 ·intro h;split at h
  ·cases h
  ·rename_i h1;split at h
   ·cases h
   ·rename_i h2;split at h
    ·cases h
    ·rename_i h3;split at h
     ·cases h
     ·rename_i h4;split at h
      ·rename_i h5;exact absurd h h5
      ·rename_i h5;split at h
       ·cases h
       ·rename_i h6;split at h
        ·cases h
        ·rename_i h7;exact ⟨by simpa using h1,Classical.not_not.1 h2,Classical.not_not.1 h3,Classical.not_not.1 h4,Classical.not_not.1 h5,Classical.not_not.1 h6,Classical.not_not.1 h7⟩
 ·rintro ⟨h1,h2,h3,h4,h5,h6,h7⟩;rw [Υ (by simp [h1]),Υ (λh=>h h2),Υ (λh=>h h3),Υ (λh=>h h4),Υ (λh=>h h5),Υ (λh=>h h6),Υ (λh=>h h7)]
theorem Ki:aE prog 89=ZT/\aE prog 90=ZT/\aE prog 91=ZT/\aE prog 92=ZT/\aE prog 93=ZT/\aE prog 94=ZT:=by refine ⟨?_,?_,?_,?_,?_,?_⟩<;>kernel_rfl
open Classical in
def ym (g:Gr) (k:Nat):Int:=match k with
 |0=>if gh g then 0 else 54
 |1=>if dn g.ZJ.length [] g.ZI then 0 else 51
 |2=>if eZ g then 0 else 50
 |3=>cP g [] g.ZG
 |4=>if dg g [] g.lvs then 0 else 53
 |_=>if ∀x∈g.fils,ce g x then 0 else 53
def Cg (k:Nat):Nat:=match k with
 |0=>89
 |1=>90
 |2=>91
 |3=>92
 |4=>93
 |_=>94
theorem EC {F:PH} {v:Γ} {g:Gr} (hT:Tab F) (hg:GV F v g) (hl:bN g=ZQ) (hz:Sz g) (k:Nat):aE prog (Cg k)=ZT/\aj prog (Cg k) #[ZU v] F λr F'=>r=vi (ym g k)/\F.le F':=by
 obtain ⟨c1,c2,c3,c4,c5,c6⟩:=Ki;have hb:=fb hl
 match k with
 |0=>exact ⟨c1,nK hg hz hb.1⟩
 |1=>exact ⟨c2,nO hT hg hl hz⟩
 |2=>exact ⟨c3,rC hg hb.2.2.2.1⟩
 |3=>exact ⟨c4,pg hg hl⟩
 |4=>exact ⟨c5,nN hg hl hz⟩
 |n+5=>exact ⟨c6,lR hg hl hz⟩
theorem nz0 {p:Prop} [Decidable p] {a:Int} (ha:a≠0) (h:(if p then 0 else a)=0):p:=by
 by_cases hp:p
 ·exact hp
 ·rw [Υ hp] at h;exact absurd h ha
open Classical in
theorem yn {F:PH} {v:Γ} {g:Gr} (hT:Tab F) (hg:GV F v g) (hz:Sz g):ν 36 #[ZU v] F λr F'=>r=vi (ic g)/\F.le F':=by
 refine Wm ?_;unfold Rd;refine fresh λb1 F1 l1 q1 _=>⟨v,hg.size,ac q1,?_⟩;refine (Al (hg.le l1)).mono ?_;rintro _ F2 ⟨rfl,l2⟩;have l1:=aa l1 l2;have q1:=l2 _ _ q1;refine ⟨_,rfl,λhb=>⟨?_,l1⟩,λhb=> ?_⟩
 ·unfold ic;rw [Χ hb]
 refine fresh λb9 F3 l3 q9 _=> ?_;have l1:=aa l1 l3;have q1:=l3 _ _ q1;have hfin:∀k,k<6->(∀j,j<k->ym g j=0)->ym g k≠0->ic g=ym g k:=λk hk hj hne=>by
  have s0:0<k->gh g:=λh=>nz0 (a:=54) (by decide) (hj 0 h);have s1:1<k->dn g.ZJ.length [] g.ZI:=λh=>nz0 (a:=51) (by decide) (hj 1 h);have s2:2<k->eZ g:=λh=>nz0 (a:=50) (by decide) (hj 2 h);have s3:3<k->cP g [] g.ZG=0:=λh=>hj 3 h;have s4:4<k->dg g [] g.lvs:=λh=>nz0 (a:=53) (by decide) (hj 4 h);unfold ic;rw [Υ (by simp [hb])]
  match k,hk with
  |0,_=>have hn:¬gh g:=λh=>hne (Χ h);rw [Χ hn];exact (Υ hn).symm
  |1,_=>have hn:¬dn g.ZJ.length [] g.ZI:=λh=>hne (Χ h);rw [Υ (λh=>h (s0 (by decide))),Χ hn];exact (Υ hn).symm
  |2,_=>have hn:¬eZ g:=λh=>hne (Χ h);rw [Υ (λh=>h (s0 (by decide))),Υ (λh=>h (s1 (by decide))),Χ hn];exact (Υ hn).symm
  |3,_=>rw [Υ (λh=>h (s0 (by decide))),Υ (λh=>h (s1 (by decide))),Υ (λh=>h (s2 (by decide))),Χ (show cP g [] g.ZG≠0 from hne)];rfl
  |4,_=>have hn:¬dg g [] g.lvs:=λh=>hne (Χ h);rw [Υ (λh=>h (s0 (by decide))),Υ (λh=>h (s1 (by decide))),Υ (λh=>h (s2 (by decide))),Υ (λh=>h (s3 (by decide))),Χ hn];exact (Υ hn).symm
  |5,_=>have hn:¬∀x∈g.fils,ce g x:=λh=>hne (Χ h);rw [Υ (λh=>h (s0 (by decide))),Υ (λh=>h (s1 (by decide))),Υ (λh=>h (s2 (by decide))),Υ (λh=>h (s3 (by decide))),Υ (λh=>h (s4 (by decide))),Χ hn];exact (Υ hn).symm
 refine bi (Aa · b1 b9 _) 6 (λk F'=>F3.le F'/\∀j,j<k->ym g j=0) ⟨al _,λj h=>by omega⟩ ?_;rintro k F4 N hk ⟨l4,hi⟩ next;unfold Aa;refine ⟨λhlt=> ?_,λhge=> ?_⟩
 ·have hlt:k<6:=by simp only at hlt;omega
  refine ⟨_,rfl,by omega,by simp only;omega,.func (.func (Cg k)) #[] #[],?_,v,hg.size,ac (l4 _ _ q1),Cg k,#[],#[],rfl,?_⟩
  ·rw [N5,aG,av (l4 _ _ q9)]
   match k,hlt with
   |0,_=>rfl
   |1,_=>rfl
   |2,_=>rfl
   |3,_=>rfl
   |4,_=>rfl
   |5,_=>rfl
  ·obtain ⟨h1,h2⟩:=EC (hT.le (aa l1 l4)) (hg.le (aa l1 l4)) hb hz k;refine ⟨h1,?_⟩;have e:(#[]:Γ)++[ZU v].toArray++ #[]= #[ZU v]:=by simp
   dsimp only;rw [e];refine h2.mono ?_;rintro _ F5 ⟨rfl,l5⟩;refine ⟨_,rfl,λhne=>⟨by rw [hfin k hlt hi hne],aa l1 (aa l4 l5)⟩,λhz0=> ?_⟩;rw [aC hlt];refine next _ hlt ⟨aa l4 l5,λj hj=> ?_⟩;by_cases e:j=k
   ·rw [e];exact Classical.not_not.1 hz0
   ·exact hi j (by omega)
 ·have e:k=6:=by simp only at hge;omega
  subst e;unfold Gy;refine ⟨?_,aa l1 l4⟩;rw [pJ.2 ⟨hb,nz0 (a:=54) (by decide) (hi 0 (by decide)),nz0 (a:=51) (by decide) (hi 1 (by decide)),nz0 (a:=50) (by decide) (hi 2 (by decide)),hi 3 (by decide),nz0 (a:=53) (by decide) (hi 4 (by decide)),nz0 (a:=53) (by decide) (hi 5 (by decide))⟩]
section
end
section
end
structure Sm (g:Gr):Prop where
 c:g.ZJ.length<=1000000000
 n:g.fam.1.length<=1000000000
 t:g.ZI.length<=1000000000
 s:g.ZH.length<=1000000000
 p:g.ZG.length<=1000000000
 l:g.lvs.length<=1000000000
 f:g.fils.length<=1000000000
 ti:∀x∈g.ZI,x.pat.length<=1000000000/\x.cond.1.length<=1000000000
 pi:∀x∈g.ZG,x.right.length<=1000000000/\x.cond.1.length<=1000000000/\x.lay.length<=1000000000
 li:∀x∈g.lvs,x.ps.length<=1000000000/\x.cond.1.length<=1000000000
 fi:∀x∈g.fils,x.ZI.length<=1000000000/\x.cond.1.length<=1000000000
structure SlT (t e:TypeId) (n bytes:Nat) (z:Value):Prop where
 ht:prog.underlying t=ZO (.slice e)
 hsz:tsz prog e=ZO (n,bytes)
 hz:bP prog e=ZO z
 hzs:z.cells.size=n
 hn:0<n
 hb:bytes<=250
theorem GH {n m b:Nat} (hb:b<=250) (h:n+m<=500000000000):(n+m)*b<=140737488355328:=
 YQ (Nat.mul_le_mul h hb) (by decide)
theorem St.appAt {G F:PH} {As:List (Ψ)} {t e n bytes:Nat} {z:ξ} (T:SlT t e n bytes z) {s x:Sl} {olds news:Ξ} {ty:TypeId} (h:St G F As) (i:Nat) (hi:As[i]? =ZO (own s e n olds)) (hx:RdS F x n news) (hst:∀v∈news,am v)
  (hlen:s.len+x.len<=500000000000) {K:Sl->Ψ} (k:∀s' F',St G F' (As.set i (own s' e n (olds++news)))->s'.len=s.len+x.len->K s' F'):
  aH prog (Builtin.append_ #[t,t] ty #[s.v,x.v]) F λv F=>∃s':Sl,v=ZS s'/\K s' F:=by
 obtain ⟨H,a1,a2,a3,a4⟩:=h.set (A':=own s e n olds) hi;have ho:=(h.ownAt hi).1;by_cases h0:x.len=0
 ·have hnil:news=[]:=X9 (by rw [hx.len,h0,Y0]);subst hnil;refine oW T.ht T.hsz T.hz T.hzs ho hx h0 (by have:=GH (n:=s.len) (m:=0) T.hb (by omega);simpa using this) (by omega) ⟨s,rfl,k s F ?_ (by omega)⟩;rw [Ys];exact a4 H F a1 (λb hb=> .inl hb) a3 (λb o hb _=>hb)
 ·refine tj T.ht T.hsz T.hz T.hzs T.hn ho hx (by omega) hst (GH T.hb hlen) (by omega) ?_;rintro s' F' b ob rfl ho' hl' hbase hb;obtain ⟨H,a1,a2,a3,a4⟩:=h.set (A':=own s' e n (olds++news)) hi;have hb':H b≠ZR\/F b=ZR:=by
   rcases hb with ⟨a,ha,rfl⟩|hb
   ·obtain ⟨cur,hc⟩:=bX.elem a1 ha;exact .inl (by rw [hc];simp)
   ·exact .inr hb
  refine ⟨s',rfl,k s' _ ?_ hl'⟩;refine a4 (PH.set (λ_=>ZR) b ob) _ (ho'.keep λa ha=>by rw [hbase a ha,au,au]) (λx hx=> ?_) (λx p hx=> ?_) (λx p hx hn=> ?_)
  ·by_cases e:x=b
   ·rw [e];exact hb'
   ·rw [aB _ _ e] at hx;exact absurd rfl hx
  ·by_cases e:x=b
   ·rw [e,au] at hx ⊢;exact hx
   ·rw [aB _ _ e] at hx;cases hx
  ·have e:x≠b:=λe=>by
    subst e;rcases hb' with h|h
    ·exact h hn
    ·rw [h] at hx;cases hx
   rw [aB _ _ e];exact hx
namespace St
section
variable {G F:PH} {As:List (Ψ)} {t e n bytes:Nat} {z:ξ}
theorem pinOwn {s:Sl} {vs:Ξ} (h:St G F (own s e n vs::As)) {K:Ψ} (k:∀G',G.le G'->RdS G' s n vs->St G' F As->K F):K F:=by obtain ⟨G',h1,⟨H,hA,hH⟩,h2⟩:=h.pin;exact k G' h1 ((bX.rd hA).le hH) h2
theorem app0 (T:SlT t e n bytes z) {s x:Sl} {olds news:Ξ} {ty:TypeId} (h:St G F (own s e n olds::As)) (hx:RdS F x n news) (hst:∀v∈news,am v) (hlen:s.len+x.len<=500000000000) {K:Sl->Ψ}
  (k:∀s' F',St G F' (own s' e n (olds++news)::As)->s'.len=s.len+x.len->K s' F'):
  aH prog (Builtin.append_ #[t,t] ty #[s.v,x.v]) F λv F=>∃s':Sl,v=ZS s'/\K s' F:=h.appAt T 0 rfl hx hst hlen k
theorem push0 (T:SlT t e n bytes z) {s:Sl} {olds:Ξ} {c:Γ} {ty:TypeId} (h:St G F (own s e n olds::As)) (hc:c.size=n) (hst:∀v∈c.toList,am v) (hlen:s.len<=400000000000) {K:Sl->Ψ}
  (k:∀s' G' F',G.le G'->St G' F' (own s' e n (olds++c.toList)::As)->s'.len=s.len+1->K s' F'):
  ∀b,F b=ZR->atF (F.set b (ZP c e)) λF=>aH prog (Builtin.append_ #[t,t] ty #[s.v,ZS (Z4 (ZO (ZX b 0 ZR)) 1 1)]) F λv F=>∃s':Sl,v=ZS s'/\K s' F:=by
 refine h.newG λb G' F' l q _ h=> ?_;have hx:RdS F' (Z4 (ZO (ZX b 0 ZR)) 1 1) n c.toList:=RdS.new (h.le _ _ q) (XY (by rw [XU,hc,Zk];exact XS _)) (by rw [XU,hc,Zk]) (XS _);exact h.app0 T hx hst (by show s.len+1<=_;omega) λs' F'' h' hl'=>k s' G' F'' l h' hl'
theorem app1 {p0:Ψ} (T:SlT t e n bytes z) {s x:Sl} {olds news:Ξ} {ty:TypeId} (h:St G F (p0::own s e n olds::As)) (hx:RdS F x n news) (hst:∀v∈news,am v) (hlen:s.len+x.len<=500000000000) {K:Sl->Ψ}
  (k:∀s' F',St G F' (p0::own s' e n (olds++news)::As)->s'.len=s.len+x.len->K s' F'):
  aH prog (Builtin.append_ #[t,t] ty #[s.v,x.v]) F λv F=>∃s':Sl,v=ZS s'/\K s' F:=h.appAt T 1 rfl hx hst hlen k
theorem push1 {p0:Ψ} (T:SlT t e n bytes z) {s:Sl} {olds:Ξ} {c:Γ} {ty:TypeId} (h:St G F (p0::own s e n olds::As)) (hc:c.size=n) (hst:∀v∈c.toList,am v) (hlen:s.len<=400000000000) {K:Sl->Ψ}
  (k:∀s' G' F',G.le G'->St G' F' (p0::own s' e n (olds++c.toList)::As)->s'.len=s.len+1->K s' F'):
  ∀b,F b=ZR->atF (F.set b (ZP c e)) λF=>aH prog (Builtin.append_ #[t,t] ty #[s.v,ZS (Z4 (ZO (ZX b 0 ZR)) 1 1)]) F λv F=>∃s':Sl,v=ZS s'/\K s' F:=by
 refine h.newG λb G' F' l q _ h=> ?_;have hx:RdS F' (Z4 (ZO (ZX b 0 ZR)) 1 1) n c.toList:=RdS.new (h.le _ _ q) (XY (by rw [XU,hc,Zk];exact XS _)) (by rw [XU,hc,Zk]) (XS _);exact h.app1 T hx hst (by show s.len+1<=_;omega) λs' F'' h' hl'=>k s' G' F'' l h' hl'
theorem app2 {p0 p1:Ψ} (T:SlT t e n bytes z) {s x:Sl} {olds news:Ξ} {ty:TypeId} (h:St G F (p0::p1::own s e n olds::As)) (hx:RdS F x n news) (hst:∀v∈news,am v) (hlen:s.len+x.len<=500000000000) {K:Sl->Ψ}
  (k:∀s' F',St G F' (p0::p1::own s' e n (olds++news)::As)->s'.len=s.len+x.len->K s' F'):
  aH prog (Builtin.append_ #[t,t] ty #[s.v,x.v]) F λv F=>∃s':Sl,v=ZS s'/\K s' F:=h.appAt T 2 rfl hx hst hlen k
theorem push2 {p0 p1:Ψ} (T:SlT t e n bytes z) {s:Sl} {olds:Ξ} {c:Γ} {ty:TypeId} (h:St G F (p0::p1::own s e n olds::As)) (hc:c.size=n) (hst:∀v∈c.toList,am v) (hlen:s.len<=400000000000) {K:Sl->Ψ}
  (k:∀s' G' F',G.le G'->St G' F' (p0::p1::own s' e n (olds++c.toList)::As)->s'.len=s.len+1->K s' F'):
  ∀b,F b=ZR->atF (F.set b (ZP c e)) λF=>aH prog (Builtin.append_ #[t,t] ty #[s.v,ZS (Z4 (ZO (ZX b 0 ZR)) 1 1)]) F λv F=>∃s':Sl,v=ZS s'/\K s' F:=by
 refine h.newG λb G' F' l q _ h=> ?_;have hx:RdS F' (Z4 (ZO (ZX b 0 ZR)) 1 1) n c.toList:=RdS.new (h.le _ _ q) (XY (by rw [XU,hc,Zk];exact XS _)) (by rw [XU,hc,Zk]) (XS _);exact h.app2 T hx hst (by show s.len+1<=_;omega) λs' F'' h' hl'=>k s' G' F'' l h' hl'
end
end St
section
end
theorem RX:SlT 28 9 1 16 (.string ⟨#[]⟩):=⟨underlying28,sz9,zr9,rfl,by decide,by decide⟩
theorem RY:SlT 67 3 1 8 (.int .i64 0):=⟨underlying67,sz3,zr3,rfl,by decide,by decide⟩
theorem Ww:∃b z,SlT 50 63 2 b z:=⟨_,_,underlying50,U9,Vd,rfl,by decide,by decide⟩
theorem RZ:∃b z,SlT 32 146 7 b z:=⟨_,_,underlying32,Va,Ve,rfl,by decide,by decide⟩
theorem OU:∃b z,SlT 33 55 13 b z:=⟨_,_,underlying33,U8,Vc,rfl,by decide,by decide⟩
theorem Wx:∃b z,SlT 34 69 4 b z:=⟨_,_,underlying34,Xk,Xm,rfl,by decide,by decide⟩
theorem Wy:∃b z,SlT 35 156 9 b z:=⟨_,_,underlying35,Vb,Vf,rfl,by decide,by decide⟩
section
end
end
open Tr
section
section
end
instance (t:Tr):Decidable (t=ZL ZQ):=match t with
 |ZL ZT=>isFalse (by simp)
 |ZL ZQ=>isTrue rfl
 |ZM _ _ _=>isFalse (by simp)
theorem ED {d:Dia} {n:Nat} (h:iI d n):∃t:Tr,t.ok/\d=dia t/\tre d=t/\(bo t).length<=4096/\eK n t:=by
 obtain ⟨h1,h2⟩:=h;unfold chk at h1;split at h1
 ·cases h1
 ·rename_i hl;split at h1
  ·rename_i hv;obtain ⟨t,ht,rfl⟩:=hv;refine ⟨t,ht,rfl,iK ht,by simpa [dia,aP] using hl,?_⟩;refine sG (bI ht) (λx hx=> ?_) t (bY ht);obtain ⟨_,v,l,r,rfl,_,_⟩:=(bI ht).mem x hx;have:=h2 (br (bo t) (ZM v l r)) (X1.2 ⟨_,hx,rfl⟩);simp only [br] at this;simp only [top];omega
  ·cases h1
abbrev vB (n:Nat):Value:=Z0 .u8 (n:Int)
theorem EE (a:Addr) (i j:Nat):ZW (ZW a i) j=ZW a (i+j):=by
 unfold ZW;by_cases hi:i=0
 ·simp [hi]
 ·by_cases hj:j=0
  ·simp [hj]
  ·simp [hi,hj,Nat.add_assoc]
theorem Ch {F:PH} {a:Addr} {c d:Γ} {o:Nat} (h:F.row a c) (hd:(c.toList.drop o).take d.size=d.toList):F.row (a.add o) d:=by intro i hi;rw [EE];have:=congrArg (λl=>l[i]?) hd;simp only [Yp hi,Zn,Y5] at this;exact aZ h (this.trans (by simp [hi]))
section
variable {G:PH} {bc:Nat}
end
theorem St.pinO {G F:PH} {As:List (Ψ)} {e n:Nat} {s:Sl} {vs:Ξ} (h:St G F (own s e n vs::As)):∃G',G.le G'/\RdS G' s n vs/\St G' F As:=by obtain ⟨G',h1,⟨H,hA,hH⟩,h2⟩:=h.pin;exact ⟨G',h1,(bX.rd hA).le hH,h2⟩
section
end
variable {R:VR} {F:PH}
set_option maxHeartbeats 4000000
def rI (b c:Nat) (R:VR) (F:PH):Prop:=Lr F 9 (Am c 0) λa=>aw F (Am b 0) 9 a λF=>Rr 9 (Am b 0) R F
def Ar (k:Ω) (i j h:Nat) (R:VR) (a:Int) (F:PH):Prop:=Ls F (Am i 4) λc=>Bc (a<(c.len:Int)) (Bc (a<6) (Lr F 9 (Am h 0) λd=>Ls F (Am i 4) λb=>Ix b a λe=>Lr F 5 (ZW e (ZY a*5)) λf=>Ca 84 #[ZU d,ZU f] F λg F=>F.cell (Am i 4)=ZO (ZS b)/\aw F (Am h 0) 9 g λF=>k (i64.wrap (a+1)) F) (rI j h R F)) (rI j h R F)
def rJ (b c d:Nat) (R:VR) (F:PH):Prop:=Lp 0 F λN a F=>Ar N b c d R a F
def At (m:Ω) (d l:Nat) (e:Int) (k:Nat) (b:Int) (R:VR) (a:Int) (F:PH):Prop:=Ls F (Am d 3) λf=>Bc (a<(f.len:Int)) (Bc (a<b) (Lr F 9 (Am k 0) λg=>Ls F (Am d 3) λc=>Ix c a λh=>Lr F 4 (ZW h (ZY a*4)) λi=>Ca 83 #[ZU g,ZU i,ZV (decide ((Z5 e 8)<6))] F λj F=>F.cell (Am d 3)=ZO (ZS c)/\aw F (Am k 0) 9 j λF=>m (i64.wrap (a+1)) F) (rJ d l k R F)) (rJ d l k R F)
def wa (d e:Nat) (b:Int) (f:Nat) (a:Int) (R:VR) (F:PH):Prop:=Lp 0 F λN c F=>At N d e b f a R c F
def rK (f g:Nat) (b:Int) (e:Nat) (a:Int) (h:Nat) (c:Bool) (R:VR) (F:PH):Prop:=Bb (c) (Lr F 2 (Am h 0) λd=>aw F (Am e 1) 2 d λF=>wa f g b e a R F) (wa f g b e a R F)
def wb (h k:Nat) (b:Int) (j:Nat) (a:Int) (R:VR) (F:PH):Prop:=Ls F (Am h 2) λc=>Ls F (Am j 0) λd=>Ca 82 #[ZS c,(vi (d.len:Int))] F λe F=>Nb F (ZP zD 31) λi F=>aw F (Am i 0) 2 e λF=>Ls F (Am h 2) λf=>Bc ((0:Int)<(f.len:Int)) (Li F (Am i 1) λg=>rK h k b j a i (decide (g≠0)) R F) (rK h k b j a i ZQ R F)
def R0 (o:Γ) (R:VR) (F:PH):Prop:=Nb F (ZP o 26) λj F=>Nb F (ZP zG 37) λr F=>Lk F .u8 (Am j 0) λc=>Lk F .u8 (Am j 0) λk=>Ca 80 #[Z0 .u8 (Z5 k 8)] F λl F=>Nb F (ZP zG 37) λe F=>aw F (Am e 0) 9 l λF=>Bc (¬((Z5 c 8)<6)) (Nb F (ZP #[Z1 ⟨#[83]⟩,Z1 ⟨#[80]⟩,Z1 ⟨#[81]⟩] 9) λh F=>Lk F .u8 (Am j 1) λa=>0<=(i64.wrap (1+(Z5 (i64.wrap (u8.wrap (Int.tdiv a 4))) 3)))/\0<=(ZY (i64.wrap (1+(Z5 (i64.wrap (u8.wrap (Int.tdiv a 4))) 3))))/\(ZY (i64.wrap (1+(Z5 (i64.wrap (u8.wrap (Int.tdiv a 4))) 3))))<=(Sb h 3).cap/\Ca 46 #[ZS (Sl.cut (Sb h 3) 1 0 (ZY (i64.wrap (1+(Z5 (i64.wrap (u8.wrap (Int.tdiv a 4))) 3)))) (Sb h 3).cap)] F λm F=>aw F (Am e 0) 9 m λF=>Nb F (ZP #[Z1 ⟨#[65]⟩,Z1 ⟨#[66]⟩,Z1 ⟨#[67]⟩] 9) λi F=>Lk F .u8 (Am j 1) λb=>0<=(i64.wrap (Z5 b 4))/\0<=(ZY (i64.wrap (Z5 b 4)))/\(ZY (i64.wrap (Z5 b 4)))<=(Sb i 3).cap/\sto F (Am e 0) (ZS (Sl.cut (Sb i 3) 1 0 (ZY (i64.wrap (Z5 b 4))) (Sb i 3).cap)) λF=>Ls F (Am e 5) λd=>Ca 48 #[(vi 0)] F λf F=>F.cell (Am e 5)=ZO (ZS d)/\f.size=2/\Nb F (ZP f 63) λp F=>Ca 81 #[Z1 ⟨#[102,105,114,115,116]⟩,(vi 0),ZS (Sb p 1)] F λg F=>F.cell (Am e 5)=ZO (ZS d)/\g.size=13/\Nb F (ZP g 55) λq F=>Ap 33 #[ZS d,ZS (Sb q 1)] F λn F=>sto F (Am e 5) (ZS n) λF=>wb j r c e 10 R F) (wb j r c e 6 R F)
theorem Wz {a:Γ} (h:R0 a R F):ν 32 #[ZU a] F R:=Rx.Λ (.ZN (.ZN (.ZN (.ZN (.J ZQ [(5,.int .i64)] .N (.ZN (.J ZQ [] (.J ZQ [(57,.bool)] .N .N) (.J ZQ [] (.ZN (.L [(7,.int .i64)] .N)) (.J ZQ [] (.ZN (.L [(8,.int .i64)] .N)) .N))))))))) h
def wc (a c:Int) (b:Nat) (d:Bool) (R:VR) (F:PH):Prop:=Bb (d) (Ca 34 #[ZV ZT] F λe F=>aw F (Am b 0) 2 e λF=>Rr 2 (Am b 0) R F) (c≠0/\Ca 85 #[(vi (Z5 (i64.wrap (u8.wrap (Int.tdiv a 6))) c))] F λf F=>Nb F (ZP zD 31) λk F=>aw F (Am k 0) 2 f λF=>Bc ((Z5 a 6)=3) (Lr F 2 (Am k 0) λg=>aw F (Am b 0) 2 g λF=>Rr 2 (Am b 0) R F) (Bc ((Z5 a 6)=4) (Lr F 2 (Am k 0) λh=>Ca 86 #[ZU h] F λi F=>aw F (Am b 0) 2 i λF=>Rr 2 (Am b 0) R F) (Nb F (ZP #[Z0 .u8 a] 5) λl F=>Ca 82 #[ZS (Sb l 1),(vi c)] F λj F=>aw F (Am b 0) 2 j λF=>Rr 2 (Am b 0) R F)))
def R1 (a b:Int) (R:VR) (F:PH):Prop:=Nb F (ZP zD 31) λc F=>Bc (b=0) (wc a b c ZT R F) (wc a b c (decide ((Z5 a 6)<3)) R F)
theorem WA {a:Int} {b:Int} (h:R1 a b R F):ν 33 #[Z0 .u8 a,(vi b)] F R:=Rx.Λ (.ZN (.T (.J ZQ [(12,.bool)] .N .N) .N)) h
def R3 (a:Sl) (R:VR) (F:PH):Prop:=Nb F (ZP zG 37) λe F=>Ca 34 #[ZV ZT] F λg F=>Nb F (ZP zD 31) λf F=>aw F (Am f 0) 2 g λF=>Lr F 2 (Am f 0) λb=>((Nb F (ZP #[Z1 ⟨#[65]⟩,Z1 ⟨#[66]⟩] 9) λi F=>Cs 111 #[] F λh F=>F.row (Am f 0) b/\b.size=2/\aw F (Am e 0) 9 (Z6 (Z6 (wr (Z6 zG 0 (ZS (Sb i 2))) 1 b.toList) 3 (ZS h)) 4 (ZS a)) λF=>Rr 9 (Am e 0) R F)/\(Cs 111 #[] F λc F=>F.row (Am f 0) b/\Nb F (ZP #[Z1 ⟨#[65]⟩,Z1 ⟨#[66]⟩] 9) λd F=>b.size=2/\aw F (Am e 0) 9 (Z6 (Z6 (wr (Z6 zG 0 (ZS (Sb d 2))) 1 b.toList) 3 (ZS c)) 4 (ZS a)) λF=>Rr 9 (Am e 0) R F))
theorem WB {a:Sl} (h:R3 a R F):ν 46 #[ZS a] F R:=Rx.Λ .N h
def R7 (a:Int) (R:VR) (F:PH):Prop:=Nb F (ZP (#[ZV ZQ,vi 0]) 63) λb F=>aw F (Am b 0) 2 (#[ZV ZT,(vi a)]:Γ) λF=>Rr 2 (Am b 0) R F
theorem WC {a:Int} (h:R7 a R F):ν 48 #[(vi a)] F R:=Rx.Λ .N h
def R8 (a:Int) (R:VR) (F:PH):Prop:=Nb F (ZP (#[ZV ZQ,vi 0]) 63) λb F=>aw F (Am b 0) 2 (#[ZV ZQ,(vi a)]:Γ) λF=>Rr 2 (Am b 0) R F
theorem WD {a:Int} (h:R8 a R F):ν 49 #[(vi a)] F R:=Rx.Λ .N h
def R9 (k:Γ) (R:VR) (F:PH):Prop:=Nb F (ZP k 37) λb F=>Lr F 9 (Am b 0) λl=>Cbo 114 #[ZU l] F λm F=>Bb (m) (R (vi 2) F) (Lr F 9 (Am b 0) λn=>Cbo 115 #[ZU n] F λo F=>Bb ((!o)) (R (vi 54) F) (Lr F 9 (Am b 0) λp=>Cbo 116 #[ZU p] F λc F=>Bb ((!c)) (R (vi 51) F) (Lr F 9 (Am b 0) λd=>Cbo 117 #[ZU d] F λe F=>Bb ((!e)) (R (vi 50) F) (Lr F 9 (Am b 0) λf=>Ci 118 #[ZU f] F λa F=>Bc (a≠0) (R (vi a) F) (Lr F 9 (Am b 0) λg=>Cbo 119 #[ZU g] F λh F=>Bb ((!h)) (R (vi 53) F) (Lr F 9 (Am b 0) λi=>Cbo 120 #[ZU i] F λj F=>Bb ((!j)) (R (vi 53) F) (R (vi 0) F)))))))
theorem WE {a:Γ} (h:R9 a R F):ν 55 #[ZU a] F R:=Rx.Λ .N h
def Sa (b:Int) (R:VR) (F:PH):Prop:=Nb F (ZP zG 37) λa F=>Bc ((Z5 b 6)=0) (Ca 129 #[] F λh F=>aw F (Am a 0) 9 h λF=>Rr 9 (Am a 0) R F) (Bc ((Z5 b 6)=1) (Ca 130 #[] F λc F=>aw F (Am a 0) 9 c λF=>Rr 9 (Am a 0) R F) (Bc ((Z5 b 6)=2) (Ca 131 #[] F λd F=>aw F (Am a 0) 9 d λF=>Rr 9 (Am a 0) R F) (Bc ((Z5 b 6)=3) (Ca 132 #[] F λe F=>aw F (Am a 0) 9 e λF=>Rr 9 (Am a 0) R F) (Bc ((Z5 b 6)=4) (Ca 133 #[] F λf F=>aw F (Am a 0) 9 f λF=>Rr 9 (Am a 0) R F) (Ca 134 #[] F λg F=>aw F (Am a 0) 9 g λF=>Rr 9 (Am a 0) R F)))))
theorem WF {a:Int} (h:Sa a R F):ν 80 #[Z0 .u8 a] F R:=Rx.Λ .N h
def OV (b:ο) (c:Int) (a:Sl) (R:VR) (F:PH):Prop:=Nb F (ZP zP 55) λe F=>Ca 34 #[ZV ZT] F λd F=>d.size=2/\aw F (Am e 0) 13 (wr (Z6 (Z6 (Z6 zP 0 (Z1 b)) 1 (vi c)) 2 (ZS a)) 3 d.toList) λF=>Rr 13 (Am e 0) R F
theorem Sc {b:ο} {c:Int} {a:Sl} (h:OV b c a R F):ν 81 #[Z1 b,(vi c),ZS a] F R:=Rx.Λ .N h
def rL (c b:Nat) (R:VR) (F:PH):Prop:=Lr F 9 (Am c 0) λa=>aw F (Am b 0) 9 a λF=>Rr 9 (Am b 0) R F
def gP (h z o:Nat) (y:Θ) (p:Bool) (R:VR) (F:PH):Prop:=Bb (p) (Lr F 9 (Am h 0) λq=>aw F (Am o 0) 9 q λF=>Rr 9 (Am o 0) R F) (Lk F .u8 (Am z 2) λr=>Ls F (Am h 0) λs=>Ca 33 #[Z0 .u8 r,(vi (s.len:Int))] F λt F=>∃b,y=ZO b/\aw F (ZW b 3) 2 t λF=>Lr F 13 b λu=>Lk F .u8 (Am z 3) λv=>Ca 136 #[ZU u,Z0 .u8 v] F λw F=>aw F b 13 w λF=>Ls F (Am h 5) λc=>Lr F 13 b λa=>((Nb F (ZP #[] 55) λl F=>((Ap 33 #[ZS (Sb l 0),ZS c] F λm F=>F.row b a/\a.size=13/\Nb F (ZP a 55) λx F=>Ap 33 #[ZS m,ZS (Sb x 1)] F λn F=>sto F (Am h 5) (ZS n) λF=>rL h o R F)/\(a.size=13/\Nb F (ZP a 55) λi F=>Ap 33 #[ZS (Sb l 0),ZS c] F λd F=>Ap 33 #[ZS d,ZS (Sb i 1)] F λe F=>sto F (Am h 5) (ZS e) λF=>rL h o R F)))/\(a.size=13/\Nb F (ZP a 55) λj F=>Nb F (ZP #[] 55) λk F=>Ap 33 #[ZS (Sb k 0),ZS c] F λf F=>Ap 33 #[ZS f,ZS (Sb j 1)] F λg F=>sto F (Am h 5) (ZS g) λF=>rL h o R F)))
def rM (c:Bool) (e f g:Nat) (d:Θ) (a:Int) (b:Bool) (R:VR) (F:PH):Prop:=Bc (a=0) (Bb (c) (gP e f g d ZT R F) (gP e f g d (!b) R F)) (gP e f g d ZQ R F)
def rN (f:Int->Bool->Ω) (_:Bool) (_ _ _:Nat) (_:Sl) (_:Θ) (d a:Int) (b:Bool) (_:VR) (F:PH):Prop:=f a b (i64.wrap (d+1)) F
def GI (w:Int->Bool->Ω) (d:Bool) (o n p:Nat) (f:Sl) (i:Θ) (R:VR) (a:Int) (b:Bool) (g:Int) (F:PH):Prop:=Ls F (Am n 1) λq=>Bc (g<(q.len:Int)) (Bc (g<4) (Ls F (Am n 1) λr=>Ix r g λs=>Lk F .u8 (ZW s (ZY g*1)) λh=>Bc ((Z5 (i64.wrap h) 14)<9) (∃e,i=ZO e/\Ls F (ZW e 2) λj=>Ca 48 #[(vi (Z5 (i64.wrap h) 14))] F λk F=>F.cell (ZW e 2)=ZO (ZS j)/\k.size=2/\Nb F (ZP k 63) λx F=>Ap 50 #[ZS j,ZS (Sb x 1)] F λt F=>sto F (ZW e 2) (ZS t) λF=>rN w d o n p f (ZO e) g (i64.wrap (a+1)) b R F) (∃c,i=ZO c/\Ls F (ZW c 2) λl=>(f.len:Int)≠0/\Ca 49 #[(vi (Z5 (i64.wrap ((Z5 (i64.wrap h) 14) - 9)) (f.len:Int)))] F λm F=>F.cell (ZW c 2)=ZO (ZS l)/\m.size=2/\Nb F (ZP m 63) λy F=>Ap 50 #[ZS l,ZS (Sb y 1)] F λu F=>sto F (ZW c 2) (ZS u) λF=>Bb (b) ((f.len:Int)≠0/\Li F (ZW c 1) λv=>rN w d o n p f (ZO c) g a (decide (v<(Z5 (i64.wrap ((Z5 (i64.wrap h) 14) - 9)) (f.len:Int)))) R F) (rN w d o n p f (ZO c) g a ZQ R F))) (rM d o n p i a b R F)) (rM d o n p i a b R F)
def nP (c:Bool) (i j k:Nat) (e:Sl) (g:Θ) (R:VR) (F:PH):Prop:=(∃(h:Nat->Int->Bool->Ω) (f:Nat),h f 0 ZT 0 F/\∀f a b d F,h f a b d F-> GI (nx3 h f) c i j k e g R a b d F)
def Sd (p q:Γ) (b:Bool) (R:VR) (F:PH):Prop:=Nb F (ZP p 37) λj F=>Nb F (ZP q 91) λm F=>Nb F (ZP zG 37) λr F=>Ls F (Am j 4) λc=>Ls F (Am j 5) λf=>Lk F .u8 (Am m 0) λd=>(c.len:Int)≠0/\((Nb F (ZP #[Z0 .u8 (u8.wrap (i64.wrap (97+(f.len:Int))))] 5) λn F=>∃e,rdo prog (Conv.bytesToString (ZS (Sb n 1))) F (Z1 e)/\(ByteArray.mk #[112]).size+e.size<=9223372036854775807/\((Ca 81 #[Z1 ((ByteArray.mk #[112])++e),(vi (Z5 (i64.wrap d) (c.len:Int))),ZS Z3] F λo F=>rdo prog (Conv.bytesToString (ZS (Sb n 1))) F (Z1 e)/\F.cell (Am m 0)=ZO (Z0 .u8 d)/\F.cell (Am j 5)=ZO (ZS f)/\Nb F (ZP zP 55) λs F=>aw F (Am s 0) 13 o λF=>nP b j m r c (ZO (Am s 0)) R F)/\(Nb F (ZP zP 55) λk F=>Ca 81 #[Z1 ((ByteArray.mk #[112])++e),(vi (Z5 (i64.wrap d) (c.len:Int))),ZS Z3] F λh F=>rdo prog (Conv.bytesToString (ZS (Sb n 1))) F (Z1 e)/\F.cell (Am m 0)=ZO (Z0 .u8 d)/\F.cell (Am j 5)=ZO (ZS f)/\aw F (Am k 0) 13 h λF=>nP b j m r c (ZO (Am k 0)) R F)))/\(Nb F (ZP zP 55) λl F=>Nb F (ZP #[Z0 .u8 (u8.wrap (i64.wrap (97+(f.len:Int))))] 5) λg F=>∃a,rdo prog (Conv.bytesToString (ZS (Sb g 1))) F (Z1 a)/\(ByteArray.mk #[112]).size+a.size<=9223372036854775807/\Ca 81 #[Z1 ((ByteArray.mk #[112])++a),(vi (Z5 (i64.wrap d) (c.len:Int))),ZS Z3] F λi F=>rdo prog (Conv.bytesToString (ZS (Sb g 1))) F (Z1 a)/\F.cell (Am m 0)=ZO (Z0 .u8 d)/\F.cell (Am j 5)=ZO (ZS f)/\aw F (Am l 0) 13 i λF=>nP b j m r c (ZO (Am l 0)) R F))
theorem WG {b:Γ} {c:Γ} {a:Bool} (h:Sd b c a R F):ν 83 #[ZU b,ZU c,ZV a] F R:=Rx.Λ (.ZN (.ZN (.J ZQ [(8,.ptr)] .N (.ZN (.ZN (.J ZQ [(9,.int .i64),(10,.bool)] (.ZN (.L [(9,.int .i64),(10,.bool),(11,.int .i64)] (.ZN (.J ZQ [(8,.ptr),(9,.int .i64),(10,.bool)] .N .N)))) (.T (.J ZQ [(87,.bool)] .N .N) (.ZN (.ZN (.J ZQ [] .N .N)))))))))) h
def nQ (c b:Nat) (R:VR) (F:PH):Prop:=Lr F 9 (Am c 0) λa=>aw F (Am b 0) 9 a λF=>Rr 9 (Am b 0) R F
def rO (g r s:Nat) (R:VR) (F:PH):Prop:=Lr F 9 (Am g 0) λl=>Lr F 9 (Am s 0) λm=>Cbo 138 #[ZU l,ZU m] F λn F=>Bb (n) (Ls F (Am g 8) λb=>Lr F 9 (Am s 0) λa=>((Nb F (ZP #[] 156) λk F=>((Ap 35 #[ZS (Sb k 0),ZS b] F λo F=>F.row (Am s 0) a/\a.size=9/\Nb F (ZP a 156) λq F=>Ap 35 #[ZS o,ZS (Sb q 1)] F λp F=>sto F (Am g 8) (ZS p) λF=>nQ g r R F)/\(a.size=9/\Nb F (ZP a 156) λh F=>Ap 35 #[ZS (Sb k 0),ZS b] F λc F=>Ap 35 #[ZS c,ZS (Sb h 1)] F λd F=>sto F (Am g 8) (ZS d) λF=>nQ g r R F)))/\(a.size=9/\Nb F (ZP a 156) λi F=>Nb F (ZP #[] 156) λj F=>Ap 35 #[ZS (Sb j 0),ZS b] F λe F=>Ap 35 #[ZS e,ZS (Sb i 1)] F λf F=>sto F (Am g 8) (ZS f) λF=>nQ g r R F))) (nQ g r R F)
def nR (c b:Nat) (R:VR) (F:PH):Prop:=Lr F 9 (Am c 0) λa=>aw F (Am b 0) 9 a λF=>Rr 9 (Am b 0) R F
def we (g n p:Nat) (R:VR) (F:PH):Prop:=Ls F (Am g 7) λb=>Lr F 4 (Am p 0) λa=>((Nb F (ZP #[] 69) λk F=>((Ap 34 #[ZS (Sb k 0),ZS b] F λl F=>F.row (Am p 0) a/\a.size=4/\Nb F (ZP a 69) λo F=>Ap 34 #[ZS l,ZS (Sb o 1)] F λm F=>sto F (Am g 7) (ZS m) λF=>nR g n R F)/\(a.size=4/\Nb F (ZP a 69) λh F=>Ap 34 #[ZS (Sb k 0),ZS b] F λc F=>Ap 34 #[ZS c,ZS (Sb h 1)] F λd F=>sto F (Am g 7) (ZS d) λF=>nR g n R F)))/\(a.size=4/\Nb F (ZP a 69) λi F=>Nb F (ZP #[] 69) λj F=>Ap 34 #[ZS (Sb j 0),ZS b] F λe F=>Ap 34 #[ZS e,ZS (Sb i 1)] F λf F=>sto F (Am g 7) (ZS f) λF=>nR g n R F))
def wg (h i f:Nat) (a:Int) (b:Sl) (c:Bool) (R:VR) (F:PH):Prop:=Bb (c) (Ls F (Am f 0) λd=>Nb F (ZP #[(vi (Z5 (i64.wrap a) (b.len:Int)))] 3) λg F=>Ap 67 #[ZS d,ZS (Sb g 1)] F λe F=>sto F (Am f 0) (ZS e) λF=>we h i f R F) (we h i f R F)
def wh (i q r t d:Nat) (j:Int) (e:Bool) (R:VR) (F:PH):Prop:=Bb (e) (Lk F .u8 (Am q 0) λf=>sto F (Am d 0) (vi (i64.wrap ((i64.wrap (3+(i64.wrap (Z5 f 8)))) - 4))) λF=>Lk F .u8 (Am q 1) λg=>Ls F (Am i 4) λa=>(a.len:Int)≠0/\sto F (Am d 4) (vi (Z5 (i64.wrap g) (a.len:Int))) λF=>Lk F .u8 (Am q 2) λh=>Nb F (ZP #[(vi (Z5 (i64.wrap h) 9))] 3) λk F=>sto F (Am d 6) (ZS (Sb k 1)) λF=>rO i r d R F) (Bc ((Z5 j 8)=6) (sto F (Am d 0) (vi 5) λF=>Nb F (ZP #[(vi 5)] 3) λl F=>sto F (Am d 6) (ZS (Sb l 1)) λF=>rO i r d R F) (Nb F (ZP #[] 146) λs F=>Ls F (Am i 3) λm=>Ap 32 #[ZS (Sb s 0),ZS m] F λb F=>Lk F .u8 (Am q 1) λc=>Lr F 2 (Am t 0) λn=>Ix b (Z5 (i64.wrap c) 9) λo=>aw F (ZW (ZW o (ZY (Z5 (i64.wrap c) 9)*7)) 5) 2 n λF=>sto F (Am i 3) (ZS b) λF=>Lr F 9 (Am i 0) λp=>aw F (Am r 0) 9 p λF=>Rr 9 (Am r 0) R F))
def wi (k f l m:Nat) (g:Int) (h:Sl) (c:Nat) (a:Int) (i:Bool) (R:VR) (F:PH):Prop:=Bb (i) (Lk F .u8 (Am f 0) λj=>sto F (Am c 0) (vi (i64.wrap ((i64.wrap (1+(i64.wrap (Z5 j 8)))) - 2))) λF=>sto F (Am c 1) (vi (Z5 (i64.wrap g) (h.len:Int))) λF=>Lk F .u8 (Am f 3) λd=>sto F (Am c 2) (vi (Z5 (i64.wrap d) 16)) λF=>Lk F .u8 (Am f 2) λe=>Ls F (Am k 5) λb=>(b.len:Int)≠0/\sto F (Am c 3) (vi (Z5 (i64.wrap e) (b.len:Int))) λF=>rO k l c R F) (Bc ((Z5 a 8)=4) (wh k f l m c a (decide ((Z5 a 8)=4)) R F) (wh k f l m c a (decide ((Z5 a 8)=5)) R F))
def wj (f o h p:Nat) (a:Int) (b:Sl) (s:Nat) (c:Int) (i:Bool) (R:VR) (F:PH):Prop:=Bb (i) (Lr F 9 (Am f 0) λj=>Cbo 137 #[ZU j,(vi (Z5 (i64.wrap a) (b.len:Int)))] F λk F=>Bb ((!k)) (Nb F (ZP #[(vi (Z5 (i64.wrap a) (b.len:Int)))] 3) λq F=>Lk F .u8 (Am o 3) λl=>Lr F 2 (Am p 0) λg=>g.size=2/\Nb F (ZP zL 69) λr F=>aw F (Am r 0) 4 (wr (Z6 (Z6 zL 0 (ZS (Sb q 1))) 1 (vi (i64.wrap (Z5 l 4)))) 2 g.toList) λF=>Lk F .u8 (Am o 2) λe=>Ls F (Am f 5) λd=>(d.len:Int)≠0/\Bc ((Z5 (i64.wrap e) (d.len:Int))≠(Z5 (i64.wrap a) (b.len:Int))) (Lr F 9 (Am f 0) λm=>Cbo 137 #[ZU m,(vi (Z5 (i64.wrap e) (d.len:Int)))] F λn F=>wg f h r e d (!n) R F) (wg f h r e d ZQ R F)) (nR f h R F)) (Bc ((Z5 c 8)=2) (wi f o h p a b s c (decide ((Z5 c 8)=2)) R F) (wi f o h p a b s c (decide ((Z5 c 8)=3)) R F))
def Se (k l:Γ) (R:VR) (F:PH):Prop:=Nb F (ZP k 37) λi F=>Nb F (ZP l 131) λe F=>Nb F (ZP zG 37) λn F=>Lk F .u8 (Am e 4) λf=>Ls F (Am i 0) λg=>Ca 33 #[Z0 .u8 f,(vi (g.len:Int))] F λh F=>Nb F (ZP zD 31) λj F=>aw F (Am j 0) 2 h λF=>Lk F .u8 (Am e 1) λc=>Ls F (Am i 5) λb=>(b.len:Int)≠0/\Lr F 2 (Am j 0) λd=>d.size=2/\Nb F (ZP zF 156) λm F=>aw F (Am m 0) 9 (wr zF 7 d.toList) λF=>Lk F .u8 (Am e 0) λa=>Bc ((Z5 a 8)=0) (wj i e n j c b m a (decide ((Z5 a 8)=0)) R F) (wj i e n j c b m a (decide ((Z5 a 8)=1)) R F)
theorem WH {a:Γ} {b:Γ} (h:Se a b R F):ν 84 #[ZU a,ZU b] F R:=Rx.Λ (.ZN (.ZN (.ZN (.ZN (.J ZQ [] (.ZN (.J ZQ [(44,.bool)] .N (.T (.J ZQ [] (.ZN (.T (.ZN (.ZN (.J ZQ [] (.J ZQ [(74,.bool)] .N .N) .N))) .N)) .N) (.J ZQ [(90,.bool)] .N (.ZN (.J ZQ [(115,.bool)] .N .N)))))) (.J ZQ [] .N .N)))))) h
def Sf (d:Int) (R:VR) (F:PH):Prop:=Nb F (ZP zD 31) λe F=>ν 109 #[(vi d)] F λv F=>∃b,∃a,v=(.tuple #[ZU b,(vi a)])/\Nb F (ZP zD 31) λf F=>aw F (Am f 0) 2 b λF=>Lr F 2 (Am f 0) λc=>aw F (Am e 0) 2 c λF=>Rr 2 (Am e 0) R F
theorem WI {a:Int} (h:Sf a R F):ν 85 #[(vi a)] F R:=Rx.Λ .N h
def Cj (x:Nat) (q:Sl) (R:VR) (F:PH):Prop:=Ca 162 #[(vi 9),(vi 10)] F λc F=>Ca 162 #[(vi 32),(vi 32)] F λd F=>Ca 163 #[(vi 3),(vi 0),(vi 1)] F λe F=>Ca 162 #[(vi 9),(vi 10)] F λf F=>Ca 162 #[(vi 32),(vi 32)] F λg F=>Ca 163 #[(vi 3),(vi 3),(vi 4)] F λh F=>Ca 163 #[(vi 4),(vi 5),(vi 0)] F λi F=>Ca 163 #[(vi 2),(vi 2),(vi 6)] F λj F=>c.size=5/\d.size=5/\e.size=5/\f.size=5/\g.size=5/\h.size=5/\i.size=5/\j.size=5/\Nb F (ZP (wr (wr (wr (wr (wr (wr (wr (wr (#[vi 0,vi 0,vi 0,vi 0,vi 0,vi 0,vi 0,vi 0,vi 0,vi 0,vi 0,vi 0,vi 0,vi 0,vi 0,vi 0,vi 0,vi 0,vi 0,vi 0,vi 0,vi 0,vi 0,vi 0,vi 0,vi 0,vi 0,vi 0,vi 0,vi 0,vi 0,vi 0,vi 0,vi 0,vi 0,vi 0,vi 0,vi 0,vi 0,vi 0]:Γ) 0 c.toList) 5 d.toList) 10 e.toList) 15 f.toList) 20 g.toList) 25 h.toList) 30 i.toList) 35 j.toList) 149) λr F=>Ca 162 #[(vi 37),(vi 37)] F λk F=>Ca 162 #[(vi 97),(vi 122)] F λl F=>Ca 162 #[(vi 32),(vi 32)] F λm F=>Ca 163 #[(vi 3),(vi 1),(vi 2)] F λn F=>Ca 163 #[(vi 4),(vi 3),(vi 0)] F λo F=>Ca 163 #[(vi 2),(vi 0),(vi 4)] F λp F=>k.size=5/\l.size=5/\m.size=5/\n.size=5/\o.size=5/\p.size=5/\Nb F (ZP (wr (wr (wr (wr (wr (wr (#[vi 0,vi 0,vi 0,vi 0,vi 0,vi 0,vi 0,vi 0,vi 0,vi 0,vi 0,vi 0,vi 0,vi 0,vi 0,vi 0,vi 0,vi 0,vi 0,vi 0,vi 0,vi 0,vi 0,vi 0,vi 0,vi 0,vi 0,vi 0,vi 0,vi 0]:Γ) 0 k.toList) 5 l.toList) 10 m.toList) 15 n.toList) 20 o.toList) 25 p.toList) 149) λs F=>Lr F 2 (Am x 0) λa=>a.size=2/\(wr (Z6 (Z6 (Z6 zT 0 (Z1 ⟨#[115,112,97,99,101]⟩)) 1 (vi 1)) 3 (ZS (Sb r 8))) 5 a.toList).size=7/\Nb F (ZP (wr (Z6 (Z6 (Z6 zT 0 (Z1 ⟨#[115,112,97,99,101]⟩)) 1 (vi 1)) 3 (ZS (Sb r 8))) 5 a.toList) 146) λv F=>Ap 32 #[ZS q,ZS (Sb v 1)] F λt F=>Lr F 2 (Am x 0) λb=>b.size=2/\(wr (Z6 (Z6 (Z6 zT 0 (Z1 ⟨#[114,101,109,97,114,107]⟩)) 1 (vi 2)) 3 (ZS (Sb s 6))) 5 b.toList).size=7/\Nb F (ZP (wr (Z6 (Z6 (Z6 zT 0 (Z1 ⟨#[114,101,109,97,114,107]⟩)) 1 (vi 2)) 3 (ZS (Sb s 6))) 5 b.toList) 146) λw F=>Ap 32 #[ZS t,ZS (Sb w 1)] F λu F=>R (ZS u) F
def Ck (l:Sl->Ω) (j h:Nat) (R:VR) (a:Sl) (b:Int) (F:PH):Prop:=Bc (b<((Sb h 8).len:Int)) (Ix (Sb h 8) b λf=>Lx F (ZW f (ZY b*1)) λd=>Ix (Sb h 8) b λg=>Lx F (ZW g (ZY b*1)) λe=>Lr F 2 (Am j 0) λc=>c.size=2/\(wr (Z6 (Z6 zT 0 (Z1 d)) 2 (Z1 e)) 5 c.toList).size=7/\Nb F (ZP (wr (Z6 (Z6 zT 0 (Z1 d)) 2 (Z1 e)) 5 c.toList) 146) λk F=>Ap 32 #[ZS a,ZS (Sb k 1)] F λi F=>F.row (Am j 0) c/\F.cell (ZW g (ZY b*1))=ZO (Z1 e)/\F.cell (ZW f (ZY b*1))=ZO (Z1 d)/\l i (i64.wrap (b+1)) F) (Cj j a R F)
def ME (R:VR) (F:PH):Prop:=Ca 34 #[ZV ZT] F λk F=>Nb F (ZP zD 31) λl F=>aw F (Am l 0) 2 k λF=>Lr F 2 (Am l 0) λf=>f.size=2/\(wr (Z6 (Z6 zT 0 (Z1 ⟨#[105,100]⟩)) 4 (Z1 ⟨#[120]⟩)) 5 f.toList).size=7/\Nb F (ZP (wr (Z6 (Z6 zT 0 (Z1 ⟨#[105,100]⟩)) 4 (Z1 ⟨#[120]⟩)) 5 f.toList) 146) λg F=>Ca 162 #[(vi 97),(vi 122)] F λb F=>Ca 162 #[(vi 97),(vi 122)] F λc F=>Ca 163 #[(vi 4),(vi 1),(vi 0)] F λd F=>Ca 163 #[(vi 2),(vi 0),(vi 2)] F λe F=>b.size=5/\c.size=5/\d.size=5/\e.size=5/\Nb F (ZP (wr (wr (wr (wr (#[vi 0,vi 0,vi 0,vi 0,vi 0,vi 0,vi 0,vi 0,vi 0,vi 0,vi 0,vi 0,vi 0,vi 0,vi 0,vi 0,vi 0,vi 0,vi 0,vi 0]:Γ) 0 b.toList) 5 c.toList) 10 d.toList) 15 e.toList) 149) λm F=>Ix (Sb g 1) 0 λh=>sto F (ZW (ZW h (ZY 0*7)) 3) (ZS (Sb m 4)) λF=>Nb F (ZP #[Z1 ⟨#[43]⟩,Z1 ⟨#[42]⟩,Z1 ⟨#[40]⟩,Z1 ⟨#[41]⟩,Z1 ⟨#[105,102]⟩,Z1 ⟨#[101,108,115,101]⟩,Z1 ⟨#[59]⟩,Z1 ⟨#[94]⟩] 9) λn F=>(∃(o:Nat->Sl->Ω) (j:Nat),o j (Sb g 1) 0 F/\∀j a i F,o j a i F-> Ck (nx2 o j) l n R a i F)
theorem Sh (h:ME R F):ν 111 #[] F R:=Rx.Λ (.ZN (.ZN (.ZN (.ZN (.ZN (.J ZQ [(2,.sl)] (.ZN (.L [(2,.sl),(4,.int .i64)] .N)) .N)))))) h
def Cm (R:VR) (F:PH):Prop:=R (ZV ZQ) F
def wl (j:Ω) (i:Nat) (R:VR) (a:Int) (F:PH):Prop:=Ls F (Am i 5) λb=>Bc (a<(b.len:Int)) (Ls F (Am i 5) λc=>Ix c a λd=>Ls F (ZW (ZW d (ZY a*13)) 2) λe=>Bc ((16:Int)<(e.len:Int)) (R (ZV ZT) F) (Ls F (Am i 5) λf=>Ix f a λg=>Ls F (ZW (ZW g (ZY a*13)) 7) λh=>Bc ((16:Int)<(h.len:Int)) (R (ZV ZT) F) (j (i64.wrap (a+1)) F))) (Cm R F)
def MF (g:Γ) (R:VR) (F:PH):Prop:=Nb F (ZP g 37) λa F=>Ls F (Am a 0) λh=>Bc ((64:Int)<(h.len:Int)) (R (ZV ZT) F) (Ls F (Am a 3) λb=>Bc ((256:Int)<(b.len:Int)) (R (ZV ZT) F) (Ls F (Am a 4) λc=>Bc ((2000:Int)<(c.len:Int)) (R (ZV ZT) F) (Ls F (Am a 5) λd=>Bc ((2000:Int)<(d.len:Int)) (R (ZV ZT) F) (Ls F (Am a 7) λe=>Bc ((2000:Int)<(e.len:Int)) (R (ZV ZT) F) (Ls F (Am a 8) λf=>Bc ((4096:Int)<(f.len:Int)) (R (ZV ZT) F) (Lp 0 F λN i F=>wl N a R i F))))))
theorem Si {a:Γ} (h:MF a R F):ν 114 #[ZU a] F R:=Rx.Λ (.ZN (.ZN (.ZN (.J ZQ [] (.ZN (.L [(3,.int .i64)] .N)) .N)))) h
def Co (e:Nat) (R:VR) (F:PH):Prop:=Lr F 2 (Am e 1) λa=>Ls F (Am e 0) λb=>Cbo 166 #[ZU a,(vi (b.len:Int))] F λc F=>Bb (c) (Li F (Am e 2) λd=>R (ZV (decide (d≠0))) F) (R (ZV ZQ) F)
def wm (j:Ω) (h:Nat) (R:VR) (a:Int) (F:PH):Prop:=Ls F (Am h 0) λi=>Bc (a<(i.len:Int)) (Ls F (Am h 0) λc=>Ix c a λd=>Lx F (ZW d (ZY a*1)) λb=>Cbo 164 #[Z1 b] F λe F=>Bb ((!e)) (R (ZV ZQ) F) (Ls F (Am h 0) λf=>Cbo 165 #[ZS f,(vi a)] F λg F=>Bb ((!g)) (R (ZV ZQ) F) (Bb ((b.toList==(ByteArray.mk #[116,114,117,101]).toList)) (R (ZV ZQ) F) (Bb ((b.toList==(ByteArray.mk #[102,97,108,115,101]).toList)) (R (ZV ZQ) F) (j (i64.wrap (a+1)) F))))) (Co h R F)
def MH (a:Γ) (R:VR) (F:PH):Prop:=Nb F (ZP a 37) λc F=>Lp 0 F λN b F=>wm N c R b F
theorem Sj {a:Γ} (h:MH a R F):ν 115 #[ZU a] F R:=Rx.Λ (.ZN (.J ZQ [] (.ZN (.L [(3,.int .i64)] .N)) .N)) h
def Cp (R:VR) (F:PH):Prop:=R (ZV ZT) F
def Cq (p:Sl->Ω) (f:Nat) (R:VR) (b:Sl) (a:Int) (F:PH):Prop:=Ls F (Am f 3) λn=>Bc (a<(n.len:Int)) (Ls F (Am f 3) λg=>Ix g a λh=>Lx F (ZW h (ZY a*7)) λi=>Nb F (ZP #[Z1 i] 9) λo F=>Ap 28 #[ZS b,ZS (Sb o 1)] F λc F=>Cbo 165 #[ZS c,(vi a)] F λj F=>Bb ((!j)) (R (ZV ZQ) F) (Ls F (Am f 3) λd=>Ix d a λk=>Lr F 7 (ZW k (ZY a*7)) λl=>Ls F (Am f 0) λe=>Cbo 167 #[ZU l,(vi (e.len:Int))] F λm F=>F.cell (Am f 0)=ZO (ZS e)/\F.cell (Am f 3)=ZO (ZS d)/\Bb ((!m)) (R (ZV ZQ) F) (p c (i64.wrap (a+1)) F))) (Cp R F)
def MI (d:Γ) (R:VR) (F:PH):Prop:=Nb F (ZP d 37) λf F=>Nb F (ZP #[] 9) λg F=>(∃(e:Nat->Sl->Ω) (c:Nat),e c (Sb g 0) 0 F/\∀c a b F,e c a b F-> Cq (nx2 e c) f R a b F)
theorem Sk {a:Γ} (h:MI a R F):ν 116 #[ZU a] F R:=Rx.Λ (.ZN (.ZN (.J ZQ [] (.ZN (.L [(3,.sl),(4,.int .i64)] .N)) .N))) h
def Cr (d:Nat) (R:VR) (F:PH):Prop:=Li F (Am d 6) λa=>Bc (0<=a) (Li F (Am d 6) λb=>Ls F (Am d 4) λc=>R (ZV (decide (b<(c.len:Int)))) F) (R (ZV ZQ) F)
def wn (f:Ω) (d:Nat) (R:VR) (a:Int) (F:PH):Prop:=Ls F (Am d 4) λe=>Bc (a<(e.len:Int)) (Ls F (Am d 4) λb=>Cbo 165 #[ZS b,(vi a)] F λc F=>Bb ((!c)) (R (ZV ZQ) F) (f (i64.wrap (a+1)) F)) (Cr d R F)
def MJ (a:Γ) (R:VR) (F:PH):Prop:=Nb F (ZP a 37) λc F=>Lp 0 F λN b F=>wn N c R b F
theorem Sn {a:Γ} (h:MJ a R F):ν 117 #[ZU a] F R:=Rx.Λ (.ZN (.J ZQ [] (.ZN (.L [(3,.int .i64)] .N)) .N)) h
def Ct (R:VR) (F:PH):Prop:=R (vi 0) F
def pK (c:Sl->Ω) (_:Nat) (b:Int) (a:Sl) (_:VR) (F:PH):Prop:=c a (i64.wrap (b+1)) F
def Cv (B:Sl->Ω) (e:Nat) (R:VR) (b:Sl) (a:Int) (F:PH):Prop:=Ls F (Am e 5) λz=>Bc (a<(z.len:Int)) (Ls F (Am e 5) λf=>Ix f a λg=>Lr F 13 (ZW g (ZY a*13)) λh=>Nb F (ZP zP 55) λd F=>aw F (Am d 0) 13 h λF=>Lr F 9 (Am e 0) λi=>Lr F 13 (Am d 0) λj=>Cbo 168 #[ZU i,ZU j] F λk F=>Bb ((!k)) (R (vi 50) F) (Lx F (Am d 0) λl=>Nb F (ZP #[Z1 l] 9) λA F=>Ap 28 #[ZS b,ZS (Sb A 1)] F λc F=>Cbo 165 #[ZS c,(vi a)] F λm F=>Bb ((!m)) (R (vi 52) F) (Lr F 2 (Am d 3) λn=>Ls F (Am e 0) λo=>Cbo 166 #[ZU n,(vi (o.len:Int))] F λp F=>Bb ((!p)) (R (vi 52) F) (Li F (Am d 6) λq=>Bc (q<(-1:Int)) (R (vi 52) F) (Li F (Am d 6) λr=>Bc (1<r) (R (vi 52) F) (Lr F 13 (Am d 0) λs=>Cbo 169 #[ZU s] F λt F=>Bb ((!t)) (R (vi 52) F) (Lr F 13 (Am d 0) λu=>Cbo 170 #[ZU u] F λv F=>Bb ((!v)) (R (vi 52) F) (Lb F (Am d 5) λw=>Bb (w) (Lr F 13 (Am d 0) λx=>Cbo 171 #[ZU x] F λy F=>Bb ((!y)) (R (vi 52) F) (pK B e a c R F)) (pK B e a c R F))))))))) (Ct R F)
def MK (d:Γ) (R:VR) (F:PH):Prop:=Nb F (ZP d 37) λf F=>Nb F (ZP #[] 9) λg F=>(∃(e:Nat->Sl->Ω) (c:Nat),e c (Sb g 0) 0 F/\∀c a b F,e c a b F-> Cv (nx2 e c) f R a b F)
theorem So {a:Γ} (h:MK a R F):ν 118 #[ZU a] F R:=Rx.Λ (.ZN (.ZN (.J ZQ [] (.ZN (.L [(3,.sl),(4,.int .i64)] (.ZN (.J ZQ [(3,.sl)] .N .N)))) .N))) h
def Cw (R:VR) (F:PH):Prop:=R (ZV ZT) F
def Cx (c:Ω) (_:Nat) (_:Sl) (a:Int) (_:VR) (F:PH):Prop:=c (i64.wrap (a+1)) F
def wo (l m:Ω) (n:Nat) (b:Sl) (j:Int) (k:Nat) (R:VR) (c:Int) (F:PH):Prop:=Ls F (Am k 0) λd=>Bc (c<(d.len:Int)) (Ls F (Am k 0) λe=>Ix e c λf=>Li F (ZW f (ZY c*1)) λa=>Bc (a<0) (R (ZV ZQ) F) (Bc ((b.len:Int)<=a) (R (ZV ZQ) F) (Ix b a λg=>Lb F (ZW g (ZY a*1)) λh=>Bb (h) (R (ZV ZQ) F) (Ix b a λi=>sto F (ZW i (ZY a*1)) (ZV ZT) λF=>m (i64.wrap (c+1)) F)))) (Cx l n b j R F)
def wq (q:Ω) (n:Nat) (b:Sl) (R:VR) (a:Int) (F:PH):Prop:=Ls F (Am n 7) λc=>Bc (a<(c.len:Int)) (Ls F (Am n 7) λd=>Ix d a λe=>Lr F 4 (ZW e (ZY a*4)) λf=>Nb F (ZP zL 69) λg F=>aw F (Am g 0) 4 f λF=>Li F (Am g 1) λh=>Bc (h<0) (R (ZV ZQ) F) (Li F (Am g 1) λi=>Bc (3<i) (R (ZV ZQ) F) (Lr F 2 (Am g 2) λj=>Ls F (Am n 0) λk=>Cbo 166 #[ZU j,(vi (k.len:Int))] F λl F=>Bb ((!l)) (R (ZV ZQ) F) ((∃(p:Nat->Ω) (o:Nat),p o 0 F/\∀o m F,p o m F-> wo q (nx1 p o) n b a g R m F))))) (Cw R F)
def ML (c:Γ) (R:VR) (F:PH):Prop:=Nb F (ZP c 37) λe F=>Ls F (Am e 5) λb=>aH prog (Instr.makeSlice 211 (vi (b.len:Int)) (vi (b.len:Int))) F λv F=>∃a,v=(ZS a)/\Lp 0 F λN d F=>wq N e a R d F
theorem Sq {a:Γ} (h:ML a R F):ν 119 #[ZU a] F R:=Rx.Λ (.ZN (.ZN (.J ZQ [] (.ZN (.L [(4,.int .i64)] (.ZN (.J ZQ [] (.ZN (.ZN (.ZN (.L [(6,.int .i64)] .N)))) .N)))) .N))) h
def Cy (R:VR) (F:PH):Prop:=R (ZV ZT) F
def wu (i:Ω) (g:Nat) (R:VR) (a:Int) (F:PH):Prop:=Ls F (Am g 8) λh=>Bc (a<(h.len:Int)) (Lr F 9 (Am g 0) λc=>Ls F (Am g 8) λb=>Ix b a λd=>Lr F 9 (ZW d (ZY a*9)) λe=>Cbo 138 #[ZU c,ZU e] F λf F=>F.cell (Am g 8)=ZO (ZS b)/\Bb ((!f)) (R (ZV ZQ) F) (i (i64.wrap (a+1)) F)) (Cy R F)
def MM (a:Γ) (R:VR) (F:PH):Prop:=Nb F (ZP a 37) λc F=>Lp 0 F λN b F=>wu N c R b F
theorem Sr {a:Γ} (h:MM a R F):ν 120 #[ZU a] F R:=Rx.Λ (.ZN (.J ZQ [] (.ZN (.L [(3,.int .i64)] .N)) .N)) h
def Cz (c b:Nat) (R:VR) (F:PH):Prop:=Lr F 9 (Am c 0) λa=>aw F (Am b 0) 9 a λF=>Rr 9 (Am b 0) R F
def lS (b a c:Nat) (R:VR) (F:PH):Prop:=sto F (Am b 7) (ZS (Sb a 3)) λF=>Cz b c R F
def gD (a:Γ) (d:Nat) (b:Γ) (e:Nat) (c:Γ) (f h i:Nat) (R:VR) (F:PH):Prop:=a.size=2/\(wr (Z6 (Z6 zL 0 (ZS (Sb d 1))) 1 (vi 2)) 2 b.toList).size=4/\(wr (Z6 (Z6 zL 0 (ZS (Sb e 1))) 1 (vi 1)) 2 c.toList).size=4/\(wr (Z6 (Z6 zL 0 (ZS (Sb f 1))) 1 (vi 1)) 2 a.toList).size=4/\Nb F (ZP (wr (wr (wr (#[Z7 ZR 0 0,vi 0,.slice ZR 0 0,vi 0,.slice ZR 0 0,vi 0,.slice ZR 0 0,vi 0,.slice ZR 0 0,vi 0,.slice ZR 0 0,vi 0]:Γ) 0 (wr (Z6 (Z6 zL 0 (ZS (Sb d 1))) 1 (vi 2)) 2 b.toList).toList) 4 (wr (Z6 (Z6 zL 0 (ZS (Sb e 1))) 1 (vi 1)) 2 c.toList).toList) 8 (wr (Z6 (Z6 zL 0 (ZS (Sb f 1))) 1 (vi 1)) 2 a.toList).toList) 69) λg F=>lS h g i R F
def gE (c:Γ) (h:Nat) (a b:Γ) (e f g i j:Nat) (R:VR) (F:PH):Prop:=Ca 86 #[ZU c] F λd F=>F.row (Am h 0) a/\F.row (Am h 0) b/\gD d e b f a g i j R F
def pL (d:Nat) (a b:Γ) (e f g h i:Nat) (R:VR) (F:PH):Prop:=Ca 85 #[(vi 0)] F λc F=>F.row (Am d 0) a/\F.row (Am d 0) b/\gE c d a b e f g h i R F
def lT (a:Γ) (e:Nat) (c:Γ) (f:Nat) (d:Γ) (g h:Nat) (R:VR) (F:PH):Prop:=Nb F (ZP #[(vi 0)] 3) λb F=>gD a e c f d b g h R F
def pM (a:Γ) (h:Nat) (b c:Γ) (f g i j:Nat) (R:VR) (F:PH):Prop:=((Nb F (ZP #[(vi 0)] 3) λe F=>gE a h b c f g e i j R F)/\(Ca 86 #[ZU a] F λd F=>F.row (Am h 0) b/\F.row (Am h 0) c/\lT d f c g b i j R F))
def ww (a:Γ) (f:Nat) (b:Γ) (d e h i:Nat) (R:VR) (F:PH):Prop:=a.size=2/\((Nb F (ZP #[(vi 0)] 3) λg F=>pL f a b d e g h i R F)/\(Ca 85 #[(vi 0)] F λc F=>F.row (Am f 0) a/\F.row (Am f 0) b/\pM c f a b d e h i R F))
def lU (a:Γ) (f:Nat) (c:Γ) (g d e h i:Nat) (R:VR) (F:PH):Prop:=a.size=2/\Ca 85 #[(vi 0)] F λb F=>F.row (Am f 0) a/\F.row (Am f 0) c/\gE b f a c g d e h i R F
def lV (a b:Γ) (h:Nat) (d:Γ) (g e f i j:Nat) (R:VR) (F:PH):Prop:=a.size=2/\Ca 86 #[ZU b] F λc F=>F.row (Am h 0) a/\F.row (Am h 0) d/\gD c g d e a f i j R F
def lW (b:Γ) (g:Nat) (e:Γ) (c d:Nat) (a:Γ) (h i:Nat) (R:VR) (F:PH):Prop:=b.size=2/\(wr (Z6 (Z6 zL 0 (ZS (Sb g 1))) 1 (vi 2)) 2 e.toList).size=4/\(wr (Z6 (Z6 zL 0 (ZS (Sb c 1))) 1 (vi 1)) 2 b.toList).size=4/\(wr (Z6 (Z6 zL 0 (ZS (Sb d 1))) 1 (vi 1)) 2 a.toList).size=4/\Nb F (ZP (wr (wr (wr (#[Z7 ZR 0 0,vi 0,.slice ZR 0 0,vi 0,.slice ZR 0 0,vi 0,.slice ZR 0 0,vi 0,.slice ZR 0 0,vi 0,.slice ZR 0 0,vi 0]:Γ) 0 (wr (Z6 (Z6 zL 0 (ZS (Sb g 1))) 1 (vi 2)) 2 e.toList).toList) 4 (wr (Z6 (Z6 zL 0 (ZS (Sb c 1))) 1 (vi 1)) 2 b.toList).toList) 8 (wr (Z6 (Z6 zL 0 (ZS (Sb d 1))) 1 (vi 1)) 2 a.toList).toList) 69) λf F=>lS h f i R F
def ie (a d:Γ) (f:Nat) (e:Γ) (b g h:Nat) (R:VR) (F:PH):Prop:=a.size=2/\Nb F (ZP #[(vi 1)] 3) λc F=>lW d f e c b a g h R F
def ig (b a:Γ) (h:Nat) (c:Γ) (g d i j:Nat) (R:VR) (F:PH):Prop:=((Nb F (ZP #[(vi 1)] 3) λf F=>lV b a h c g f d i j R F)/\(Ca 86 #[ZU a] F λe F=>F.row (Am h 0) b/\F.row (Am h 0) c/\ie e b g c d i j R F))
def rP (a:Γ) (g:Nat) (b:Γ) (f c h i:Nat) (R:VR) (F:PH):Prop:=((Nb F (ZP #[(vi 1)] 3) λe F=>lU a g b f e c h i R F)/\(Ca 85 #[(vi 0)] F λd F=>F.row (Am g 0) a/\F.row (Am g 0) b/\ig a d g b f c h i R F))
def lX (a b:Γ) (h:Nat) (c:Γ) (g d i j:Nat) (R:VR) (F:PH):Prop:=a.size=2/\((Nb F (ZP #[(vi 0)] 3) λf F=>gE b h a c g d f i j R F)/\(Ca 86 #[ZU b] F λe F=>F.row (Am h 0) a/\F.row (Am h 0) c/\lT e g c d a i j R F))
def lY (b a:Γ) (f:Nat) (e:Γ) (c g h:Nat) (R:VR) (F:PH):Prop:=b.size=2/\Nb F (ZP #[(vi 0)] 3) λd F=>gD a f e c b d g h R F
def lZ (b a:Γ) (f:Nat) (c:Γ) (g h:Nat) (R:VR) (F:PH):Prop:=((Nb F (ZP #[(vi 1)] 3) λd F=>lY b a f c d g h R F)/\(Nb F (ZP #[(vi 0)] 3) λe F=>ie a b f c e g h R F))
def rQ (b a:Γ) (h:Nat) (c:Γ) (e i j:Nat) (R:VR) (F:PH):Prop:=((Nb F (ZP #[(vi 1)] 3) λf F=>lX b a h c e f i j R F)/\(Nb F (ZP #[(vi 0)] 3) λg F=>ig b a h c e g i j R F)/\(Ca 86 #[ZU a] F λd F=>F.row (Am h 0) b/\F.row (Am h 0) c/\lZ b d e c i j R F))
def wx (a b:Γ) (f d g h:Nat) (R:VR) (F:PH):Prop:=a.size=2/\((Nb F (ZP #[(vi 1)] 3) λi F=>ww b f a d i g h R F)/\(Nb F (ZP #[(vi 0)] 3) λe F=>rP b f a d e g h R F)/\(Ca 85 #[(vi 0)] F λc F=>F.row (Am f 0) b/\F.row (Am f 0) a/\rQ b c f a d g h R F))
def rR (a:Γ) (g:Nat) (b:Γ) (c d h i:Nat) (R:VR) (F:PH):Prop:=a.size=2/\((Nb F (ZP #[(vi 0)] 3) λf F=>pL g b a c d f h i R F)/\(Ca 85 #[(vi 0)] F λe F=>F.row (Am g 0) b/\F.row (Am g 0) a/\pM e g b a c d h i R F))
def ma (a:Γ) (g:Nat) (c:Γ) (d e f h i:Nat) (R:VR) (F:PH):Prop:=a.size=2/\Ca 85 #[(vi 0)] F λb F=>F.row (Am g 0) c/\F.row (Am g 0) a/\gE b g c a d e f h i R F
def mb (a b:Γ) (h:Nat) (d:Γ) (e f g i j:Nat) (R:VR) (F:PH):Prop:=a.size=2/\Ca 86 #[ZU b] F λc F=>F.row (Am h 0) d/\F.row (Am h 0) a/\gD c e a f d g i j R F
def me (b:Γ) (c d:Nat) (f:Γ) (e:Nat) (a:Γ) (h i:Nat) (R:VR) (F:PH):Prop:=b.size=2/\(wr (Z6 (Z6 zL 0 (ZS (Sb c 1))) 1 (vi 2)) 2 b.toList).size=4/\(wr (Z6 (Z6 zL 0 (ZS (Sb d 1))) 1 (vi 1)) 2 f.toList).size=4/\(wr (Z6 (Z6 zL 0 (ZS (Sb e 1))) 1 (vi 1)) 2 a.toList).size=4/\Nb F (ZP (wr (wr (wr (#[Z7 ZR 0 0,vi 0,.slice ZR 0 0,vi 0,.slice ZR 0 0,vi 0,.slice ZR 0 0,vi 0,.slice ZR 0 0,vi 0,.slice ZR 0 0,vi 0]:Γ) 0 (wr (Z6 (Z6 zL 0 (ZS (Sb c 1))) 1 (vi 2)) 2 b.toList).toList) 4 (wr (Z6 (Z6 zL 0 (ZS (Sb d 1))) 1 (vi 1)) 2 f.toList).toList) 8 (wr (Z6 (Z6 zL 0 (ZS (Sb e 1))) 1 (vi 1)) 2 a.toList).toList) 69) λg F=>lS h g i R F
def ii (a e:Γ) (b:Nat) (f:Γ) (c g h:Nat) (R:VR) (F:PH):Prop:=a.size=2/\Nb F (ZP #[(vi 4)] 3) λd F=>me e d b f c a g h R F
def ij (b a:Γ) (h:Nat) (c:Γ) (d e i j:Nat) (R:VR) (F:PH):Prop:=((Nb F (ZP #[(vi 4)] 3) λg F=>mb b a h c g d e i j R F)/\(Ca 86 #[ZU a] F λf F=>F.row (Am h 0) c/\F.row (Am h 0) b/\ii f b d c e i j R F))
def rS (a:Γ) (g:Nat) (b:Γ) (c d h i:Nat) (R:VR) (F:PH):Prop:=((Nb F (ZP #[(vi 4)] 3) λf F=>ma a g b f c d h i R F)/\(Ca 85 #[(vi 0)] F λe F=>F.row (Am g 0) b/\F.row (Am g 0) a/\ij a e g b c d h i R F))
def mh (a b:Γ) (h:Nat) (c:Γ) (d e i j:Nat) (R:VR) (F:PH):Prop:=a.size=2/\((Nb F (ZP #[(vi 0)] 3) λf F=>gE b h c a d e f i j R F)/\(Ca 86 #[ZU b] F λg F=>F.row (Am h 0) c/\F.row (Am h 0) a/\lT g d a e c i j R F))
def mi (c a:Γ) (d e:Nat) (f:Γ) (g h:Nat) (R:VR) (F:PH):Prop:=c.size=2/\Nb F (ZP #[(vi 0)] 3) λb F=>gD a d c e f b g h R F
def mj (d a:Γ) (b:Nat) (e:Γ) (g h:Nat) (R:VR) (F:PH):Prop:=((Nb F (ZP #[(vi 4)] 3) λf F=>mi d a f b e g h R F)/\(Nb F (ZP #[(vi 0)] 3) λc F=>ii a d b e c g h R F))
def rT (c a:Γ) (h:Nat) (d:Γ) (b i j:Nat) (R:VR) (F:PH):Prop:=((Nb F (ZP #[(vi 4)] 3) λg F=>mh c a h d g b i j R F)/\(Nb F (ZP #[(vi 0)] 3) λe F=>ij c a h d b e i j R F)/\(Ca 86 #[ZU a] F λf F=>F.row (Am h 0) d/\F.row (Am h 0) c/\mj c f b d i j R F))
def rU (a c:Γ) (g b h i:Nat) (R:VR) (F:PH):Prop:=a.size=2/\((Nb F (ZP #[(vi 4)] 3) λe F=>rR c g a e b h i R F)/\(Nb F (ZP #[(vi 0)] 3) λf F=>rS c g a b f h i R F)/\(Ca 85 #[(vi 0)] F λd F=>F.row (Am g 0) a/\F.row (Am g 0) c/\rT c d g a b h i R F))
def rV (a c:Γ) (g d b h i:Nat) (R:VR) (F:PH):Prop:=a.size=2/\((Nb F (ZP #[(vi 1)] 3) λf F=>lU c g a d f b h i R F)/\(Ca 85 #[(vi 0)] F λe F=>F.row (Am g 0) c/\F.row (Am g 0) a/\ig c e g a d b h i R F))
def rW (a c:Γ) (g d b h i:Nat) (R:VR) (F:PH):Prop:=a.size=2/\((Nb F (ZP #[(vi 4)] 3) λf F=>ma c g a f d b h i R F)/\(Ca 85 #[(vi 0)] F λe F=>F.row (Am g 0) a/\F.row (Am g 0) c/\ij c e g a d b h i R F))
def rX (b d a:Γ) (h e c i j:Nat) (R:VR) (F:PH):Prop:=b.size=2/\((Nb F (ZP #[(vi 1)] 3) λg F=>lV d a h b e g c i j R F)/\(Ca 86 #[ZU a] F λf F=>F.row (Am h 0) d/\F.row (Am h 0) b/\ie f d e b c i j R F))
def rY (b e a:Γ) (h c d i j:Nat) (R:VR) (F:PH):Prop:=b.size=2/\((Nb F (ZP #[(vi 4)] 3) λg F=>mb e a h b g c d i j R F)/\(Ca 86 #[ZU a] F λf F=>F.row (Am h 0) b/\F.row (Am h 0) e/\ii f e c b d i j R F))
def rZ (e f:Γ) (b c:Nat) (a:Γ) (g h:Nat) (R:VR) (F:PH):Prop:=e.size=2/\Nb F (ZP #[(vi 1)] 3) λd F=>lW f b e d c a g h R F
def r4 (e f:Γ) (b c:Nat) (a:Γ) (g h:Nat) (R:VR) (F:PH):Prop:=e.size=2/\Nb F (ZP #[(vi 4)] 3) λd F=>me f d b e c a g h R F
def ml (a e f:Γ) (b g h:Nat) (R:VR) (F:PH):Prop:=a.size=2/\((Nb F (ZP #[(vi 4)] 3) λc F=>rZ e f c b a g h R F)/\(Nb F (ZP #[(vi 1)] 3) λd F=>r4 f e d b a g h R F))
def mq (c d a:Γ) (h b i j:Nat) (R:VR) (F:PH):Prop:=((Nb F (ZP #[(vi 4)] 3) λg F=>rX c d a h g b i j R F)/\(Nb F (ZP #[(vi 1)] 3) λf F=>rY d c a h f b i j R F)/\(Ca 86 #[ZU a] F λe F=>F.row (Am h 0) d/\F.row (Am h 0) c/\ml e c d b i j R F))
def r5 (b c:Γ) (g a h i:Nat) (R:VR) (F:PH):Prop:=((Nb F (ZP #[(vi 4)] 3) λe F=>rV b c g e a h i R F)/\(Nb F (ZP #[(vi 1)] 3) λf F=>rW c b g f a h i R F)/\(Ca 85 #[(vi 0)] F λd F=>F.row (Am g 0) c/\F.row (Am g 0) b/\mq b c d g a h i R F))
def r7 (c d a:Γ) (h b i j:Nat) (R:VR) (F:PH):Prop:=c.size=2/\((Nb F (ZP #[(vi 1)] 3) λf F=>lX d a h c b f i j R F)/\(Nb F (ZP #[(vi 0)] 3) λg F=>ig d a h c b g i j R F)/\(Ca 86 #[ZU a] F λe F=>F.row (Am h 0) d/\F.row (Am h 0) c/\lZ d e b c i j R F))
def sg (c d a:Γ) (h b i j:Nat) (R:VR) (F:PH):Prop:=c.size=2/\((Nb F (ZP #[(vi 4)] 3) λf F=>mh d a h c f b i j R F)/\(Nb F (ZP #[(vi 0)] 3) λg F=>ij d a h c b g i j R F)/\(Ca 86 #[ZU a] F λe F=>F.row (Am h 0) c/\F.row (Am h 0) d/\mj d e b c i j R F))
def sk (c f a:Γ) (b g h:Nat) (R:VR) (F:PH):Prop:=c.size=2/\((Nb F (ZP #[(vi 1)] 3) λd F=>lY f a b c d g h R F)/\(Nb F (ZP #[(vi 0)] 3) λe F=>ie a f b c e g h R F))
def sq (c f a:Γ) (b g h:Nat) (R:VR) (F:PH):Prop:=c.size=2/\((Nb F (ZP #[(vi 4)] 3) λd F=>mi f a d b c g h R F)/\(Nb F (ZP #[(vi 0)] 3) λe F=>ii a f b c e g h R F))
def ss (b c a:Γ) (g h:Nat) (R:VR) (F:PH):Prop:=((Nb F (ZP #[(vi 4)] 3) λd F=>sk b c a d g h R F)/\(Nb F (ZP #[(vi 1)] 3) λe F=>sq c b a e g h R F)/\(Nb F (ZP #[(vi 0)] 3) λf F=>ml a b c f g h R F))
def sA (b c a:Γ) (h i j:Nat) (R:VR) (F:PH):Prop:=((Nb F (ZP #[(vi 4)] 3) λe F=>r7 b c a h e i j R F)/\(Nb F (ZP #[(vi 1)] 3) λf F=>sg c b a h f i j R F)/\(Nb F (ZP #[(vi 0)] 3) λg F=>mq b c a h g i j R F)/\(Ca 86 #[ZU a] F λd F=>F.row (Am h 0) c/\F.row (Am h 0) b/\ss b c d i j R F))
def MN (R:VR) (F:PH):Prop:=Nb F (ZP zG 37) λP F=>Nb F (ZP #[Z1 ⟨#[69]⟩] 9) λb3 F=>Ca 46 #[ZS (Sb b3 1)] F λQ F=>Nb F (ZP zG 37) λa F=>aw F (Am a 0) 9 Q λF=>Ca 34 #[ZV ZT] F λS F=>Nb F (ZP zD 31) λj F=>aw F (Am j 0) 2 S λF=>Ls F (Am a 5) λg=>Ca 49 #[(vi 0)] F λD F=>F.cell (Am a 5)=ZO (ZS g)/\Ca 48 #[(vi 1)] F λE F=>F.cell (Am a 5)=ZO (ZS g)/\Ca 49 #[(vi 0)] F λl F=>F.cell (Am a 5)=ZO (ZS g)/\D.size=2/\E.size=2/\l.size=2/\Nb F (ZP (wr (wr (wr (#[ZV ZQ,vi 0,.bool ZQ,vi 0,.bool ZQ,vi 0]:Γ) 0 D.toList) 2 E.toList) 4 l.toList) 63) λT F=>Ca 81 #[Z1 ⟨#[97,100,100]⟩,(vi 0),ZS (Sb T 3)] F λm F=>F.cell (Am a 5)=ZO (ZS g)/\m.size=13/\Nb F (ZP m 55) λU F=>Ap 33 #[ZS g,ZS (Sb U 1)] F λG F=>sto F (Am a 5) (ZS G) λF=>Ls F (Am a 5) λb=>Ca 49 #[(vi 0)] F λn F=>F.cell (Am a 5)=ZO (ZS b)/\Ca 48 #[(vi 2)] F λo F=>F.cell (Am a 5)=ZO (ZS b)/\Ca 49 #[(vi 0)] F λp F=>F.cell (Am a 5)=ZO (ZS b)/\n.size=2/\o.size=2/\p.size=2/\Nb F (ZP (wr (wr (wr (#[ZV ZQ,vi 0,.bool ZQ,vi 0,.bool ZQ,vi 0]:Γ) 0 n.toList) 2 o.toList) 4 p.toList) 63) λV F=>Ca 81 #[Z1 ⟨#[109,117,108]⟩,(vi 0),ZS (Sb V 3)] F λq F=>F.cell (Am a 5)=ZO (ZS b)/\q.size=13/\Nb F (ZP q 55) λW F=>Ap 33 #[ZS b,ZS (Sb W 1)] F λH F=>sto F (Am a 5) (ZS H) λF=>Ls F (Am a 5) λc=>Ca 48 #[(vi 3)] F λr F=>F.cell (Am a 5)=ZO (ZS c)/\Ca 49 #[(vi 0)] F λs F=>F.cell (Am a 5)=ZO (ZS c)/\Ca 48 #[(vi 4)] F λt F=>F.cell (Am a 5)=ZO (ZS c)/\r.size=2/\s.size=2/\t.size=2/\Nb F (ZP (wr (wr (wr (#[ZV ZQ,vi 0,.bool ZQ,vi 0,.bool ZQ,vi 0]:Γ) 0 r.toList) 2 s.toList) 4 t.toList) 63) λX F=>Ca 81 #[Z1 ⟨#[98,114,97,99,107,101,116]⟩,(vi 0),ZS (Sb X 3)] F λu F=>F.cell (Am a 5)=ZO (ZS c)/\u.size=13/\Nb F (ZP u 55) λY F=>Ap 33 #[ZS c,ZS (Sb Y 1)] F λI F=>sto F (Am a 5) (ZS I) λF=>Ls F (Am a 5) λh=>Ca 48 #[(vi 0)] F λv F=>F.cell (Am a 5)=ZO (ZS h)/\v.size=2/\Nb F (ZP v 63) λZ F=>Ca 81 #[Z1 ⟨#[110,97,109,101]⟩,(vi 0),ZS (Sb Z 1)] F λw F=>F.cell (Am a 5)=ZO (ZS h)/\w.size=13/\Nb F (ZP w 55) λaa F=>Ap 33 #[ZS h,ZS (Sb aa 1)] F λJ F=>sto F (Am a 5) (ZS J) λF=>Ls F (Am a 5) λd=>Ca 49 #[(vi 0)] F λx F=>F.cell (Am a 5)=ZO (ZS d)/\Ca 48 #[(vi 8)] F λy F=>F.cell (Am a 5)=ZO (ZS d)/\Ca 49 #[(vi 0)] F λz F=>F.cell (Am a 5)=ZO (ZS d)/\x.size=2/\y.size=2/\z.size=2/\Nb F (ZP (wr (wr (wr (#[ZV ZQ,vi 0,.bool ZQ,vi 0,.bool ZQ,vi 0]:Γ) 0 x.toList) 2 y.toList) 4 z.toList) 63) λab F=>Ca 81 #[Z1 ⟨#[112,111,119]⟩,(vi 0),ZS (Sb ab 3)] F λA F=>F.cell (Am a 5)=ZO (ZS d)/\A.size=13/\Nb F (ZP A 55) λac F=>Ap 33 #[ZS d,ZS (Sb ac 1)] F λK F=>sto F (Am a 5) (ZS K) λF=>Ls F (Am a 5) λL=>Ix L 2 λM=>sto F (ZW (ZW M (ZY 2*13)) 5) (ZV ZT) λF=>Ls F (Am a 5) λB=>Ca 85 #[(vi 1)] F λN F=>F.cell (Am a 5)=ZO (ZS B)/\Ix B 4 λO=>aw F (ZW (ZW O (ZY 4*13)) 3) 2 N λF=>Lr F 2 (Am j 0) λe=>Lr F 2 (Am j 0) λf=>((Nb F (ZP #[(vi 4)] 3) λad F=>wx e f j ad a P R F)/\(Nb F (ZP #[(vi 1)] 3) λC F=>rU f e j C a P R F)/\(Nb F (ZP #[(vi 0)] 3) λk F=>r5 e f j k a P R F)/\(Ca 85 #[(vi 0)] F λi F=>F.row (Am j 0) f/\F.row (Am j 0) e/\sA e f i j a P R F))
theorem Ss (h:MN R F):ν 129 #[] F R:=Rx.Λ .N h
def pN (f e:Nat) (R:VR) (F:PH):Prop:=Ls F (Am e 8) λa=>Ca 85 #[(vi 1)] F λb F=>F.cell (Am e 8)=ZO (ZS a)/\Ix a 1 λc=>aw F (ZW (ZW c (ZY 1*9)) 7) 2 b λF=>Lr F 9 (Am e 0) λd=>aw F (Am f 0) 9 d λF=>Rr 9 (Am f 0) R F
def MO (R:VR) (F:PH):Prop:=Nb F (ZP zG 37) λb0 F=>Nb F (ZP #[Z1 ⟨#[83]⟩,Z1 ⟨#[67]⟩] 9) λb3 F=>Ca 46 #[ZS (Sb b3 2)] F λO F=>Nb F (ZP zG 37) λa F=>aw F (Am a 0) 9 O λF=>Ca 34 #[ZV ZT] F λP F=>Nb F (ZP zD 31) λN F=>aw F (Am N 0) 2 P λF=>Ls F (Am a 5) λf=>Ca 48 #[(vi 5)] F λC F=>F.cell (Am a 5)=ZO (ZS f)/\Ca 49 #[(vi 1)] F λD F=>F.cell (Am a 5)=ZO (ZS f)/\Ca 49 #[(vi 0)] F λk F=>F.cell (Am a 5)=ZO (ZS f)/\Ca 48 #[(vi 6)] F λl F=>F.cell (Am a 5)=ZO (ZS f)/\Ca 49 #[(vi 0)] F λm F=>F.cell (Am a 5)=ZO (ZS f)/\C.size=2/\D.size=2/\k.size=2/\l.size=2/\m.size=2/\Nb F (ZP (wr (wr (wr (wr (wr (#[ZV ZQ,vi 0,.bool ZQ,vi 0,.bool ZQ,vi 0,.bool ZQ,vi 0,.bool ZQ,vi 0]:Γ) 0 C.toList) 2 D.toList) 4 k.toList) 6 l.toList) 8 m.toList) 63) λQ F=>Ca 81 #[Z1 ⟨#[98,111,116,104]⟩,(vi 0),ZS (Sb Q 5)] F λn F=>F.cell (Am a 5)=ZO (ZS f)/\n.size=13/\Nb F (ZP n 55) λS F=>Ap 33 #[ZS f,ZS (Sb S 1)] F λE F=>sto F (Am a 5) (ZS E) λF=>Ls F (Am a 5) λd=>Ca 48 #[(vi 5)] F λo F=>F.cell (Am a 5)=ZO (ZS d)/\Ca 49 #[(vi 1)] F λp F=>F.cell (Am a 5)=ZO (ZS d)/\Ca 49 #[(vi 0)] F λq F=>F.cell (Am a 5)=ZO (ZS d)/\o.size=2/\p.size=2/\q.size=2/\Nb F (ZP (wr (wr (wr (#[ZV ZQ,vi 0,.bool ZQ,vi 0,.bool ZQ,vi 0]:Γ) 0 o.toList) 2 p.toList) 4 q.toList) 63) λT F=>Ca 81 #[Z1 ⟨#[116,104,101,110]⟩,(vi 0),ZS (Sb T 3)] F λr F=>F.cell (Am a 5)=ZO (ZS d)/\r.size=13/\Nb F (ZP r 55) λU F=>Ap 33 #[ZS d,ZS (Sb U 1)] F λG F=>sto F (Am a 5) (ZS G) λF=>Ls F (Am a 5) λg=>Ca 49 #[(vi 1)] F λs F=>F.cell (Am a 5)=ZO (ZS g)/\Ca 48 #[(vi 7)] F λt F=>F.cell (Am a 5)=ZO (ZS g)/\s.size=2/\t.size=2/\Nb F (ZP (wr (wr (#[ZV ZQ,vi 0,.bool ZQ,vi 0]:Γ) 0 s.toList) 2 t.toList) 63) λV F=>Ca 81 #[Z1 ⟨#[99,97,108,108]⟩,(vi 0),ZS (Sb V 2)] F λu F=>F.cell (Am a 5)=ZO (ZS g)/\u.size=13/\Nb F (ZP u 55) λW F=>Ap 33 #[ZS g,ZS (Sb W 1)] F λH F=>sto F (Am a 5) (ZS H) λF=>Ls F (Am a 5) λe=>Ca 48 #[(vi 3)] F λv F=>F.cell (Am a 5)=ZO (ZS e)/\Ca 49 #[(vi 0)] F λw F=>F.cell (Am a 5)=ZO (ZS e)/\Ca 48 #[(vi 4)] F λx F=>F.cell (Am a 5)=ZO (ZS e)/\v.size=2/\w.size=2/\x.size=2/\Nb F (ZP (wr (wr (wr (#[ZV ZQ,vi 0,.bool ZQ,vi 0,.bool ZQ,vi 0]:Γ) 0 v.toList) 2 w.toList) 4 x.toList) 63) λX F=>Ca 81 #[Z1 ⟨#[98,108,111,99,107]⟩,(vi 0),ZS (Sb X 3)] F λy F=>F.cell (Am a 5)=ZO (ZS e)/\y.size=13/\Nb F (ZP y 55) λY F=>Ap 33 #[ZS e,ZS (Sb Y 1)] F λI F=>sto F (Am a 5) (ZS I) λF=>Ls F (Am a 5) λh=>Ca 48 #[(vi 0)] F λz F=>F.cell (Am a 5)=ZO (ZS h)/\z.size=2/\Nb F (ZP z 63) λZ F=>Ca 81 #[Z1 ⟨#[119,111,114,100]⟩,(vi 1),ZS (Sb Z 1)] F λA F=>F.cell (Am a 5)=ZO (ZS h)/\A.size=13/\Nb F (ZP A 55) λaa F=>Ap 33 #[ZS h,ZS (Sb aa 1)] F λJ F=>sto F (Am a 5) (ZS J) λF=>Ls F (Am a 5) λK=>Ix K 3 λL=>sto F (ZW (ZW L (ZY 3*13)) 5) (ZV ZT) λF=>Lr F 2 (Am N 0) λb=>((Ca 85 #[(vi 0)] F λi F=>F.row (Am N 0) b/\i.size=2/\Nb F (ZP #[(vi 5),(vi 6)] 3) λM F=>b.size=2/\(wr (Z6 (Z6 (Z6 zF 0 (vi 2)) 2 (vi 2)) 3 (vi 1)) 7 i.toList).size=9/\(wr (Z6 (Z6 zF 0 (vi 5)) 6 (ZS (Sb M 2))) 7 b.toList).size=9/\Nb F (ZP (wr (wr (#[vi 0,vi 0,vi 0,vi 0,vi 0,vi 0,.slice ZR 0 0,.slice ZR 0 0,vi 0,vi 0,vi 0,vi 0,vi 0,vi 0,vi 0,.slice ZR 0 0,.slice ZR 0 0,vi 0]:Γ) 0 (wr (Z6 (Z6 (Z6 zF 0 (vi 2)) 2 (vi 2)) 3 (vi 1)) 7 i.toList).toList) 9 (wr (Z6 (Z6 zF 0 (vi 5)) 6 (ZS (Sb M 2))) 7 b.toList).toList) 156) λab F=>sto F (Am a 8) (ZS (Sb ab 2)) λF=>pN b0 a R F)/\(Nb F (ZP #[(vi 5),(vi 6)] 3) λj F=>b.size=2/\Ca 85 #[(vi 0)] F λc F=>F.row (Am N 0) b/\c.size=2/\(wr (Z6 (Z6 (Z6 zF 0 (vi 2)) 2 (vi 2)) 3 (vi 1)) 7 c.toList).size=9/\(wr (Z6 (Z6 zF 0 (vi 5)) 6 (ZS (Sb j 2))) 7 b.toList).size=9/\Nb F (ZP (wr (wr (#[vi 0,vi 0,vi 0,vi 0,vi 0,vi 0,.slice ZR 0 0,.slice ZR 0 0,vi 0,vi 0,vi 0,vi 0,vi 0,vi 0,vi 0,.slice ZR 0 0,.slice ZR 0 0,vi 0]:Γ) 0 (wr (Z6 (Z6 (Z6 zF 0 (vi 2)) 2 (vi 2)) 3 (vi 1)) 7 c.toList).toList) 9 (wr (Z6 (Z6 zF 0 (vi 5)) 6 (ZS (Sb j 2))) 7 b.toList).toList) 156) λB F=>sto F (Am a 8) (ZS (Sb B 2)) λF=>pN b0 a R F))
theorem Su (h:MO R F):ν 130 #[] F R:=Rx.Λ (.ZN (.ZN (.ZN (.ZN (.ZN (.ZN (.ZN (.ZN (.ZN (.J ZQ [] .N .N)))))))))) h
def MP (R:VR) (F:PH):Prop:=Nb F (ZP zG 37) λb0 F=>Nb F (ZP #[Z1 ⟨#[76]⟩,Z1 ⟨#[73]⟩] 9) λb2 F=>Ca 46 #[ZS (Sb b2 2)] F λaf F=>Nb F (ZP zG 37) λa F=>aw F (Am a 0) 9 af λF=>Ls F (Am a 5) λK=>Nb F (ZP #[] 63) λb6 F=>Ca 81 #[Z1 ⟨#[101,109,112,116,121]⟩,(vi 0),ZS (Sb b6 0)] F λL F=>F.cell (Am a 5)=ZO (ZS K)/\L.size=13/\Nb F (ZP L 55) λb8 F=>Ap 33 #[ZS K,ZS (Sb b8 1)] F λag F=>sto F (Am a 5) (ZS ag) λF=>Ls F (Am a 5) λf=>Ca 49 #[(vi 0)] F λi F=>F.cell (Am a 5)=ZO (ZS f)/\Ca 49 #[(vi 1)] F λj F=>F.cell (Am a 5)=ZO (ZS f)/\i.size=2/\j.size=2/\Nb F (ZP (wr (wr (#[ZV ZQ,vi 0,.bool ZQ,vi 0]:Γ) 0 i.toList) 2 j.toList) 63) λah F=>Ca 81 #[Z1 ⟨#[109,111,114,101]⟩,(vi 0),ZS (Sb ah 2)] F λk F=>F.cell (Am a 5)=ZO (ZS f)/\k.size=13/\Nb F (ZP k 55) λai F=>Ap 33 #[ZS f,ZS (Sb ai 1)] F λM F=>sto F (Am a 5) (ZS M) λF=>Ls F (Am a 5) λd=>Ca 48 #[(vi 1)] F λl F=>F.cell (Am a 5)=ZO (ZS d)/\Ca 48 #[(vi 0)] F λm F=>F.cell (Am a 5)=ZO (ZS d)/\Ca 48 #[(vi 7)] F λn F=>F.cell (Am a 5)=ZO (ZS d)/\l.size=2/\m.size=2/\n.size=2/\Nb F (ZP (wr (wr (wr (#[ZV ZQ,vi 0,.bool ZQ,vi 0,.bool ZQ,vi 0]:Γ) 0 l.toList) 2 m.toList) 4 n.toList) 63) λaj F=>Ca 81 #[Z1 ⟨#[116,121,112,101]⟩,(vi 1),ZS (Sb aj 3)] F λo F=>F.cell (Am a 5)=ZO (ZS d)/\o.size=13/\Nb F (ZP o 55) λak F=>Ap 33 #[ZS d,ZS (Sb ak 1)] F λN F=>sto F (Am a 5) (ZS N) λF=>Ls F (Am a 5) λb=>Ca 48 #[(vi 0)] F λp F=>F.cell (Am a 5)=ZO (ZS b)/\Ca 48 #[(vi 2)] F λq F=>F.cell (Am a 5)=ZO (ZS b)/\Ca 48 #[(vi 0)] F λr F=>F.cell (Am a 5)=ZO (ZS b)/\Ca 48 #[(vi 7)] F λs F=>F.cell (Am a 5)=ZO (ZS b)/\p.size=2/\q.size=2/\r.size=2/\s.size=2/\Nb F (ZP (wr (wr (wr (wr (#[ZV ZQ,vi 0,.bool ZQ,vi 0,.bool ZQ,vi 0,.bool ZQ,vi 0]:Γ) 0 p.toList) 2 q.toList) 4 r.toList) 6 s.toList) 63) λal F=>Ca 81 #[Z1 ⟨#[112,111,105,110,116,101,114]⟩,(vi 1),ZS (Sb al 4)] F λt F=>F.cell (Am a 5)=ZO (ZS b)/\t.size=13/\Nb F (ZP t 55) λam F=>Ap 33 #[ZS b,ZS (Sb am 1)] F λO F=>sto F (Am a 5) (ZS O) λF=>Ls F (Am a 5) λc=>Ca 48 #[(vi 0)] F λu F=>F.cell (Am a 5)=ZO (ZS c)/\Ca 48 #[(vi 2)] F λv F=>F.cell (Am a 5)=ZO (ZS c)/\Ca 48 #[(vi 0)] F λw F=>F.cell (Am a 5)=ZO (ZS c)/\Ca 48 #[(vi 7)] F λx F=>F.cell (Am a 5)=ZO (ZS c)/\u.size=2/\v.size=2/\w.size=2/\x.size=2/\Nb F (ZP (wr (wr (wr (wr (#[ZV ZQ,vi 0,.bool ZQ,vi 0,.bool ZQ,vi 0,.bool ZQ,vi 0]:Γ) 0 u.toList) 2 v.toList) 4 w.toList) 6 x.toList) 63) λan F=>Ca 81 #[Z1 ⟨#[112,114,111,100,117,99,116]⟩,(vi 1),ZS (Sb an 4)] F λy F=>F.cell (Am a 5)=ZO (ZS c)/\y.size=13/\Nb F (ZP y 55) λao F=>Ap 33 #[ZS c,ZS (Sb ao 1)] F λP F=>sto F (Am a 5) (ZS P) λF=>Ls F (Am a 5) λe=>Ca 48 #[(vi 3)] F λz F=>F.cell (Am a 5)=ZO (ZS e)/\Ca 49 #[(vi 0)] F λA F=>F.cell (Am a 5)=ZO (ZS e)/\Ca 48 #[(vi 4)] F λB F=>F.cell (Am a 5)=ZO (ZS e)/\z.size=2/\A.size=2/\B.size=2/\Nb F (ZP (wr (wr (wr (#[ZV ZQ,vi 0,.bool ZQ,vi 0,.bool ZQ,vi 0]:Γ) 0 z.toList) 2 A.toList) 4 B.toList) 63) λap F=>Ca 81 #[Z1 ⟨#[105,110,110,101,114]⟩,(vi 1),ZS (Sb ap 3)] F λC F=>F.cell (Am a 5)=ZO (ZS e)/\C.size=13/\Nb F (ZP C 55) λaq F=>Ap 33 #[ZS e,ZS (Sb aq 1)] F λQ F=>sto F (Am a 5) (ZS Q) λF=>Ls F (Am a 5) λg=>Ca 48 #[(vi 0)] F λD F=>F.cell (Am a 5)=ZO (ZS g)/\Ca 48 #[(vi 7)] F λE F=>F.cell (Am a 5)=ZO (ZS g)/\D.size=2/\E.size=2/\Nb F (ZP (wr (wr (#[ZV ZQ,vi 0,.bool ZQ,vi 0]:Γ) 0 D.toList) 2 E.toList) 63) λar F=>Ca 81 #[Z1 ⟨#[115,116,114,105,99,116]⟩,(vi 1),ZS (Sb ar 2)] F λG F=>F.cell (Am a 5)=ZO (ZS g)/\G.size=13/\Nb F (ZP G 55) λau F=>Ap 33 #[ZS g,ZS (Sb au 1)] F λS F=>sto F (Am a 5) (ZS S) λF=>Ls F (Am a 5) λT=>Ix T 2 λU=>aw F (ZW (ZW U (ZY 2*13)) 8) 5 (#[ZV ZQ,(vi 2),(vi 1),vi 0,vi 0]:Γ) λF=>Ls F (Am a 5) λV=>Ix V 3 λW=>aw F (ZW (ZW W (ZY 3*13)) 8) 5 (#[ZV ZQ,(vi 3),(vi 2),(vi 1),(vi 2)]:Γ) λF=>Ls F (Am a 5) λX=>Ix X 4 λY=>aw F (ZW (ZW Y (ZY 4*13)) 8) 5 (#[ZV ZQ,vi 0,vi 0,(vi 1),(vi 5)]:Γ) λF=>Ls F (Am a 5) λZ=>Ix Z 5 λaa=>aw F (ZW (ZW aa (ZY 5*13)) 8) 5 (#[ZV ZT,vi 0,vi 0,vi 0,vi 0]:Γ) λF=>Ls F (Am a 5) λab=>Ix ab 6 λac=>aw F (ZW (ZW ac (ZY 6*13)) 8) 5 (#[ZV ZQ,vi 0,vi 0,(vi 1),(vi 6)]:Γ) λF=>Ls F (Am a 5) λad=>Ix ad 4 λae=>sto F (ZW (ZW ae (ZY 4*13)) 6) (vi (-1:Int)) λF=>Ls F (Am a 5) λh=>Ca 85 #[(vi 0)] F λH F=>F.cell (Am a 5)=ZO (ZS h)/\Ix h 6 λI=>aw F (ZW (ZW I (ZY 6*13)) 3) 2 H λF=>Lr F 9 (Am a 0) λJ=>aw F (Am b0 0) 9 J λF=>Rr 9 (Am b0 0) R F
theorem Sv (h:MP R F):ν 131 #[] F R:=Rx.Λ .N h
def MQ (R:VR) (F:PH):Prop:=Nb F (ZP zG 37) λX F=>Nb F (ZP #[Z1 ⟨#[66]⟩,Z1 ⟨#[73]⟩] 9) λY F=>Ca 46 #[ZS (Sb Y 2)] F λK F=>Nb F (ZP zG 37) λa F=>aw F (Am a 0) 9 K λF=>Ls F (Am a 5) λs=>Ca 49 #[(vi 1)] F λt F=>F.cell (Am a 5)=ZO (ZS s)/\t.size=2/\Nb F (ZP t 63) λZ F=>Ca 81 #[Z1 ⟨#[111,110,101]⟩,(vi 0),ZS (Sb Z 1)] F λu F=>F.cell (Am a 5)=ZO (ZS s)/\u.size=13/\Nb F (ZP u 55) λb9 F=>Ap 33 #[ZS s,ZS (Sb b9 1)] F λv F=>sto F (Am a 5) (ZS v) λF=>Ls F (Am a 5) λc=>Ca 49 #[(vi 0)] F λf F=>F.cell (Am a 5)=ZO (ZS c)/\Ca 49 #[(vi 1)] F λg F=>F.cell (Am a 5)=ZO (ZS c)/\f.size=2/\g.size=2/\Nb F (ZP (wr (wr (#[ZV ZQ,vi 0,.bool ZQ,vi 0]:Γ) 0 f.toList) 2 g.toList) 63) λL F=>Ca 81 #[Z1 ⟨#[108,105,115,116]⟩,(vi 0),ZS (Sb L 2)] F λh F=>F.cell (Am a 5)=ZO (ZS c)/\h.size=13/\Nb F (ZP h 55) λM F=>Ap 33 #[ZS c,ZS (Sb M 1)] F λw F=>sto F (Am a 5) (ZS w) λF=>Ls F (Am a 5) λe=>Ca 48 #[(vi 0)] F λi F=>F.cell (Am a 5)=ZO (ZS e)/\i.size=2/\Nb F (ZP i 63) λN F=>Ca 81 #[Z1 ⟨#[119,111,114,100]⟩,(vi 1),ZS (Sb N 1)] F λj F=>F.cell (Am a 5)=ZO (ZS e)/\j.size=13/\Nb F (ZP j 55) λO F=>Ap 33 #[ZS e,ZS (Sb O 1)] F λx F=>sto F (Am a 5) (ZS x) λF=>Ls F (Am a 5) λb=>Ca 48 #[(vi 5)] F λk F=>F.cell (Am a 5)=ZO (ZS b)/\Ca 48 #[(vi 0)] F λl F=>F.cell (Am a 5)=ZO (ZS b)/\Ca 49 #[(vi 0)] F λm F=>F.cell (Am a 5)=ZO (ZS b)/\k.size=2/\l.size=2/\m.size=2/\Nb F (ZP (wr (wr (wr (#[ZV ZQ,vi 0,.bool ZQ,vi 0,.bool ZQ,vi 0]:Γ) 0 k.toList) 2 l.toList) 4 m.toList) 63) λP F=>Ca 81 #[Z1 ⟨#[104,101,97,100]⟩,(vi 1),ZS (Sb P 3)] F λn F=>F.cell (Am a 5)=ZO (ZS b)/\n.size=13/\Nb F (ZP n 55) λQ F=>Ap 33 #[ZS b,ZS (Sb Q 1)] F λy F=>sto F (Am a 5) (ZS y) λF=>Ls F (Am a 5) λd=>Ca 48 #[(vi 5)] F λo F=>F.cell (Am a 5)=ZO (ZS d)/\Ca 49 #[(vi 0)] F λp F=>F.cell (Am a 5)=ZO (ZS d)/\o.size=2/\p.size=2/\Nb F (ZP (wr (wr (#[ZV ZQ,vi 0,.bool ZQ,vi 0]:Γ) 0 o.toList) 2 p.toList) 63) λS F=>Ca 81 #[Z1 ⟨#[108,105,110,101]⟩,(vi 1),ZS (Sb S 2)] F λq F=>F.cell (Am a 5)=ZO (ZS d)/\q.size=13/\Nb F (ZP q 55) λT F=>Ap 33 #[ZS d,ZS (Sb T 1)] F λz F=>sto F (Am a 5) (ZS z) λF=>Ls F (Am a 5) λA=>(#[(vi 2),(vi 0),(vi 1)]:Γ).size=3/\Nb F (ZP (#[(vi 2),(vi 0),(vi 1)]:Γ) 153) λU F=>Ix A 1 λB=>sto F (ZW (ZW B (ZY 1*13)) 7) (ZS (Sb U 1)) λF=>Ls F (Am a 5) λC=>(#[(vi 3),(vi 0),(vi 2)]:Γ).size=3/\(#[(vi 1),(vi 2),vi 0]:Γ).size=3/\Nb F (ZP (wr (wr (#[vi 0,vi 0,vi 0,vi 0,vi 0,vi 0]:Γ) 0 (#[(vi 3),(vi 0),(vi 2)]:Γ).toList) 3 (#[(vi 1),(vi 2),vi 0]:Γ).toList) 153) λV F=>Ix C 3 λD=>sto F (ZW (ZW D (ZY 3*13)) 7) (ZS (Sb V 2)) λF=>Ls F (Am a 5) λE=>(#[(vi 4),(vi 0),(vi 1)]:Γ).size=3/\Nb F (ZP (#[(vi 4),(vi 0),(vi 1)]:Γ) 153) λW F=>Ix E 4 λG=>sto F (ZW (ZW G (ZY 4*13)) 7) (ZS (Sb W 1)) λF=>Ls F (Am a 5) λr=>Ca 85 #[(vi 0)] F λH F=>F.cell (Am a 5)=ZO (ZS r)/\Ix r 4 λI=>aw F (ZW (ZW I (ZY 4*13)) 3) 2 H λF=>Lr F 9 (Am a 0) λJ=>aw F (Am X 0) 9 J λF=>Rr 9 (Am X 0) R F
theorem Sw (h:MQ R F):ν 132 #[] F R:=Rx.Λ .N h
def MR (R:VR) (F:PH):Prop:=Nb F (ZP zG 37) λb0 F=>Nb F (ZP #[Z1 ⟨#[83]⟩,Z1 ⟨#[87]⟩,Z1 ⟨#[86]⟩] 9) λb2 F=>Ca 46 #[ZS (Sb b2 3)] F λO F=>Nb F (ZP zG 37) λa F=>aw F (Am a 0) 9 O λF=>Ls F (Am a 5) λh=>Ca 49 #[(vi 1)] F λw F=>F.cell (Am a 5)=ZO (ZS h)/\Ca 49 #[(vi 2)] F λx F=>F.cell (Am a 5)=ZO (ZS h)/\w.size=2/\x.size=2/\Nb F (ZP (wr (wr (#[ZV ZQ,vi 0,.bool ZQ,vi 0]:Γ) 0 w.toList) 2 x.toList) 63) λb8 F=>Ca 81 #[Z1 ⟨#[112,97,105,114]⟩,(vi 0),ZS (Sb b8 2)] F λy F=>F.cell (Am a 5)=ZO (ZS h)/\y.size=13/\Nb F (ZP y 55) λP F=>Ap 33 #[ZS h,ZS (Sb P 1)] F λz F=>sto F (Am a 5) (ZS z) λF=>Ls F (Am a 5) λe=>Ca 48 #[(vi 0)] F λi F=>F.cell (Am a 5)=ZO (ZS e)/\i.size=2/\Nb F (ZP i 63) λQ F=>Ca 81 #[Z1 ⟨#[115,105,110,103,108,101]⟩,(vi 1),ZS (Sb Q 1)] F λj F=>F.cell (Am a 5)=ZO (ZS e)/\j.size=13/\Nb F (ZP j 55) λS F=>Ap 33 #[ZS e,ZS (Sb S 1)] F λA F=>sto F (Am a 5) (ZS A) λF=>Ls F (Am a 5) λb=>Ca 48 #[(vi 0)] F λk F=>F.cell (Am a 5)=ZO (ZS b)/\Ca 48 #[(vi 0)] F λl F=>F.cell (Am a 5)=ZO (ZS b)/\k.size=2/\l.size=2/\Nb F (ZP (wr (wr (#[ZV ZQ,vi 0,.bool ZQ,vi 0]:Γ) 0 k.toList) 2 l.toList) 63) λT F=>Ca 81 #[Z1 ⟨#[100,111,117,98,108,101]⟩,(vi 1),ZS (Sb T 2)] F λm F=>F.cell (Am a 5)=ZO (ZS b)/\m.size=13/\Nb F (ZP m 55) λU F=>Ap 33 #[ZS b,ZS (Sb U 1)] F λB F=>sto F (Am a 5) (ZS B) λF=>Ls F (Am a 5) λn=>Nb F (ZP #[] 63) λV F=>Ca 81 #[Z1 ⟨#[110,111,110,101]⟩,(vi 2),ZS (Sb V 0)] F λo F=>F.cell (Am a 5)=ZO (ZS n)/\o.size=13/\Nb F (ZP o 55) λW F=>Ap 33 #[ZS n,ZS (Sb W 1)] F λC F=>sto F (Am a 5) (ZS C) λF=>Ls F (Am a 5) λc=>Ca 48 #[(vi 0)] F λp F=>F.cell (Am a 5)=ZO (ZS c)/\Ca 49 #[(vi 2)] F λq F=>F.cell (Am a 5)=ZO (ZS c)/\p.size=2/\q.size=2/\Nb F (ZP (wr (wr (#[ZV ZQ,vi 0,.bool ZQ,vi 0]:Γ) 0 p.toList) 2 q.toList) 63) λX F=>Ca 81 #[Z1 ⟨#[110,101,120,116]⟩,(vi 2),ZS (Sb X 2)] F λr F=>F.cell (Am a 5)=ZO (ZS c)/\r.size=13/\Nb F (ZP r 55) λY F=>Ap 33 #[ZS c,ZS (Sb Y 1)] F λD F=>sto F (Am a 5) (ZS D) λF=>Ls F (Am a 5) λd=>Ca 48 #[(vi 1)] F λs F=>F.cell (Am a 5)=ZO (ZS d)/\Ca 49 #[(vi 2)] F λt F=>F.cell (Am a 5)=ZO (ZS d)/\s.size=2/\t.size=2/\Nb F (ZP (wr (wr (#[ZV ZQ,vi 0,.bool ZQ,vi 0]:Γ) 0 s.toList) 2 t.toList) 63) λZ F=>Ca 81 #[Z1 ⟨#[109,97,114,107]⟩,(vi 2),ZS (Sb Z 2)] F λu F=>F.cell (Am a 5)=ZO (ZS d)/\u.size=13/\Nb F (ZP u 55) λaa F=>Ap 33 #[ZS d,ZS (Sb aa 1)] F λE F=>sto F (Am a 5) (ZS E) λF=>Ls F (Am a 5) λG=>Ix G 1 λH=>sto F (ZW (ZW H (ZY 1*13)) 6) (vi (-1:Int)) λF=>Ls F (Am a 5) λv=>Ca 85 #[(vi 1)] F λI F=>F.cell (Am a 5)=ZO (ZS v)/\Ix v 5 λJ=>aw F (ZW (ZW J (ZY 5*13)) 3) 2 I λF=>Nb F (ZP #[(vi 0)] 3) λK F=>Ca 85 #[(vi 0)] F λf F=>f.size=2/\Nb F (ZP #[(vi 1)] 3) λL F=>Ca 85 #[(vi 1)] F λM F=>Ca 86 #[ZU M] F λg F=>g.size=2/\(wr (Z6 (Z6 (Z6 zF 0 (vi 3)) 4 (vi 1)) 6 (ZS (Sb K 1))) 7 f.toList).size=9/\(wr (Z6 (Z6 (Z6 zF 0 (vi 4)) 4 (vi 2)) 6 (ZS (Sb L 1))) 7 g.toList).size=9/\Nb F (ZP (wr (wr (#[vi 0,vi 0,vi 0,vi 0,vi 0,vi 0,.slice ZR 0 0,.slice ZR 0 0,vi 0,vi 0,vi 0,vi 0,vi 0,vi 0,vi 0,.slice ZR 0 0,.slice ZR 0 0,vi 0]:Γ) 0 (wr (Z6 (Z6 (Z6 zF 0 (vi 3)) 4 (vi 1)) 6 (ZS (Sb K 1))) 7 f.toList).toList) 9 (wr (Z6 (Z6 (Z6 zF 0 (vi 4)) 4 (vi 2)) 6 (ZS (Sb L 1))) 7 g.toList).toList) 156) λab F=>sto F (Am a 8) (ZS (Sb ab 2)) λF=>Lr F 9 (Am a 0) λN=>aw F (Am b0 0) 9 N λF=>Rr 9 (Am b0 0) R F
theorem SA (h:MR R F):ν 133 #[] F R:=Rx.Λ .N h
def MS (R:VR) (F:PH):Prop:=Nb F (ZP zG 37) λN F=>Nb F (ZP #[Z1 ⟨#[83]⟩,Z1 ⟨#[79]⟩,Z1 ⟨#[80]⟩] 9) λO F=>Ca 46 #[ZS (Sb O 3)] F λB F=>Nb F (ZP zG 37) λa F=>aw F (Am a 0) 9 B λF=>Ls F (Am a 5) λc=>Ca 49 #[(vi 1)] F λp F=>F.cell (Am a 5)=ZO (ZS c)/\Ca 48 #[(vi 0)] F λq F=>F.cell (Am a 5)=ZO (ZS c)/\Ca 49 #[(vi 1)] F λr F=>F.cell (Am a 5)=ZO (ZS c)/\Ca 49 #[(vi 2)] F λs F=>F.cell (Am a 5)=ZO (ZS c)/\p.size=2/\q.size=2/\r.size=2/\s.size=2/\Nb F (ZP (wr (wr (wr (wr (#[ZV ZQ,vi 0,.bool ZQ,vi 0,.bool ZQ,vi 0,.bool ZQ,vi 0]:Γ) 0 p.toList) 2 q.toList) 4 r.toList) 6 s.toList) 63) λC F=>Ca 81 #[Z1 ⟨#[97,108,108]⟩,(vi 0),ZS (Sb C 4)] F λe F=>F.cell (Am a 5)=ZO (ZS c)/\e.size=13/\Nb F (ZP e 55) λD F=>Ap 33 #[ZS c,ZS (Sb D 1)] F λt F=>sto F (Am a 5) (ZS t) λF=>Ls F (Am a 5) λf=>Nb F (ZP #[] 63) λE F=>Ca 81 #[Z1 ⟨#[110,111]⟩,(vi 1),ZS (Sb E 0)] F λg F=>F.cell (Am a 5)=ZO (ZS f)/\g.size=13/\Nb F (ZP g 55) λG F=>Ap 33 #[ZS f,ZS (Sb G 1)] F λu F=>sto F (Am a 5) (ZS u) λF=>Ls F (Am a 5) λd=>Ca 48 #[(vi 1)] F λh F=>F.cell (Am a 5)=ZO (ZS d)/\h.size=2/\Nb F (ZP h 63) λH F=>Ca 81 #[Z1 ⟨#[121,101,115]⟩,(vi 1),ZS (Sb H 1)] F λi F=>F.cell (Am a 5)=ZO (ZS d)/\i.size=13/\Nb F (ZP i 55) λI F=>Ap 33 #[ZS d,ZS (Sb I 1)] F λv F=>sto F (Am a 5) (ZS v) λF=>Ls F (Am a 5) λj=>Nb F (ZP #[] 63) λJ F=>Ca 81 #[Z1 ⟨#[101,110,100]⟩,(vi 2),ZS (Sb J 0)] F λk F=>F.cell (Am a 5)=ZO (ZS j)/\k.size=13/\Nb F (ZP k 55) λK F=>Ap 33 #[ZS j,ZS (Sb K 1)] F λw F=>sto F (Am a 5) (ZS w) λF=>Ls F (Am a 5) λb=>Ca 48 #[(vi 1)] F λl F=>F.cell (Am a 5)=ZO (ZS b)/\Ca 49 #[(vi 2)] F λm F=>F.cell (Am a 5)=ZO (ZS b)/\l.size=2/\m.size=2/\Nb F (ZP (wr (wr (#[ZV ZQ,vi 0,.bool ZQ,vi 0]:Γ) 0 l.toList) 2 m.toList) 63) λL F=>Ca 81 #[Z1 ⟨#[114,101,115,116]⟩,(vi 2),ZS (Sb L 2)] F λn F=>F.cell (Am a 5)=ZO (ZS b)/\n.size=13/\Nb F (ZP n 55) λM F=>Ap 33 #[ZS b,ZS (Sb M 1)] F λx F=>sto F (Am a 5) (ZS x) λF=>Ls F (Am a 5) λo=>Ca 85 #[(vi 0)] F λy F=>F.cell (Am a 5)=ZO (ZS o)/\Ix o 4 λz=>aw F (ZW (ZW z (ZY 4*13)) 3) 2 y λF=>Lr F 9 (Am a 0) λA=>aw F (Am N 0) 9 A λF=>Rr 9 (Am N 0) R F
theorem SC (h:MS R F):ν 134 #[] F R:=Rx.Λ .N h
def dN (c b:Nat) (R:VR) (F:PH):Prop:=Lr F 13 (Am c 0) λa=>aw F (Am b 0) 13 a λF=>Rr 13 (Am b 0) R F
def MT (p:Γ) (a:Int) (R:VR) (F:PH):Prop:=Nb F (ZP p 55) λc F=>Nb F (ZP zP 55) λd F=>Ls F (Am c 2) λb=>Bc ((b.len:Int)=0) (Lr F 13 (Am c 0) λg=>aw F (Am d 0) 13 g λF=>Rr 13 (Am d 0) R F) (Bc ((Z5 a 8)=1) (sto F (Am c 6) (vi 1) λF=>dN c d R F) (Bc ((Z5 a 8)=2) (sto F (Am c 6) (vi (-1:Int)) λF=>dN c d R F) (Bc ((Z5 a 8)=3) (sto F (Am c 5) (ZV ZT) λF=>Lr F 13 (Am c 0) λh=>Cbo 171 #[ZU h] F λi F=>sto F (Am c 5) (ZV i) λF=>dN c d R F) (Bc ((Z5 a 8)=4) ((b.len:Int)≠0/\(#[(vi (i64.wrap (1+(Z5 (i64.wrap (u8.wrap (Int.tdiv a 8))) 4)))),(vi (Z5 (i64.wrap (Int.tdiv (i64.wrap (u8.wrap (Int.tdiv a 8))) 4)) (b.len:Int))),(vi (i64.wrap ((b.len:Int) - 1)))]:Γ).size=3/\Nb F (ZP (#[(vi (i64.wrap (1+(Z5 (i64.wrap (u8.wrap (Int.tdiv a 8))) 4)))),(vi (Z5 (i64.wrap (Int.tdiv (i64.wrap (u8.wrap (Int.tdiv a 8))) 4)) (b.len:Int))),(vi (i64.wrap ((b.len:Int) - 1)))]:Γ) 153) λq F=>sto F (Am c 7) (ZS (Sb q 1)) λF=>Bc ((Z5 (i64.wrap (u8.wrap (Int.tdiv a 8))) 4)=0) (Ls F (Am c 7) λj=>Ix j 0 λk=>sto F (ZW (ZW k (ZY 0*3)) 2) (vi 0) λF=>dN c d R F) (dN c d R F)) (Bc ((Z5 a 8)=5) (sto F (Am c 8) (ZV ZT) λF=>dN c d R F) (Bc ((Z5 a 8)=6) (Ls F (Am c 2) λl=>(b.len:Int)≠0/\Ix l (Z5 (i64.wrap (u8.wrap (Int.tdiv a 8))) (b.len:Int)) λm=>∃e,F.cell (ZW m (ZY (Z5 (i64.wrap (u8.wrap (Int.tdiv a 8))) (b.len:Int))*2))=ZO (ZV e)/\Bb (e) ((b.len:Int)≠0/\aw F (Am c 8) 5 (#[ZV ZQ,(vi (i64.wrap ((Z5 (i64.wrap (u8.wrap (Int.tdiv a 8))) (b.len:Int))+1))),(vi (i64.wrap (1+(Z5 (i64.wrap (u8.wrap (Int.tdiv a 8))) 2)))),vi 0,vi 0]:Γ) λF=>dN c d R F) (dN c d R F)) (Bc ((Z5 a 8)=7) (Ls F (Am c 2) λn=>(b.len:Int)≠0/\Ix n (Z5 (i64.wrap (u8.wrap (Int.tdiv a 8))) (b.len:Int)) λo=>∃f,F.cell (ZW o (ZY (Z5 (i64.wrap (u8.wrap (Int.tdiv a 8))) (b.len:Int))*2))=ZO (ZV f)/\Bb (f) ((b.len:Int)≠0/\aw F (Am c 8) 5 (#[ZV ZQ,vi 0,vi 0,(vi (i64.wrap ((Z5 (i64.wrap (u8.wrap (Int.tdiv a 8))) (b.len:Int))+1))),(vi (i64.wrap (1+(Z5 (i64.wrap (u8.wrap (Int.tdiv a 8))) 7))))]:Γ) λF=>dN c d R F) (dN c d R F)) (dN c d R F))))))))
theorem SD {b:Γ} {a:Int} (h:MT b a R F):ν 136 #[ZU b,Z0 .u8 a] F R:=Rx.Λ (.ZN (.ZN (.ZN (.ZN (.J ZQ [] .N .N))))) h
def CA (R:VR) (F:PH):Prop:=R (ZV ZQ) F
def CB (b:Ω) (_:Int) (_:Nat) (a:Int) (_:VR) (F:PH):Prop:=b (i64.wrap (a+1)) F
def wy (m n:Ω) (c:Int) (l:Nat) (a:Int) (R:VR) (b:Int) (F:PH):Prop:=Ls F (Am l 7) λd=>Ix d a λe=>Ls F (ZW e (ZY a*4)) λf=>Bc (b<(f.len:Int)) (Ls F (Am l 7) λg=>Ix g a λh=>Ls F (ZW h (ZY a*4)) λi=>Ix i b λj=>Li F (ZW j (ZY b*1)) λk=>Bc (k=c) (R (ZV ZT) F) (n (i64.wrap (b+1)) F)) (CB m c l a R F)
def wz (h:Ω) (d:Int) (g:Nat) (R:VR) (a:Int) (F:PH):Prop:=Ls F (Am g 7) λe=>Bc (a<(e.len:Int)) ((∃(f:Nat->Ω) (c:Nat),f c 0 F/\∀c b F,f c b F-> wy h (nx1 f c) d g a R b F)) (CA R F)
def MU (a:Γ) (b:Int) (R:VR) (F:PH):Prop:=Nb F (ZP a 37) λd F=>Lp 0 F λN c F=>wz N b d R c F
theorem SE {a:Γ} {b:Int} (h:MU a b R F):ν 137 #[ZU a,(vi b)] F R:=Rx.Λ (.ZN (.J ZQ [] (.ZN (.L [(5,.int .i64)] (.ZN (.J ZQ [] (.ZN (.L [(6,.int .i64)] .N)) .N)))) .N)) h
def pO (u b:Nat) (c:Bool) (R:VR) (F:PH):Prop:=Bb (c) (Li F (Am b 4) λd=>Bc (0<=d) (Li F (Am b 4) λe=>Ls F (Am u 4) λf=>Bc (e<(f.len:Int)) (Lr F 9 (Am u 0) λg=>Ls F (Am b 6) λh=>Cbo 177 #[ZU g,ZS h,ZV ZQ] F λi F=>R (ZV i) F) (R (ZV ZQ) F)) (R (ZV ZQ) F)) (Li F (Am b 5) λj=>Bc (j<0) (R (ZV ZQ) F) (Li F (Am b 5) λk=>Ls F (Am u 3) λl=>Bc ((l.len:Int)<=k) (R (ZV ZQ) F) (Lr F 9 (Am u 0) λm=>Ls F (Am b 6) λn=>Cbo 177 #[ZU m,ZS n,ZV ZT] F λo F=>Bb ((!o)) (R (ZV ZQ) F) (Ls F (Am u 3) λp=>Li F (Am b 5) λa=>Ix p a λq=>Lr F 7 (ZW q (ZY a*7)) λr=>Nb F (ZP zT 146) λv F=>aw F (Am v 0) 7 r λF=>Li F (Am v 1) λs=>Bc (s=0) (Lx F (Am v 2) λt=>R (ZV (t.toList==(ByteArray.mk #[]).toList)) F) (R (ZV ZQ) F)))))
def pP (h a:Nat) (b:Int) (i:Bool) (R:VR) (F:PH):Prop:=Bb (i) (Li F (Am a 1) λj=>Bc (j<0) (R (ZV ZQ) F) (Li F (Am a 1) λk=>Ls F (Am h 5) λl=>Bc ((l.len:Int)<=k) (R (ZV ZQ) F) (Li F (Am a 3) λm=>Bc (m<0) (R (ZV ZQ) F) (Li F (Am a 3) λn=>Ls F (Am h 5) λo=>Bc ((o.len:Int)<=n) (R (ZV ZQ) F) (Ls F (Am h 5) λp=>Li F (Am a 1) λd=>Ix p d λq=>Ls F (ZW (ZW q (ZY d*13)) 2) λc=>Li F (Am a 2) λr=>Bc (0<=r) (Li F (Am a 2) λs=>Bc (s<(c.len:Int)) (Li F (Am a 2) λe=>Ix c e λt=>Lb F (ZW t (ZY e*2)) λu=>Bb ((!u)) (Li F (Am a 2) λf=>Ix c f λv=>Li F (ZW (ZW v (ZY f*2)) 1) λw=>Ls F (Am h 5) λx=>Li F (Am a 3) λg=>Ix x g λy=>Li F (ZW (ZW y (ZY g*13)) 1) λz=>R (ZV (decide (w=z))) F) (R (ZV ZQ) F)) (R (ZV ZQ) F)) (R (ZV ZQ) F)))))) (Bc (b=3) (pO h a (decide (b=3)) R F) (pO h a (decide (b=4)) R F))
def MV (i j:Γ) (R:VR) (F:PH):Prop:=Nb F (ZP i 37) λk F=>Nb F (ZP j 156) λb F=>Li F (Am b 0) λl=>Bc (l<1) (R (ZV ZQ) F) (Li F (Am b 0) λc=>Bc (5<c) (R (ZV ZQ) F) (Lr F 2 (Am b 7) λd=>Ls F (Am k 0) λe=>Cbo 166 #[ZU d,(vi (e.len:Int))] F λf F=>Bb ((!f)) (R (ZV ZQ) F) (Lr F 9 (Am b 0) λg=>Cbo 176 #[ZU g] F λh F=>Bb ((!h)) (R (ZV ZQ) F) (Li F (Am b 0) λa=>Bc (a=1) (pP k b a (decide (a=1)) R F) (pP k b a (decide (a=2)) R F)))))
theorem SF {a:Γ} {b:Γ} (h:MV a b R F):ν 138 #[ZU a,ZU b] F R:=Rx.Λ (.ZN (.ZN (.T (.ZN (.J ZQ [(31,.bool)] .N (.ZN (.J ZQ [(100,.bool)] .N .N)))) .N))) h
def MW (a b:Int) (R:VR) (F:PH):Prop:=Nb F (ZP (#[vi 0,vi 0,vi 0,vi 0,vi 0]) 149) λc F=>aw F (Am c 0) 5 (#[(vi 1),(vi a),(vi b),vi 0,vi 0]:Γ) λF=>Rr 5 (Am c 0) R F
theorem SG {a:Int} {b:Int} (h:MW a b R F):ν 162 #[(vi a),(vi b)] F R:=Rx.Λ .N h
def MX (a b c:Int) (R:VR) (F:PH):Prop:=Nb F (ZP (#[vi 0,vi 0,vi 0,vi 0,vi 0]) 149) λd F=>aw F (Am d 0) 5 (#[(vi a),vi 0,vi 0,(vi b),(vi c)]:Γ) λF=>Rr 5 (Am d 0) R F
theorem SH {a:Int} {b:Int} {c:Int} (h:MX a b c R F):ν 163 #[(vi a),(vi b),(vi c)] F R:=Rx.Λ .N h
def CC (a:ο) (R:VR) (F:PH):Prop:=R (ZV (!(a.toList==(ByteArray.mk #[]).toList))) F
def pQ (b:Ω) (_:ο) (a:Int) (_:VR) (F:PH):Prop:=b (i64.wrap (a+1)) F
def pR (f:Ω) (b:ο) (a:Int) (c:Bool) (R:VR) (F:PH):Prop:=0<=a/\a<(b.size:Int)/\∃(hx:ZY a<b.size) (d:Int),d=((b[ZY a]'hx).toNat:Int)/\Cbo 196 #[Z0 .u8 d] F λe F=>Bb ((!e)) (Bb ((!c)) (R (ZV ZQ) F) (Bc (a=0) (R (ZV ZQ) F) (pQ f b a R F))) (pQ f b a R F)
def wA (e:Ω) (b:ο) (R:VR) (a:Int) (F:PH):Prop:=Bc (a<(b.size:Int)) (0<=a/\a<(b.size:Int)/\∃(hx:ZY a<b.size) (c:Int),c=((b[ZY a]'hx).toNat:Int)/\Bc (48<=c) (0<=a/\a<(b.size:Int)/\∃(hx:ZY a<b.size) (d:Int),d=((b[ZY a]'hx).toNat:Int)/\pR e b a (decide (d<=(57:Int))) R F) (pR e b a ZQ R F)) (CC b R F)
def MY (a:ο) (R:VR) (F:PH):Prop:=Lp 0 F λN b F=>wA N a R b F
theorem SI {a:ο} (h:MY a R F):ν 164 #[Z1 a] F R:=Rx.Λ (.ZN (.J ZQ [] (.ZN (.L [(3,.int .i64)] (.ZN (.J ZQ [] (.J ZQ [(4,.bool)] .N .N) .N)))) .N)) h
def CD (d:Sl) (a:Int) (R:VR) (F:PH):Prop:=Ix d a λb=>Lx F (ZW b (ZY a*1)) λc=>R (ZV (!(c.toList==(ByteArray.mk #[]).toList))) F
def wB (h:Ω) (c:Sl) (a:Int) (R:VR) (b:Int) (F:PH):Prop:=Bc (b<a) (Ix c b λd=>Lx F (ZW d (ZY b*1)) λe=>Ix c a λf=>Lx F (ZW f (ZY a*1)) λg=>Bb ((e.toList==g.toList)) (R (ZV ZQ) F) (h (i64.wrap (b+1)) F)) (CD c a R F)
def MZ (a:Sl) (b:Int) (R:VR) (F:PH):Prop:=Lp 0 F λN c F=>wB N a b R c F
theorem SJ {a:Sl} {b:Int} (h:MZ a b R F):ν 165 #[ZS a,(vi b)] F R:=Rx.Λ (.ZN (.J ZQ [] (.ZN (.L [(5,.int .i64)] .N)) .N)) h
def CE (R:VR) (F:PH):Prop:=R (ZV ZT) F
def wC (h:Ω) (f:Int) (g:Nat) (R:VR) (a:Int) (F:PH):Prop:=Ls F (Am g 0) λb=>Bc (a<(b.len:Int)) (Ls F (Am g 0) λc=>Ix c a λd=>Li F (ZW d (ZY a*3)) λe=>Bc (f<=e) (R (ZV ZQ) F) (h (i64.wrap (a+1)) F)) (CE R F)
def M0 (a:Γ) (b:Int) (R:VR) (F:PH):Prop:=Nb F (ZP a 31) λf F=>Lr F 2 (Am f 0) λc=>Ci 197 #[ZU c] F λd F=>Bc (d≠0) (R (ZV ZQ) F) (Lp 0 F λN e F=>wC N b f R e F)
theorem SK {a:Γ} {b:Int} (h:M0 a b R F):ν 166 #[ZU a,(vi b)] F R:=Rx.Λ (.ZN (.ZN (.J ZQ [] (.ZN (.L [(5,.int .i64)] .N)) .N))) h
def M1 (p:Γ) (q:Int) (R:VR) (F:PH):Prop:=Nb F (ZP p 146) λa F=>Li F (Am a 1) λr=>Bc (r<0) (R (ZV ZQ) F) (Li F (Am a 1) λb=>Bc (2<b) (R (ZV ZQ) F) (Lr F 2 (Am a 5) λc=>Cbo 166 #[ZU c,(vi q)] F λd F=>Bb ((!d)) (R (ZV ZQ) F) (Lx F (Am a 2) λe=>Bb ((!(e.toList==(ByteArray.mk #[]).toList))) (Ls F (Am a 3) λf=>Bc ((f.len:Int)=0) (Lx F (Am a 4) λg=>R (ZV (g.toList==(ByteArray.mk #[]).toList)) F) (R (ZV ZQ) F)) (Ls F (Am a 3) λh=>Ci 198 #[ZS h] F λi F=>Bc (i≠0) (R (ZV ZQ) F) (Li F (Am a 1) λj=>Bc (j≠0) (Lx F (Am a 4) λk=>R (ZV (k.toList==(ByteArray.mk #[]).toList)) F) (Lx F (Am a 4) λl=>Bb ((!(l.toList==(ByteArray.mk #[]).toList))) (Ls F (Am a 3) λm=>Lx F (Am a 4) λn=>Cbo 199 #[ZS m,Z1 n] F λo F=>R (ZV o) F) (R (ZV ZQ) F)))))))
theorem SL {a:Γ} {b:Int} (h:M1 a b R F):ν 167 #[ZU a,(vi b)] F R:=Rx.Λ .N h
def CF (e d:Nat) (R:VR) (F:PH):Prop:=Li F (Am d 1) λa=>Bc (0<=a) (Li F (Am d 1) λb=>Ls F (Am e 4) λc=>R (ZV (decide (b<(c.len:Int)))) F) (R (ZV ZQ) F)
def pS (b:Ω) (_ _:Nat) (a:Int) (_:VR) (F:PH):Prop:=b (i64.wrap (a+1)) F
def pT (l:Ω) (k m:Nat) (c:Int) (j:Nat) (a:Int) (R:VR) (F:PH):Prop:=Li F (Am j 1) λd=>Bc (d<0) (R (ZV ZQ) F) (Li F (Am j 1) λe=>Bc (a<=e) (R (ZV ZQ) F) (Lb F (Am j 0) λf=>Bb (f) (Ls F (Am k 3) λg=>Li F (Am j 1) λb=>Ix g b λh=>Li F (ZW (ZW h (ZY b*7)) 1) λi=>Bc (i≠0) (R (ZV ZQ) F) (pS l k m c R F)) (pS l k m c R F)))
def wD (l:Ω) (b c:Nat) (R:VR) (a:Int) (F:PH):Prop:=Ls F (Am c 2) λd=>Bc (a<(d.len:Int)) (Ls F (Am c 2) λe=>Ix e a λf=>Lr F 2 (ZW f (ZY a*2)) λg=>Nb F (ZP (#[ZV ZQ,vi 0]) 63) λk F=>aw F (Am k 0) 2 g λF=>Ls F (Am b 4) λh=>Lb F (Am k 0) λi=>Bb (i) (Ls F (Am b 3) λj=>pT l b c a k (j.len:Int) R F) (pT l b c a k (h.len:Int) R F)) (CF b c R F)
def M2 (a b:Γ) (R:VR) (F:PH):Prop:=Nb F (ZP a 37) λd F=>Nb F (ZP b 55) λe F=>Lp 0 F λN c F=>wD N d e R c F
theorem SM {a:Γ} {b:Γ} (h:M2 a b R F):ν 168 #[ZU a,ZU b] F R:=Rx.Λ (.ZN (.J ZQ [] (.ZN (.L [(5,.int .i64)] (.ZN (.J ZQ [] (.ZN (.ZN (.J ZQ [(7,.int .i64)] .N .N))) .N)))) .N)) h
def CG (R:VR) (F:PH):Prop:=R (ZV ZT) F
def pU (b:Ω) (_:Nat) (a:Int) (_:VR) (F:PH):Prop:=b (i64.wrap (a+1)) F
def wE (r:Ω) (c:Nat) (R:VR) (a:Int) (F:PH):Prop:=Ls F (Am c 7) λq=>Bc (a<(q.len:Int)) (Ls F (Am c 7) λd=>Ix d a λe=>Lr F 3 (ZW e (ZY a*3)) λf=>Nb F (ZP (#[vi 0,vi 0,vi 0]) 153) λb F=>aw F (Am b 0) 3 f λF=>Li F (Am b 0) λg=>Bc (g<1) (R (ZV ZQ) F) (Li F (Am b 0) λh=>Bc (4<h) (R (ZV ZQ) F) (Li F (Am b 1) λi=>Bc (i<0) (R (ZV ZQ) F) (Li F (Am b 1) λj=>Ls F (Am c 2) λk=>Bc ((k.len:Int)<=j) (R (ZV ZQ) F) (Li F (Am b 2) λl=>Bc (l<0) (R (ZV ZQ) F) (Li F (Am b 2) λm=>Ls F (Am c 2) λn=>Bc ((n.len:Int)<=m) (R (ZV ZQ) F) (Li F (Am b 0) λo=>Bc (o=1) (Li F (Am b 2) λp=>Bc (p≠0) (R (ZV ZQ) F) (pU r c a R F)) (pU r c a R F)))))))) (CG R F)
def M3 (a:Γ) (R:VR) (F:PH):Prop:=Nb F (ZP a 55) λc F=>Lp 0 F λN b F=>wE N c R b F
theorem SN {a:Γ} (h:M3 a R F):ν 169 #[ZU a] F R:=Rx.Λ (.ZN (.J ZQ [] (.ZN (.L [(3,.int .i64)] (.ZN (.J ZQ [] .N .N)))) .N)) h
def fY (b a:Bool) (R:VR) (F:PH):Prop:=Bb (b) (R (ZV a) F) (R (ZV ZQ) F)
def fZ (e:Nat) (a:Bool) (R:VR) (F:PH):Prop:=Li F (Am e 3) λf=>Bc (f=0) (Li F (Am e 4) λg=>Bc (g=0) (fY a ZT R F) (Li F (Am e 3) λh=>Bc (h≠0) (Li F (Am e 4) λi=>Bc (0<=i) (Li F (Am e 4) λj=>fY a (decide (j<=(255:Int))) R F) (fY a ZQ R F)) (fY a ZQ R F))) (Li F (Am e 3) λb=>Bc (b≠0) (Li F (Am e 4) λc=>Bc (0<=c) (Li F (Am e 4) λd=>fY a (decide (d<=(255:Int))) R F) (fY a ZQ R F)) (fY a ZQ R F))
def M4 (o:Γ) (R:VR) (F:PH):Prop:=Nb F (ZP o 55) λp F=>Lr F 5 (Am p 8) λq=>Nb F (ZP (#[ZV ZQ,vi 0,vi 0,vi 0,vi 0]) 53) λa F=>aw F (Am a 0) 5 q λF=>Lr F 13 (Am p 0) λr=>Li F (Am a 1) λe=>Cbo 200 #[ZU r,(vi e)] F λf F=>Bb ((!f)) (R (ZV ZQ) F) (Lr F 13 (Am p 0) λg=>Li F (Am a 3) λh=>Cbo 200 #[ZU g,(vi h)] F λi F=>Bb ((!i)) (R (ZV ZQ) F) (Li F (Am a 1) λj=>Bc (j=0) (Li F (Am a 2) λk=>Bc (k=0) (fZ a ZT R F) (Li F (Am a 1) λl=>Bc (l≠0) (Li F (Am a 2) λm=>Bc (1<=m) (Li F (Am a 2) λn=>fZ a (decide (n<=(7:Int))) R F) (fZ a ZQ R F)) (fZ a ZQ R F))) (Li F (Am a 1) λb=>Bc (b≠0) (Li F (Am a 2) λc=>Bc (1<=c) (Li F (Am a 2) λd=>fZ a (decide (d<=(7:Int))) R F) (fZ a ZQ R F)) (fZ a ZQ R F))))
theorem SO {a:Γ} (h:M4 a R F):ν 170 #[ZU a] F R:=Rx.Λ (.ZN (.ZN (.ZN (.J ZQ [(4,.bool)] .N (.J ZQ [(5,.bool)] .N .N))))) h
def M5 (r:Γ) (R:VR) (F:PH):Prop:=Nb F (ZP r 55) λa F=>Ls F (Am a 2) λs=>Bc ((s.len:Int)≠3) (R (ZV ZQ) F) (Li F (Am a 6) λt=>Bc (t≠0) (R (ZV ZQ) F) (Ls F (Am a 7) λd=>Bc ((0:Int)<(d.len:Int)) (R (ZV ZQ) F) (Lr F 5 (Am a 8) λe=>∃b,(∀F,rdo prog (Op.equal 53 (ZU e) (ZU (#[ZV ZQ,vi 0,vi 0,vi 0,vi 0]:Γ))) F b)/\Bb ((!b)) (R (ZV ZQ) F) (Ls F (Am a 2) λf=>Ix f 0 λg=>Lb F (ZW g (ZY 0*2)) λh=>Bb (h) (Ls F (Am a 2) λi=>Ix i 2 λj=>Lb F (ZW j (ZY 2*2)) λk=>Bb (k) (Ls F (Am a 2) λl=>Ix l 1 λm=>Lb F (ZW m (ZY 1*2)) λn=>Bb ((!n)) (Ls F (Am a 2) λo=>Ix o 1 λp=>∃c,F.cell (ZW (ZW p (ZY 1*2)) 1)=ZO (vi c)/\Li F (Am a 1) λq=>R (ZV (decide (c=q))) F) (R (ZV ZQ) F)) (R (ZV ZQ) F)) (R (ZV ZQ) F)))))
theorem SP {a:Γ} (h:M5 a R F):ν 171 #[ZU a] F R:=Rx.Λ .N h
def pV (d:Nat) (a:Bool) (R:VR) (F:PH):Prop:=Bb (a) (Li F (Am d 0) λe=>Bc (e=5) (R (ZV ZT) F) (Li F (Am d 5) λf=>R (ZV (decide (f=0))) F)) (Li F (Am d 4) λg=>Bc (g=0) (Li F (Am d 0) λb=>Bc (b=5) (R (ZV ZT) F) (Li F (Am d 5) λc=>R (ZV (decide (c=0))) F)) (R (ZV ZQ) F))
def jX (c:Nat) (R:VR) (F:PH):Prop:=Li F (Am c 0) λa=>Bc (a=3) (pV c ZT R F) (Li F (Am c 0) λb=>pV c (decide (b=4)) R F)
def pW (b:Nat) (a:Bool) (R:VR) (F:PH):Prop:=Bb ((!a)) (Li F (Am b 1) λd=>Bc (d≠0) (R (ZV ZQ) F) (Li F (Am b 2) λe=>Bc (e≠0) (R (ZV ZQ) F) (Li F (Am b 3) λf=>Bc (f≠0) (R (ZV ZQ) F) (Bb (a) (Ls F (Am b 6) λg=>Bc ((0:Int)<(g.len:Int)) (R (ZV ZQ) F) (jX b R F)) (jX b R F))))) (Bb (a) (Ls F (Am b 6) λc=>Bc ((0:Int)<(c.len:Int)) (R (ZV ZQ) F) (jX b R F)) (jX b R F))
def M6 (c:Γ) (R:VR) (F:PH):Prop:=Nb F (ZP c 156) λb F=>Li F (Am b 0) λd=>Bc (d=1) (pW b ZT R F) (Li F (Am b 0) λa=>pW b (decide (a=2)) R F)
theorem SQ {a:Γ} (h:M6 a R F):ν 176 #[ZU a] F R:=Rx.Λ (.ZN (.J ZQ [(3,.bool)] .N (.J ZQ [] .N (.J ZQ [(4,.bool)] .N .N)))) h
def CH (a:Sl) (R:VR) (F:PH):Prop:=R (ZV (decide ((0:Int)<(a.len:Int)))) F
def pX (c:Ω) (_:Sl) (_:Bool) (_:Nat) (b:Int) (_:VR) (F:PH):Prop:=c (i64.wrap (b+1)) F
def pY (m:Ω) (d:Sl) (a:Bool) (k:Nat) (b:Int) (R:VR) (F:PH):Prop:=Ls F (Am k 3) λe=>Ix d b λf=>Li F (ZW f (ZY b*1)) λc=>Ix e c λg=>Lr F 7 (ZW g (ZY c*7)) λh=>Nb F (ZP zT 146) λl F=>aw F (Am l 0) 7 h λF=>Bb (a) (Lx F (Am l 2) λi=>Bb ((i.toList==(ByteArray.mk #[]).toList)) (R (ZV ZQ) F) (pX m d a k b R F)) (Li F (Am l 1) λj=>Bc (j≠0) (R (ZV ZQ) F) (pX m d a k b R F))
def wF (n:Ω) (c:Sl) (a:Bool) (m:Nat) (R:VR) (b:Int) (F:PH):Prop:=Bc (b<(c.len:Int)) (Ix c b λe=>Li F (ZW e (ZY b*1)) λf=>Bc (f<0) (R (ZV ZQ) F) (Ix c b λg=>Li F (ZW g (ZY b*1)) λh=>Ls F (Am m 3) λi=>Bc ((i.len:Int)<=h) (R (ZV ZQ) F) (Bc (0<b) (Ix c b λj=>Li F (ZW j (ZY b*1)) λk=>Ix c (i64.wrap (b - 1)) λl=>∃d,F.cell (ZW l (ZY (i64.wrap (b - 1))*1))=ZO (vi d)/\Bc (k<=d) (R (ZV ZQ) F) (pY n c a m b R F)) (pY n c a m b R F)))) (CH c R F)
def M7 (b:Γ) (c:Sl) (a:Bool) (R:VR) (F:PH):Prop:=Nb F (ZP b 37) λe F=>Lp 0 F λN d F=>wF N c a e R d F
theorem SR {b:Γ} {c:Sl} {a:Bool} (h:M7 b c a R F):ν 177 #[ZU b,ZS c,ZV a] F R:=Rx.Λ (.ZN (.J ZQ [] (.ZN (.L [(7,.int .i64)] (.ZN (.J ZQ [] (.J ZQ [] .N .N) .N)))) .N)) h
def M8 (a:Int) (R:VR) (F:PH):Prop:=Bc (97<=a) (Bc (a<=(122:Int)) (R (ZV ZT) F) (Bc (65<=a) (Bc (a<=(90:Int)) (R (ZV ZT) F) (R (ZV (decide (a=95))) F)) (R (ZV (decide (a=95))) F))) (Bc (65<=a) (Bc (a<=(90:Int)) (R (ZV ZT) F) (R (ZV (decide (a=95))) F)) (R (ZV (decide (a=95))) F))
theorem ST {a:Int} (h:M8 a R F):ν 196 #[Z0 .u8 a] F R:=Rx.Λ .N h
def M9 (f:Γ) (a:Int) (R:VR) (F:PH):Prop:=Nb F (ZP f 55) λg F=>Bc (a=0) (R (ZV ZT) F) (Bc (0<a) (Ls F (Am g 2) λc=>Bc (a<=(c.len:Int)) (Ls F (Am g 2) λd=>Ix d (i64.wrap (a - 1)) λe=>∃b,F.cell (ZW e (ZY (i64.wrap (a - 1))*2))=ZO (ZV b)/\R (ZV b) F) (R (ZV ZQ) F)) (R (ZV ZQ) F))
theorem SU {a:Γ} {b:Int} (h:M9 a b R F):ν 200 #[ZU a,(vi b)] F R:=Rx.Λ .N h
end
