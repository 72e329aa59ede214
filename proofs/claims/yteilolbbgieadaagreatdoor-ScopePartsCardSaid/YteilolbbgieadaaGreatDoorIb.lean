/-
  Elements of a slice that is made, changed in place.
-/
import Derived.Test.YteilolbbgieadaaGreatDoorHb
set_option maxRecDepth 10000
open Option renaming some->mB,none->nC
open Go.Obj renaming cells->mX
open Bool renaming false->nS,true->nZ
open Go.Value renaming agg->oc,bool->oY,int->tJ,string->pg,pointer->pj
open Go.Addr renaming add->od,mk->pd
open Int renaming toNat->pc,tmod->tK
open Array renaming setIfInBounds->tL
noncomputable section
namespace Go.Proofs.YteilolbbgieadaaGreatDoor
open Go.IntKind (i64 u8 u64)
open Sl renaming v->nV,nil->pk,mk->tX
open Go Go.Proofs.Tryz
section
namespace St
section
variable {G F:PH} {As:List (Ψ)} {b:Nat} {w:Γ} {e:TypeId}
theorem ld0 (h:St G F (pt b (mX w e)::As)) {i:Nat} {v:ξ} (g:w[i]? =mB v):F.cell (pd b i nC)=mB v:=ld (h.ptAt (i:=0) rfl) g
theorem row0 (h:St G F (pt b (mX w e)::As)) {o:Nat} {d:Γ} (hd:(w.toList.drop o).take d.size=d.toList):F.row (pd b o nC) d:=fZ (h.ptAt (i:=0) rfl) hd
theorem whole0 (h:St G F (pt b (mX w e)::As)):F.row (pd b 0 nC) w:=ai (h.ptAt (i:=0) rfl)
theorem put0 (h:St G F (pt b (mX w e)::As)) {n:Nat} {w':Γ} (B:w'.size=n) (A:w.size=n) (g:∀v∈w'.toList,ak v) {K:Ψ} (C:∀r,St G r (pt b (mX w' e)::As)->K r):
  aB F (pd b 0 nC) n w' K:=Vd (h.ptAt (i:=0) rfl) B A g (C _ (h.putAt 0 _ rfl))
theorem set0 (h:St G F (pt b (mX w e)::As)) {i:Nat} {v:ξ} {w':Γ} (hi:i<w.size) (A:w.setIfInBounds i v=w') {K:Ψ} (r:∀g,St G g (pt b (mX w' e)::As)->K g):
  rj F (pd b i nC) v K:=Wb (h.ptAt (i:=0) rfl) hi (by subst A;exact r _ (h.putAt 0 _ rfl))
theorem putR0 (h:St G F (pt b (mX w e)::As)) {o n:Nat} {v w':Γ} (C:v.size=n) (g:∀x∈v.toList,ak x) (A:o+n<=w.size) (B:wr w o v.toList=w') {K:Ψ} (D:∀r,St G r (pt b (mX w' e)::As)->K r):
  aB F (pd b o nC) n v K:=⟨C,g,w,e,h.ptAt (i:=0) rfl,rfl,A,tP (by subst B;exact D _ (h.putAt 0 _ rfl))⟩
theorem ld1 {r:Ψ} (h:St G F (r::pt b (mX w e)::As)) {i:Nat} {v:ξ} (g:w[i]? =mB v):F.cell (pd b i nC)=mB v:=ld (h.ptAt (i:=1) rfl) g
theorem whole1 {g:Ψ} (h:St G F (g::pt b (mX w e)::As)):F.row (pd b 0 nC) w:=ai (h.ptAt (i:=1) rfl)
theorem put1 {A:Ψ} (h:St G F (A::pt b (mX w e)::As)) {n:Nat} {w':Γ} (C:w'.size=n) (B:w.size=n) (g:∀v∈w'.toList,ak v) {K:Ψ} (D:∀r,St G r (A::pt b (mX w' e)::As)->K r):
  aB F (pd b 0 nC) n w' K:=Vd (h.ptAt (i:=1) rfl) C B g (D _ (h.putAt 1 _ rfl))
theorem set1 {r:Ψ} (h:St G F (r::pt b (mX w e)::As)) {i:Nat} {v:ξ} {w':Γ} (hi:i<w.size) (B:w.setIfInBounds i v=w') {K:Ψ} (A:∀g,St G g (r::pt b (mX w' e)::As)->K g):
  rj F (pd b i nC) v K:=Wb (h.ptAt (i:=1) rfl) hi (by subst B;exact A _ (h.putAt 1 _ rfl))
theorem putR1 {A:Ψ} (h:St G F (A::pt b (mX w e)::As)) {o n:Nat} {v w':Γ} (D:v.size=n) (g:∀x∈v.toList,ak x) (B:o+n<=w.size) (C:wr w o v.toList=w') {K:Ψ} (E:∀r,St G r (A::pt b (mX w' e)::As)->K r):
  aB F (pd b o nC) n v K:=⟨D,g,w,e,h.ptAt (i:=1) rfl,rfl,B,tP (by subst C;exact E _ (h.putAt 1 _ rfl))⟩
theorem front1 {g:Ψ} {A:Ψ} (h:St G F (g::A::As)):St G F (A::g::As):=by
 refine h.pick (λi=>if i=0 then 1 else if i<=1 then i - 1 else i) (λi j _ _ e=> ?_) (λi _=> ?_)
 ·repeat' split at e
  all_goals omega
 ·match i with
  |0=>rfl
  |1=>rfl
  |i+2=>rfl
theorem ld2 {A r:Ψ} (h:St G F (A::r::pt b (mX w e)::As)) {i:Nat} {v:ξ} (g:w[i]? =mB v):F.cell (pd b i nC)=mB v:=ld (h.ptAt (i:=2) rfl) g
theorem whole2 {r g:Ψ} (h:St G F (r::g::pt b (mX w e)::As)):F.row (pd b 0 nC) w:=ai (h.ptAt (i:=2) rfl)
theorem put2 {B A:Ψ} (h:St G F (B::A::pt b (mX w e)::As)) {n:Nat} {w':Γ} (D:w'.size=n) (C:w.size=n) (g:∀v∈w'.toList,ak v) {K:Ψ} (E:∀r,St G r (B::A::pt b (mX w' e)::As)->K r):
  aB F (pd b 0 nC) n w' K:=Vd (h.ptAt (i:=2) rfl) D C g (E _ (h.putAt 2 _ rfl))
theorem set2 {A r:Ψ} (h:St G F (A::r::pt b (mX w e)::As)) {i:Nat} {v:ξ} {w':Γ} (hi:i<w.size) (B:w.setIfInBounds i v=w') {K:Ψ} (C:∀g,St G g (A::r::pt b (mX w' e)::As)->K g):
  rj F (pd b i nC) v K:=Wb (h.ptAt (i:=2) rfl) hi (by subst B;exact C _ (h.putAt 2 _ rfl))
theorem front2 {r g:Ψ} {A:Ψ} (h:St G F (r::g::A::As)):St G F (A::r::g::As):=by
 refine h.pick (λi=>if i=0 then 2 else if i<=2 then i - 1 else i) (λi j _ _ e=> ?_) (λi _=> ?_)
 ·repeat' split at e
  all_goals omega
 ·match i with
  |0=>rfl
  |1=>rfl
  |2=>rfl
  |i+3=>rfl
theorem back2 {r g:Ψ} {A:Ψ} (h:St G F (A::r::g::As)):St G F (r::g::A::As):=by
 refine h.pick (λi=>if i=2 then 0 else if i<2 then i+1 else i) (λi j _ _ e=> ?_) (λi _=> ?_)
 ·repeat' split at e
  all_goals omega
 ·match i with
  |0=>rfl
  |1=>rfl
  |2=>rfl
  |i+3=>show (A::r::g::As)[if i+3=2 then 0 else if i+3<2 then i+3+1 else i+3]? =_;rw [Υ (by omega),Υ (by omega)];rfl
theorem ld3 {B A g:Ψ} (h:St G F (B::A::g::pt b (mX w e)::As)) {i:Nat} {v:ξ} (r:w[i]? =mB v):F.cell (pd b i nC)=mB v:=ld (h.ptAt (i:=3) rfl) r
theorem whole3 {A r g:Ψ} (h:St G F (A::r::g::pt b (mX w e)::As)):F.row (pd b 0 nC) w:=ai (h.ptAt (i:=3) rfl)
theorem put3 {C B A:Ψ} (h:St G F (C::B::A::pt b (mX w e)::As)) {n:Nat} {w':Γ} (E:w'.size=n) (D:w.size=n) (g:∀v∈w'.toList,ak v) {K:Ψ} (H:∀r,St G r (C::B::A::pt b (mX w' e)::As)->K r):
  aB F (pd b 0 nC) n w' K:=Vd (h.ptAt (i:=3) rfl) E D g (H _ (h.putAt 3 _ rfl))
theorem front3 {B r g:Ψ} {A:Ψ} (h:St G F (B::r::g::A::As)):St G F (A::B::r::g::As):=by
 refine h.pick (λi=>if i=0 then 3 else if i<=3 then i - 1 else i) (λi j _ _ e=> ?_) (λi _=> ?_)
 ·repeat' split at e
  all_goals omega
 ·match i with
  |0=>rfl
  |1=>rfl
  |2=>rfl
  |3=>rfl
  |i+4=>rfl
theorem ld4 {B A g C:Ψ} (h:St G F (B::A::g::C::pt b (mX w e)::As)) {i:Nat} {v:ξ} (r:w[i]? =mB v):F.cell (pd b i nC)=mB v:=ld (h.ptAt (i:=4) rfl) r
theorem whole4 {A r g B:Ψ} (h:St G F (A::r::g::B::pt b (mX w e)::As)):F.row (pd b 0 nC) w:=ai (h.ptAt (i:=4) rfl)
end
end St
variable {R:VR} {F:PH}
set_option maxHeartbeats 4000000
def Xx (b:Γ) (c:Int) (R:VR) (F:PH):Prop:=Nb F (mX b 39) λg F=>Lr F 9 (Am g 0) λd=>Ci 104 #[oc d] F λe F=>Bc (e=0) (Lr F 9 (Am g 0) λf=>vc 105 #[oc f,tJ .u64 c] F λa F=>R (oY a) F) (R (oY nS) F)
theorem aac {a:Γ} {b:Int} (h:Xx a b R F):ν 75 #[oc a,tJ .u64 b] F R:=Rx.Λ .N h
def ER (R:VR) (F:PH):Prop:=R (vi 0) F
def xg (j:Ω) (k i:Nat) (R:VR) (a:Int) (F:PH):Prop:=Bc (a<((Sb i 6).len:Int)) (Ix (Sb i 6) a λf=>∃c:ξ,F.cell (od f (pc a*1))=mB c/\Lr F 9 (Am k 0) λg=>Fn c λh d e=>aj prog h (d++([(oc g)]).toArray++e) F λv F=>∃b,v=(vi b)/\Bc (b≠0) (R (vi b) F) (j (i64.wrap (a+1)) F)) (ER R F)
def PV (b:Γ) (R:VR) (F:PH):Prop:=Nb F (mX b 39) λe F=>Lr F 9 (Am e 0) λc=>vc 139 #[oc c] F λd F=>Bb (d) (R (vi 2) F) (Nb F (mX #[.func (.func 140) #[] #[],.func (.func 141) #[] #[],.func (.func 142) #[] #[],.func (.func 143) #[] #[],.func (.func 144) #[] #[],.func (.func 145) #[] #[]] 120) λf F=>Lp 0 F λN a F=>xg N e f R a F)
theorem qe1 {a:Γ} (h:PV a R F):ν 104 #[oc a] F R:=Rx.Λ (.qa8 (.qa8 (.qa8 (.J nS [] (.qa8 (.L [(12,.int .i64)] .N)) .N)))) h
def PX (e:Γ) (a:Int) (R:VR) (F:PH):Prop:=Nb F (mX e 39) λf F=>Ls F (Am f 0) λb=>0<=(b.len:Int)/\Bc ((Int.fdiv a (2 ^ (min (pc (b.len:Int)) (u64).bits)))=0) (Lr F 2 (Am f 1) λc=>vc 76 #[oc c,tJ .u64 a] F λd F=>R (oY d) F) (R (oY nS) F)
theorem qe2 {a:Γ} {b:Int} (h:PX a b R F):ν 105 #[oc a,tJ .u64 b] F R:=Rx.Λ .N h
def PY (h:Γ) (R:VR) (F:PH):Prop:=Nb F (mX h 39) λa F=>Ls F (Am a 0) λi=>Bc ((64:Int)<(i.len:Int)) (R (oY nZ) F) (Ls F (Am a 3) λj=>Bc ((256:Int)<(j.len:Int)) (R (oY nZ) F) (Ls F (Am a 8) λb=>Bc ((4096:Int)<(b.len:Int)) (R (oY nZ) F) (Ls F (Am a 4) λc=>Ls F (Am a 5) λd=>Ls F (Am a 7) λe=>Bc ((2000:Int)<(max (max (c.len:Int) (d.len:Int)) (e.len:Int))) (R (oY nZ) F) (Ls F (Am a 5) λf=>vc 167 #[nV f,.func (.func 168) #[] #[]] F λg F=>R (oY g) F))))
theorem qev {a:Γ} (h:PY a R F):ν 139 #[oc a] F R:=Rx.Λ .N h
def ES (e:Nat) (R:VR) (F:PH):Prop:=Lr F 2 (Am e 1) λa=>Ls F (Am e 0) λb=>vc 171 #[oc a,(vi (b.len:Int))] F λc F=>Bb ((!c)) (R (vi 54) F) (Li F (Am e 2) λd=>Bc (d=0) (R (vi 54) F) (R (vi 0) F))
def xh (k:Ω) (l:Nat) (i:ξ) (f:Sl) (R:VR) (a:Int) (F:PH):Prop:=Bc (a<(f.len:Int)) (Ix f a λg=>Lx F (od g (pc a*1)) λb=>vc 170 #[pg b] F λh F=>Bb ((!h)) (R (vi 54) F) (Bb ((b.toList==(ByteArray.mk #[116,114,117,101]).toList)) (R (vi 54) F) (Bb ((b.toList==(ByteArray.mk #[102,97,108,115,101]).toList)) (R (vi 54) F) (Fn i λj d e=>aj prog j (d++([(pg b)]).toArray++e) F λv F=>∃c,v=(oY c)/\Bb ((!c)) (R (vi 54) F) (k (i64.wrap (a+1)) F))))) (ES l R F)
def PZ (c:Γ) (R:VR) (F:PH):Prop:=Nb F (mX c 39) λe F=>ν 169 #[] F λv F=>∃a:ξ,v=a/\Ls F (Am e 0) λd=>Lp 0 F λN b F=>xh N e a d R b F
theorem qew {a:Γ} (h:PZ a R F):ν 140 #[oc a] F R:=Rx.Λ (.qa8 (.qa8 (.J nS [] (.qa8 (.L [(10,.int .i64)] .N)) .N))) h
def ET (R:VR) (F:PH):Prop:=R (vi 0) F
def gu (c:Ω) (_:Nat) (_:ξ) (_:Sl) (b:Int) (a:Bool) (R:VR) (F:PH):Prop:=Bb ((!a)) (R (vi 51) F) (c (i64.wrap (b+1)) F)
def xj (j:Ω) (g:Nat) (c:ξ) (b:Sl) (R:VR) (a:Int) (F:PH):Prop:=Bc (a<(b.len:Int)) (Ix b a λk=>Lr F 7 (od k (pc a*7)) λl=>Nb F (mX zT 166) λd F=>aB F (Am d 0) 7 l λF=>Lx F (Am d 0) λm=>Fn c λB h i=>aj prog B (h++([(pg m)]).toArray++i) F λv F=>∃f,v=(oY f)/\Bb ((!f)) (R (vi 51) F) (Li F (Am d 1) λn=>Bc (n<0) (R (vi 51) F) (Li F (Am d 1) λo=>Bc (2<o) (R (vi 51) F) (Lr F 2 (Am d 5) λp=>Ls F (Am g 0) λq=>vc 171 #[oc p,(vi (q.len:Int))] F λr F=>Bb ((!r)) (R (vi 51) F) (Lx F (Am d 4) λe=>Lx F (Am d 2) λs=>Bb ((!(s.toList==(ByteArray.mk #[]).toList))) (Bb ((e.toList==(ByteArray.mk #[]).toList)) (Ls F (Am d 3) λt=>gu j g c b a (decide ((t.len:Int)=0)) R F) (gu j g c b a nS R F)) (Ls F (Am d 3) λu=>Ci 172 #[nV u] F λw F=>Bc (w≠0) (gu j g c b a nS R F) (Li F (Am d 1) λx=>Bc (x=0) (Bb ((!(e.toList==(ByteArray.mk #[]).toList))) (Ls F (Am d 3) λy=>Lx F (Am d 4) λz=>vc 173 #[nV y,pg z] F λA F=>gu j g c b a A R F) (gu j g c b a nS R F)) (gu j g c b a (e.toList==(ByteArray.mk #[]).toList) R F)))))))) (ET R F)
def P0 (c:Γ) (R:VR) (F:PH):Prop:=Nb F (mX c 39) λe F=>ν 169 #[] F λv F=>∃a:ξ,v=a/\Ls F (Am e 3) λd=>Lp 0 F λN b F=>xj N e a d R b F
theorem qex {a:Γ} (h:P0 a R F):ν 141 #[oc a] F R:=Rx.Λ (.qa8 (.qa8 (.J nS [] (.qa8 (.L [(11,.int .i64)] (.qa8 (.qa8 (.T (.qa8 (.qa8 (.qa8 (.J nS [(6,.bool)] .N .N)))) .N))))) .N))) h
def EU (d:Nat) (R:VR) (F:PH):Prop:=Li F (Am d 6) λa=>Bc (a<0) (R (vi 50) F) (Li F (Am d 6) λb=>Ls F (Am d 4) λc=>Bc ((c.len:Int)<=b) (R (vi 50) F) (R (vi 0) F))
def xk (j:Ω) (k:Nat) (h:ξ) (e:Sl) (R:VR) (a:Int) (F:PH):Prop:=Bc (a<(e.len:Int)) (Ix e a λf=>Lx F (od f (pc a*1)) λg=>Fn h λi c d=>aj prog i (c++([(pg g)]).toArray++d) F λv F=>∃b,v=(oY b)/\Bb ((!b)) (R (vi 50) F) (j (i64.wrap (a+1)) F)) (EU k R F)
def P5 (c:Γ) (R:VR) (F:PH):Prop:=Nb F (mX c 39) λe F=>ν 169 #[] F λv F=>∃a:ξ,v=a/\Ls F (Am e 4) λd=>Lp 0 F λN b F=>xk N e a d R b F
theorem qey {a:Γ} (h:P5 a R F):ν 142 #[oc a] F R:=Rx.Λ (.qa8 (.qa8 (.J nS [] (.qa8 (.L [(10,.int .i64)] .N)) .N))) h
def EV (R:VR) (F:PH):Prop:=R (vi 0) F
def xm (y:Ω) (u:Nat) (w:ξ) (f:Sl) (R:VR) (a:Int) (F:PH):Prop:=Bc (a<(f.len:Int)) (Ix f a λg=>Lr F 13 (od g (pc a*13)) λh=>Nb F (mX zP 64) λb F=>aB F (Am b 0) 13 h λF=>Li F (Am b 1) λi=>vc 174 #[oc (#[oY nS,(vi i)]:Γ),(Pp u)] F λj F=>Bb (j) (R (vi 50) F) (Ls F (Am b 2) λk=>vc 176 #[nV k,.func (.func 174) #[] #[(Pp u)]] F λl F=>Bb (l) (R (vi 50) F) (Lx F (Am b 0) λm=>Fn w λx d e=>aj prog x (d++([(pg m)]).toArray++e) F λv F=>∃c,v=(oY c)/\Bb ((!c)) (R (vi 52) F) (Lr F 2 (Am b 3) λn=>Ls F (Am u 0) λo=>vc 171 #[oc n,(vi (o.len:Int))] F λp F=>Bb ((!p)) (R (vi 52) F) (Li F (Am b 6) λq=>Bc (q<(-1:Int)) (R (vi 52) F) (Li F (Am b 6) λr=>Bc (1<r) (R (vi 52) F) (Lr F 13 (Am b 0) λs=>vc 177 #[oc s] F λt F=>Bb ((!t)) (R (vi 52) F) (y (i64.wrap (a+1)) F)))))))) (EV R F)
def P6 (c:Γ) (R:VR) (F:PH):Prop:=Nb F (mX c 39) λe F=>ν 169 #[] F λv F=>∃a:ξ,v=a/\Ls F (Am e 5) λd=>Lp 0 F λN b F=>xm N e a d R b F
theorem qez {a:Γ} (h:P6 a R F):ν 143 #[oc a] F R:=Rx.Λ (.qa8 (.qa8 (.J nS [] (.qa8 (.L [(11,.int .i64)] .N)) .N))) h
def EW (R:VR) (F:PH):Prop:=R (vi 0) F
def EX (c:Ω) (_ _:Nat) (_:Sl) (a:Int) (_:VR) (F:PH):Prop:=c (i64.wrap (a+1)) F
def xn (k l:Ω) (j i:Nat) (e:Sl) (f:Int) (c:Sl) (R:VR) (a:Int) (F:PH):Prop:=Bc (a<(c.len:Int)) (Ix c a λg=>Li F (od g (pc a*1)) λb=>Bc (b<0) (R (vi 53) F) (Ls F (Am j 5) λh=>Bc ((h.len:Int)<=b) (R (vi 53) F) (∃d,s9 prog (Instr.lookup 275 (.map (mB i)) (vi b) nS) F (oY d)/\Bb (d) (R (vi 53) F) (aH prog (Instr.mapUpdate 275 (.map (mB i)) (vi b) (oY nZ)) F λ_ F=>l (i64.wrap (a+1)) F)))) (EX k j i e f R F)
def xo (p:Ω) (o q:Nat) (b:Sl) (R:VR) (a:Int) (F:PH):Prop:=Bc (a<(b.len:Int)) (Ix b a λd=>Lr F 4 (od d (pc a*4)) λe=>Nb F (mX zL 236) λf F=>aB F (Am f 0) 4 e λF=>Li F (Am f 1) λg=>Bc (g<0) (R (vi 53) F) (Li F (Am f 1) λh=>Bc (3<h) (R (vi 53) F) (Lr F 2 (Am f 2) λi=>Ls F (Am o 0) λj=>vc 171 #[oc i,(vi (j.len:Int))] F λk F=>Bb ((!k)) (R (vi 53) F) (Ls F (Am f 0) λl=>(∃(n:Nat->Ω) (m:Nat),n m 0 F/\∀m c F,n m c F-> xn p (WX n m) o q b a l R c F))))) (EW R F)
def P7 (c:Γ) (R:VR) (F:PH):Prop:=Nb F (mX c 39) λd F=>Nb F (.map #[] 0) λe F=>Ls F (Am d 7) λa=>Lp 0 F λN b F=>xo N d e a R b F
theorem qeA {a:Γ} (h:P7 a R F):ν 144 #[oc a] F R:=Rx.Λ (.qa8 (.qa8 (.J nS [] (.qa8 (.L [(12,.int .i64)] (.qa8 (.qa8 (.J nS [] (.qa8 (.qa8 (.qa8 (.L [(36,.int .i64)] .N)))) .N))))) .N))) h
def EY (R:VR) (F:PH):Prop:=R (vi 0) F
def dJ (k:Ω) (_ h:Nat) (_:Sl) (i:Int) (a:Bool) (R:VR) (F:PH):Prop:=Bb ((!a)) (R (vi 53) F) (Li F (Am h 1) λb=>Bc (b≠0) (R (vi 53) F) (Li F (Am h 2) λc=>Bc (c≠0) (R (vi 53) F) (Li F (Am h 3) λd=>Bc (d≠0) (R (vi 53) F) (Li F (Am h 4) λe=>Bc (e≠0) (R (vi 53) F) (Li F (Am h 5) λf=>Bc (f≠0) (R (vi 53) F) (Ls F (Am h 6) λg=>Bc ((0:Int)<(g.len:Int)) (R (vi 53) F) (k (i64.wrap (i+1)) F)))))))
def iJ (o:Ω) (k q p:Nat) (b:Sl) (c:Int) (a:Bool) (R:VR) (F:PH):Prop:=Bb (a) (Ls F (Am k 3) λl=>Li F (Am q 5) λe=>Ix l e λm=>Lr F 7 (od m (pc e*7)) λn=>vc 178 #[oc n] F λf F=>Bb (f) (Ls F (Am k 3) λg=>Li F (Am q 5) λd=>Ix g d λh=>Lr F 7 (od h (pc d*7)) λi=>vc 179 #[oc i] F λj F=>dJ o k p b c (!j) R F) (dJ o k p b c nS R F)) (dJ o k p b c nS R F)
def qw (f:Ω) (c e:Nat) (g:Bool) (d:Nat) (a:Sl) (b h:Int) (i:Bool) (R:VR) (F:PH):Prop:=Bb (i) (rj F (Am d 4) (vi 0) λF=>rj F (Am d 6) (nV pk) λF=>Bb (g) (Li F (Am e 4) λj=>Bc (0<=j) (Li F (Am e 4) λk=>Ls F (Am c 4) λl=>Bc (k<(l.len:Int)) (Lr F 9 (Am c 0) λm=>Ls F (Am e 6) λn=>vc 181 #[oc m,nV n,.func (.func 178) #[] #[]] F λo F=>dJ f c d a b o R F) (dJ f c d a b nS R F)) (dJ f c d a b nS R F)) (dJ f c d a b nS R F)) (Bc (h=5) (rj F (Am d 5) (vi 0) λF=>rj F (Am d 6) (nV pk) λF=>Bb (g) (Lr F 9 (Am c 0) λp=>Ls F (Am e 6) λq=>vc 181 #[oc p,nV q,.func (.func 179) #[] #[]] F λr F=>Bb (r) (Li F (Am e 5) λs=>Bc (0<=s) (Li F (Am e 5) λt=>Ls F (Am c 3) λu=>iJ f c e d a b (decide (t<(u.len:Int))) R F) (iJ f c e d a b nS R F)) (iJ f c e d a b nS R F)) (iJ f c e d a b nS R F)) (dJ f c d a b nS R F))
def qx (k:Ω) (f l:Nat) (d:Bool) (e:Nat) (b:Sl) (c a:Int) (g:Bool) (R:VR) (F:PH):Prop:=Bb (g) (rj F (Am e 1) (vi 0) λF=>rj F (Am e 2) (vi 0) λF=>rj F (Am e 3) (vi 0) λF=>Bb (d) (Lr F 9 (Am f 0) λh=>Lr F 9 (Am l 0) λi=>vc 180 #[oc h,oc i] F λj F=>dJ k f e b c j R F) (dJ k f e b c nS R F)) (Bc (a=3) (qw k f l d e b c a (decide (a=3)) R F) (qw k f l d e b c a (decide (a=4)) R F))
def xp (m:Ω) (l:Nat) (c:Sl) (R:VR) (a:Int) (F:PH):Prop:=Bc (a<(c.len:Int)) (Ix c a λf=>Lr F 9 (od f (pc a*9)) λg=>Nb F (mX zF 233) λe F=>aB F (Am e 0) 9 g λF=>Lr F 2 (Am e 7) λh=>Ls F (Am l 0) λi=>vc 171 #[oc h,(vi (i.len:Int))] F λd F=>Lr F 9 (Am e 0) λj=>Nb F (mX zF 233) λk F=>aB F (Am k 0) 9 j λF=>rj F (Am k 0) (vi 0) λF=>aB F (Am k 7) 2 zD λF=>Li F (Am e 0) λb=>Bc (b=1) (qx m l e d k c a b (decide (b=1)) R F) (qx m l e d k c a b (decide (b=2)) R F)) (EY R F)
def Qa (c:Γ) (R:VR) (F:PH):Prop:=Nb F (mX c 39) λd F=>Ls F (Am d 8) λa=>Lp 0 F λN b F=>xp N d a R b F
theorem qeB {a:Γ} (h:Qa a R F):ν 145 #[oc a] F R:=Rx.Λ (.qa8 (.qa8 (.qa8 (.J nS [] (.qa8 (.L [(12,.int .i64)] (.qa8 (.qa8 (.T (.qa8 (.qa8 (.qa8 (.qa8 (.J nS [(7,.bool)] (.qa8 (.J nS [(28,.bool)] .N (.qa8 (.J nS [(40,.bool)] .N (.qa8 (.qa8 (.T (.qa8 (.J nS [(7,.bool)] .N .N)) .N))))))) .N))))) .N))))) .N)))) h
def Qb (a:Γ) (R:VR) (F:PH):Prop:=Nb F (mX a 64) λd F=>Ls F (Am d 2) λb=>Ls F (Am d 7) λc=>R (oY (decide ((16:Int)<(max (b.len:Int) (c.len:Int))))) F
theorem qeC {a:Γ} (h:Qb a R F):ν 168 #[oc a] F R:=Rx.Λ .N h
def Qc (R:VR) (F:PH):Prop:=Nb F (.map #[] 0) λa F=>aH prog (Instr.mapUpdate 294 (.map (mB a)) (pg ⟨#[]⟩) (oY nZ)) F λ_ F=>Nb F (mX (#[.map nC]) 294) λb F=>rj F (Am b 0) (.map (mB a)) λF=>R (.func (.func 200) #[] #[(Pp b)]) F
theorem qeD (h:Qc R F):ν 169 #[] F R:=Rx.Λ .N h
def EZ (a:ο) (R:VR) (F:PH):Prop:=R (oY (!(a.toList==(ByteArray.mk #[]).toList))) F
def qy (b:Ω) (_:ο) (a:Int) (_:VR) (F:PH):Prop:=b (i64.wrap (a+1)) F
def fE (e:Ω) (d:ο) (c b:Int) (a:Bool) (R:VR) (F:PH):Prop:=Bb ((!a)) (Bc (c=0) (R (oY nS) F) (Bc (b<48) (R (oY nS) F) (Bc (57<b) (R (oY nS) F) (qy e d c R F)))) (qy e d c R F)
def xq (d:Ω) (b:ο) (R:VR) (c:Int) (F:PH):Prop:=Bc (c<(b.size:Int)) (0<=c/\c<(b.size:Int)/\∃(hx:pc c<b.size) (a:Int),a=((b[pc c]'hx).toNat:Int)/\Bc (97<=a) (Bc (a<=(122:Int)) (fE d b c a nZ R F) (Bc (65<=a) (Bc (a<=(90:Int)) (fE d b c a nZ R F) (fE d b c a (decide (a=95)) R F)) (fE d b c a (decide (a=95)) R F))) (Bc (65<=a) (Bc (a<=(90:Int)) (fE d b c a nZ R F) (fE d b c a (decide (a=95)) R F)) (fE d b c a (decide (a=95)) R F))) (EZ b R F)
def Qd (a:ο) (R:VR) (F:PH):Prop:=Lp 0 F λN b F=>xq N a R b F
theorem qeE {a:ο} (h:Qd a R F):ν 170 #[pg a] F R:=Rx.Λ (.qa8 (.J nS [] (.qa8 (.L [(8,.int .i64)] (.qa8 (.qa8 (.J nS [] (.qa8 (.qa8 (.J nS [(5,.bool)] .N .N))) .N))))) .N)) h
def Qe (b:Γ) (c:Int) (R:VR) (F:PH):Prop:=Nb F (mX b 33) λg F=>Nb F (mX #[(vi c)] 3) λh F=>Lr F 2 (Am g 0) λd=>Ci 106 #[oc d] F λe F=>Bc (e≠0) (R (oY nS) F) (Ls F (Am g 0) λf=>vc 201 #[nV f,.func (.func 202) #[] #[(Pp h)]] F λa F=>R (oY (!a)) F)
theorem qeF {a:Γ} {b:Int} (h:Qe a b R F):ν 171 #[oc a,(vi b)] F R:=Rx.Λ .N h
def Qf (b:Γ) (c:Θ) (R:VR) (F:PH):Prop:=Nb F (mX b 130) λg F=>∃a,c=mB a/\Lr F 9 a λd=>Lr F 2 (Am g 0) λe=>vc 175 #[oc d,oc e] F λf F=>R (oY (!f)) F
theorem qeG {a:Γ} {b:Θ} (h:Qf a b R F):ν 174 #[oc a,pj b] F R:=Rx.Λ .N h
def Qg (k l:Γ) (R:VR) (F:PH):Prop:=Nb F (mX k 39) λm F=>Nb F (mX l 130) λb F=>Lb F (Am b 0) λn=>Bb ((!n)) (Li F (Am b 1) λo=>Bc (0<=o) (Li F (Am b 1) λc=>Ls F (Am m 4) λd=>R (oY (decide (c<(d.len:Int)))) F) (R (oY nS) F)) (Li F (Am b 1) λe=>Bc (0<=e) (Li F (Am b 1) λf=>Ls F (Am m 3) λg=>Bc (f<(g.len:Int)) (Ls F (Am m 3) λh=>Li F (Am b 1) λa=>Ix h a λi=>Li F (od (od i (pc a*7)) 1) λj=>R (oY (decide (j=0))) F) (R (oY nS) F)) (R (oY nS) F))
theorem qeH {a:Γ} {b:Γ} (h:Qg a b R F):ν 175 #[oc a,oc b] F R:=Rx.Λ .N h
def E6 (a:Nat) (R:VR) (F:PH):Prop:=Lr F 5 (Am a 8) λj=>Nb F (mX (#[oY nS,vi 0,vi 0,vi 0,vi 0]) 60) λi F=>aB F (Am i 0) 5 j λF=>Li F (Am i 1) λk=>Li F (Am i 2) λl=>vc 210 #[(vi k),(vi l),(vi 1),(vi 7),(Pp a)] F λm F=>Bb ((!m)) (R (oY nS) F) (Li F (Am i 3) λn=>Li F (Am i 4) λo=>vc 210 #[(vi n),(vi o),(vi 0),(vi 255),(Pp a)] F λp F=>Bb ((!p)) (R (oY nS) F) (Lb F (Am a 5) λq=>Bb ((!q)) (R (oY nZ) F) (Ls F (Am a 2) λr=>Bc ((r.len:Int)≠3) (R (oY nS) F) (Li F (Am a 6) λs=>Bc (s≠0) (R (oY nS) F) (Ls F (Am a 7) λt=>Bc ((0:Int)<(t.len:Int)) (R (oY nS) F) (Lr F 5 (Am i 0) λu=>∃c,(∀F,s9 prog (Op.equal 60 (oc u) (oc (#[oY nS,vi 0,vi 0,vi 0,vi 0]:Γ))) F c)/\Bb ((!c)) (R (oY nS) F) (Ls F (Am a 2) λv=>Ix v 0 λw=>Lb F (od w (pc 0*2)) λx=>Bb (x) (Ls F (Am a 2) λy=>Ix y 1 λz=>Lr F 2 (od z (pc 1*2)) λd=>Li F (Am a 1) λe=>∃b,(∀F,s9 prog (Op.equal 130 (oc d) (oc (#[oY nS,(vi e)]:Γ))) F b)/\Bb (b) (Ls F (Am a 2) λf=>Ix f 2 λg=>Lb F (od g (pc 2*2)) λh=>R (oY h) F) (R (oY nS) F)) (R (oY nS) F))))))))
def qz (b:Ω) (_:Nat) (_:Sl) (a:Int) (_:VR) (F:PH):Prop:=b (i64.wrap (a+1)) F
def xu (o:Ω) (d:Nat) (b:Sl) (R:VR) (a:Int) (F:PH):Prop:=Bc (a<(b.len:Int)) (Ix b a λe=>Lr F 3 (od e (pc a*3)) λf=>Nb F (mX (#[vi 0,vi 0,vi 0]) 260) λc F=>aB F (Am c 0) 3 f λF=>Li F (Am c 0) λg=>Bc (g<1) (R (oY nS) F) (Li F (Am c 0) λh=>Bc (4<h) (R (oY nS) F) (Li F (Am c 1) λi=>vc 209 #[(vi i),(Pp d)] F λj F=>Bb ((!j)) (R (oY nS) F) (Li F (Am c 2) λk=>vc 209 #[(vi k),(Pp d)] F λl F=>Bb ((!l)) (R (oY nS) F) (Li F (Am c 0) λm=>Bc (m=1) (Li F (Am c 2) λn=>Bc (n≠0) (R (oY nS) F) (qz o d b a R F)) (qz o d b a R F)))))) (E6 d R F)
def Qh (b:Γ) (R:VR) (F:PH):Prop:=Nb F (mX b 64) λd F=>Ls F (Am d 7) λc=>Lp 0 F λN a F=>xu N d c R a F
theorem qeI {a:Γ} (h:Qh a R F):ν 177 #[oc a] F R:=Rx.Λ (.qa8 (.J nS [] (.qa8 (.L [(11,.int .i64)] (.qa8 (.qa8 (.J nS [] .N .N))))) .N)) h
def Qi (a:Γ) (R:VR) (F:PH):Prop:=Nb F (mX a 166) λc F=>Li F (Am c 1) λb=>R (oY (decide (b=0))) F
theorem qeJ {a:Γ} (h:Qi a R F):ν 178 #[oc a] F R:=Rx.Λ .N h
def Qj (a:Γ) (R:VR) (F:PH):Prop:=Nb F (mX a 166) λc F=>Lx F (Am c 2) λb=>R (oY (!(b.toList==(ByteArray.mk #[]).toList))) F
theorem qeK {a:Γ} (h:Qj a R F):ν 179 #[oc a] F R:=Rx.Λ .N h
def Qk (v w:Γ) (R:VR) (F:PH):Prop:=Nb F (mX v 39) λu F=>Nb F (mX w 233) λa F=>Li F (Am a 1) λx=>Bc (x<0) (R (oY nS) F) (Li F (Am a 1) λg=>Ls F (Am u 5) λh=>Bc ((h.len:Int)<=g) (R (oY nS) F) (Li F (Am a 3) λi=>Bc (i<0) (R (oY nS) F) (Li F (Am a 3) λj=>Ls F (Am u 5) λk=>Bc ((k.len:Int)<=j) (R (oY nS) F) (Ls F (Am u 5) λl=>Li F (Am a 1) λb=>Ix l b λm=>Ls F (od (od m (pc b*13)) 2) λc=>Li F (Am a 2) λn=>Bc (0<=n) (Li F (Am a 2) λo=>Bc (o<(c.len:Int)) (Li F (Am a 2) λd=>Ix c d λp=>Lr F 2 (od p (pc d*2)) λq=>Ls F (Am u 5) λr=>Li F (Am a 3) λe=>Ix r e λs=>Li F (od (od s (pc e*13)) 1) λt=>∃f,(∀F,s9 prog (Op.equal 130 (oc q) (oc (#[oY nS,(vi t)]:Γ))) F f)/\R (oY f) F) (R (oY nS) F)) (R (oY nS) F)))))
theorem qeL {a:Γ} {b:Γ} (h:Qk a b R F):ν 180 #[oc a,oc b] F R:=Rx.Λ .N h
def E8 (a:Sl) (R:VR) (F:PH):Prop:=R (oY (decide ((0:Int)<(a.len:Int)))) F
def qA (c:Ω) (_:Sl) (_:ξ) (_:Nat) (a:Int) (_:VR) (F:PH):Prop:=c (i64.wrap (a+1)) F
def xv (u:Ω) (g:Sl) (b:ξ) (n:Nat) (R:VR) (a:Int) (F:PH):Prop:=Bc (a<(g.len:Int)) (Ix g a λo=>Li F (od o (pc a*1)) λc=>Bc (c<0) (R (oY nS) F) (Ls F (Am n 3) λp=>Bc ((p.len:Int)<=c) (R (oY nS) F) (Bc (0<a) (Ix g (i64.wrap (a - 1)) λq=>∃k,F.cell (od q (pc (i64.wrap (a - 1))*1))=mB (vi k)/\Bc (c<=k) (R (oY nS) F) (Ls F (Am n 3) λr=>Ix r c λs=>Lr F 7 (od s (pc c*7)) λt=>Fn b λm d e=>aj prog m (d++([(oc t)]).toArray++e) F λv F=>∃l,v=(oY l)/\Bb ((!l)) (R (oY nS) F) (qA u g b n a R F))) (Ls F (Am n 3) λh=>Ix h c λi=>Lr F 7 (od i (pc c*7)) λj=>Fn b λm d e=>aj prog m (d++([(oc j)]).toArray++e) F λv F=>∃f,v=(oY f)/\Bb ((!f)) (R (oY nS) F) (qA u g b n a R F))))) (E8 g R F)
def Ql (c:Γ) (d:Sl) (a:ξ) (R:VR) (F:PH):Prop:=Nb F (mX c 39) λe F=>Lp 0 F λN b F=>xv N d a e R b F
theorem qeM {b:Γ} {c:Sl} {a:ξ} (h:Ql b c a R F):ν 181 #[oc b,nV c,a] F R:=Rx.Λ (.qa8 (.J nS [] (.qa8 (.L [(11,.int .i64)] (.qa8 (.qa8 (.J nS [] .N .N))))) .N)) h
def Qm (b:ο) (f:Θ) (R:VR) (F:PH):Prop:=∃a,f=mB a/\∃c:Option Nat,F.cell a=mB (.map c)/\∃d,s9 prog (Instr.lookup 294 (.map c) (pg b) nS) F (oY d)/\Bb (d) (R (oY nS) F) (∃e:Option Nat,F.cell a=mB (.map e)/\aH prog (Instr.mapUpdate 294 (.map e) (pg b) (oY nZ)) F λ_ F=>R (oY nZ) F)
theorem qeN {a:ο} {b:Θ} (h:Qm a b R F):ν 200 #[pg a,pj b] F R:=Rx.Λ .N h
def Qn (b:Γ) (c:Θ) (R:VR) (F:PH):Prop:=Nb F (mX b 201) λf F=>Li F (Am f 0) λd=>∃a,c=mB a/\Li F a λe=>R (oY (decide (e<=d))) F
theorem qeO {a:Γ} {b:Θ} (h:Qn a b R F):ν 202 #[oc a,pj b] F R:=Rx.Λ .N h
def Qo (b:Int) (c:Θ) (R:VR) (F:PH):Prop:=Bc (0<=b) (∃a,c=mB a/\Ls F (od a 2) λd=>R (oY (decide (b<(d.len:Int)))) F) (R (oY nS) F)
theorem qeP {a:Int} {b:Θ} (h:Qo a b R F):ν 209 #[(vi a),pj b] F R:=Rx.Λ .N h
def Qp (b a f d:Int) (j:Θ) (R:VR) (F:PH):Prop:=Bc (b=0) (R (oY (decide (a=0))) F) (Bc (0<b) (∃c,j=mB c/\Ls F (od c 2) λg=>Bc (b<=(g.len:Int)) (Ls F (od c 2) λh=>Ix h (i64.wrap (b - 1)) λi=>∃e,F.cell (od i (pc (i64.wrap (b - 1))*2))=mB (oY e)/\Bb (e) (Bc (f<=a) (R (oY (decide (a<=d))) F) (R (oY nS) F)) (R (oY nS) F)) (R (oY nS) F)) (R (oY nS) F))
theorem qeQ {d:Int} {a:Int} {c:Int} {b:Int} {e:Θ} (h:Qp d a c b e R F):ν 210 #[(vi d),(vi a),(vi c),(vi b),pj e] F R:=Rx.Λ .N h
theorem mT (a b:ο):(a.toList==b.toList)=decide (a=b):=by rw [Ji,wR,δ,δ];exact ⟨BC,λh=>by rw [h]⟩
theorem zC (a b:ο):(a==b)=decide (a=b):=by show (a.data==b.data)=_;rw [wR,beq_iff_eq,δ];exact ⟨λh=>by cases a;cases b;cases h;rfl,λh=>by rw [h]⟩
instance:LawfulBEq ο where
 eq_of_beq {a b} h:=by rw [zC] at h;exact ζ h
 rfl {a}:=by rw [zC];exact ε rfl
abbrev emp:ByteArray:=ByteArray.mk #[]
theorem aad:oM prog 9 pg:=by
 refine ⟨λF a b=> ?_,λF e a=> ?_,λa=> ?_,_,underlying9,.inl λa b=> ?_⟩
 ·unfold Op.equal Op.maxDepth;show s9 prog (Op.equalIn (9999+1) 9 (.string a) (.string b)) F _;unfold Op.equalIn;simp only [am];refine ⟨_,(aA underlying9 _).2 rfl,?_⟩;exact zC a b
 ·show s9 prog (Instr.checkKey e (9999+1) 9 (.string a)) F ();unfold Instr.checkKey;simp only [am];exact ⟨_,(aA underlying9 _).2 rfl,rfl⟩
 ·show (a==a)=nZ;rw [zC];simp
 ·show mB (a==b)=_;rw [zC]
theorem XW:bv prog 4=mB (oY nS):=by kernel_rfl
theorem Td:fO prog 294 Value.string (.bool nS):=⟨_,_,underlying294,XW,aad⟩
def gT (l:List ο) (s:ο):Option ξ:=if s=emp\/s∈l then mB (oY nZ) else nC
def az (m:Nat) (l:List ο):Ψ:=λH=>∃o,H m=mB o/\dW pg (gT l) o
theorem St.mapAt {G F:PH} {As:List (Ψ)} {m:Nat} {l:List ο} (h:St G F (az m l::As)):∃o,F m=mB o/\dW pg (gT l) o:=by obtain ⟨H,⟨o,r,g⟩,_,w⟩:=h.get (i:=0) rfl;exact ⟨o,w _ _ r,g⟩
theorem St.mapSet {G F:PH} {As:List (Ψ)} {m:Nat} {l l':List ο} {o':Obj} (h:St G F (az m l::As)) (A:dW pg (gT l') o'):St G (F.set m o') (az m l'::As):=by
 obtain ⟨H,⟨o,r,_⟩,D,C,B⟩:=h.set (i:=0) (A':=az m l') rfl;refine B (H.set m o') _ ⟨o',aq _ _ _,A⟩ (λx g=> ?_) (λx p g=> ?_) (λx p g w=> ?_)
 ·by_cases e:x=m
  ·rw [e,r];exact .inl (by simp)
  ·rw [aw _ _ e] at g;exact .inl g
 ·by_cases e:x=m
  ·rw [e,aq] at g ⊢;exact g
  ·rw [aw _ _ e] at g ⊢;exact C _ _ g
 ·have e:x≠m:=λe=>by rw [e,r] at w;cases w
  rw [aw _ _ e];exact g
abbrev zE (b:Nat):Value:=.func (.func 200) #[] #[pj (mB ⟨b,0,nC⟩)]
theorem iK (F:PH):ν 169 #[] F λr E=>∃g b m,r=zE b/\F.le g/\g.cell ⟨b,0,nC⟩=mB (.map (mB m))/\St g E [az m []]:=by
 refine qeD ?_;unfold Qc;intro m D;refine tP ?_;refine bh Td (aq _ _ _) (dW.empty _) emp (oY nZ) λA B=> ?_;rw [aS];have I:St F (F.set m A) [az m []]:=by
  have C:dW pg (gT []) A:=by obtain ⟨G,c,L,O,M,N⟩:=B;refine ⟨G,c,L,O,M,λk=> ?_⟩;rw [<- N k];unfold gT;by_cases e:k=emp<;>simp [e]
  refine (St.start F).push (H:=PH.set (λ_=>nC) m A) ⟨A,aq _ _ _,C⟩ (λx w=> ?_) (λx p w=> ?_) (ae A D)
  ·by_cases e:x=m
   ·rw [e];exact D
   ·rw [aw _ _ e] at w;exact absurd rfl w
  ·by_cases e:x=m
   ·rw [e,aq] at w ⊢;exact w
   ·rw [aw _ _ e] at w;cases w
 refine I.new λJ P h=> ?_;refine h.set0 (by decide) rfl λF2 h=> ?_;refine h.pinb (K:=λF2=>∃g b m,_=zE b/\F.le g/\g.cell ⟨b,0,nC⟩=mB (.map (mB m))/\St g F2 [az m []]) λg l q h=> ?_;exact ⟨g,J,m,rfl,l,ld q rfl,h⟩
theorem Cq {G F:PH} {b m:Nat} {l:List ο} (h:St G F [az m l]) (L:G.cell ⟨b,0,nC⟩=mB (.map (mB m))) (s:ο):
  ν 200 #[pg s,pj (mB ⟨b,0,nC⟩)] F λr K=>∃J,r=oY (decide (s≠emp/\s ∉ l))/\G.le J/\St J K [az m (s::l)]:=by
 refine qeN ?_;unfold Qm;obtain ⟨o,I,A⟩:=h.mapAt;have w:=aK h.le L;have g:=bL (F:=F) Td I A s nS;have B:∀k,gT (s::l) k=if k=s then mB (oY nZ) else gT l k:=λk=>by
  unfold gT;by_cases e:k=s
  ·simp [e]
  ·simp [e]
 by_cases C:s=emp\/s∈l
 ·have D:gT l s=mB (oY nZ):=Χ C;rw [D] at g;refine ⟨_,rfl,mB m,w,nZ,g,λ_=> ?_,λh=>(by cases h)⟩;have hd:decide (s≠emp/\s ∉ l)=nS:=by
   rw [decide_eq_false_iff_not];rintro ⟨N,M⟩;rcases C with h|h
   ·exact N h
   ·exact M h
  refine ⟨G,by rw [hd],au G,?_⟩;have:az m (s::l)=az m l:=by
   unfold az;funext H
   rw [show gT (s::l)=gT l from funext λk=>by
    rw [B];by_cases e:k=s
    ·rw [Χ e,e,D]
    ·rw [Υ e]]
  rw [this];exact h
 ·have D:gT l s=nC:=Υ C;rw [D] at g;refine ⟨_,rfl,mB m,w,nS,g,λh=>(by cases h),λ_=>⟨mB m,w,?_⟩⟩;refine bh Td I A s (oY nZ) λO E=> ?_;have hd:decide (s≠emp/\s ∉ l)=nZ:=by rw [δ];exact ⟨λe=>C (.inl e),λe=>C (.inr e)⟩
  refine ⟨G,by rw [hd],au G,h.mapSet ?_⟩;rw [show gT (s::l)=_ from funext B];exact E
theorem qeR:aG prog 200=nZ:=by kernel_rfl
def pi (b:Nat):Prop:=(97<=b/\b<=122)\/(65<=b/\b<=90)\/b=95
def xw (b:Nat):Prop:=48<=b/\b<=57
instance (b:Nat):Decidable (pi b):=inferInstanceAs (Decidable (_\/_))
instance (b:Nat):Decidable (xw b):=inferInstanceAs (Decidable (_/\_))
def Cr (l:Δ):Bool:=(List.range l.length).all (λi=>decide (pi (l.getD i 0)) || (i !=0 && decide (xw (l.getD i 0)))) && !l.isEmpty
def oT (s:ο):Bool:=Cr (bs s)
theorem Te (s:ο) (i:Nat) (h:i<s.size):(s[i]'h).toNat=(bs s).getD i 0:=by rw [<- Jh];unfold cb;rw [dif_pos h]
theorem qg8 {F:PH} (s:ο) (X:s.size<=1000000000):ν 170 #[pg s] F λr B=>r=oY (oT s)/\F.le B:=by
 refine qeE ?_;unfold Qd;have E:=dc s;refine bC (xq · s _) s.size (λk B=>F.le B/\∀i,i<k->(pi ((bs s).getD i 0)\/(i≠0/\xw ((bs s).getD i 0)))) ⟨au F,λi h=>by omega⟩ ?_;rintro k K N Y ⟨L,hi⟩ next;unfold xq;refine ⟨λg=> ?_,λU=> ?_⟩
 ·have g:k<s.size:=by omega
  refine ⟨by omega,by omega,by simpa using g,((bs s).getD k 0:Nat),?_,?_⟩
  ·rw [<- Te s k g];rfl
  generalize P:(bs s).getD k 0=c;have bad:¬(pi c\/(k≠0/\xw c))->oY nS=oY (oT s)/\F.le K:=λW=>by
   refine ⟨?_,L⟩;have:oT s=nS:=by unfold oT Cr;rw [Bool.and_eq_false_iff];refine .inl ?_;rw [List.all_eq_false];refine ⟨k,Wy.2 (by omega),?_⟩;rw [P];simp only [WM,δ,Vv,bne_iff_ne,ne_eq];exact W
   rw [this]
  have w:(pi c\/(k≠0/\xw c))->qy N s (k:Int) (λr B=>r=oY (oT s)/\F.le B) K:=λQ=>by
   unfold qy;rw [aD g];refine next _ g ⟨L,λi D=> ?_⟩;by_cases e:i=k
   ·rw [e,P];exact Q
   ·exact hi i (by omega)
  have A:∀t:Bool,(t=nZ↔pi c)->fE N s (k:Int) (c:Int) t (λr B=>r=oY (oT s)/\F.le B) K:=λt O=>by
   unfold fE;refine ⟨λh=> ?_,λh=>w (.inl (O.1 (by simpa using h)))⟩;have C:¬pi c:=λM=>by rw [O.2 M] at h;cases h
   refine ⟨λV=>bad ?_,λV=>⟨λG=>bad ?_,λG=>⟨λJ=>bad ?_,λJ=>w ?_⟩⟩⟩
   ·rintro (h|h)
    ·exact C h
    ·omega
   ·rintro (h|h)
    ·exact C h
    ·unfold xw at h;omega
   ·rintro (h|h)
    ·exact C h
    ·unfold xw at h;omega
   ·exact .inr ⟨by omega,by unfold xw;omega⟩
  refine ⟨λG=>⟨λJ=>A _ ⟨λ_=>by unfold pi;omega,λ_=>rfl⟩,λJ=>⟨λH=>⟨λI=>A _ ⟨λ_=>by unfold pi;omega,λ_=>rfl⟩,λI=>A _ ?_⟩,λH=>A _ ?_⟩⟩,
   λG=>⟨λH=>⟨λI=>A _ ⟨λ_=>by unfold pi;omega,λ_=>rfl⟩,λI=>A _ ?_⟩,λH=>A _ ?_⟩⟩
  all_goals (rw [δ];unfold pi;omega)
 ·have e:k=s.size:=by omega
  subst e;unfold EZ;refine ⟨?_,L⟩;congr 1;rw [mT];unfold oT Cr;have G:(List.range (bs s).length).all (λi=>decide (pi ((bs s).getD i 0)) || (i !=0 && decide (xw ((bs s).getD i 0))))=nZ:=by rw [Vq];intro i D;rw [E] at D;have:=hi i (Wy.1 D);simp only [WM,δ,Vv,bne_iff_ne,ne_eq];exact this
  rw [G,V8,wR];simp only [Bool.not_eq_true',decide_eq_false_iff_not,List.isEmpty_eq_false_iff];refine not_congr ⟨λe=>by rw [e];rfl,λe=>BC (e.trans rfl)⟩
section
variable {α:Type} [Mem α] {F:PH}
def Tf (n:Nat) (j:Ω) (f:Sl) (i:ξ) (R:VR) (a:Int) (F:PH):Prop:=((a<(f.len:Int)-> ∃g:Addr,f.qa5=mB g/\0<=a/\a<(f.len:Int)/\∃b:Γ,b.size=n/\F.row (od g (pc a*n)) b/\∃(h:Nat) (c d:Γ),i=.func (.func h) c d/\aG prog h=nZ/\aj prog h (c++([oc b]).toArray++d) F λv F=>∃e:Bool,v=(oY e)/\((e=nZ-> R (tJ .i64 a) F)/\(e=nS-> j (i64.wrap (a+(1:Int))) F)))/\(¬(a<(f.len:Int))-> R (tJ .i64 (-1:Int)) F))
def aae (n:Nat) (d:Sl) (e:ξ) (R:VR) (F:PH):Prop:=(∃(f:Nat->Ω) (c:Nat),f c (0:Int) F/\∀c a F,f c a F-> Tf n (λb F=>∃g,g<c/\f g b F) d e R a F)
theorem Ct {s:Sl} {l:List α} (G:RL F s l) (I:0<Mem.n α) (P:l.length<=1000000000) {k:Nat} {fst cap:Γ} (K:aG prog k=nZ) (p:α->Bool)
  (M:∀x∈l,∀c B,F.le B->Mem.rep B x c->aj prog k (fst++([oc c]).toArray++cap) B λr C=>r=oY (p x)/\B.le C):
  aae (Mem.n α) s (.func (.func k) fst cap) (λr C=>∃i,r=vi i/\(0<=i↔l.any p=nZ)/\F.le C) F:=by
 have E:=G.len I;refine bC (Tf (Mem.n α) · s (.func (.func k) fst cap) _) l.length (λk C=>F.le C/\(l.take k).any p=nS) ⟨au F,by simp⟩ ?_;rintro i B N hi ⟨w,A⟩ next;unfold Tf;refine ⟨λg=> ?_,λO=> ?_⟩
 ·have g:i<l.length:=by omega
  obtain ⟨a,c,J,L,H⟩:=(G.le w).get I (N5 g);refine ⟨a,J,by omega,by omega,c,Mem.len H,by rw [N4];exact L,k,fst,cap,rfl,K,?_⟩;refine (M _ (Vw g) c B w H).mono ?_;rintro _ F2 ⟨rfl,D⟩;refine ⟨_,rfl,λh=> ?_,λh=> ?_⟩
  ·exact ⟨_,rfl,⟨λ_=>XI.2 ⟨_,Vw g,h⟩,λ_=>by omega⟩,aa w D⟩
  ·rw [aD g];refine next _ g ⟨aa w D,?_⟩;rw [WI g,List.any_append,A];simp [h]
 ·have e:i=l.length:=by omega
  subst e;rw [wV] at A;exact ⟨_,rfl,⟨λh=>by omega,λh=>by rw [A] at h;cases h⟩,w⟩
end
theorem u9 {α:Type} [Mem α] {F:PH} {s:Sl} {l:List α} (h:RL F s l) (w:0<Mem.n α) {i:Int} (D:0<=i) (E:i<(s.len:Int)) {K:Addr->Prop}
  (k:∀a c x,l[i.toNat]? =mB x->F.row (a.add (i.toNat*Mem.n α)) c->Mem.rep F x c->K a):∃a,s.qa5=mB a/\0<=i/\i<(s.len:Int)/\K a:=by
 have r:=h.len w;have g:i.toNat<l.length:=by omega
 obtain ⟨a,c,A,B,C⟩:=h.get w (N5 g);exact ⟨a,A,D,E,k a c _ (N5 g) B C⟩
def iL (d:wc) (n:Nat):Prop:=chk d=0/\∀b∈d.1,b.v<n
open Classical in
def sZ (d:wc) (n:Nat):Bool:=decide (iL d n)
theorem cO {d:wc} {n:Nat}:sZ d n=nZ↔iL d n:=by unfold sZ;simp
theorem xx {d:wc} {n:Nat}:sZ d n=nS↔¬iL d n:=by unfold sZ;simp
theorem qeS:aG prog 202=nZ:=by kernel_rfl
theorem gU {F:PH} {v:Γ} {d:wc} {n:Nat} (hd:DV F v d):ν 171 #[oc v,vi n] F λr D=>r=oY (sZ d n)/\F.le D:=by
 obtain ⟨s,rfl,B⟩:=hd;refine qeF ?_;unfold Qe;refine fresh λY X w q1 _=> ?_;refine fresh λQ F2 C q2 _=> ?_;have q1:=C _ _ q1;have B:=B.le (aa w C);have w:=aa w C;refine ⟨_,rfl,ai q1,?_⟩;refine (kV (d:=d) ⟨s,rfl,B⟩).mono ?_;rintro _ H ⟨rfl,g⟩;refine ⟨_,rfl,λh=>⟨?_,aa w g⟩,λh=> ?_⟩
 ·have:sZ d n=nS:=xx.2 λN=>h N.1;rw [this]
 ·have h:chk d=0:=Classical.not_not.1 h;have L:d.1.length<=4096:=by apply Classical.byContradiction;intro A;unfold chk at h;rw [Χ (by omega)] at h;omega
  refine ⟨_,ld (g _ _ q1) rfl,?_⟩;refine qc1 ?_;unfold O2;have M:RL H s d.1:=(RL.brs.2 B).le g
  refine (show ν 231 #[s.v,.func (.func 202) #[] #[pj (mB ⟨Q,0,nC⟩)]] H (λr D=>∃i,r=vi i/\(0<=i↔d.1.any (λb=>decide ((n:Int)<=b.v))=nZ)/\H.le D)
   from qc5 (Ct M (by decide) (by omega) qeS (λb=>decide ((n:Int)<=b.v)) λx V c P E O=> ?_)).mono ?_
  ·rw [show c=aX x from O];refine qeO ?_;unfold Qn;refine fresh λb W K q5 _=> ?_;exact ⟨_,ld q5 rfl,_,rfl,_,ld (K _ _ (E _ _ (g _ _ q2))) rfl,rfl,K⟩
  ·rintro _ P ⟨i,rfl,hi,E⟩;refine ⟨_,rfl,_,rfl,?_,aa w (aa g E)⟩;congr 1;rw [wR,cO];simp only [Bool.not_eq_true',decide_eq_false_iff_not];rw [hi,XI];constructor
   ·intro U;refine ⟨h,λb A=>Int.not_le.1 λI=>U ⟨b,A,by simpa using I⟩⟩
   ·rintro ⟨_,A⟩ ⟨b,G,J⟩;have:=A b G;simp at J;omega
def dQ (g:Gr):Bool:=decide (64<g.qa4.length\/256<g.qa2.length\/4096<g.fils.length\/2000<g.qa1.length\/2000<g.qa0.length\/2000<g.lvs.length) || g.qa0.any λp=>decide (16<p.right.length\/16<p.lay.length)
theorem NK:aG prog 168=nZ:=by kernel_rfl
theorem Cv {F:PH} {v:Γ} {g:Gr} (I:GV F v g):ν 139 #[oc v] F λr B=>r=oY (dQ g)/\F.le B:=by
 obtain ⟨c,n,t,s,p,l,f,rfl,w⟩:=I;refine qev ?_;unfold PY;refine fresh λV A D q1 _=> ?_;have K:=w.c.len;have M:=w.t.len;have X:=w.s.len;have e4:=w.p.len;have W:=w.l.len;have e6:=w.f.len;have bad:(64<g.qa4.length\/256<g.qa2.length\/4096<g.fils.length\/2000<g.qa1.length\/2000<g.qa0.length\/2000<g.lvs.length)->(oY nZ=oY (dQ g)/\F.le A):=λh=>by refine ⟨?_,D⟩;unfold dQ;rw [ε h,Bool.true_or]
 refine ⟨_,ld q1 rfl,λh=>bad (by omega),λG=>⟨_,ld q1 rfl,λh=>bad (by omega),λJ=>⟨_,ld q1 rfl,λh=>bad (by omega),λE=>⟨_,ld q1 rfl,_,ld q1 rfl,_,ld q1 rfl,λh=>bad (by omega),λQ=>⟨_,ld q1 rfl,?_⟩⟩⟩⟩⟩;refine qcX ?_;unfold O0
 refine (show ν 199 #[p.v,.func (.func 168) #[] #[]] A (λr B=>∃i,r=vi i/\(0<=i↔g.qa0.any (λp=>decide (16<p.right.length\/16<p.lay.length))=nZ)/\A.le B)
  from qc0 (Ct (w.p.le D) (by decide) (by omega) NK (λp=>decide (16<p.right.length\/16<p.lay.length)) λx P c O H L=> ?_)).mono ?_
 ·obtain ⟨r,Z,Y,rfl,G,J,E⟩:=L;refine qeC ?_;unfold Qb;refine fresh λb U N q5 _=> ?_;have K:=G.len;have M:=E.len;refine ⟨_,ld q5 rfl,_,ld q5 rfl,?_,N⟩;congr 1;rw [wR];simp only [δ];omega
 ·rintro _ O ⟨i,rfl,hi,H⟩;refine ⟨_,rfl,_,rfl,?_,aa D H⟩;congr 1;unfold dQ;have C:¬(64<g.qa4.length\/256<g.qa2.length\/4096<g.fils.length\/2000<g.qa1.length\/2000<g.qa0.length\/2000<g.lvs.length):=by omega
  rw [η C,Bool.false_or,wR,δ];exact hi
structure Sz (g:Gr):Prop where
 c:∀s∈g.qa4,s.size<=1000000000
 t:∀t∈g.qa2,t.smp.size<=100000
 l:∀l∈g.lvs,l.ps.length<=1000000000
 f:∀f∈g.fils,f.qa2.length<=1000000000
def bH (l:List ο):Prop:=l.Nodup/\emp ∉ l
theorem fF {l:List ο} {s:ο}:bH (l++[s])↔bH l/\s≠emp/\s ∉ l:=by
 unfold bH;rw [VC];simp only [vl,wa,not_or];constructor
 ·rintro ⟨⟨w,_,h⟩,r,g⟩;exact ⟨⟨w,r⟩,λe=>g e.symm,λC=>h s C s rfl rfl⟩
 ·rintro ⟨⟨w,h⟩,r,g⟩;exact ⟨⟨w,by simp,λa A b B e=>g (by rw [<- B,<- e];exact A)⟩,h,λe=>r e.symm⟩
theorem mU {l:List ο} (h:bH l) (k:Nat):bH (l.take k):=⟨h.1.sublist (List.take_sublist k l),λg=>h.2 (YT g)⟩
theorem bD {α:Type} {l:List α} {k:Nat} {x:α} (h:l[k]? =mB x):l.take (k+1)=l.take k++[x]:=by obtain ⟨g,rfl⟩:=N6.1 h;exact WI g
theorem qB {G F:PH} {As:List (Ψ)} {b m:Nat} {l:List ο} (h:St G F (az m l.reverse::As)) (J:G.cell ⟨b,0,nC⟩=mB (.map (mB m))) (s:ο) {R:VR}
  (k:∀C D,G.le C->St C D (az m (l++[s]).reverse::As)->R (oY (decide (s≠emp/\s ∉ l))) D):
  ∃(A:Nat) (w g:Γ),zE b=.func (.func A) w g/\aG prog A=nZ/\aj prog A (w++([(pg s)]).toArray++g) F R:=by
 refine ⟨_,_,_,rfl,qeR,?_⟩;have H:=St.callL (Bs:=[az m l.reverse]) (Cs:=As) (Bs':=λ_ _=>[az m (s::l.reverse)]) (P:=λr _=>r=oY (decide (s≠emp/\s ∉ l.reverse))) h λL K=>(Cq K J s).mono λr D ⟨C,I,E,B⟩=>⟨C,I,E,B⟩;refine H.mono ?_;rintro r D ⟨C,rfl,E,B⟩;have:=k C D E (by rw [List.reverse_append];exact B);rw [show decide (s≠emp/\s ∉ l.reverse)=decide (s≠emp/\s ∉ l) by simp];exact this
def qeT:ο:=ByteArray.mk #[116,114,117,101]
def Th:ο:=ByteArray.mk #[102,97,108,115,101]
def s8 (s:ο):Prop:=oT s=nZ/\s≠qeT/\s≠Th
def oU (g:Gr):Prop:=(∀s∈g.qa4,s8 s)/\bH g.qa4/\iL g.fam g.qa4.length/\g.fam.2≠0
open Classical in
theorem qg0 {F:PH} {v:Γ} {g:Gr} (hg:GV F v g) (hz:Sz g) (hl:g.qa4.length<=64):ν 140 #[oc v] F λr K=>r=vi (if oU g then 0 else 54)/\F.le K:=by
 obtain ⟨c,n,t,s,p,l,f,rfl,C⟩:=hg;have ec:=C.c.len;refine qew ?_;unfold PZ;refine fresh λb1 Z X q1 _=> ?_;have C:=C.le X;refine (iK Z).mono ?_;rintro _ F2 ⟨G2,bn,m,rfl,Y,P,h⟩;refine ⟨_,rfl,_,ld (h.le _ _ (Y _ _ q1)) rfl,?_⟩;have bad:∀{K},Z.le K->¬oU g->(vi 54=vi (if oU g then 0 else 54)/\F.le K):=λ{K} l B=>⟨by rw [Υ B],aa X l⟩;refine bC (xh · b1 (zE bn) c _) g.qa4.length (λk K=>∃G,G2.le G/\St G K [az m (g.qa4.take k).reverse]/\(∀s∈g.qa4.take k,s8 s)/\bH (g.qa4.take k))
  ⟨G2,au _,h,by simp,by simp [bH]⟩ ?_
 rintro k F3 N hk ⟨G3,Q,h,hi,L⟩ next;have w:=aa Y Q;unfold xh;refine ⟨λM=> ?_,λa0=> ?_⟩
 ·have M:k<g.qa4.length:=by omega
  refine u9 ((C.c.le w).le h.le) (by decide) (by omega) (by omega) λa cc x O U hc=> ?_;rw [N4] at O U;rw [show cc= #[pg x] from hc] at U;have I:x∈g.qa4:=wh O;refine ⟨_,aF U rfl,?_⟩;refine h.runv (qg8 x (hz.c x I)) λG4 F4 E h=>⟨_,rfl,λJ=> ?_,λJ=>⟨λH=> ?_,λH=>⟨λD=> ?_,λD=> ?_⟩⟩⟩
  ·exact bad (aa w (aa E h.le)) λB=>by rw [(B.1 x I).1] at J;cases J
  ·exact bad (aa w (aa E h.le)) λB=>(B.1 x I).2.1 (by rw [mT] at H;exact ζ H)
  ·exact bad (aa w (aa E h.le)) λB=>(B.1 x I).2.2 (by rw [mT] at D;exact ζ D)
  ·refine qB h (aK (aa Q E) P) x λG5 F5 l5 h=> ?_;have V:=aa w (aa E l5);refine ⟨_,rfl,λA=> ?_,λA=> ?_⟩
   ·refine bad (aa V h.le) λB=> ?_;have:=mU B.2.1 (k+1);rw [bD O,fF] at this;rw [ε this.2] at A;cases A
   ·rw [aD M];have A:x≠emp/\x ∉ g.qa4.take k:=by simpa using A
    rw [<- bD O] at h;refine next _ M ⟨G5,aa Q (aa E l5),h,λs C=> ?_,?_⟩
    ·rw [bD O] at C;rcases vl.1 C with C|C
     ·exact hi s C
     ·rw [wa.1 C];rw [mT] at H D;exact ⟨by simpa using J,ι H,ι D⟩
    ·rw [bD O,fF];exact ⟨L,A⟩
 ·have e:k=g.qa4.length:=by omega
  subst e;rw [wV] at hi L;unfold ES;refine ⟨#[n.v,vi g.fam.2],rfl,fZ (h.le _ _ (w _ _ q1)) rfl,_,ld (h.le _ _ (w _ _ q1)) rfl,?_⟩;dsimp only;rw [ec];refine h.runv (gU (d:=g.fam) (DV.mk (C.n.le w))) λG4 F4 E h=>⟨_,rfl,λJ=> ?_,λJ=> ?_⟩
  ·refine bad (aa w (aa E h.le)) λB=> ?_;have:sZ g.fam g.qa4.length=nZ:=cO.2 B.2.2.1;rw [this] at J;cases J
  ·refine ⟨_,ld (h.le _ _ (E _ _ (w _ _ q1))) rfl,λW=> ?_,λW=> ?_⟩
   ·exact bad (aa w (aa E h.le)) λB=>B.2.2.2 W
   ·refine ⟨?_,aa X (aa w (aa E h.le))⟩;rw [Χ ⟨hi,L,cO.1 (by simpa using J),W⟩]
def jr (g:Gr):Prop:=bH g.qa1/\0<=g.start/\g.start<g.qa1.length
open Classical in
theorem qhb {F:PH} {v:Γ} {g:Gr} (W:GV F v g) (hl:g.qa1.length<=2000):ν 142 #[oc v] F λr B=>r=vi (if jr g then 0 else 50)/\F.le B:=by
 obtain ⟨c,n,t,s,p,l,f,rfl,I⟩:=W;have es:=I.s.len;refine qey ?_;unfold P5;refine fresh λX Q O q1 _=> ?_;have I:=I.le O;refine (iK Q).mono ?_;rintro _ F2 ⟨V,bn,m,rfl,P,J,h⟩;refine ⟨_,rfl,_,ld (h.le _ _ (P _ _ q1)) rfl,?_⟩;have bad:∀{B},Q.le B->¬jr g->(vi 50=vi (if jr g then 0 else 50)/\F.le B):=λ{B} l E=>⟨by rw [Υ E],aa O l⟩;refine bC (xk · X (zE bn) s _) g.qa1.length (λk B=>∃G,V.le G/\St G B [az m (g.qa1.take k).reverse]/\bH (g.qa1.take k))
  ⟨V,au _,h,by simp [bH]⟩ ?_
 rintro k F3 N hk ⟨G3,K,h,C⟩ next;have A:=aa P K;unfold xk;refine ⟨λD=> ?_,λY=> ?_⟩
 ·have D:k<g.qa1.length:=by omega
  refine u9 ((I.s.le A).le h.le) (by decide) (by omega) (by omega) λa Z x H L hc=> ?_;rw [N4] at H L;rw [show Z= #[pg x] from hc] at L;refine ⟨_,aF L rfl,?_⟩;refine qB h (aK K J) x λG5 F5 U h=> ?_;have M:=aa A U;refine ⟨_,rfl,λw=> ?_,λw=> ?_⟩
  ·refine bad (aa M h.le) λE=> ?_;have:=mU E.1 (k+1);rw [bD H,fF] at this;rw [ε this.2] at w;cases w
  ·rw [aD D];have w:x≠emp/\x ∉ g.qa1.take k:=by simpa using w
   rw [<- bD H] at h;refine next _ D ⟨G5,aa K U,h,?_⟩;rw [bD H,fF];exact ⟨C,w⟩
 ·have e:k=g.qa1.length:=by omega
  subst e;rw [wV] at C;unfold EU;have q:=h.le _ _ (A _ _ q1);refine ⟨_,ld q rfl,λh0=>bad (aa A h.le) λE=>by have:=E.2.1;omega,λh0=>⟨_,ld q rfl,_,ld q rfl,λh1=>bad (aa A h.le) λE=>by have:=E.2.2;omega,λh1=>⟨?_,aa O (aa A h.le)⟩⟩⟩;rw [Χ ⟨C,by omega,by omega⟩]
inductive Scl:TypeId->Value->Value->Bool->Prop
 |int {t:TypeId} {k:IntKind} {a b:Int}:prog.underlying t=mB (.int k)->Scl t (.int k a) (.int k b) (decide (a=b))
 |bool {t:TypeId} {a b:Bool}:prog.underlying t=mB .bool->Scl t (.bool a) (.bool b) (decide (a=b))
 |str {t:TypeId} {a b:ο}:prog.underlying t=mB .string->Scl t (.string a) (.string b) (decide (a=b))
theorem Scl.eq {t:TypeId} {v w:ξ} {r:Bool} (h:Scl t v w r) (d:Nat) (F:PH):s9 prog (Op.equalIn (d+1) t v w) F r:=by
 cases h with
 | @int k a b g=>exact Eg t k g d a b
 | @bool a b g=>simp only [Op.equalIn,am];refine ⟨_,(aA g _).2 rfl,?_⟩;show (a==b)=decide (a=b);cases a<;>cases b<;>rfl
 | @str a b g=>simp only [Op.equalIn,am];refine ⟨_,(aA g _).2 rfl,?_⟩;show (a==b)=decide (a=b);rw [wR];simp
theorem Scl.part {t:TypeId} {v w:ξ} {r:Bool} (h:Scl t v w r) {cs:Γ} {off:Nat} {x:ξ} (B:cs[off]? =mB x) (F:PH):s9 prog (part t cs off) F x:=by
 have A:∀d,prog.underlying t=mB d->((∃k,d=.int k)\/d=.bool\/d=.string)->s9 prog (Go.part t cs off) F x:=λd hd C=>by unfold Go.part;simp only [am];refine ⟨nS,(dm hd _).2 (by rcases C with ⟨k,rfl⟩|rfl|rfl<;>rfl),?_⟩;simp only [VQ,if_false,B];rfl
 cases h with
 | @int k a b g=>exact A _ g (.inl ⟨k,rfl⟩)
 | @bool a b g=>exact A _ g (.inr (.inl rfl))
 | @str a b g=>exact A _ g (.inr (.inr rfl))
theorem te {t:TypeId} {fs:Array Field} (ht:prog.underlying t=mB (.struct fs)) (hsi:prog.stoodInHeld t=nS) {cs ds:Γ} (e:Field->Bool)
  (hall:∀f∈fs.toList,f.name≠ "_"/\∃v w,cs[f.offset]? =mB v/\ds[f.offset]? =mB w/\Scl f.type v w (e f)) (F:PH):
  s9 prog (Op.equal t (oc cs) (oc ds)) F (fs.toList.all e):=by
 unfold Op.equal Op.maxDepth;show s9 prog (Op.equalIn (9998+1+1) t _ _) _ _;unfold Op.equalIn;simp only [am];refine ⟨_,(aA ht _).2 rfl,?_⟩;dsimp only;rw [am];refine ⟨prog,rfl,?_⟩;rw [hsi];simp only [VQ,if_false];rw [<- Array.forIn_toList,am];refine ⟨_,BH _ e _ λf hf=> ?_,?_⟩
 ·obtain ⟨h1,v,w,h2,h3,h4⟩:=hall f hf;rw [Χ h1];simp only [am];refine ⟨_,h4.part h2 F,_,h4.part h3 F,_,h4.eq 9998 F,?_⟩;cases e f<;>rfl
 ·cases fs.toList.all e<;>rfl
theorem NL (x y:Sy) (F:PH):s9 prog (Op.equal 130 (oc x.arr) (oc y.arr)) F (decide (x=y)):=by
 have h:=te (t:=130) underlying130 (by kernel_rfl) (cs:=x.arr) (ds:=y.arr) (λf=>if f.offset=0 then decide (x.t=y.t) else decide (x.i=y.i)) (λf g=>by
  simp only [tQ,Ws,or_false] at g;rcases g with rfl|rfl
  ·exact ⟨by decide,_,_,rfl,rfl,.bool underlying4⟩
  ·exact ⟨by decide,_,_,rfl,rfl,.int underlying3⟩) F
 refine cast ?_ h;congr 1;cases x;cases y;rw [wR];simp [Sy.mk.injEq]
abbrev Sco.arr (s:Sco):Γ:= #[oY s.o,vi s.d,vi s.k,vi s.u,vi s.a]
theorem Qq (x y:Sco) (F:PH):s9 prog (Op.equal 60 (oc x.arr) (oc y.arr)) F (decide (x=y)):=by
 have h:=te (t:=60) underlying60 (by kernel_rfl) (cs:=x.arr) (ds:=y.arr)
  (λf=>if f.offset=0 then decide (x.o=y.o) else if f.offset=1 then decide (x.d=y.d) else if f.offset=2 then decide (x.k=y.k) else if f.offset=3 then decide (x.u=y.u) else decide (x.a=y.a)) (λf g=>by
  simp only [tQ,Ws,or_false] at g;rcases g with rfl|rfl|rfl|rfl|rfl
  ·exact ⟨by decide,_,_,rfl,rfl,.bool underlying4⟩
  all_goals exact ⟨by decide,_,_,rfl,rfl,.int underlying3⟩) F
 refine cast ?_ h;congr 1;cases x;cases y;rw [wR];simp [Sco.mk.injEq]
def mV (g:Gr) (s:Sy):Prop:=0<=s.i/\(s.t=nS->s.i<g.qa1.length)/\(s.t=nZ->∃t,g.qa2[s.i.toNat]? =mB t/\t.cls=0)
instance (g:Gr) (s:Sy):Decidable (mV g s):=by
 have:Decidable (∃t,g.qa2[s.i.toNat]? =mB t/\t.cls=0):=by
  cases h:g.qa2[s.i.toNat]? with
  |none=>exact isFalse λ⟨t,h1,_⟩=>by cases h1
  |some t=>exact decidable_of_iff (t.cls=0) ⟨λe=>⟨t,rfl,e⟩,λ⟨u,h1,h2⟩=>by cases h1;exact h2⟩
 unfold mV;exact inferInstance
theorem qif {F:PH} {v:Γ} {g:Gr} (K:GV F v g) (x:Sy):ν 175 #[oc v,oc x.arr] F λr M=>r=oY (decide (mV g x))/\F.le M:=by
 obtain ⟨c,n,t,s,p,l,f,rfl,G⟩:=K;refine qeH ?_;unfold Qg;refine fresh λX W C q1 _=> ?_;refine fresh λZ F2 H q2 _=> ?_;have q1:=H _ _ q1;have C:=aa C H;have P:=G.s.len;have U:=G.t.len;obtain ⟨D,I⟩:=x;have no:¬mV g ⟨D,I⟩->(oY nS=oY (decide (mV g ⟨D,I⟩))/\F.le F2):=λh=>⟨by rw [η h],C⟩;refine ⟨_,ld q2 rfl,λh=>⟨_,ld q2 rfl,λA=>⟨_,ld q2 rfl,_,ld q1 rfl,?_,C⟩,λA=>no λw=>A w.1⟩,λh=>⟨_,ld q2 rfl,λA=>⟨_,ld q2 rfl,_,ld q1 rfl,λB=>⟨_,ld q1 rfl,_,ld q2 rfl,?_⟩,λB=>no λw=> ?_⟩,λA=>no λw=>A w.1⟩⟩
 ·have h:D=nS:=by simpa using h
  subst h;congr 1;rw [wR,decide_eq_true_eq,decide_eq_true_eq];exact ⟨λB=>⟨A,λ_=>by dsimp only at B ⊢;omega,λh=>(by cases h)⟩,λw=>by have:=w.2.1 rfl;dsimp only at this ⊢;omega⟩
 ·have h:D=nZ:=by simpa using h
  subst h;refine u9 (G.t.le C) (by decide) A B λa V y J O N=> ?_;obtain ⟨Q,Y,rfl,_,_⟩:=N;refine ⟨_,aN O rfl,?_,C⟩;congr 1;rw [wR,δ,δ]
  exact ⟨λB=>⟨A,λh=>(by cases h),λ_=>⟨y,J,B⟩⟩,λw=>by
   obtain ⟨z,E,L⟩:=w.2.2 rfl;rw [J] at E;cases E
   exact L⟩
 ·have h:D=nZ:=by simpa using h
  subst h;obtain ⟨z,E,_⟩:=w.2.2 rfl;have:=(N6.1 E).1;dsimp only at this B;omega
def eF (r:List Sy) (k v lo hi:Int):Prop:=(k=0/\v=0)\/(0<k/\k<=r.length/\(∃s,r[(k - 1).toNat]? =mB s/\s.t=nZ)/\lo<=v/\v<=hi)
def Cw (r:List Sy) (x:Cn):Prop:=1<=x.k/\x.k<=4/\0<=x.a/\x.a<r.length/\0<=x.b/\x.b<r.length/\(x.k=1->x.b=0)
def ki:Sco:=⟨nS,0,0,0,0⟩
def Cy (p:Pr):Prop:=p.right.length=3/\p.rank=0/\p.lay=[]/\p.sco=ki/\(∃s,p.right[0]? =mB s/\s.t=nZ)/\p.right[1]? =mB ⟨nS,p.left⟩/\(∃s,p.right[2]? =mB s/\s.t=nZ)
def lz (p:Pr):Prop:=(∀x∈p.lay,Cw p.right x)/\eF p.right p.sco.d p.sco.k 1 7/\eF p.right p.sco.u p.sco.a 0 255/\(p.brk=nZ->Cy p)
open Classical in
theorem tf {F:PH} {b:Nat} {x:Pr} {r n l:Sl} (G:RL F r x.right) (q:F b=mB (mX (x.arr r n l) 64)) (k v lo hi:Int) (O:x.right.length<=16):
  ν 210 #[vi k,vi v,vi lo,vi hi,pj (mB ⟨b,0,nC⟩)] F λres J=>res=oY (decide (eF x.right k v lo hi))/\F.le J:=by
 refine qeQ ?_;unfold Qp;have N:=G.len;have no:¬eF x.right k v lo hi->(oY nS=oY (decide (eF x.right k v lo hi))/\F.le F):=λh=>⟨by rw [η h],au F⟩;have g:F.cell (od (pd b 0 nC) 2)=mB r.v:=by rw [aJ];exact ld q rfl
 refine ⟨λI=>⟨?_,au F⟩,λI=>⟨λE=>⟨_,rfl,_,g,λL=>⟨_,g,?_⟩,λL=>no ?_⟩,λE=>no ?_⟩⟩
 ·congr 1;rw [wR,δ,δ];exact ⟨λh=> .inl ⟨I,h⟩,λh=>h.elim (λh=>h.2) λh=>by omega⟩
 ·have M:i64.wrap (k - 1)=k - 1:=aL (by omega);rw [M];refine u9 G (by decide) (by omega) (by omega) λa c s H w K=> ?_;rw [show c=s.arr from K] at w;refine ⟨_,aF w rfl,λC=>⟨λD=>⟨?_,au F⟩,λD=>no ?_⟩,λC=>no ?_⟩
  ·congr 1;rw [wR,δ,δ];exact ⟨λh=> .inr ⟨E,by omega,⟨s,H,C⟩,D,h⟩,λh=>h.elim (λh=>by omega) λh=>h.2.2.2.2⟩
  ·rintro (h|h)
   ·omega
   ·exact D h.2.2.2.1
  ·rintro (h|h)
   ·omega
   ·obtain ⟨P,A,B⟩:=h.2.2.1;rw [H] at A;cases A;rw [C] at B;cases B
 ·rintro (h|h)
  ·omega
  ·omega
 ·rintro (h|h)
  ·omega
  ·omega
theorem ti {F:PH} {b:Nat} {x:Pr} {r n l:Sl} (A:RL F r x.right) (q:F b=mB (mX (x.arr r n l) 64)) (i:Int):
  ν 209 #[vi i,pj (mB ⟨b,0,nC⟩)] F λres w=>res=oY (decide (0<=i/\i<x.right.length))/\F.le w:=by
 refine qeP ?_;unfold Qo;have C:=A.len;have g:F.cell (od (pd b 0 nC) 2)=mB r.v:=by rw [aJ];exact ld q rfl
 refine ⟨λh=>⟨_,rfl,_,g,?_,au F⟩,λh=>⟨?_,au F⟩⟩
 ·congr 1;rw [wR,δ,δ];omega
 ·rw [η (λB=>h B.1)]
open Classical in
theorem qhQ {F:PH} {v:Γ} {x:Pr} (A:Mem.rep F x v) (h1:x.right.length<=16) (h2:x.lay.length<=16):ν 177 #[oc v] F λr G=>r=oY (decide (lz x))/\F.le G:=by
 obtain ⟨r,n,l,rfl,V,hn,hl⟩:=A;have er:=V.len;have el:=hl.len;refine qeI ?_;unfold Qh;refine fresh λb1 F1 l1 q1 _=>⟨_,ld q1 rfl,?_⟩;have V:=V.le l1;have hl:=hl.le l1;have no:∀{G:PH},F1.le G->¬lz x->(oY nS=oY (decide (lz x))/\F.le G):=λ{G} l h=>⟨by rw [η h],aa l1 l⟩;refine bC (xu · b1 l _) x.lay.length (λk G=>F1.le G/\∀y∈x.lay.take k,Cw x.right y) ⟨au _,by simp⟩ ?_;rintro k F2 N hk ⟨l2,hi⟩ next;unfold xu;refine ⟨λY=> ?_,λa1=> ?_⟩
 ·have Y:k<x.lay.length:=by omega
  refine u9 (hl.le l2) (by decide) (by omega) (by omega) λa c y hy g W=> ?_;rw [show c=y.arr from W] at g;rw [N4] at hy g;have a0:y∈x.lay:=wh hy;refine ⟨_,rfl,g,?_⟩;refine (St.start F2).new λb4 F3 h=> ?_;refine h.put0 (w':=y.arr) rfl rfl (by simp [ak]) λP h=> ?_;obtain ⟨_,_,q4,h⟩:∃D,F2.le D/\D b4=mB (mX y.arr 260)/\D.le P:=h.pinb (K:=λP=>∃D,F2.le D/\D b4=mB (mX y.arr 260)/\D.le P) λD l q h=>⟨D,l,q,h.le⟩;have C:F2.le P:=aa ‹F2.le _› h;have q4:=h _ _ q4;have C:=aa l2 C;have Q:Cw x.right y->∀F5,F1.le F5->qz N b1 l (k:Int) (λr G=>r=oY (decide (lz x))/\F.le G) F5:=λhg F5 E=>by
   unfold qz;rw [aD Y];refine next _ Y ⟨E,λz O=> ?_⟩;rw [bD hy] at O;rcases vl.1 O with O|O
   ·exact hi z O
   ·rw [wa.1 O];exact hg
  have bad:∀{G:PH},F1.le G->¬Cw x.right y->(oY nS=oY (decide (lz x))/\F.le G):=λ{G} l h=>no l λhd=>h (hd.1 y a0);refine ⟨_,ld q4 rfl,λh=>bad C λA=>by have:=A.1;omega,λk1=>⟨_,ld q4 rfl,λh=>bad C λA=>by have:=A.2.1;omega,λk2=>⟨_,ld q4 rfl,?_⟩⟩⟩;refine (ti (V.le C) (C _ _ q1) y.a).mono ?_;rintro _ F5 ⟨rfl,E⟩;refine ⟨_,rfl,λh=>bad (aa C E) λA=> ?_,λI=>⟨_,ld (E _ _ q4) rfl,?_⟩⟩
  ·rw [ε ⟨A.2.2.1,A.2.2.2.1⟩] at h;cases h
  refine (ti (V.le (aa C E)) (E _ _ (C _ _ q1)) y.b).mono ?_;rintro _ F6 ⟨rfl,l6⟩;have B:=aa C (aa E l6);have q6:=l6 _ _ (E _ _ q4);refine ⟨_,rfl,λh=>bad B λA=> ?_,λL=>⟨_,ld q6 rfl,λk5=>⟨_,ld q6 rfl,λk6=>bad B λA=>k6 (A.2.2.2.2.2.2 k5),λk6=>Q ?_ _ B⟩,λk5=>Q ?_ _ B⟩⟩
  ·rw [ε ⟨A.2.2.2.2.1,A.2.2.2.2.2.1⟩] at h;cases h
  ·simp at I L;exact ⟨by omega,by omega,I.1,I.2,L.1,L.2,λ_=>by omega⟩
  ·simp at I L;exact ⟨by omega,by omega,I.1,I.2,L.1,L.2,λh=>absurd h k5⟩
 ·have e:k=x.lay.length:=by omega
  subst e;rw [wV] at hi;unfold E6;refine ⟨x.sco.arr,rfl,fZ (l2 _ _ q1) rfl,?_⟩;refine (St.start F2).new λb7 F3 h=> ?_;refine h.put0 (w':=x.sco.arr) rfl rfl (by simp [ak]) λP h=> ?_;obtain ⟨_,_,q4,h⟩:∃D,F2.le D/\D b7=mB (mX x.sco.arr 60)/\D.le P:=h.pinb (K:=λP=>∃D,F2.le D/\D b7=mB (mX x.sco.arr 60)/\D.le P) λD l q h=>⟨D,l,q,h.le⟩;have C:F2.le P:=aa ‹F2.le _› h;have q4:=h _ _ q4;have C:=aa l2 C;refine ⟨_,ld q4 rfl,_,ld q4 rfl,?_⟩;refine (tf (V.le C) (C _ _ q1) x.sco.d x.sco.k 1 7 h1).mono ?_;rintro _ F5 ⟨rfl,E⟩;refine ⟨_,rfl,λh=>no (aa C E) λA=> ?_,λI=>⟨_,ld (E _ _ q4) rfl,_,ld (E _ _ q4) rfl,?_⟩⟩
  ·rw [ε A.2.1] at h;cases h
  refine (tf (V.le (aa C E)) (E _ _ (C _ _ q1)) x.sco.u x.sco.a 0 255 h1).mono ?_;rintro _ F6 ⟨rfl,l6⟩;have B:=aa C (aa E l6);have q6:=l6 _ _ (E _ _ q4);have U:=B _ _ q1;refine ⟨_,rfl,λh=>no B λA=> ?_,λL=> ?_⟩
  ·rw [ε A.2.2.1] at h;cases h
  have I:eF x.right x.sco.d x.sco.k 1 7:=by simpa using I
  have L:eF x.right x.sco.u x.sco.a 0 255:=by simpa using L
  refine ⟨_,ld U rfl,λX=>⟨?_,aa l1 B⟩,λX=> ?_⟩
  ·rw [ε ⟨hi,I,L,λh=>by rw [h] at X;cases X⟩]
  have X:x.brk=nZ:=by simpa using X
  have H:¬Cy x->(oY nS=oY (decide (lz x))/\F.le F6):=λh=>no B λA=>h (A.2.2.2 X);refine ⟨_,ld U rfl,λh=>H λA=>h (by have:=A.1;omega),λk5=>⟨_,ld U rfl,λh=>H λA=>h A.2.1,λk6=>⟨_,ld U rfl,λh=>H λA=> ?_,λk7=>⟨_,rfl,ai q6,_,λF=>Qq x.sco ki F,λh=>H λA=> ?_,λk8=> ?_⟩⟩⟩⟩
  ·have:=A.2.2.1;rw [this] at el;simp at el;omega
  ·rw [ε A.2.2.2.1] at h;cases h
  have k8:x.sco=ki:=by simpa using k8
  have Z:=V.le B;refine ⟨_,ld U rfl,u9 Z (by decide) (by omega) (by omega) λa c y hy g W=> ?_⟩;rw [show c=y.arr from W] at g;refine ⟨_,aF g rfl,λk9=>⟨_,ld U rfl,u9 Z (by decide) (by omega) (by omega) λa c z O g W=> ?_⟩,λk9=>H λA=> ?_⟩
  ·rw [show c=z.arr from W] at g;refine ⟨_,rfl,g,_,ld U rfl,_,λF=>NL z ⟨nS,x.left⟩ F,λM=>⟨_,ld U rfl,u9 Z (by decide) (by omega) (by omega) λa c w hw g W=> ?_⟩,λM=>H λA=> ?_⟩
   ·rw [show c=w.arr from W] at g;refine ⟨_,aF g rfl,?_,aa l1 B⟩;have M:z=⟨nS,x.left⟩:=by simpa using M
    subst M;congr 1;cases hwt:w.t with
    |true=>refine (ε ⟨hi,I,L,λ_=>⟨by omega,Classical.not_not.1 k6,?_,k8,⟨y,hy,k9⟩,O,⟨w,hw,hwt⟩⟩⟩).symm;exact VT (by omega)
    |false=>refine (η λA=> ?_).symm;obtain ⟨s,hs,J⟩:=(A.2.2.2 X).2.2.2.2.2.2;rw [show x.right[2]? =mB w from hw] at hs;cases hs;rw [hwt] at J;cases J
   ·have e:mB z=_:=O.symm.trans A.2.2.2.2.2.1;cases e;simp at M
  ·obtain ⟨s,hs,J⟩:=A.2.2.2.2.1;have e:mB y=_:=hy.symm.trans hs;cases e;rw [k9] at J;cases J
theorem St.var {G F:PH} {As:List (Ψ)} (h:St G F As) {n:Nat} {z w:Γ} {e:TypeId} {K:Nat->Ψ} (r:∀x∈w.toList,ak x)
  (k:∀b g A,G.le g->g b=mB (mX w e)->St g A As->K b A) (B:z.size=n:=by rfl) (C:w.size=n:=by rfl):∀b,F b=nC->wn (F.set b (mX z e)) λF=>aB F (pd b 0 nC) n w (K b):=by
 refine h.new λb D h=> ?_;refine h.put0 C B r λF2 h=> ?_;exact h.pinb λg l q h=>k b g F2 l q h
theorem var1 {F:PH} {n:Nat} {z w:Γ} {e:TypeId} {K:Nat->Ψ} (r:∀x∈w.toList,ak x)
  (k:∀b g,F.le g->g b=mB (mX w e)->K b g) (A:z.size=n:=by rfl) (B:w.size=n:=by rfl):∀b,F b=nC->wn (F.set b (mX z e)) λF=>aB F (pd b 0 nC) n w (K b):=
 (St.start F).var r (λb _ g l q h=>k b g (aa l h.le) (h.le _ _ q)) A B
theorem St.ix {α:Type} [Mem α] {G F:PH} {As:List (Ψ)} (h:St G F As) {s:Sl} {l:List α} (r:RL G s l) (D:0<Mem.n α) {i:Int} (B:0<=i) (C:i<(s.len:Int)) {K:Addr->Prop}
  (k:∀a c x,l[i.toNat]? =mB x->F.row (a.add (i.toNat*Mem.n α)) c->Mem.rep G x c->K a):∃a,s.qa5=mB a/\0<=i/\i<(s.len:Int)/\K a:=
 u9 r D B C λa c x g w A=>k a c x g (aO h.le w) A
section
variable {K:Type} [DecidableEq K] {enc:K->ξ} {f:K->Option ξ} {m:Nat} {G F:PH} {As:List (Ψ)} {t:TypeId} {z:ξ}
def WH (m:Nat) (enc:K->ξ) (f:K->Option ξ):Ψ:=λH=>∃o,H m=mB o/\dW enc f o
theorem St.newMap (h:St G F As) (enc:K->ξ) {Q:Nat->Ψ} (k:∀b r,St G r (WH b enc (λ_=>nC)::As)->Q b r):∀b,F b=nC->wn (F.set b (.map #[] 0)) (Q b):=λb w=>by
 refine tP (k b _ (h.push (H:=PH.set (λ_=>nC) b (.map #[] 0)) ⟨_,aq _ _ _,dW.empty enc⟩ (λx g=> ?_) (λx p g=> ?_) (ae _ w)))
 ·by_cases e:x=b
  ·rw [e];exact w
  ·rw [aw _ _ e] at g;exact absurd rfl g
 ·by_cases e:x=b
  ·rw [e,aq] at g ⊢;exact g
  ·rw [aw _ _ e] at g;cases g
theorem St.lookAt (h:St G F As) {i:Nat} (hi:As[i]? =mB (WH m enc f)) (g:fO prog t enc z) (k:K) (ok:Bool):s9 prog (Instr.lookup t (.map (mB m)) (enc k) ok) F (if ok then .tuple #[(f k).getD z,oY (f k).isSome] else (f k).getD z):=by obtain ⟨H,⟨o,A,r⟩,_,w⟩:=h.get hi;exact bL g (w _ _ A) r k ok
theorem St.updAt (h:St G F As) (i:Nat) (hi:As[i]? =mB (WH m enc f)) (I:fO prog t enc z) (k:K) (v:ξ) {Q:Unit->Ψ} (E:∀A,St G A (As.set i (WH m enc λk'=>if k'=k then mB v else f k'))->Q () A):
  aH prog (Instr.mapUpdate t (.map (mB m)) (enc k) v) F Q:=by
 obtain ⟨H,⟨o,w,L⟩,M,D,J⟩:=h.set (A':=WH m enc λk'=>if k'=k then mB v else f k') hi;refine bh I (D _ _ w) L k v λB r=>E _ ?_;refine J (H.set m B) _ ⟨B,aq _ _ _,r⟩ (λx g=> ?_) (λx p g=> ?_) (λx p g C=> ?_)
 ·by_cases e:x=m
  ·rw [e,w];exact .inl (by simp)
  ·rw [aw _ _ e] at g;exact .inl g
 ·by_cases e:x=m
  ·rw [e,aq] at g ⊢;exact g
  ·rw [aw _ _ e] at g ⊢;exact D _ _ g
 ·have e:x≠m:=λe=>by rw [e,w] at C;cases C
  rw [aw _ _ e];exact g
end
def KH (g:Gr) (done:List ο) (p:Pr):Prop:=p.name≠emp/\p.name ∉ done/\iL p.cond g.qa4.length/\-1<=p.rank/\p.rank<=1/\lz p
def iM (g:Gr) (p:Pr):Prop:=mV g ⟨nS,p.left⟩/\∀s∈p.right,mV g s
open Classical in
def dr (g:Gr) (done:List ο):List Pr->Int
 |[]=>0
 |p::l=>if ¬iM g p then 50 else if ¬KH g done p then 52 else dr g (done++[p.name]) l
theorem fG {α:Type} {l:List α} {k:Nat} {x:α} (h:l[k]? =mB x):l.drop k=x::l.drop (k+1):=by obtain ⟨g,rfl⟩:=N6.1 h;exact XG g
theorem NM:aG prog 174=nZ:=by kernel_rfl
theorem tj {F:PH} {b:Nat} {v:Γ} {g:Gr} (w:GV F v g) (q:F b=mB (mX v 39)) (x:Sy):ν 174 #[oc x.arr,pj (mB ⟨b,0,nC⟩)] F λr A=>r=oY (!decide (mV g x))/\F.le A:=by refine qeG ?_;unfold Qf;refine fresh λC D h q1 _=>⟨_,rfl,v,w.size,ai (h _ _ q),_,rfl,ai q1,?_⟩;refine (qif (w.le h) x).mono ?_;rintro _ F2 ⟨rfl,B⟩;exact ⟨_,rfl,rfl,aa h B⟩
theorem fH {g:Gr} (h:dQ g=nS):g.qa4.length<=64/\g.qa2.length<=256/\g.fils.length<=4096/\g.qa1.length<=2000/\g.qa0.length<=2000/\g.lvs.length<=2000/\∀p∈g.qa0,p.right.length<=16/\p.lay.length<=16:=by unfold dQ at h;rw [Bool.or_eq_false_iff,decide_eq_false_iff_not,List.any_eq_false] at h;obtain ⟨A,r⟩:=h;refine ⟨by omega,by omega,by omega,by omega,by omega,by omega,λp w=> ?_⟩;have:=r p w;simp only [δ] at this;omega
open Classical in
theorem qg9 {F:PH} {v:Γ} {g:Gr} (hg:GV F v g) (hl:dQ g=nS):ν 143 #[oc v] F λr E=>r=vi (dr g [] g.qa0)/\F.le E:=by
 obtain ⟨_,_,_,_,b0,_,a5⟩:=fH hl;have K:=hg;obtain ⟨c,n,t,s,p,l,f,rfl,Q⟩:=hg;have ec:=Q.c.len;have ep:=Q.p.len;refine qez ?_;unfold P6;refine fresh λb1 F1 V q1 _=> ?_;have Q:=Q.le V;have K:=K.le V;refine (iK F1).mono ?_;rintro _ F2 ⟨G2,bn,m,rfl,l2,a7,h⟩;refine ⟨_,rfl,_,ld (h.le _ _ (l2 _ _ q1)) rfl,?_⟩;refine bC (xm · b1 (zE bn) p _) g.qa0.length (λk E=>∃G,G2.le G/\St G E [az m ((g.qa0.take k).map Pr.name).reverse]/\dr g [] g.qa0=dr g ((g.qa0.take k).map Pr.name) (g.qa0.drop k))
  ⟨G2,au _,h,by simp⟩ ?_
 rintro k F3 N hk ⟨G3,l3,h,hE⟩ next;have C:=aa l2 l3;unfold xm;refine ⟨λM=> ?_,λb2=> ?_⟩
 ·have M:k<g.qa0.length:=by omega
  refine h.ix (Q.p.le C) (by decide) (by omega) (by omega) λa cc x Y hr U=> ?_;rw [N4] at Y;have a0:x∈g.qa0:=wh Y;obtain ⟨a1,a6⟩:=a5 x a0;have J:=hE;rw [fG Y,dr] at J;have a2:=Mem.st U;have a4:=U;obtain ⟨rr,nn,ll,rfl,h1,h2,h3⟩:=U;refine ⟨x.arr rr nn ll,rfl,hr,?_⟩;refine h.var a2 λb5 G4 F4 l4 q5 h=> ?_;have I:∀{E},G3.le E->¬iM g x->(vi 50=vi (dr g [] g.qa0)/\F.le E):=λ{E} l D=>⟨by rw [J,Χ D],aa V (aa C l)⟩;have B:∀{E},G3.le E->iM g x->¬KH g ((g.qa0.take k).map Pr.name) x->(vi 52=vi (dr g [] g.qa0)/\F.le E):=λ{E} l h1 D=>⟨by rw [J,Υ (λh=>h h1),Χ D],aa V (aa C l)⟩;refine ⟨_,ld (h.le _ _ q5) rfl,?_⟩;refine h.runv (tj (x:=⟨nS,x.left⟩) (K.le (aa C l4)) (l4 _ _ (C _ _ q1))) λG5 F5 l5 h=>⟨_,rfl,λA=>I (aa l4 (aa l5 h.le)) λD=> ?_,λA=>⟨_,ld (h.le _ _ (l5 _ _ q5)) rfl,?_⟩⟩
  ·rw [ε D.1] at A;cases A
  have a3:mV g ⟨nS,x.left⟩:=by simpa using A
  have w:=aa l4 l5;have sp:ν 176 #[rr.v,.func (.func 174) #[] #[pj (mB ⟨b1,0,nC⟩)]] G5 λr E=>r=oY (x.right.any λs=> !decide (mV g s))/\G5.le E:=by
   refine qcY ?_;unfold O1
   refine (show ν 208 #[rr.v,.func (.func 174) #[] #[pj (mB ⟨b1,0,nC⟩)]] G5 (λr E=>∃i,r=vi i/\(0<=i↔(x.right.any λs=> !decide (mV g s))=nZ)/\G5.le E)
    from qc3 (Ct (h1.le w) (by decide) (by omega) NM (λs=> !decide (mV g s)) λy Z c F6 L U=> ?_)).mono ?_
   ·rw [show c=y.arr from U];exact tj (K.le (aa C (aa w L))) (L _ _ (w _ _ (C _ _ q1))) y
   ·rintro _ F6 ⟨i,rfl,hi,L⟩;refine ⟨_,rfl,?_,L⟩;congr 1;rw [wR,δ];exact hi
  refine h.runv sp λG6 F6 L h=>⟨_,rfl,λA=>I (aa w (aa L h.le)) λD=> ?_,λA=> ?_⟩
  ·obtain ⟨y,Z,O⟩:=XI.1 A;rw [ε (D.2 y Z)] at O;cases O
  have H:iM g x:=⟨a3,λy Z=>by
   have:=List.any_eq_false.1 A y Z
   simpa using this⟩
  have w:=aa w L;have q6:=L _ _ (l5 _ _ q5);refine ⟨_,ld (h.le _ _ q6) rfl,?_⟩;refine qB h (aK (aa l3 w) a7) x.name λG7 F7 l7 h=>⟨_,rfl,λA=>B (aa w (aa l7 h.le)) H λD=> ?_,λA=> ?_⟩
  ·rw [ε ⟨D.1,D.2.1⟩] at A;cases A
  have X:x.name≠emp/\x.name ∉ (g.qa0.take k).map Pr.name:=by simpa using A
  have w:=aa w l7;have q7:=l7 _ _ q6;refine ⟨#[nn.v,vi x.cond.2],rfl,fZ (h.le _ _ q7) rfl,_,ld (h.le _ _ (w _ _ (C _ _ q1))) rfl,?_⟩;dsimp only;rw [ec];refine h.runv (gU (d:=x.cond) (DV.mk (h2.le w))) λG8 F8 l8 h=>⟨_,rfl,λA=>B (aa w (aa l8 h.le)) H λD=> ?_,λA=> ?_⟩
  ·rw [cO.2 D.2.2.1] at A;cases A
  have W:iL x.cond g.qa4.length:=cO.1 (by simpa using A);have w:=aa w l8;have q8:=l8 _ _ q7;refine ⟨_,ld (h.le _ _ q8) rfl,λA=>B (aa w h.le) H λD=>by have:=D.2.2.2.1;omega,λa8=>⟨_,ld (h.le _ _ q8) rfl,λA=>B (aa w h.le) H λD=>by have:=D.2.2.2.2.1;omega,λa9=>⟨_,rfl,ai (h.le _ _ q8),?_⟩⟩⟩;refine h.runv (qhQ (Mem.le w a4) a1 a6) λG9 F9 l9 h=>⟨_,rfl,λA=>B (aa w (aa l9 h.le)) H λD=> ?_,λA=> ?_⟩
  ·rw [ε D.2.2.2.2.2] at A;cases A
  have P:lz x:=by simpa using A
  rw [aD M];have e:(g.qa0.take k).map Pr.name++[x.name]=(g.qa0.take (k+1)).map Pr.name:=by rw [bD Y,yO];rfl
  refine next _ M ⟨G9,aa l3 (aa w l9),by rw [<- e];exact h,?_⟩;rw [J,Υ (λh=>h H),Υ (λh=>h ⟨X.1,X.2,W,by omega,by omega,P⟩),e]
 ·have e:k=g.qa0.length:=by omega
  subst e;rw [XY,dr] at hE;unfold EV;exact ⟨by rw [hE],aa V (aa C h.le)⟩
def Ti (g:Gr) (done:Φ) (l:Lv):Prop:=0<=l.assoc/\l.assoc<=3/\iL l.cond g.qa4.length/\(∀p∈l.ps,0<=p/\p<g.qa0.length)/\l.ps.Nodup/\∀p∈l.ps,p ∉ done
def dU (g:Gr) (done:Φ):List Lv->Prop
 |[]=>True
 |l::r=>Ti g done l/\dU g (done++l.ps) r
def mW (l:Φ) (i:Int):Option ξ:=if i∈l then mB (oY nZ) else nC
theorem Cz (l:Φ) (x:Int):mW (l++[x])=λk=>if k=x then mB (oY nZ) else mW l k:=by funext k;unfold mW;by_cases e:k=x<;>simp [e]
theorem X0:fO prog 275 bg (.bool nS):=⟨_,_,underlying275,XW,Mh⟩
open Classical in
theorem qg2 {F:PH} {v:Γ} {g:Gr} (hg:GV F v g) (hl:dQ g=nS) (hz:Sz g):ν 144 #[oc v] F λr H=>r=vi (if dU g [] g.lvs then 0 else 53)/\F.le H:=by
 obtain ⟨_,_,_,_,a6,a8,_⟩:=fH hl;obtain ⟨c,n,t,s,p,l,f,rfl,O⟩:=hg;have ec:=O.c.len;have ep:=O.p.len;have el:=O.l.len;refine qeA ?_;unfold P7;refine fresh λb1 F1 l1 q1 _=> ?_;have O:=O.le l1;refine (St.start F1).newMap bg λZ F2 h=> ?_;refine ⟨_,ld (h.le _ _ q1) rfl,?_⟩;refine bC (xo · b1 Z l _) g.lvs.length (λk H=>∃G,F1.le G/\St G H [WH Z bg (mW ((g.lvs.take k).flatMap Lv.ps))]/\(dU g [] g.lvs↔dU g ((g.lvs.take k).flatMap Lv.ps) (g.lvs.drop k)))
  ⟨F1,au _,by rw [show mW ((g.lvs.take 0).flatMap Lv.ps)=λ_=>nC from funext λi=>by simp [mW]];exact h,by simp⟩ ?_
 rintro k F3 N hk ⟨G3,Q,h,U⟩ next;unfold xo;refine ⟨λM=> ?_,λa7=> ?_⟩
 ·have M:k<g.lvs.length:=by omega
  refine h.ix (O.l.le Q) (by decide) (by omega) (by omega) λa cc x Y X hc=> ?_;rw [N4] at Y;have a0:x∈g.lvs:=wh Y;have a4:=hz.l x a0;rw [fG Y,dU] at U;have a1:=Mem.st hc;obtain ⟨pp,nn,rfl,h1,h2⟩:=hc;have a5:=h1.len;refine ⟨x.arr pp nn,rfl,X,?_⟩;refine h.var a1 λb5 G4 F4 P q5 h=> ?_;have bad:∀{H},G3.le H->¬Ti g ((g.lvs.take k).flatMap Lv.ps) x->(vi 53=vi (if dU g [] g.lvs then 0 else 53)/\F.le H):=λ{H} l w=>⟨by rw [if_neg (λh=>w (U.1 h).1)],aa l1 (aa Q l)⟩;refine ⟨_,ld (h.le _ _ q5) rfl,λD=>bad (aa P h.le) λw=>by have:=w.1;omega,λk1=>⟨_,ld (h.le _ _ q5) rfl,λD=>bad (aa P h.le) λw=>by have:=w.2.1;omega,λk2=>⟨#[nn.v,vi x.cond.2],rfl,fZ (h.le _ _ q5) rfl,_,ld (h.le _ _ (P _ _ (Q _ _ q1))) rfl,?_⟩⟩⟩;dsimp only;rw [ec];refine h.runv (gU (d:=x.cond) (DV.mk (h2.le P))) λG5 F5 l5 h=>⟨_,rfl,λD=>bad (aa P (aa l5 h.le)) λw=> ?_,λD=> ?_⟩
  ·rw [cO.2 w.2.2.1] at D;cases D
  have V:iL x.cond g.qa4.length:=cO.1 (by simpa using D);have a2:=aa P l5;refine ⟨_,ld (h.le _ _ (l5 _ _ q5)) rfl,?_⟩;refine bC (xn N · b1 Z l (k:Int) pp _) x.ps.length (λj H=>∃G,G5.le G/\St G H [WH Z bg (mW ((g.lvs.take k).flatMap Lv.ps++x.ps.take j))]/\(∀p∈x.ps.take j,0<=p/\p<g.qa0.length)/\(x.ps.take j).Nodup/\∀p∈x.ps.take j,p ∉ (g.lvs.take k).flatMap Lv.ps)
   ⟨G5,au _,by simpa using h,by simp,by simp,by simp⟩ ?_
  rintro j F6 N2 hj ⟨G6,l6,h,i1,i2,i3⟩ J;have A:=aa a2 l6;unfold xn;refine ⟨λC=> ?_,λa3=> ?_⟩
  ·have C:j<x.ps.length:=by omega
   refine h.ix (h1.le A) (by decide) (by omega) (by omega) λa cc y K X hc=> ?_;rw [N4] at K X;rw [show cc= #[vi y] from hc] at X;have L:y∈x.ps:=wh K;have I:=h.lookAt (i:=0) rfl X0 y nS;refine ⟨_,aF X rfl,λD=>bad (aa A h.le) λw=>by have:=(w.2.2.2.1 y L).1;omega,λy0=>⟨_,ld (h.le _ _ (A _ _ (Q _ _ q1))) rfl,λD=>bad (aa A h.le) λw=>by have:=(w.2.2.2.1 y L).2;omega,λy1=> ?_⟩⟩;by_cases E:y∈(g.lvs.take k).flatMap Lv.ps++x.ps.take j
   ·rw [show mW _ y=mB (oY nZ) from Χ E] at I;refine ⟨nZ,I,λ_=>bad (aa A h.le) λw=> ?_,λh=>(by cases h)⟩;rcases vl.1 E with E|E
    ·exact w.2.2.2.2.2 y L E
    ·have W:=w.2.2.2.2.1.sublist (List.take_sublist (j+1) x.ps);rw [bD K,VC] at W;exact W.2.2 y E y (by simp) rfl
   ·rw [show mW _ y=nC from Υ E] at I;refine ⟨nS,I,λh=>(by cases h),λ_=> ?_⟩;refine h.updAt 0 rfl X0 y (oY nZ) λF7 h=> ?_;rw [aD C];rw [vl,not_or] at E;refine J _ C ⟨G6,l6,?_,λp B=> ?_,?_,λp B=> ?_⟩
    ·rw [bD K,<- yb,Cz];exact h
    ·rw [bD K] at B;rcases vl.1 B with B|B
     ·exact i1 p B
     ·rw [wa.1 B];omega
    ·rw [bD K,VC];exact ⟨i2,by simp,λa ha b D e=>E.2 (by rw [<- wa.1 D,<- e];exact ha)⟩
    ·rw [bD K] at B;rcases vl.1 B with B|B
     ·exact i3 p B
     ·rw [wa.1 B];exact E.1
  ·have e:j=x.ps.length:=by omega
   subst e;rw [wV] at i1 i2 i3 h;unfold EX;rw [aD M];have e:(g.lvs.take k).flatMap Lv.ps++x.ps=(g.lvs.take (k+1)).flatMap Lv.ps:=by rw [bD Y,XV];simp
   rw [e] at h U;refine next _ M ⟨G6,aa Q A,h,U.trans ⟨λh=>h.2,λh=>⟨⟨by omega,by omega,V,i1,i2,i3⟩,h⟩⟩⟩
 ·have e:k=g.lvs.length:=by omega
  subst e;rw [XY,dU] at U;unfold EW;exact ⟨by rw [Χ (U.2 trivial)],aa l1 (aa Q h.le)⟩
def fW (g:Gr) (kd:Tk->Bool) (l:Φ):Prop:=l≠[]/\(∀n∈l,0<=n/\∃t,g.qa2[n.toNat]? =mB t/\kd t=nZ)/\∀(i:Nat) (x y:Int),l[i]? =mB x->l[i+1]? =mB y->x<y
open Classical in
theorem js {F:PH} {v:Γ} {g:Gr} (hg:GV F v g) {sl:Sl} {l:Φ} (hl:RL F sl l) (a4:l.length<=1000000000) {k:Nat} {fst cap:Γ} (hk:aG prog k=nZ) (kd:Tk->Bool)
  (a2:∀t c P,F.le P->Mem.rep P t c->aj prog k (fst++([oc c]).toArray++cap) P λr A=>r=oY (kd t)/\P.le A):
  ν 181 #[oc v,sl.v,.func (.func k) fst cap] F λr A=>r=oY (decide (fW g kd l))/\F.le A:=by
 obtain ⟨c,n,t,s,p,lv,f,rfl,hs⟩:=hg;have et:=hs.t.len;have el:=hl.len;refine qeM ?_;unfold Ql;refine fresh λb1 P l1 q1 _=> ?_;have hs:=hs.le l1;have hl:=hl.le l1;have no:∀{A:PH},P.le A->¬fW g kd l->(oY nS=oY (decide (fW g kd l))/\F.le A):=λ{A} l h=>⟨by rw [η h],aa l1 l⟩;refine bC (xv · sl (.func (.func k) fst cap) b1 _) l.length (λj A=>P.le A/\(∀n∈l.take j,0<=n/\∃t,g.qa2[n.toNat]? =mB t/\kd t=nZ)/\∀(i:Nat) (x y:Int),i+1<j->l[i]? =mB x->l[i+1]? =mB y->x<y)
  ⟨au _,by simp,λi x y h=>by omega⟩ ?_
 rintro j F2 N hj ⟨H,i1,i2⟩ next;unfold xv;refine ⟨λU=> ?_,λa3=> ?_⟩
 ·have U:j<l.length:=by omega
  refine u9 (hl.le H) (by decide) (by omega) (by omega) λa W x M J X=> ?_;rw [N4] at M J;rw [show W= #[vi x] from X] at J;have Y:x∈l:=wh M;have p1:=H _ _ q1;have Vi:¬(0<=x/\x<g.qa2.length)->(oY nS=oY (decide (fW g kd l))/\F.le F2):=λh=>no H λZ=>by obtain ⟨h0,t',ht,_⟩:=Z.2.1 x Y;have:=(N6.1 ht).1;exact h ⟨h0,by omega⟩
  refine ⟨_,aF J rfl,λh=>Vi (by omega),λx0=>⟨_,ld p1 rfl,λh=>Vi (by omega),λx1=> ?_⟩⟩;have L:(∀y,0<j->l[j - 1]? =mB y->y<x)->∃C:Sl,F2.cell (pd b1 3 nC)=mB (nV C)/\
   ∃K:Addr,C.qa5=mB K/\0<=x/\x<(C.len:Int)/\
   ∃G:Γ,G.size=7/\F2.row (od K (pc x*7)) G/\
   ∃(O:Nat) (E D:Γ),Value.func (.func k) fst cap=.func (.func O) E D/\aG prog O=nZ/\aj prog O (E++([(oc G)]).toArray++D) F2 λv A=>∃B:Bool,v=(oY B)/\
   (((!B)=nZ->(oY nS=oY (decide (fW g kd l))/\F.le A))/\
   ((!B)=nS->qA N sl (.func (.func k) fst cap) b1 (j:Int) (λr A=>r=oY (decide (fW g kd l))/\F.le A) A)):=λQ=>by
   refine ⟨_,ld p1 rfl,u9 (hs.t.le H) (by decide) (by omega) (by omega) λa W y I J X=>⟨W,Mem.len X,J,k,fst,cap,rfl,hk,?_⟩⟩;refine (a2 y W F2 (aa l1 H) X).mono ?_;rintro _ F3 ⟨rfl,l3⟩;refine ⟨_,rfl,λh=>no (aa H l3) λZ=> ?_,λh=> ?_⟩
   ·obtain ⟨h0,t',ht,a1⟩:=Z.2.1 x Y;rw [I] at ht;cases ht;rw [a1] at h;cases h
   ·unfold qA;rw [aD U];refine next _ U ⟨aa H l3,λm V=> ?_,λi u w hi hu hw=> ?_⟩
    ·rw [bD M] at V;rcases vl.1 V with V|V
     ·exact i1 m V
     ·rw [wa.1 V];exact ⟨by omega,y,I,by simpa using h⟩
    ·by_cases e:i+1<j
     ·exact i2 i u w e hu hw
     ·have e:j=i+1:=by omega
      subst e;rw [M] at hw;cases hw;exact Q u (by omega) hu
  refine ⟨λa0=> ?_,λa0=>L λy h=>by omega⟩;have a0:0<j:=by omega
  have ew:i64.wrap ((j:Int) - 1)=((j - 1:Nat):Int):=by rw [aL (by omega)];omega
  rw [ew];refine u9 (hl.le H) (by decide) (by omega) (by omega) λa W y I J X=> ?_;rw [N4] at I J;rw [show W= #[vi y] from X] at J;refine ⟨_,aF (by rw [N4];exact J) rfl,λh=>no H λZ=> ?_,λh=>L λz _ hz=> ?_⟩
  ·have:=Z.2.2 (j - 1) y x I (by rw [show j - 1+1=j by omega];exact M);omega
  ·rw [I] at hz;cases hz;omega
 ·have e:j=l.length:=by omega
  subst e;rw [wV] at i1;unfold E8;refine ⟨?_,aa l1 H⟩;congr 1;rw [wR,δ,δ];constructor
  ·intro h;refine ⟨λe=>by rw [e] at el;simp at el;omega,i1,λi x y M I=>i2 i x y ?_ M I⟩;exact (N6.1 I).1
  ·intro h;have:l.length≠0:=λe=>h.1 (VT e);omega
def oV (g:Gr) (x:Fi):Prop:=0<=x.par/\0<=x.ch/\0<=x.pos/\∃p q,g.qa0[x.par.toNat]? =mB p/\g.qa0[x.ch.toNat]? =mB q/\p.right[x.pos.toNat]? =mB ⟨nS,q.left⟩
open Classical in
theorem GA {F:PH} {v w:Γ} {g:Gr} {x:Fi} (Y:GV F v g) (X:Mem.rep F x w):ν 180 #[oc v,oc w] F λr F'=>r=oY (decide (oV g x))/\F.le F':=by
 obtain ⟨c,n,t,s,p,lv,f,rfl,N⟩:=Y;obtain ⟨tt,nn,rfl,_,_⟩:=X;have ep:=N.p.len;refine qeL ?_;unfold Qk;refine fresh λb2 F1 H q1 _=> ?_;refine fresh λb3 F2 M q2 _=> ?_;have q1:=M _ _ q1;have H:=aa H M;have Q:=N.p.le H;have no:¬oV g x->(oY nS=oY (decide (oV g x))/\F.le F2):=λh=>⟨by rw [η h],H⟩;have Vi:¬(x.par<g.qa0.length/\x.ch<g.qa0.length)->¬oV g x:=λh D=>by obtain ⟨_,_,_,V,W,A,B,_⟩:=D;have:=(N6.1 A).1;have:=(N6.1 B).1;exact h (by omega)
 refine ⟨_,ld q2 rfl,λh=>no λD=>by have:=D.1;omega,λk1=>⟨_,ld q2 rfl,_,ld q1 rfl,λh=>no (Vi (by omega)),λk2=>⟨_,ld q2 rfl,λh=>no λD=>by have:=D.2.1;omega,λk3=>⟨_,ld q2 rfl,_,ld q1 rfl,λh=>no (Vi (by omega)),λk4=>⟨_,ld q1 rfl,_,ld q2 rfl,?_⟩⟩⟩⟩⟩;refine u9 Q (by decide) (by omega) (by omega) λa J y K E G=> ?_;obtain ⟨rr,n2,a1,rfl,P,_,_⟩:=G;have er:=P.len;have I:¬x.pos<y.right.length->¬oV g x:=λh D=>by obtain ⟨_,_,_,V,W,A,B,C⟩:=D;rw [K] at A;cases A;have:=(N6.1 C).1;omega
 refine ⟨_,aN E rfl,_,ld q2 rfl,λU=>⟨_,ld q2 rfl,λZ=>⟨_,ld q2 rfl,?_⟩,λZ=>no (I (by omega))⟩,λU=>no λD=>U D.2.2.1⟩;refine u9 P (by decide) (by omega) (by omega) λa J z O E G=> ?_;rw [show J=z.arr from G] at E;refine ⟨_,rfl,E,_,ld q1 rfl,_,ld q2 rfl,u9 Q (by decide) (by omega) (by omega) λa J u L E G=> ?_⟩;obtain ⟨r3,n3,a0,rfl,_,_,_⟩:=G;refine ⟨_,aN E rfl,_,λF=>NL z ⟨nS,u.left⟩ F,?_,H⟩;congr 1;rw [wR,δ,δ];constructor
 ·rintro rfl;exact ⟨by omega,by omega,by omega,y,u,K,L,O⟩
 ·rintro ⟨_,_,_,V,W,A,B,C⟩;rw [K] at A;cases A;rw [L] at B;cases B;rw [O] at C;exact yV C
def cw (g:Gr) (x:Fi):Prop:=iL x.cond g.qa4.length/\
  (((x.k=1\/x.k=2)/\oV g x/\x.left=0/\x.tok=0/\x.qa2=[])\/
   ((x.k=3\/x.k=4)/\(0<=x.left/\x.left<g.qa1.length/\fW g (λt=>decide (t.cls=0)) x.qa2)/\x.par=0/\x.pos=0/\x.ch=0/\x.tok=0)\/
   (x.k=5/\(fW g (λt=> !decide (t.lit=emp)) x.qa2/\0<=x.tok/\∃t,g.qa2[x.tok.toNat]? =mB t/\t.cls=0/\t.lit=emp)/\x.par=0/\x.pos=0/\x.ch=0/\x.left=0))
theorem qes:aG prog 178=nZ:=by kernel_rfl
theorem qet:aG prog 179=nZ:=by kernel_rfl
theorem kG {F:PH} {t:Tk} {c:Γ} (h:Mem.rep F t c):ν 178 #[oc c] F λr g=>r=oY (decide (t.cls=0))/\F.le g:=by obtain ⟨p,n,rfl,_,_⟩:=h;refine qeJ ?_;unfold Qi;exact fresh λb A w q1 _=>⟨_,ld q1 rfl,rfl,w⟩
theorem kH {F:PH} {t:Tk} {c:Γ} (h:Mem.rep F t c):ν 179 #[oc c] F λr g=>r=oY (!decide (t.lit=emp))/\F.le g:=by obtain ⟨p,n,rfl,_,_⟩:=h;refine qeK ?_;unfold Qj;exact fresh λb A w q1 _=>⟨_,ld q1 rfl,by rw [mT],w⟩
abbrev tn (a0 a1 a2 a3 a4 a5:Int) (s6 s7:Sl) (a8:Int):Γ:= #[vi a0,vi a1,vi a2,vi a3,vi a4,vi a5,s6.v,s7.v,vi a8]
open Classical in
theorem qgW {F:PH} {v:Γ} {g:Gr} (hg:GV F v g) (hl:dQ g=nS) (hz:Sz g):ν 145 #[oc v] F λr M=>r=vi (if ∀x∈g.fils,cw g x then 0 else 53)/\F.le M:=by
 obtain ⟨_,_,c7,_,_,_,_⟩:=fH hl;have X:=hg;obtain ⟨c,n,t,s,p,lv,f,rfl,hs⟩:=hg;have ec:=hs.c.len;have et:=hs.t.len;have es:=hs.s.len;have ef:=hs.f.len;refine qeB ?_;unfold Qa;refine fresh λb1 F1 l1 q1 _=> ?_;have hs:=hs.le l1;have X:=X.le l1;refine ⟨_,ld q1 rfl,?_⟩;refine bC (xp · b1 f _) g.fils.length (λk M=>∃G,F1.le G/\St G M []/\∀x∈g.fils.take k,cw g x) ⟨F1,au _,.start _,by simp⟩ ?_;rintro k F3 N hk ⟨G3,O,h,hi⟩ next;unfold xp;refine ⟨λb0=> ?_,λc6=> ?_⟩
 ·have b0:k<g.fils.length:=by omega
  refine h.ix (hs.f.le O) (by decide) (by omega) (by omega) λa cc x hx hr P=> ?_;rw [N4] at hx;have b2:x∈g.fils:=wh hx;have b4:=hz.f x b2;have b3:=Mem.st P;have c2:=P;obtain ⟨Z,nn,rfl,h1,h2⟩:=P;have c3:=h1.len;refine ⟨x.arr Z nn,rfl,hr,?_⟩;refine h.var b3 λb6 G4 F4 l4 q6 h=> ?_;have bad:∀{M},G3.le M->¬cw g x->(vi 53=vi (if ∀x∈g.fils,cw g x then 0 else 53)/\F.le M):=λ{M} l H=>⟨by rw [if_neg (λh=>H (h x b2))],aa l1 (aa O l)⟩;refine ⟨#[nn.v,vi x.cond.2],rfl,fZ (h.le _ _ q6) rfl,_,ld (h.le _ _ (l4 _ _ (O _ _ q1))) rfl,?_⟩;dsimp only;rw [ec];refine h.runv (gU (d:=x.cond) (DV.mk (h2.le l4))) λG5 F5 l5 h=>⟨_,rfl,_,rfl,ai (h.le _ _ (l5 _ _ q6)),?_⟩;have w:=aa l4 l5;have q6:=l5 _ _ q6;refine h.new λb8 F6 h=> ?_;refine h.put0 (w':=x.arr Z nn) rfl rfl b3 λF7 h=> ?_;refine h.set0 (w':=tn 0 x.par x.pos x.ch x.left x.tok Z nn x.cond.2) (by simp) rfl λF8 h=> ?_;refine h.putR0 (w':=tn 0 x.par x.pos x.ch x.left x.tok Z pk 0) rfl (by simp [ak]) (by simp) rfl λF9 h=> ?_;have j2:∀(Q:Bool) (a1 a2 a3 a4 a5:Int) (s6:Sl) G9 F9,G3.le G9->St G9 F9 [pt b8 (mX (tn 0 a1 a2 a3 a4 a5 s6 pk 0) 233)]->
    ((Q=nZ/\a1=0/\a2=0/\a3=0/\a4=0/\a5=0/\s6.len=0)↔cw g x)->
    dJ N b1 b8 f (k:Int) Q (λr M=>r=vi (if ∀x∈g.fils,cw g x then 0 else 53)/\F.le M) F9:=λQ a1 a2 a3 a4 a5 s6 G9 F9 l9 h D=>by
   unfold dJ;have l:=aa l9 h.le
   refine ⟨λhb=>bad l λH=>(by rw [(D.2 H).1] at hb;cases hb),λhb=>⟨_,h.ld0 rfl,λe=>bad l λH=>e (D.2 H).2.1,λe1=>⟨_,h.ld0 rfl,λe=>bad l λH=>e (D.2 H).2.2.1,λe2=>⟨_,h.ld0 rfl,λe=>bad l λH=>e (D.2 H).2.2.2.1,λe3=>
    ⟨_,h.ld0 rfl,λe=>bad l λH=>e (D.2 H).2.2.2.2.1,λe4=>⟨_,h.ld0 rfl,λe=>bad l λH=>e (D.2 H).2.2.2.2.2.1,λe5=>⟨_,h.ld0 rfl,λe=>bad l λH=>by have:=(D.2 H).2.2.2.2.2.2;omega,λe6=> ?_⟩⟩⟩⟩⟩⟩⟩
   rw [aD b0];refine next _ b0 ⟨G9,aa O l9,h.tail,λy U=> ?_⟩;rw [bD hx] at U;rcases vl.1 U with U|U
   ·exact hi y U
   ·rw [wa.1 U];exact D.1 ⟨by simpa using hb,Classical.not_not.1 e1,Classical.not_not.1 e2,Classical.not_not.1 e3,Classical.not_not.1 e4,Classical.not_not.1 e5,by omega⟩
  have hF:=cO (d:=x.cond) (n:=g.qa4.length);generalize sZ x.cond g.qa4.length=fit at*;have a6:Z.len=0↔x.qa2=[]:=by rw [c3];exact X1
  refine ⟨_,ld (h.le _ _ q6) rfl,?_⟩;have j4:∀(b:Bool),(b=nZ↔x.k=3\/x.k=4)->¬(x.k=1\/x.k=2)->qw N b1 b6 fit b8 f (k:Int) x.k b (λr M=>r=vi (if ∀x∈g.fils,cw g x then 0 else 53)/\F.le M) F9:=λb hb c5=>by
   unfold qw;refine ⟨λa9=> ?_,λV=>⟨λk5=> ?_,λk5=> ?_⟩⟩
   ·have hk:=hb.1 a9;refine h.set0 (w':=tn 0 x.par x.pos x.ch 0 x.tok Z pk 0) (by simp) rfl λC h=> ?_;refine h.set0 (w':=tn 0 x.par x.pos x.ch 0 x.tok pk pk 0) (by simp) rfl λK h=> ?_;have I:¬(0<=x.left/\x.left<g.qa1.length/\fW g (λt=>decide (t.cls=0)) x.qa2)->¬cw g x:=λH A=>by
     rcases A.2 with B|B|B
     ·omega
     ·exact H B.2.1
     ·omega
    refine ⟨λW=>⟨_,ld (h.le _ _ q6) rfl,λk1=>⟨_,ld (h.le _ _ q6) rfl,_,ld (h.le _ _ (w _ _ (O _ _ q1))) rfl,λk2=>⟨_,rfl,ai (h.le _ _ (w _ _ (O _ _ q1))),_,ld (h.le _ _ q6) rfl,?_⟩,λk2=> ?_⟩,λk1=> ?_⟩,λL=> ?_⟩
    ·refine h.runv (js (X.le (aa O w)) (h1.le w) b4 qes (λt=>decide (t.cls=0)) λt c F1 _ P=>kG P) λE C J h=>⟨_,rfl,?_⟩;refine j2 _ _ _ _ _ _ _ E C (aa w J) h ?_;rw [δ];constructor
     ·rintro ⟨ha,e1,e2,e3,_,e5,_⟩;exact ⟨hF.1 W,.inr (.inl ⟨hk,⟨k1,by omega,ha⟩,e1,e2,e3,e5⟩)⟩
     ·intro A;rcases A.2 with B|B|B
      ·omega
      ·exact ⟨B.2.1.2.2,B.2.2.1,B.2.2.2.1,B.2.2.2.2.1,rfl,B.2.2.2.2.2,rfl⟩
      ·omega
    ·exact j2 _ _ _ _ _ _ _ G5 K w h ⟨λh=>(by cases h.1),λA=>absurd A (I λh=>k2 (by omega))⟩
    ·exact j2 _ _ _ _ _ _ _ G5 K w h ⟨λh=>(by cases h.1),λA=>absurd A (I λh=>k1 h.1)⟩
    ·exact j2 _ _ _ _ _ _ _ G5 K w h ⟨λh=>(by cases h.1),λA=>by rw [hF.2 A.1] at L;cases L⟩
   ·refine h.set0 (w':=tn 0 x.par x.pos x.ch x.left 0 Z pk 0) (by simp) rfl λC h=> ?_;refine h.set0 (w':=tn 0 x.par x.pos x.ch x.left 0 pk pk 0) (by simp) rfl λK h=> ?_;have I:¬(fW g (λt=> !decide (t.lit=emp)) x.qa2/\0<=x.tok/\∃t,g.qa2[x.tok.toNat]? =mB t/\t.cls=0/\t.lit=emp)->¬cw g x:=λH A=>by
     rcases A.2 with B|B|B
     ·omega
     ·omega
     ·exact H B.2.1
    have a0:∀E C,G3.le E->St E C [pt b8 (mX (tn 0 x.par x.pos x.ch x.left 0 pk pk 0) 233)]->¬cw g x->iJ N b1 b6 b8 f (k:Int) nS (λr M=>r=vi (if ∀x∈g.fils,cw g x then 0 else 53)/\F.le M) C:=λE C J h H=>by unfold iJ;exact ⟨λh=>(by cases h),λ_=>j2 _ _ _ _ _ _ _ E C J h ⟨λh=>(by cases h.1),λA=>absurd A H⟩⟩
    refine ⟨λW=>⟨_,rfl,ai (h.le _ _ (w _ _ (O _ _ q1))),_,ld (h.le _ _ q6) rfl,?_⟩,λL=>a0 G5 K w h λA=>by rw [hF.2 A.1] at L;cases L⟩;refine h.runv (js (X.le (aa O w)) (h1.le w) b4 qet (λt=> !decide (t.lit=emp)) λt c F1 _ P=>kH P) λE C J h=>⟨_,rfl,λha=> ?_,λha=>a0 E C (aa w J) h (I λh=>ι ha h.1)⟩;have ha:=ζ ha;have w:=aa w J;have q6:=J _ _ q6;have p1:=w _ _ (O _ _ q1);refine ⟨_,ld (h.le _ _ q6) rfl,λk1=>⟨_,ld (h.le _ _ q6) rfl,_,ld (h.le _ _ p1) rfl,?_⟩,λk1=>a0 E C w h (I λh=>k1 h.2.1)⟩;by_cases k2:x.tok<(t.len:Int)
    ·dsimp only;rw [decide_eq_true k2];unfold iJ;refine ⟨λ_=>⟨_,ld (h.le _ _ p1) rfl,_,ld (h.le _ _ q6) rfl,h.ix (hs.t.le (aa O w)) (by decide) k1 k2 λa cc y U hr P=>⟨cc,Mem.len P,hr,?_⟩⟩,λh=>(by cases h)⟩;refine h.runv (kG P) λc4 K Y h=>⟨_,rfl,λk3=>⟨_,ld (h.le _ _ (Y _ _ p1)) rfl,_,ld (h.le _ _ (Y _ _ q6)) rfl,h.ix (hs.t.le (aa O (aa w Y))) (by decide) k1 k2 λa cc z hz hr P=>⟨cc,Mem.len P,hr,?_⟩⟩,λk3=> ?_⟩
     ·rw [U] at hz;cases hz;refine h.runv (kH P) λb9 a8 b7 h=>⟨_,rfl,?_⟩;refine j2 _ _ _ _ _ _ _ b9 a8 (aa w (aa Y b7)) h ?_;rw [Bool.not_not,δ];constructor
      ·rintro ⟨b5,e1,e2,e3,e4,_⟩;exact ⟨hF.1 W,.inr (.inr ⟨k5,⟨ha,k1,y,U,ζ k3,b5⟩,e1,e2,e3,e4⟩)⟩
      ·intro A;rcases A.2 with B|B|B
       ·omega
       ·omega
       ·obtain ⟨_,_,u,hu,_,a7⟩:=B.2.1;rw [U] at hu;cases hu;exact ⟨a7,B.2.2.1,B.2.2.2.1,B.2.2.2.2.1,B.2.2.2.2.2,rfl,rfl⟩
     ·refine j2 _ _ _ _ _ _ _ c4 K (aa w Y) h ⟨λh=>(by cases h.1),λA=>absurd A (I λh=> ?_)⟩;obtain ⟨_,_,u,hu,a7,_⟩:=h;rw [U] at hu;cases hu;exact ι k3 a7
    ·dsimp only;rw [decide_eq_false k2];refine a0 E C w h (I λh=> ?_);obtain ⟨_,_,u,hu,_,_⟩:=h;have:=(N6.1 hu).1;omega
   ·refine j2 _ _ _ _ _ _ _ G5 F9 w h ⟨λh=>(by cases h.1),λA=> ?_⟩;have:¬(x.k=3\/x.k=4):=λh=>by rw [hb.2 h] at V;cases V
    rcases A.2 with B|B|B<;>omega
  have j3:∀(b:Bool),(b=nZ↔x.k=1\/x.k=2)->qx N b1 b6 fit b8 f (k:Int) x.k b (λr M=>r=vi (if ∀x∈g.fils,cw g x then 0 else 53)/\F.le M) F9:=λb hb=>by
   unfold qx;refine ⟨λa9=> ?_,λV=> ?_⟩
   ·have hk:=hb.1 a9;refine h.set0 (w':=tn 0 0 x.pos x.ch x.left x.tok Z pk 0) (by simp) rfl λC h=> ?_;refine h.set0 (w':=tn 0 0 0 x.ch x.left x.tok Z pk 0) (by simp) rfl λK h=> ?_;refine h.set0 (w':=tn 0 0 0 0 x.left x.tok Z pk 0) (by simp) rfl λa8 h=> ?_;refine ⟨λW=>⟨_,rfl,ai (h.le _ _ (w _ _ (O _ _ q1))),_,rfl,ai (h.le _ _ q6),?_⟩,λL=> ?_⟩
    ·refine h.runv (GA (X.le (aa O w)) (Mem.le w c2)) λE C J h=>⟨_,rfl,?_⟩;refine j2 _ _ _ _ _ _ _ E C (aa w J) h ?_;rw [δ];constructor
     ·rintro ⟨ha,_,_,_,e4,e5,e6⟩;exact ⟨hF.1 W,.inl ⟨hk,ha,e4,e5,a6.1 e6⟩⟩
     ·intro A;rcases A.2 with B|B|B
      ·exact ⟨B.2.1,rfl,rfl,rfl,B.2.2.1,B.2.2.2.1,a6.2 B.2.2.2.2⟩
      ·omega
      ·omega
    ·exact j2 _ _ _ _ _ _ _ G5 a8 w h ⟨λh=>(by cases h.1),λA=>by rw [hF.2 A.1] at L;cases L⟩
   ·have H:¬(x.k=1\/x.k=2):=λh=>by rw [hb.2 h] at V;cases V
    exact ⟨λe=>j4 _ (by rw [δ];omega) H,λe=>j4 _ (by rw [δ];omega) H⟩
  exact ⟨λe=>j3 _ (by rw [δ];omega),λe=>j3 _ (by rw [δ];omega)⟩
 ·have e:k=g.fils.length:=by omega
  subst e;rw [wV] at hi;unfold EY;exact ⟨by rw [Χ hi],aa l1 (aa O h.le)⟩
def KI (n:Nat) (done:List ο) (t:Tk):Prop:=t.name≠emp/\t.name ∉ done/\0<=t.cls/\t.cls<=2/\iL t.cond n/\(t.lit≠emp->t.smp=emp/\t.pat=[])/\
 (t.lit=emp->fD t.pat=0/\(t.cls=0->t.smp≠emp/\W6 t.pat (bs t.smp))/\(t.cls≠0->t.smp=emp))
def fX (n:Nat) (done:List ο):List Tk->Prop
 |[]=>True
 |t::r=>KI n done t/\fX n (done++[t.name]) r
open Classical in
theorem qg3 {F:PH} {v:Γ} {g:Gr} (hT:Tab F) (hg:GV F v g) (hl:dQ g=nS) (hz:Sz g):ν 141 #[oc v] F λr K=>r=vi (if fX g.qa4.length [] g.qa2 then 0 else 51)/\F.le K:=by
 obtain ⟨_,a3,_⟩:=fH hl;obtain ⟨c,n,t,s,p,lv,f,rfl,W⟩:=hg;have ec:=W.c.len;have et:=W.t.len;refine qex ?_;unfold P0;refine fresh λb1 F1 l1 q1 _=> ?_;have W:=W.le l1;have hT:=hT.le l1;refine (iK F1).mono ?_;rintro _ F2 ⟨G2,bn,m,rfl,l2,a1,h⟩;refine ⟨_,rfl,_,ld (h.le _ _ (l2 _ _ q1)) rfl,?_⟩;refine bC (xj · b1 (zE bn) t _) g.qa2.length (λk K=>∃G,G2.le G/\St G K [az m ((g.qa2.take k).map Tk.name).reverse]/\(fX g.qa4.length [] g.qa2↔fX g.qa4.length ((g.qa2.take k).map Tk.name) (g.qa2.drop k)))
  ⟨G2,au _,h,by simp⟩ ?_
 rintro k F3 N hk ⟨G3,l3,h,U⟩ next;have J:=aa l2 l3;unfold xj;refine ⟨λP=> ?_,λa5=> ?_⟩
 ·have P:k<g.qa2.length:=by omega
  refine h.ix (W.t.le J) (by decide) (by omega) (by omega) λa cc x Z hr hc=> ?_;rw [N4] at Z;have a0:x∈g.qa2:=wh Z;have a4:=hz.t x a0;rw [fG Z,fX] at U;have a2:=Mem.st hc;obtain ⟨pp,nn,rfl,h1,h2⟩:=hc;have Y:=h1.len;refine ⟨x.arr pp nn,rfl,hr,?_⟩;refine h.var a2 λb5 G4 F4 l4 q5 h=> ?_;have bad:∀{K},G3.le K->¬KI g.qa4.length ((g.qa2.take k).map Tk.name) x->(vi 51=vi (if fX g.qa4.length [] g.qa2 then 0 else 51)/\F.le K):=λ{K} l H=>⟨by rw [Υ (λh=>H (U.1 h).1)],aa l1 (aa J l)⟩;refine ⟨_,ld (h.le _ _ q5) rfl,?_⟩;refine qB h (aK (aa l3 l4) a1) x.name λG5 F5 l5 h=>⟨_,rfl,λD=>bad (aa l4 (aa l5 h.le)) λH=> ?_,λD=> ?_⟩
  ·rw [ε ⟨H.1,H.2.1⟩] at D;cases D
  have L:x.name≠emp/\x.name ∉ (g.qa2.take k).map Tk.name:=by simpa using D
  have A:=aa l4 l5;have q5:=l5 _ _ q5;refine ⟨_,ld (h.le _ _ q5) rfl,λD=>bad (aa A h.le) λH=>by have:=H.2.2.1;omega,λc0=>⟨_,ld (h.le _ _ q5) rfl,λD=>bad (aa A h.le) λH=>by have:=H.2.2.2.1;omega,λc2=>⟨#[nn.v,vi x.cond.2],rfl,fZ (h.le _ _ q5) rfl,_,ld (h.le _ _ (A _ _ (J _ _ q1))) rfl,?_⟩⟩⟩;dsimp only;rw [ec];refine h.runv (gU (d:=x.cond) (DV.mk (h2.le A))) λG6 F6 l6 h=>⟨_,rfl,λD=>bad (aa A (aa l6 h.le)) λH=> ?_,λD=> ?_⟩
  ·rw [cO.2 H.2.2.2.2.1] at D;cases D
  have O:iL x.cond g.qa4.length:=cO.1 (by simpa using D);have A:=aa A l6;have q5:=l6 _ _ q5;have e:(g.qa2.take k).map Tk.name++[x.name]=(g.qa2.take (k+1)).map Tk.name:=by rw [bD Z,yO];rfl
  have V:∀(I:Bool) G9 F9,G3.le G9->St G9 F9 [az m ((g.qa2.take k).map Tk.name++[x.name]).reverse]->(I=nZ↔KI g.qa4.length ((g.qa2.take k).map Tk.name) x)->
    gu N b1 (zE bn) t (k:Int) I (λr K=>r=vi (if fX g.qa4.length [] g.qa2 then 0 else 51)/\F.le K) F9:=λI G9 F9 l9 h M=>by
   unfold gu;refine ⟨λD=>bad (aa l9 h.le) λH=>(by rw [M.2 H] at D;cases D),λD=> ?_⟩;rw [aD P];have C:=M.1 (by simpa using D);rw [e] at h U;exact next _ P ⟨G9,aa l3 l9,h,U.trans ⟨λh=>h.2,λh=>⟨C,h⟩⟩⟩
  refine ⟨_,ld (h.le _ _ q5) rfl,_,ld (h.le _ _ q5) rfl,λw=> ?_,λw=> ?_⟩
  ·rw [mT] at w;have w:x.lit≠emp:=by simpa using w
   rw [mT];refine ⟨λB=>⟨_,ld (h.le _ _ q5) rfl,?_⟩,λB=> ?_⟩
   ·have B:=ζ B;refine V _ G6 F6 A h ?_;rw [δ];constructor
    ·intro h0;exact ⟨L.1,L.2,by omega,by omega,O,λ_=>⟨B,VT (by omega)⟩,λh=>absurd h w⟩
    ·intro C;rw [(C.2.2.2.2.2.1 w).2] at Y;simp at Y;omega
   ·have B:=ι B;exact V _ G6 F6 A h ⟨λh=>(by cases h),λC=>absurd (C.2.2.2.2.2.1 w).1 B⟩
  ·rw [mT] at w;have w:x.lit=emp:=by simpa using w
   refine ⟨_,ld (h.le _ _ q5) rfl,?_⟩;refine h.runv (oF (RL.nds.1 (h1.le A))) λG7 F7 l7 h=>⟨_,rfl,λQ=>V _ G7 F7 (aa A l7) h ⟨λh=>(by cases h),λC=>absurd (C.2.2.2.2.2.2 w).1 Q⟩,λQ=>⟨_,ld (h.le _ _ (l7 _ _ q5)) rfl,?_⟩⟩;have Q:=Classical.not_not.1 Q;have A:=aa A l7;have q5:=l7 _ _ q5;have mk:((x.cls=0->x.smp≠emp/\W6 x.pat (bs x.smp))/\(x.cls≠0->x.smp=emp))->KI g.qa4.length ((g.qa2.take k).map Tk.name) x:=λX=>⟨L.1,L.2,by omega,by omega,O,λh=>absurd w h,λ_=>⟨Q,X⟩⟩;rw [mT];refine ⟨λE=>⟨λB=>⟨_,ld (h.le _ _ q5) rfl,_,ld (h.le _ _ q5) rfl,?_⟩,λB=> ?_⟩,λE=> ?_⟩
   ·have B:x.smp≠emp:=by simpa using B
    refine (h.call (qhj (hT.le (aa J A)) (RL.nds.1 (h1.le A)) x.smp (by omega))).mono ?_;rintro _ F8 ⟨G8,⟨⟨q,rfl,hq⟩,l8⟩,h⟩;refine ⟨_,rfl,V _ G8 F8 (aa A l8) h ?_⟩;rw [hq];exact ⟨λX=>mk ⟨λ_=>⟨B,X.2⟩,λh=>absurd E h⟩,λC=>⟨Q,((C.2.2.2.2.2.2 w).2.1 E).2⟩⟩
   ·have B:x.smp=emp:=by simpa using B
    exact V _ G7 F7 A h ⟨λh=>(by cases h),λC=>absurd B ((C.2.2.2.2.2.2 w).2.1 E).1⟩
   ·refine V _ G7 F7 A h ?_;rw [δ];exact ⟨λX=>mk ⟨λh=>absurd h E,λ_=>X⟩,λC=>(C.2.2.2.2.2.2 w).2.2 E⟩
 ·have e:k=g.qa2.length:=by omega
  subst e;rw [XY,fX] at U;unfold ET;exact ⟨by rw [Χ (U.2 trivial)],aa l1 (aa J h.le)⟩
open Classical in
def CA (g:Gr):Int:=
 if dQ g=nZ then 2 else if ¬oU g then 54 else if ¬fX g.qa4.length [] g.qa2 then 51 else if ¬jr g then 50 else if dr g [] g.qa0≠0 then dr g [] g.qa0
 else if ¬dU g [] g.lvs then 53 else if ¬∀x∈g.fils,cw g x then 53 else 0
structure OkG (g:Gr):Prop where
 large:dQ g=nS
 fam:oU g
 qa2:fX g.qa4.length [] g.qa2
 qa1:jr g
 qa0:dr g [] g.qa0=0
 lvs:dU g [] g.lvs
 fils:∀x∈g.fils,cw g x
theorem qC {g:Gr}:CA g=0↔OkG g:=by
 unfold CA;constructor
 ·intro h;split at h
  ·cases h
  ·rename_i E;split at h
   ·cases h
   ·rename_i C;split at h
    ·cases h
    ·rename_i D;split at h
     ·cases h
     ·rename_i w;split at h
      ·rename_i r;exact absurd h r
      ·rename_i r;split at h
       ·cases h
       ·rename_i A;split at h
        ·cases h
        ·rename_i B;exact ⟨by simpa using E,Classical.not_not.1 C,Classical.not_not.1 D,Classical.not_not.1 w,Classical.not_not.1 r,Classical.not_not.1 A,Classical.not_not.1 B⟩
 ·rintro ⟨E,C,D,w,r,A,B⟩;rw [Υ (by simp [E]),Υ (λh=>h C),Υ (λh=>h D),Υ (λh=>h w),Υ (λh=>h r),Υ (λh=>h A),Υ (λh=>h B)]
theorem NN:aG prog 140=nZ/\aG prog 141=nZ/\aG prog 142=nZ/\aG prog 143=nZ/\aG prog 144=nZ/\aG prog 145=nZ:=by refine ⟨?_,?_,?_,?_,?_,?_⟩<;>kernel_rfl
open Classical in
def zI (g:Gr) (k:Nat):Int:=match k with
 |0=>if oU g then 0 else 54
 |1=>if fX g.qa4.length [] g.qa2 then 0 else 51
 |2=>if jr g then 0 else 50
 |3=>dr g [] g.qa0
 |4=>if dU g [] g.lvs then 0 else 53
 |_=>if ∀x∈g.fils,cw g x then 0 else 53
def E9 (k:Nat):Nat:=match k with
 |0=>140
 |1=>141
 |2=>142
 |3=>143
 |4=>144
 |_=>145
theorem GC {F:PH} {v:Γ} {g:Gr} (D:Tab F) (h:GV F v g) (w:dQ g=nS) (A:Sz g) (k:Nat):aG prog (E9 k)=nZ/\aj prog (E9 k) #[oc v] F λr C=>r=vi (zI g k)/\F.le C:=by
 obtain ⟨c1,E,J,H,G,I⟩:=NN;have B:=fH w
 match k with
 |0=>exact ⟨c1,qg0 h A B.1⟩
 |1=>exact ⟨E,qg3 D h w A⟩
 |2=>exact ⟨J,qhb h B.2.2.2.1⟩
 |3=>exact ⟨H,qg9 h w⟩
 |4=>exact ⟨G,qg2 h w A⟩
 |n+5=>exact ⟨I,qgW h w A⟩
theorem XF {p:Prop} [Decidable p] {a:Int} (r:a≠0) (h:(if p then 0 else a)=0):p:=by
 by_cases g:p
 ·exact g
 ·rw [Υ g] at h;exact absurd h r
open Classical in
theorem oW {F:PH} {v:Γ} {g:Gr} (hT:Tab F) (J:GV F v g) (hz:Sz g):ν 104 #[oc v] F λr P=>r=vi (CA g)/\F.le P:=by
 refine qe1 ?_;unfold PV;refine fresh λY F1 C q1 _=>⟨v,J.size,ai q1,?_⟩;refine (Cv (J.le C)).mono ?_;rintro _ F2 ⟨rfl,Q⟩;have C:=aa C Q;have q1:=Q _ _ q1;refine ⟨_,rfl,λH=>⟨?_,C⟩,λH=> ?_⟩
 ·unfold CA;rw [Χ H]
 refine fresh λb9 F3 V q9 _=> ?_;have C:=aa C V;have q1:=V _ _ q1;have G:∀k,k<6->(∀j,j<k->zI g j=0)->zI g k≠0->CA g=zI g k:=λk X E w=>by
  have I:0<k->oU g:=λh=>XF (a:=54) (by decide) (E 0 h);have K:1<k->fX g.qa4.length [] g.qa2:=λh=>XF (a:=51) (by decide) (E 1 h);have O:2<k->jr g:=λh=>XF (a:=50) (by decide) (E 2 h);have U:3<k->dr g [] g.qa0=0:=λh=>E 3 h;have s4:4<k->dU g [] g.lvs:=λh=>XF (a:=53) (by decide) (E 4 h);unfold CA;rw [Υ (by simp [H])]
  match k,X with
  |0,_=>have A:¬oU g:=λh=>w (Χ h);rw [Χ A];exact (Υ A).symm
  |1,_=>have A:¬fX g.qa4.length [] g.qa2:=λh=>w (Χ h);rw [Υ (λh=>h (I (by decide))),Χ A];exact (Υ A).symm
  |2,_=>have A:¬jr g:=λh=>w (Χ h);rw [Υ (λh=>h (I (by decide))),Υ (λh=>h (K (by decide))),Χ A];exact (Υ A).symm
  |3,_=>rw [Υ (λh=>h (I (by decide))),Υ (λh=>h (K (by decide))),Υ (λh=>h (O (by decide))),Χ (show dr g [] g.qa0≠0 from w)];rfl
  |4,_=>have A:¬dU g [] g.lvs:=λh=>w (Χ h);rw [Υ (λh=>h (I (by decide))),Υ (λh=>h (K (by decide))),Υ (λh=>h (O (by decide))),Υ (λh=>h (U (by decide))),Χ A];exact (Υ A).symm
  |5,_=>have A:¬∀x∈g.fils,cw g x:=λh=>w (Χ h);rw [Υ (λh=>h (I (by decide))),Υ (λh=>h (K (by decide))),Υ (λh=>h (O (by decide))),Υ (λh=>h (U (by decide))),Υ (λh=>h (s4 (by decide))),Χ A];exact (Υ A).symm
 refine bC (xg · Y b9 _) 6 (λk P=>F3.le P/\∀j,j<k->zI g j=0) ⟨au _,λj h=>by omega⟩ ?_;rintro k F4 N X ⟨D,hi⟩ next;unfold xg;refine ⟨λB=> ?_,λM=> ?_⟩
 ·have B:k<6:=by simp only at B;omega
  refine ⟨_,rfl,by omega,by simp only;omega,.func (.func (E9 k)) #[] #[],?_,v,J.size,ai (D _ _ q1),E9 k,#[],#[],rfl,?_⟩
  ·rw [N4,aJ,av (D _ _ q9)]
   match k,B with
   |0,_=>rfl
   |1,_=>rfl
   |2,_=>rfl
   |3,_=>rfl
   |4,_=>rfl
   |5,_=>rfl
  ·obtain ⟨h1,Z⟩:=GC (hT.le (aa C D)) (J.le (aa C D)) H hz k;refine ⟨h1,?_⟩;have e:(#[]:Γ)++[oc v].toArray++ #[]= #[oc v]:=by simp
   dsimp only;rw [e];refine Z.mono ?_;rintro _ F5 ⟨rfl,W⟩;refine ⟨_,rfl,λw=>⟨by rw [G k B hi w],aa C (aa D W)⟩,λL=> ?_⟩;rw [aD B];refine next _ B ⟨aa D W,λj E=> ?_⟩;by_cases e:j=k
   ·rw [e];exact Classical.not_not.1 L
   ·exact hi j (by omega)
 ·have e:k=6:=by simp only at M;omega
  subst e;unfold ER;refine ⟨?_,aa C D⟩;rw [qC.2 ⟨H,XF (a:=54) (by decide) (hi 0 (by decide)),XF (a:=51) (by decide) (hi 1 (by decide)),XF (a:=50) (by decide) (hi 2 (by decide)),hi 3 (by decide),XF (a:=53) (by decide) (hi 4 (by decide)),XF (a:=53) (by decide) (hi 5 (by decide))⟩]
structure SlT (t e:TypeId) (n bytes:Nat) (z:Value):Prop where
 ht:prog.underlying t=mB (.slice e)
 hsz:vV prog e=mB (n,bytes)
 hz:bv prog e=mB z
 hzs:z.cells.size=n
 hn:0<n
 hb:bytes<=250
theorem zJ {n m b:Nat} (g:b<=250) (h:n+m<=500000000000):(n+m)*b<=140737488355328:=
 Wl (YB h g) (by decide)
theorem St.appAt {G F:PH} {As:List (Ψ)} {t e n bytes:Nat} {z:ξ} (T:SlT t e n bytes z) {s x:Sl} {olds news:Ξ} {V:TypeId} (h:St G F As) (i:Nat) (hi:As[i]? =mB (own s e n olds)) (g:RdS F x n news) (M:∀v∈news,ak v)
  (B:s.len+x.len<=500000000000) {K:Sl->Ψ} (k:∀r J,St G J (As.set i (own r e n (olds++news)))->r.len=s.len+x.len->K r J):
  aH prog (Builtin.append_ #[t,t] V #[s.v,x.v]) F λv F=>∃r:Sl,v=nV r/\K r F:=by
 obtain ⟨H,I,X,U,O⟩:=h.set (A':=own s e n olds) hi;have P:=(h.ownAt hi).1;by_cases Q:x.len=0
 ·have C:news=[]:=VT (by rw [g.len,Q,V9]);subst C;refine oN T.ht T.hsz T.hz T.hzs P g Q (by have:=zJ (n:=s.len) (m:=0) T.hb (by omega);simpa using this) (by omega) ⟨s,rfl,k s F ?_ (by omega)⟩;rw [yD];exact O H F I (λb A=> .inl A) U (λb o A _=>A)
 ·refine sC T.ht T.hsz T.hz T.hzs T.hn P g (by omega) M (zJ T.hb B) (by omega) ?_;rintro r J b Z rfl L N w A;obtain ⟨H,I,X,U,O⟩:=h.set (A':=own r e n (olds++news)) hi;have D:H b≠nC\/F b=nC:=by
   rcases A with ⟨a,E,rfl⟩|A
   ·obtain ⟨W,Y⟩:=bO.elem I E;exact .inl (by rw [Y];simp)
   ·exact .inr A
  refine ⟨r,rfl,k r _ ?_ N⟩;refine O (PH.set (λ_=>nC) b Z) _ (L.keep λa E=>by rw [w a E,aq,aq]) (λx g=> ?_) (λx p g=> ?_) (λx p g hn=> ?_)
  ·by_cases e:x=b
   ·rw [e];exact D
   ·rw [aw _ _ e] at g;exact absurd rfl g
  ·by_cases e:x=b
   ·rw [e,aq] at g ⊢;exact g
   ·rw [aw _ _ e] at g;cases g
  ·have e:x≠b:=λe=>by
    subst e;rcases D with h|h
    ·exact h hn
    ·rw [h] at g;cases g
   rw [aw _ _ e];exact g
namespace St
section
variable {G F:PH} {As:List (Ψ)} {t e n bytes:Nat} {z:ξ}
theorem pinOwn {s:Sl} {vs:Ξ} (h:St G F (own s e n vs::As)) {K:Ψ} (k:∀g,G.le g->RdS g s n vs->St g F As->K F):K F:=by obtain ⟨g,B,⟨H,r,w⟩,A⟩:=h.pin;exact k g B ((bO.rd r).le w) A
theorem app0 (T:SlT t e n bytes z) {s x:Sl} {olds news:Ξ} {C:TypeId} (h:St G F (own s e n olds::As)) (B:RdS F x n news) (w:∀v∈news,ak v) (r:s.len+x.len<=500000000000) {K:Sl->Ψ}
  (k:∀g A,St G A (own g e n (olds++news)::As)->g.len=s.len+x.len->K g A):
  aH prog (Builtin.append_ #[t,t] C #[s.v,x.v]) F λv F=>∃g:Sl,v=nV g/\K g F:=h.appAt T 0 rfl B w r k
theorem push0 (T:SlT t e n bytes z) {s:Sl} {olds:Ξ} {c:Γ} {I:TypeId} (h:St G F (own s e n olds::As)) (E:c.size=n) (C:∀v∈c.toList,ak v) (D:s.len<=400000000000) {K:Sl->Ψ}
  (k:∀g w r,G.le w->St w r (own g e n (olds++c.toList)::As)->g.len=s.len+1->K g r):
  ∀b,F b=nC->wn (F.set b (mX c e)) λF=>aH prog (Builtin.append_ #[t,t] I #[s.v,nV (tX (mB (pd b 0 nC)) 1 1)]) F λv F=>∃g:Sl,v=nV g/\K g F:=by
 refine h.newG λb w r l q _ h=> ?_;have H:RdS r (tX (mB (pd b 0 nC)) 1 1) n c.toList:=RdS.new (h.le _ _ q) (yY (by rw [zA,E,Wk];exact tI _)) (by rw [zA,E,Wk]) (tI _);exact h.app0 T H C (by show s.len+1<=_;omega) λg A J B=>k g w A l J B
theorem app1 {B:Ψ} (T:SlT t e n bytes z) {s x:Sl} {olds news:Ξ} {D:TypeId} (h:St G F (B::own s e n olds::As)) (C:RdS F x n news) (w:∀v∈news,ak v) (r:s.len+x.len<=500000000000) {K:Sl->Ψ}
  (k:∀g A,St G A (B::own g e n (olds++news)::As)->g.len=s.len+x.len->K g A):
  aH prog (Builtin.append_ #[t,t] D #[s.v,x.v]) F λv F=>∃g:Sl,v=nV g/\K g F:=h.appAt T 1 rfl C w r k
theorem push1 {H:Ψ} (T:SlT t e n bytes z) {s:Sl} {olds:Ξ} {c:Γ} {J:TypeId} (h:St G F (H::own s e n olds::As)) (E:c.size=n) (C:∀v∈c.toList,ak v) (D:s.len<=400000000000) {K:Sl->Ψ}
  (k:∀g w r,G.le w->St w r (H::own g e n (olds++c.toList)::As)->g.len=s.len+1->K g r):
  ∀b,F b=nC->wn (F.set b (mX c e)) λF=>aH prog (Builtin.append_ #[t,t] J #[s.v,nV (tX (mB (pd b 0 nC)) 1 1)]) F λv F=>∃g:Sl,v=nV g/\K g F:=by
 refine h.newG λb w r l q _ h=> ?_;have I:RdS r (tX (mB (pd b 0 nC)) 1 1) n c.toList:=RdS.new (h.le _ _ q) (yY (by rw [zA,E,Wk];exact tI _)) (by rw [zA,E,Wk]) (tI _);exact h.app1 T I C (by show s.len+1<=_;omega) λg A L B=>k g w A l L B
theorem app2 {C B:Ψ} (T:SlT t e n bytes z) {s x:Sl} {olds news:Ξ} {E:TypeId} (h:St G F (C::B::own s e n olds::As)) (D:RdS F x n news) (w:∀v∈news,ak v) (r:s.len+x.len<=500000000000) {K:Sl->Ψ}
  (k:∀g A,St G A (C::B::own g e n (olds++news)::As)->g.len=s.len+x.len->K g A):
  aH prog (Builtin.append_ #[t,t] E #[s.v,x.v]) F λv F=>∃g:Sl,v=nV g/\K g F:=h.appAt T 2 rfl D w r k
theorem push2 {I H:Ψ} (T:SlT t e n bytes z) {s:Sl} {olds:Ξ} {c:Γ} {L:TypeId} (h:St G F (I::H::own s e n olds::As)) (E:c.size=n) (C:∀v∈c.toList,ak v) (D:s.len<=400000000000) {K:Sl->Ψ}
  (k:∀g w r,G.le w->St w r (I::H::own g e n (olds++c.toList)::As)->g.len=s.len+1->K g r):
  ∀b,F b=nC->wn (F.set b (mX c e)) λF=>aH prog (Builtin.append_ #[t,t] L #[s.v,nV (tX (mB (pd b 0 nC)) 1 1)]) F λv F=>∃g:Sl,v=nV g/\K g F:=by
 refine h.newG λb w r l q _ h=> ?_;have J:RdS r (tX (mB (pd b 0 nC)) 1 1) n c.toList:=RdS.new (h.le _ _ q) (yY (by rw [zA,E,Wk];exact tI _)) (by rw [zA,E,Wk]) (tI _);exact h.app2 T J C (by show s.len+1<=_;omega) λg A M B=>k g w A l M B
theorem app3 {D C B:Ψ} (T:SlT t e n bytes z) {s x:Sl} {olds news:Ξ} {H:TypeId} (h:St G F (D::C::B::own s e n olds::As)) (E:RdS F x n news) (w:∀v∈news,ak v) (r:s.len+x.len<=500000000000) {K:Sl->Ψ}
  (k:∀g A,St G A (D::C::B::own g e n (olds++news)::As)->g.len=s.len+x.len->K g A):
  aH prog (Builtin.append_ #[t,t] H #[s.v,x.v]) F λv F=>∃g:Sl,v=nV g/\K g F:=h.appAt T 3 rfl E w r k
theorem push3 {J I E:Ψ} (T:SlT t e n bytes z) {s:Sl} {olds:Ξ} {c:Γ} {M:TypeId} (h:St G F (J::I::E::own s e n olds::As)) (H:c.size=n) (C:∀v∈c.toList,ak v) (D:s.len<=400000000000) {K:Sl->Ψ}
  (k:∀g w r,G.le w->St w r (J::I::E::own g e n (olds++c.toList)::As)->g.len=s.len+1->K g r):
  ∀b,F b=nC->wn (F.set b (mX c e)) λF=>aH prog (Builtin.append_ #[t,t] M #[s.v,nV (tX (mB (pd b 0 nC)) 1 1)]) F λv F=>∃g:Sl,v=nV g/\K g F:=by
 refine h.newG λb w r l q _ h=> ?_;have L:RdS r (tX (mB (pd b 0 nC)) 1 1) n c.toList:=RdS.new (h.le _ _ q) (yY (by rw [zA,H,Wk];exact tI _)) (by rw [zA,H,Wk]) (tI _);exact h.app3 T L C (by show s.len+1<=_;omega) λg A N B=>k g w A l N B
end
end St
section
variable {α:Type} [Mem α] {F:PH}
def Tj (t e:TypeId) (a:Sl) (R:VR) (F:PH):Prop:=(((a.qa5.isNone)=nZ-> R (nV pk) F)/\((a.qa5.isNone)=nS-> ∀c,F c=nC->wn (F.set c (mX #[] e)) λF=>aH prog (Builtin.append_ #[t,t] t #[nV (tX (mB (pd c 0 nC)) 0 0),nV a]) F λv F=>∃b:Sl,v=(nV b)/\R (nV b) F))
theorem KJ {s:Sl} {l:List α} {t e bytes:Nat} {z:ξ} (T:SlT t e (Mem.n α) bytes z) (H:RL F s l) (N:l.length<=1000000000):Tj t e s (λr D=>(∃I,r=nV I/\RL D I l)/\F.le D) F:=by
 have E:=H.len T.hn;obtain ⟨vs,J,A⟩:=H;refine ⟨λw=> ?_,λw=> ?_⟩
 ·have g:s.len=0:=by
   rcases XL s.len with h|h
   ·exact h
   ·obtain ⟨b,o,C,_⟩:=A.cells h;rw [C] at w;cases w
  have:l=[]:=VT (by omega);subst this;exact ⟨⟨pk,rfl,RL.nil F⟩,au F⟩
 ·refine fresh λP O B q1 _=> ?_;refine fc (olds:=[]) T.ht T.hsz T.hz T.hzs ⟨by simp,by simp,λh=>by simp at h⟩ (A.le B) J.st (zJ T.hb (by simp only;omega)) (by simp only;omega) (λg _=> ?_) (λg K=> ?_) (λL cap b G w=> ?_)
  ·have g:s.len=0:=by
    rcases XL s.len with h|h
    ·exact h
    ·have:=Nat.mul_pos h T.hn;omega
   have:l=[]:=VT (by omega);subst this;exact ⟨_,rfl,⟨_,rfl,[],.nil,⟨by simp [uX,g],by simp [g],λh=>by simp [g] at h⟩⟩,B⟩
  ·simp only at K;have:s.len=0:=by omega
   rw [this] at g;simp at g
  ·refine ⟨_,rfl,⟨_,rfl,vs,J.le (aa B (ae _ w)),?_⟩,aa B (ae _ w)⟩;have M:(0:Nat)+s.len=s.len:=by omega
   rw [M] at G ⊢;refine RdS.new (aq _ _ _) ?_ A.len G;rw [show (([]:Ξ).toArray++(uX vs).toArray++Builtin.zeroCells z.cells (cap - s.len)).toList=uX vs++(Builtin.zeroCells z.cells (cap - s.len)).toList by simp];rw [WJ (by rw [A.len];exact tI _),yY (by rw [A.len];exact tI _)]
end
theorem qeu:SlT 30 9 1 16 (.string ⟨#[]⟩):=⟨underlying30,sz9,zr9,rfl,by decide,by decide⟩
theorem tq:SlT 76 3 1 8 (.int .i64 0):=⟨underlying76,Yk,Ym,rfl,by decide,by decide⟩
theorem aaf:∃b z,SlT 61 130 2 b z:=⟨_,_,underlying61,PO,PQ,rfl,by decide,by decide⟩
theorem X4:∃b z,SlT 34 166 7 b z:=⟨_,_,underlying34,qdD,qdJ,rfl,by decide,by decide⟩
theorem Tm:∃b z,SlT 35 64 13 b z:=⟨_,_,underlying35,qgq,qfV,rfl,by decide,by decide⟩
theorem aag:∃b z,SlT 36 236 4 b z:=⟨_,_,underlying36,qdG,qeW,rfl,by decide,by decide⟩
theorem aah:∃b z,SlT 37 233 9 b z:=⟨_,_,underlying37,qdF,qeV,rfl,by decide,by decide⟩
theorem aai:SlT 195 41 1 8 (.int .u64 0):=⟨underlying195,qgo,qgu,rfl,by decide,by decide⟩
end
open Tr
section
def Vg (g:Gr) (c:Int):Bool:=decide (Int.fdiv c (2 ^ min g.qa4.length 64)=0) && i8 g.fam c
theorem qhR {F:PH} {v:Γ} {g:Gr} (C:GV F v g) {c:Int} (c0:0<=c) (c1:c<18446744073709551616):ν 105 #[oc v,tJ .u64 c] F λr B=>r=oY (Vg g c)/\F.le B:=by
 obtain ⟨H,n,t,s,p,l,f,rfl,A⟩:=C;have E:=A.c.len;refine qe2 ?_;unfold PX;refine fresh λG I w q1 _=>⟨_,ld q1 rfl,by omega,λh=>⟨#[n.v,vi g.fam.2],rfl,fZ q1 rfl,?_⟩,λh=>⟨?_,w⟩⟩;all_goals rw [N4,E,show u64.bits=64 from rfl] at h
 ·refine (rL (a:=g.fam) (DV.mk (A.n.le w)) c0 c1).mono ?_;rintro _ F2 ⟨rfl,D⟩;refine ⟨_,rfl,?_,aa w D⟩;unfold Vg;rw [ε h,V8]
 ·unfold Vg;rw [η h,WN]
def Wu (g:Gr) (c:Int):Bool:=decide (CA g=0) && Vg g c
theorem KL {F:PH} {v:Γ} {g:Gr} (E:Tab F) (A:GV F v g) (G:Sz g) {c:Int} (c0:0<=c) (c1:c<18446744073709551616):ν 75 #[oc v,tJ .u64 c] F λr D=>r=oY (Wu g c)/\F.le D:=by
 refine aac ?_;unfold Xx;refine fresh λI K B q1 _=>⟨v,A.size,ai q1,?_⟩;refine (oW (E.le B) (A.le B) G).mono ?_;rintro _ F2 ⟨rfl,C⟩;have w:=aa B C;refine ⟨_,rfl,λh=>⟨v,A.size,ai (C _ _ q1),?_⟩,λh=>⟨?_,w⟩⟩
 ·refine (qhR (A.le w) c0 c1).mono ?_;rintro _ J ⟨rfl,H⟩;refine ⟨_,rfl,?_,aa w H⟩;unfold Wu;rw [ε h,V8]
 ·unfold Wu;rw [η h,WN]
instance (t:Tr):Decidable (t=qa6 nS):=match t with
 |qa6 nZ=>isFalse (by simp)
 |qa6 nS=>isTrue rfl
 |qa7 _ _ _=>isFalse (by simp)
theorem uV {d:wc} {n:Nat} (h:iL d n):∃t:Tr,t.ok/\d=ph t/\vf d=t/\(aV t).length<=4096/\dS n t:=by
 obtain ⟨w,C⟩:=h;unfold chk at w;split at w
 ·cases w
 ·rename_i B;split at w
  ·rename_i D;obtain ⟨t,g,rfl⟩:=D;refine ⟨t,g,rfl,ma g,by simpa [ph,aP] using B,?_⟩;refine rM (bz g) (λx A=> ?_) t (bE g);obtain ⟨_,v,l,r,rfl,_,_⟩:=(bz g).mem x A;have:=C (br (aV t) (qa7 v l r)) (xR.2 ⟨_,A,rfl⟩);simp only [br] at this;simp only [top];omega
  ·cases w
abbrev vC (c:Nat):Value:=tJ .u64 (c:Int)
abbrev vB (n:Nat):Value:=tJ .u8 (n:Int)
theorem GD (a:Addr) (i j:Nat):od (od a i) j=od a (i+j):=by
 unfold od;by_cases hi:i=0
 ·simp [hi]
 ·by_cases g:j=0
  ·simp [g]
  ·simp [hi,g,V7]
theorem xA {F:PH} {a:Addr} {c d:Γ} {o:Nat} (h:F.row a c) (hd:(c.toList.drop o).take d.size=d.toList):F.row (a.add o) d:=by intro i hi;rw [GD];have:=congrArg (λl=>l[i]?) hd;simp only [YN hi,List.getElem?_drop,YR] at this;exact aN h (this.trans (by simp [hi]))
theorem St.pinO {G F:PH} {As:List (Ψ)} {e n:Nat} {s:Sl} {vs:Ξ} (h:St G F (own s e n vs::As)):∃g,G.le g/\RdS g s n vs/\St g F As:=by obtain ⟨g,B,⟨H,r,w⟩,A⟩:=h.pin;exact ⟨g,B,(bO.rd r).le w,A⟩
variable {R:VR} {F:PH}
set_option maxHeartbeats 4000000
def X5 (R:VR) (F:PH):Prop:=Nb F (mX zG 39) λb0 F=>Nb F (mX #[pg ⟨#[76]⟩,pg ⟨#[73]⟩] 9) λb2 F=>Ca 52 #[nV (Sb b2 2)] F λaf F=>Nb F (mX zG 39) λa F=>aB F (Am a 0) 9 af λF=>Ls F (Am a 5) λK=>Nb F (mX #[] 130) λb6 F=>Ca 53 #[pg ⟨#[101,109,112,116,121]⟩,(vi 0),nV (Sb b6 0)] F λL F=>F.cell (Am a 5)=mB (nV K)/\L.size=13/\Nb F (mX L 64) λb8 F=>Ap 35 #[nV K,nV (Sb b8 1)] F λag F=>rj F (Am a 5) (nV ag) λF=>Ls F (Am a 5) λf=>Ca 54 #[(vi 0)] F λi F=>F.cell (Am a 5)=mB (nV f)/\Ca 54 #[(vi 1)] F λj F=>F.cell (Am a 5)=mB (nV f)/\i.size=2/\j.size=2/\Nb F (mX (wr (wr (#[oY nS,vi 0,.bool nS,vi 0]:Γ) 0 i.toList) 2 j.toList) 130) λah F=>Ca 53 #[pg ⟨#[109,111,114,101]⟩,(vi 0),nV (Sb ah 2)] F λk F=>F.cell (Am a 5)=mB (nV f)/\k.size=13/\Nb F (mX k 64) λai F=>Ap 35 #[nV f,nV (Sb ai 1)] F λM F=>rj F (Am a 5) (nV M) λF=>Ls F (Am a 5) λd=>Ca 55 #[(vi 1)] F λl F=>F.cell (Am a 5)=mB (nV d)/\Ca 55 #[(vi 0)] F λm F=>F.cell (Am a 5)=mB (nV d)/\Ca 55 #[(vi 7)] F λn F=>F.cell (Am a 5)=mB (nV d)/\l.size=2/\m.size=2/\n.size=2/\Nb F (mX (wr (wr (wr (#[oY nS,vi 0,.bool nS,vi 0,.bool nS,vi 0]:Γ) 0 l.toList) 2 m.toList) 4 n.toList) 130) λaj F=>Ca 53 #[pg ⟨#[116,121,112,101]⟩,(vi 1),nV (Sb aj 3)] F λo F=>F.cell (Am a 5)=mB (nV d)/\o.size=13/\Nb F (mX o 64) λak F=>Ap 35 #[nV d,nV (Sb ak 1)] F λN F=>rj F (Am a 5) (nV N) λF=>Ls F (Am a 5) λb=>Ca 55 #[(vi 0)] F λp F=>F.cell (Am a 5)=mB (nV b)/\Ca 55 #[(vi 2)] F λq F=>F.cell (Am a 5)=mB (nV b)/\Ca 55 #[(vi 0)] F λr F=>F.cell (Am a 5)=mB (nV b)/\Ca 55 #[(vi 7)] F λs F=>F.cell (Am a 5)=mB (nV b)/\p.size=2/\q.size=2/\r.size=2/\s.size=2/\Nb F (mX (wr (wr (wr (wr (#[oY nS,vi 0,.bool nS,vi 0,.bool nS,vi 0,.bool nS,vi 0]:Γ) 0 p.toList) 2 q.toList) 4 r.toList) 6 s.toList) 130) λal F=>Ca 53 #[pg ⟨#[112,111,105,110,116,101,114]⟩,(vi 1),nV (Sb al 4)] F λt F=>F.cell (Am a 5)=mB (nV b)/\t.size=13/\Nb F (mX t 64) λam F=>Ap 35 #[nV b,nV (Sb am 1)] F λO F=>rj F (Am a 5) (nV O) λF=>Ls F (Am a 5) λc=>Ca 55 #[(vi 0)] F λu F=>F.cell (Am a 5)=mB (nV c)/\Ca 55 #[(vi 2)] F λv F=>F.cell (Am a 5)=mB (nV c)/\Ca 55 #[(vi 0)] F λw F=>F.cell (Am a 5)=mB (nV c)/\Ca 55 #[(vi 7)] F λx F=>F.cell (Am a 5)=mB (nV c)/\u.size=2/\v.size=2/\w.size=2/\x.size=2/\Nb F (mX (wr (wr (wr (wr (#[oY nS,vi 0,.bool nS,vi 0,.bool nS,vi 0,.bool nS,vi 0]:Γ) 0 u.toList) 2 v.toList) 4 w.toList) 6 x.toList) 130) λan F=>Ca 53 #[pg ⟨#[112,114,111,100,117,99,116]⟩,(vi 1),nV (Sb an 4)] F λy F=>F.cell (Am a 5)=mB (nV c)/\y.size=13/\Nb F (mX y 64) λao F=>Ap 35 #[nV c,nV (Sb ao 1)] F λP F=>rj F (Am a 5) (nV P) λF=>Ls F (Am a 5) λe=>Ca 55 #[(vi 3)] F λz F=>F.cell (Am a 5)=mB (nV e)/\Ca 54 #[(vi 0)] F λA F=>F.cell (Am a 5)=mB (nV e)/\Ca 55 #[(vi 4)] F λB F=>F.cell (Am a 5)=mB (nV e)/\z.size=2/\A.size=2/\B.size=2/\Nb F (mX (wr (wr (wr (#[oY nS,vi 0,.bool nS,vi 0,.bool nS,vi 0]:Γ) 0 z.toList) 2 A.toList) 4 B.toList) 130) λap F=>Ca 53 #[pg ⟨#[105,110,110,101,114]⟩,(vi 1),nV (Sb ap 3)] F λC F=>F.cell (Am a 5)=mB (nV e)/\C.size=13/\Nb F (mX C 64) λaq F=>Ap 35 #[nV e,nV (Sb aq 1)] F λQ F=>rj F (Am a 5) (nV Q) λF=>Ls F (Am a 5) λg=>Ca 55 #[(vi 0)] F λD F=>F.cell (Am a 5)=mB (nV g)/\Ca 55 #[(vi 7)] F λE F=>F.cell (Am a 5)=mB (nV g)/\D.size=2/\E.size=2/\Nb F (mX (wr (wr (#[oY nS,vi 0,.bool nS,vi 0]:Γ) 0 D.toList) 2 E.toList) 130) λar F=>Ca 53 #[pg ⟨#[115,116,114,105,99,116]⟩,(vi 1),nV (Sb ar 2)] F λG F=>F.cell (Am a 5)=mB (nV g)/\G.size=13/\Nb F (mX G 64) λau F=>Ap 35 #[nV g,nV (Sb au 1)] F λS F=>rj F (Am a 5) (nV S) λF=>Ls F (Am a 5) λT=>Ix T 2 λU=>aB F (od (od U (pc 2*13)) 8) 5 (#[oY nS,(vi 2),(vi 1),vi 0,vi 0]:Γ) λF=>Ls F (Am a 5) λV=>Ix V 3 λW=>aB F (od (od W (pc 3*13)) 8) 5 (#[oY nS,(vi 3),(vi 2),(vi 1),(vi 2)]:Γ) λF=>Ls F (Am a 5) λX=>Ix X 4 λY=>aB F (od (od Y (pc 4*13)) 8) 5 (#[oY nS,vi 0,vi 0,(vi 1),(vi 5)]:Γ) λF=>Ls F (Am a 5) λZ=>Ix Z 5 λaa=>aB F (od (od aa (pc 5*13)) 8) 5 (#[oY nZ,vi 0,vi 0,vi 0,vi 0]:Γ) λF=>Ls F (Am a 5) λab=>Ix ab 6 λac=>aB F (od (od ac (pc 6*13)) 8) 5 (#[oY nS,vi 0,vi 0,(vi 1),(vi 6)]:Γ) λF=>Ls F (Am a 5) λad=>Ix ad 4 λae=>rj F (od (od ae (pc 4*13)) 6) (vi (-1:Int)) λF=>Ls F (Am a 5) λh=>Ca 56 #[(vi 0)] F λH F=>F.cell (Am a 5)=mB (nV h)/\Ix h 6 λI=>aB F (od (od I (pc 6*13)) 3) 2 H λF=>Lr F 9 (Am a 0) λJ=>aB F (Am b0 0) 9 J λF=>Rr 9 (Am b0 0) R F
theorem aaj (h:X5 R F):ν 27 #[] F R:=Rx.Λ .N h
def X6 (a:Sl) (R:VR) (F:PH):Prop:=Nb F (mX zG 39) λe F=>Ca 85 #[oY nZ] F λg F=>Nb F (mX zD 33) λf F=>aB F (Am f 0) 2 g λF=>Lr F 2 (Am f 0) λb=>((Nb F (mX #[pg ⟨#[65]⟩,pg ⟨#[66]⟩] 9) λi F=>Cs 86 #[] F λh F=>F.row (Am f 0) b/\b.size=2/\aB F (Am e 0) 9 (tL (tL (wr (tL zG 0 (nV (Sb i 2))) 1 b.toList) 3 (nV h)) 4 (nV a)) λF=>Rr 9 (Am e 0) R F)/\(Cs 86 #[] F λc F=>F.row (Am f 0) b/\Nb F (mX #[pg ⟨#[65]⟩,pg ⟨#[66]⟩] 9) λd F=>b.size=2/\aB F (Am e 0) 9 (tL (tL (wr (tL zG 0 (nV (Sb d 2))) 1 b.toList) 3 (nV c)) 4 (nV a)) λF=>Rr 9 (Am e 0) R F))
theorem aak {a:Sl} (h:X6 a R F):ν 52 #[nV a] F R:=Rx.Λ .N h
def Tn (b:ο) (c:Int) (a:Sl) (R:VR) (F:PH):Prop:=Nb F (mX zP 64) λe F=>Ca 85 #[oY nZ] F λd F=>d.size=2/\aB F (Am e 0) 13 (wr (tL (tL (tL zP 0 (pg b)) 1 (vi c)) 2 (nV a)) 3 d.toList) λF=>Rr 13 (Am e 0) R F
theorem X7 {b:ο} {c:Int} {a:Sl} (h:Tn b c a R F):ν 53 #[pg b,(vi c),nV a] F R:=Rx.Λ .N h
def X8 (a:Int) (R:VR) (F:PH):Prop:=Nb F (mX (#[oY nS,vi 0]) 130) λb F=>aB F (Am b 0) 2 (#[oY nS,(vi a)]:Γ) λF=>Rr 2 (Am b 0) R F
theorem aal {a:Int} (h:X8 a R F):ν 54 #[(vi a)] F R:=Rx.Λ .N h
def X9 (a:Int) (R:VR) (F:PH):Prop:=Nb F (mX (#[oY nS,vi 0]) 130) λb F=>aB F (Am b 0) 2 (#[oY nZ,(vi a)]:Γ) λF=>Rr 2 (Am b 0) R F
theorem aam {a:Int} (h:X9 a R F):ν 55 #[(vi a)] F R:=Rx.Λ .N h
def Ya (d:Int) (R:VR) (F:PH):Prop:=Nb F (mX zD 33) λe F=>ν 87 #[(vi d)] F λv F=>∃b,∃a,v=(.tuple #[oc b,(vi a)])/\Nb F (mX zD 33) λf F=>aB F (Am f 0) 2 b λF=>Lr F 2 (Am f 0) λc=>aB F (Am e 0) 2 c λF=>Rr 2 (Am e 0) R F
theorem aan {a:Int} (h:Ya a R F):ν 56 #[(vi a)] F R:=Rx.Λ .N h
def tw (b c:Nat) (R:VR) (F:PH):Prop:=Lr F 9 (Am c 0) λa=>aB F (Am b 0) 9 a λF=>Rr 9 (Am b 0) R F
def CB (k:Ω) (i j h:Nat) (R:VR) (a:Int) (F:PH):Prop:=Ls F (Am i 4) λc=>Bc (a<(c.len:Int)) (Bc (a<6) (Lr F 9 (Am h 0) λd=>Ls F (Am i 4) λb=>Ix b a λe=>Lr F 5 (od e (pc a*5)) λf=>Ca 95 #[oc d,oc f] F λg F=>F.cell (Am i 4)=mB (nV b)/\aB F (Am h 0) 9 g λF=>k (i64.wrap (a+1)) F) (tw j h R F)) (tw j h R F)
def tA (b c d:Nat) (R:VR) (F:PH):Prop:=Lp 0 F λN a F=>CB N b c d R a F
def CC (m:Ω) (d l:Nat) (e:Int) (k:Nat) (b:Int) (R:VR) (a:Int) (F:PH):Prop:=Ls F (Am d 3) λf=>Bc (a<(f.len:Int)) (Bc (a<b) (Lr F 9 (Am k 0) λg=>Ls F (Am d 3) λc=>Ix c a λh=>Lr F 4 (od h (pc a*4)) λi=>Ca 94 #[oc g,oc i,oY (decide ((tK e 8)<6))] F λj F=>F.cell (Am d 3)=mB (nV c)/\aB F (Am k 0) 9 j λF=>m (i64.wrap (a+1)) F) (tA d l k R F)) (tA d l k R F)
def xB (d e:Nat) (b:Int) (f:Nat) (a:Int) (R:VR) (F:PH):Prop:=Lp 0 F λN c F=>CC N d e b f a R c F
def tB (f g:Nat) (b:Int) (e:Nat) (a:Int) (h:Nat) (c:Bool) (R:VR) (F:PH):Prop:=Bb (c) (Lr F 2 (Am h 0) λd=>aB F (Am e 1) 2 d λF=>xB f g b e a R F) (xB f g b e a R F)
def xC (h k:Nat) (b:Int) (j:Nat) (a:Int) (R:VR) (F:PH):Prop:=Ls F (Am h 2) λc=>Ls F (Am j 0) λd=>Ca 93 #[nV c,(vi (d.len:Int))] F λe F=>Nb F (mX zD 33) λi F=>aB F (Am i 0) 2 e λF=>Ls F (Am h 2) λf=>Bc ((0:Int)<(f.len:Int)) (Li F (Am i 1) λg=>tB h k b j a i (decide (g≠0)) R F) (tB h k b j a i nS R F)
def Yb (o:Γ) (R:VR) (F:PH):Prop:=Nb F (mX o 26) λj F=>Nb F (mX zG 39) λr F=>Lk F .u8 (Am j 0) λc=>Lk F .u8 (Am j 0) λk=>Ca 92 #[tJ .u8 (tK k 8)] F λl F=>Nb F (mX zG 39) λe F=>aB F (Am e 0) 9 l λF=>Bc (¬((tK c 8)<6)) (Nb F (mX #[pg ⟨#[83]⟩,pg ⟨#[80]⟩,pg ⟨#[81]⟩] 9) λh F=>Lk F .u8 (Am j 1) λa=>0<=(i64.wrap (1+(tK (i64.wrap (u8.wrap (Int.tdiv a 4))) 3)))/\0<=(pc (i64.wrap (1+(tK (i64.wrap (u8.wrap (Int.tdiv a 4))) 3))))/\(pc (i64.wrap (1+(tK (i64.wrap (u8.wrap (Int.tdiv a 4))) 3))))<=(Sb h 3).cap/\Ca 52 #[nV (Sl.cut (Sb h 3) 1 0 (pc (i64.wrap (1+(tK (i64.wrap (u8.wrap (Int.tdiv a 4))) 3)))) (Sb h 3).cap)] F λm F=>aB F (Am e 0) 9 m λF=>Nb F (mX #[pg ⟨#[65]⟩,pg ⟨#[66]⟩,pg ⟨#[67]⟩] 9) λi F=>Lk F .u8 (Am j 1) λb=>0<=(i64.wrap (tK b 4))/\0<=(pc (i64.wrap (tK b 4)))/\(pc (i64.wrap (tK b 4)))<=(Sb i 3).cap/\rj F (Am e 0) (nV (Sl.cut (Sb i 3) 1 0 (pc (i64.wrap (tK b 4))) (Sb i 3).cap)) λF=>Ls F (Am e 5) λd=>Ca 55 #[(vi 0)] F λf F=>F.cell (Am e 5)=mB (nV d)/\f.size=2/\Nb F (mX f 130) λp F=>Ca 53 #[pg ⟨#[102,105,114,115,116]⟩,(vi 0),nV (Sb p 1)] F λg F=>F.cell (Am e 5)=mB (nV d)/\g.size=13/\Nb F (mX g 64) λq F=>Ap 35 #[nV d,nV (Sb q 1)] F λn F=>rj F (Am e 5) (nV n) λF=>xC j r c e 10 R F) (xC j r c e 6 R F)
theorem aao {a:Γ} (h:Yb a R F):ν 64 #[oc a] F R:=Rx.Λ (.qa8 (.qa8 (.qa8 (.qa8 (.J nS [(5,.int .i64)] .N (.qa8 (.J nS [] (.J nS [(57,.bool)] .N .N) (.J nS [] (.qa8 (.L [(7,.int .i64)] .N)) (.J nS [] (.qa8 (.L [(8,.int .i64)] .N)) .N))))))))) h
def KM (x:Nat) (q:Sl) (R:VR) (F:PH):Prop:=Ca 119 #[(vi 9),(vi 10)] F λc F=>Ca 119 #[(vi 32),(vi 32)] F λd F=>Ca 120 #[(vi 3),(vi 0),(vi 1)] F λe F=>Ca 119 #[(vi 9),(vi 10)] F λf F=>Ca 119 #[(vi 32),(vi 32)] F λg F=>Ca 120 #[(vi 3),(vi 3),(vi 4)] F λh F=>Ca 120 #[(vi 4),(vi 5),(vi 0)] F λi F=>Ca 120 #[(vi 2),(vi 2),(vi 6)] F λj F=>c.size=5/\d.size=5/\e.size=5/\f.size=5/\g.size=5/\h.size=5/\i.size=5/\j.size=5/\Nb F (mX (wr (wr (wr (wr (wr (wr (wr (wr (#[vi 0,vi 0,vi 0,vi 0,vi 0,vi 0,vi 0,vi 0,vi 0,vi 0,vi 0,vi 0,vi 0,vi 0,vi 0,vi 0,vi 0,vi 0,vi 0,vi 0,vi 0,vi 0,vi 0,vi 0,vi 0,vi 0,vi 0,vi 0,vi 0,vi 0,vi 0,vi 0,vi 0,vi 0,vi 0,vi 0,vi 0,vi 0,vi 0,vi 0]:Γ) 0 c.toList) 5 d.toList) 10 e.toList) 15 f.toList) 20 g.toList) 25 h.toList) 30 i.toList) 35 j.toList) 225) λr F=>Ca 119 #[(vi 37),(vi 37)] F λk F=>Ca 119 #[(vi 97),(vi 122)] F λl F=>Ca 119 #[(vi 32),(vi 32)] F λm F=>Ca 120 #[(vi 3),(vi 1),(vi 2)] F λn F=>Ca 120 #[(vi 4),(vi 3),(vi 0)] F λo F=>Ca 120 #[(vi 2),(vi 0),(vi 4)] F λp F=>k.size=5/\l.size=5/\m.size=5/\n.size=5/\o.size=5/\p.size=5/\Nb F (mX (wr (wr (wr (wr (wr (wr (#[vi 0,vi 0,vi 0,vi 0,vi 0,vi 0,vi 0,vi 0,vi 0,vi 0,vi 0,vi 0,vi 0,vi 0,vi 0,vi 0,vi 0,vi 0,vi 0,vi 0,vi 0,vi 0,vi 0,vi 0,vi 0,vi 0,vi 0,vi 0,vi 0,vi 0]:Γ) 0 k.toList) 5 l.toList) 10 m.toList) 15 n.toList) 20 o.toList) 25 p.toList) 225) λs F=>Lr F 2 (Am x 0) λa=>a.size=2/\(wr (tL (tL (tL zT 0 (pg ⟨#[115,112,97,99,101]⟩)) 1 (vi 1)) 3 (nV (Sb r 8))) 5 a.toList).size=7/\Nb F (mX (wr (tL (tL (tL zT 0 (pg ⟨#[115,112,97,99,101]⟩)) 1 (vi 1)) 3 (nV (Sb r 8))) 5 a.toList) 166) λv F=>Ap 34 #[nV q,nV (Sb v 1)] F λt F=>Lr F 2 (Am x 0) λb=>b.size=2/\(wr (tL (tL (tL zT 0 (pg ⟨#[114,101,109,97,114,107]⟩)) 1 (vi 2)) 3 (nV (Sb s 6))) 5 b.toList).size=7/\Nb F (mX (wr (tL (tL (tL zT 0 (pg ⟨#[114,101,109,97,114,107]⟩)) 1 (vi 2)) 3 (nV (Sb s 6))) 5 b.toList) 166) λw F=>Ap 34 #[nV t,nV (Sb w 1)] F λu F=>R (nV u) F
def KN (l:Sl->Ω) (j h:Nat) (R:VR) (a:Sl) (b:Int) (F:PH):Prop:=Bc (b<((Sb h 8).len:Int)) (Ix (Sb h 8) b λf=>Lx F (od f (pc b*1)) λd=>Ix (Sb h 8) b λg=>Lx F (od g (pc b*1)) λe=>Lr F 2 (Am j 0) λc=>c.size=2/\(wr (tL (tL zT 0 (pg d)) 2 (pg e)) 5 c.toList).size=7/\Nb F (mX (wr (tL (tL zT 0 (pg d)) 2 (pg e)) 5 c.toList) 166) λk F=>Ap 34 #[nV a,nV (Sb k 1)] F λi F=>F.row (Am j 0) c/\F.cell (od g (pc b*1))=mB (pg e)/\F.cell (od f (pc b*1))=mB (pg d)/\l i (i64.wrap (b+1)) F) (KM j a R F)
def Yc (R:VR) (F:PH):Prop:=Ca 85 #[oY nZ] F λk F=>Nb F (mX zD 33) λl F=>aB F (Am l 0) 2 k λF=>Lr F 2 (Am l 0) λf=>f.size=2/\(wr (tL (tL zT 0 (pg ⟨#[105,100]⟩)) 4 (pg ⟨#[120]⟩)) 5 f.toList).size=7/\Nb F (mX (wr (tL (tL zT 0 (pg ⟨#[105,100]⟩)) 4 (pg ⟨#[120]⟩)) 5 f.toList) 166) λg F=>Ca 119 #[(vi 97),(vi 122)] F λb F=>Ca 119 #[(vi 97),(vi 122)] F λc F=>Ca 120 #[(vi 4),(vi 1),(vi 0)] F λd F=>Ca 120 #[(vi 2),(vi 0),(vi 2)] F λe F=>b.size=5/\c.size=5/\d.size=5/\e.size=5/\Nb F (mX (wr (wr (wr (wr (#[vi 0,vi 0,vi 0,vi 0,vi 0,vi 0,vi 0,vi 0,vi 0,vi 0,vi 0,vi 0,vi 0,vi 0,vi 0,vi 0,vi 0,vi 0,vi 0,vi 0]:Γ) 0 b.toList) 5 c.toList) 10 d.toList) 15 e.toList) 225) λm F=>Ix (Sb g 1) 0 λh=>rj F (od (od h (pc 0*7)) 3) (nV (Sb m 4)) λF=>Nb F (mX #[pg ⟨#[43]⟩,pg ⟨#[42]⟩,pg ⟨#[40]⟩,pg ⟨#[41]⟩,pg ⟨#[105,102]⟩,pg ⟨#[101,108,115,101]⟩,pg ⟨#[59]⟩,pg ⟨#[94]⟩] 9) λn F=>(∃(o:Nat->Sl->Ω) (j:Nat),o j (Sb g 1) 0 F/\∀j a i F,o j a i F-> KN (Wf o j) l n R a i F)
theorem aap (h:Yc R F):ν 86 #[] F R:=Rx.Λ (.qa8 (.qa8 (.qa8 (.qa8 (.qa8 (.J nS [(2,.sl)] (.qa8 (.L [(2,.sl),(4,.int .i64)] .N)) .N)))))) h
def Yd (b:Int) (R:VR) (F:PH):Prop:=Nb F (mX zG 39) λa F=>Bc ((tK b 6)=0) (Ca 122 #[] F λh F=>aB F (Am a 0) 9 h λF=>Rr 9 (Am a 0) R F) (Bc ((tK b 6)=1) (Ca 123 #[] F λc F=>aB F (Am a 0) 9 c λF=>Rr 9 (Am a 0) R F) (Bc ((tK b 6)=2) (Ca 27 #[] F λd F=>aB F (Am a 0) 9 d λF=>Rr 9 (Am a 0) R F) (Bc ((tK b 6)=3) (Ca 124 #[] F λe F=>aB F (Am a 0) 9 e λF=>Rr 9 (Am a 0) R F) (Bc ((tK b 6)=4) (Ca 125 #[] F λf F=>aB F (Am a 0) 9 f λF=>Rr 9 (Am a 0) R F) (Ca 126 #[] F λg F=>aB F (Am a 0) 9 g λF=>Rr 9 (Am a 0) R F)))))
theorem aaq {a:Int} (h:Yd a R F):ν 92 #[tJ .u8 a] F R:=Rx.Λ .N h
def tC (c b:Nat) (R:VR) (F:PH):Prop:=Lr F 9 (Am c 0) λa=>aB F (Am b 0) 9 a λF=>Rr 9 (Am b 0) R F
def gD (h z o:Nat) (y:Θ) (p:Bool) (R:VR) (F:PH):Prop:=Bb (p) (Lr F 9 (Am h 0) λq=>aB F (Am o 0) 9 q λF=>Rr 9 (Am o 0) R F) (Lk F .u8 (Am z 2) λr=>Ls F (Am h 0) λs=>Ca 128 #[tJ .u8 r,(vi (s.len:Int))] F λt F=>∃b,y=mB b/\aB F (od b 3) 2 t λF=>Lr F 13 b λu=>Lk F .u8 (Am z 3) λv=>Ca 129 #[oc u,tJ .u8 v] F λw F=>aB F b 13 w λF=>Ls F (Am h 5) λc=>Lr F 13 b λa=>((Nb F (mX #[] 64) λl F=>((Ap 35 #[nV (Sb l 0),nV c] F λm F=>F.row b a/\a.size=13/\Nb F (mX a 64) λx F=>Ap 35 #[nV m,nV (Sb x 1)] F λn F=>rj F (Am h 5) (nV n) λF=>tC h o R F)/\(a.size=13/\Nb F (mX a 64) λi F=>Ap 35 #[nV (Sb l 0),nV c] F λd F=>Ap 35 #[nV d,nV (Sb i 1)] F λe F=>rj F (Am h 5) (nV e) λF=>tC h o R F)))/\(a.size=13/\Nb F (mX a 64) λj F=>Nb F (mX #[] 64) λk F=>Ap 35 #[nV (Sb k 0),nV c] F λf F=>Ap 35 #[nV f,nV (Sb j 1)] F λg F=>rj F (Am h 5) (nV g) λF=>tC h o R F)))
def tD (c:Bool) (e f g:Nat) (d:Θ) (a:Int) (b:Bool) (R:VR) (F:PH):Prop:=Bc (a=0) (Bb (c) (gD e f g d nZ R F) (gD e f g d (!b) R F)) (gD e f g d nS R F)
def tE (f:Int->Bool->Ω) (_:Bool) (_ _ _:Nat) (_:Sl) (_:Θ) (d a:Int) (b:Bool) (_:VR) (F:PH):Prop:=f a b (i64.wrap (d+1)) F
def KO (w:Int->Bool->Ω) (d:Bool) (o n p:Nat) (f:Sl) (i:Θ) (R:VR) (a:Int) (b:Bool) (g:Int) (F:PH):Prop:=Ls F (Am n 1) λq=>Bc (g<(q.len:Int)) (Bc (g<4) (Ls F (Am n 1) λr=>Ix r g λs=>Lk F .u8 (od s (pc g*1)) λh=>Bc ((tK (i64.wrap h) 14)<9) (∃e,i=mB e/\Ls F (od e 2) λj=>Ca 55 #[(vi (tK (i64.wrap h) 14))] F λk F=>F.cell (od e 2)=mB (nV j)/\k.size=2/\Nb F (mX k 130) λx F=>Ap 61 #[nV j,nV (Sb x 1)] F λt F=>rj F (od e 2) (nV t) λF=>tE w d o n p f (mB e) g (i64.wrap (a+1)) b R F) (∃c,i=mB c/\Ls F (od c 2) λl=>(f.len:Int)≠0/\Ca 54 #[(vi (tK (i64.wrap ((tK (i64.wrap h) 14) - 9)) (f.len:Int)))] F λm F=>F.cell (od c 2)=mB (nV l)/\m.size=2/\Nb F (mX m 130) λy F=>Ap 61 #[nV l,nV (Sb y 1)] F λu F=>rj F (od c 2) (nV u) λF=>Bb (b) ((f.len:Int)≠0/\Li F (od c 1) λv=>tE w d o n p f (mB c) g a (decide (v<(tK (i64.wrap ((tK (i64.wrap h) 14) - 9)) (f.len:Int)))) R F) (tE w d o n p f (mB c) g a nS R F))) (tD d o n p i a b R F)) (tD d o n p i a b R F)
def oe (c:Bool) (i j k:Nat) (e:Sl) (g:Θ) (R:VR) (F:PH):Prop:=(∃(h:Nat->Int->Bool->Ω) (f:Nat),h f 0 nZ 0 F/\∀f a b d F,h f a b d F-> KO (Zy h f) c i j k e g R a b d F)
def Ye (p q:Γ) (b:Bool) (R:VR) (F:PH):Prop:=Nb F (mX p 39) λj F=>Nb F (mX q 191) λm F=>Nb F (mX zG 39) λr F=>Ls F (Am j 4) λc=>Ls F (Am j 5) λf=>Lk F .u8 (Am m 0) λd=>(c.len:Int)≠0/\((Nb F (mX #[tJ .u8 (u8.wrap (i64.wrap (97+(f.len:Int))))] 5) λn F=>∃e,s9 prog (Conv.bytesToString (nV (Sb n 1))) F (pg e)/\(ByteArray.mk #[112]).size+e.size<=9223372036854775807/\((Ca 53 #[pg ((ByteArray.mk #[112])++e),(vi (tK (i64.wrap d) (c.len:Int))),nV pk] F λo F=>s9 prog (Conv.bytesToString (nV (Sb n 1))) F (pg e)/\F.cell (Am m 0)=mB (tJ .u8 d)/\F.cell (Am j 5)=mB (nV f)/\Nb F (mX zP 64) λs F=>aB F (Am s 0) 13 o λF=>oe b j m r c (mB (Am s 0)) R F)/\(Nb F (mX zP 64) λk F=>Ca 53 #[pg ((ByteArray.mk #[112])++e),(vi (tK (i64.wrap d) (c.len:Int))),nV pk] F λh F=>s9 prog (Conv.bytesToString (nV (Sb n 1))) F (pg e)/\F.cell (Am m 0)=mB (tJ .u8 d)/\F.cell (Am j 5)=mB (nV f)/\aB F (Am k 0) 13 h λF=>oe b j m r c (mB (Am k 0)) R F)))/\(Nb F (mX zP 64) λl F=>Nb F (mX #[tJ .u8 (u8.wrap (i64.wrap (97+(f.len:Int))))] 5) λg F=>∃a,s9 prog (Conv.bytesToString (nV (Sb g 1))) F (pg a)/\(ByteArray.mk #[112]).size+a.size<=9223372036854775807/\Ca 53 #[pg ((ByteArray.mk #[112])++a),(vi (tK (i64.wrap d) (c.len:Int))),nV pk] F λi F=>s9 prog (Conv.bytesToString (nV (Sb g 1))) F (pg a)/\F.cell (Am m 0)=mB (tJ .u8 d)/\F.cell (Am j 5)=mB (nV f)/\aB F (Am l 0) 13 i λF=>oe b j m r c (mB (Am l 0)) R F))
theorem aar {b:Γ} {c:Γ} {a:Bool} (h:Ye b c a R F):ν 94 #[oc b,oc c,oY a] F R:=Rx.Λ (.qa8 (.qa8 (.J nS [(8,.ptr)] .N (.qa8 (.qa8 (.J nS [(9,.int .i64),(10,.bool)] (.qa8 (.L [(9,.int .i64),(10,.bool),(11,.int .i64)] (.qa8 (.J nS [(8,.ptr),(9,.int .i64),(10,.bool)] .N .N)))) (.T (.J nS [(87,.bool)] .N .N) (.qa8 (.qa8 (.J nS [] .N .N)))))))))) h
def og (c b:Nat) (R:VR) (F:PH):Prop:=Lr F 9 (Am c 0) λa=>aB F (Am b 0) 9 a λF=>Rr 9 (Am b 0) R F
def tF (g r s:Nat) (R:VR) (F:PH):Prop:=Lr F 9 (Am g 0) λl=>Lr F 9 (Am s 0) λm=>vc 131 #[oc l,oc m] F λn F=>Bb (n) (Ls F (Am g 8) λb=>Lr F 9 (Am s 0) λa=>((Nb F (mX #[] 233) λk F=>((Ap 37 #[nV (Sb k 0),nV b] F λo F=>F.row (Am s 0) a/\a.size=9/\Nb F (mX a 233) λq F=>Ap 37 #[nV o,nV (Sb q 1)] F λp F=>rj F (Am g 8) (nV p) λF=>og g r R F)/\(a.size=9/\Nb F (mX a 233) λh F=>Ap 37 #[nV (Sb k 0),nV b] F λc F=>Ap 37 #[nV c,nV (Sb h 1)] F λd F=>rj F (Am g 8) (nV d) λF=>og g r R F)))/\(a.size=9/\Nb F (mX a 233) λi F=>Nb F (mX #[] 233) λj F=>Ap 37 #[nV (Sb j 0),nV b] F λe F=>Ap 37 #[nV e,nV (Sb i 1)] F λf F=>rj F (Am g 8) (nV f) λF=>og g r R F))) (og g r R F)
def oo (c b:Nat) (R:VR) (F:PH):Prop:=Lr F 9 (Am c 0) λa=>aB F (Am b 0) 9 a λF=>Rr 9 (Am b 0) R F
def xE (g n p:Nat) (R:VR) (F:PH):Prop:=Ls F (Am g 7) λb=>Lr F 4 (Am p 0) λa=>((Nb F (mX #[] 236) λk F=>((Ap 36 #[nV (Sb k 0),nV b] F λl F=>F.row (Am p 0) a/\a.size=4/\Nb F (mX a 236) λo F=>Ap 36 #[nV l,nV (Sb o 1)] F λm F=>rj F (Am g 7) (nV m) λF=>oo g n R F)/\(a.size=4/\Nb F (mX a 236) λh F=>Ap 36 #[nV (Sb k 0),nV b] F λc F=>Ap 36 #[nV c,nV (Sb h 1)] F λd F=>rj F (Am g 7) (nV d) λF=>oo g n R F)))/\(a.size=4/\Nb F (mX a 236) λi F=>Nb F (mX #[] 236) λj F=>Ap 36 #[nV (Sb j 0),nV b] F λe F=>Ap 36 #[nV e,nV (Sb i 1)] F λf F=>rj F (Am g 7) (nV f) λF=>oo g n R F))
def xF (h i f:Nat) (a:Int) (b:Sl) (c:Bool) (R:VR) (F:PH):Prop:=Bb (c) (Ls F (Am f 0) λd=>Nb F (mX #[(vi (tK (i64.wrap a) (b.len:Int)))] 3) λg F=>Ap 76 #[nV d,nV (Sb g 1)] F λe F=>rj F (Am f 0) (nV e) λF=>xE h i f R F) (xE h i f R F)
def xG (i q r t d:Nat) (j:Int) (e:Bool) (R:VR) (F:PH):Prop:=Bb (e) (Lk F .u8 (Am q 0) λf=>rj F (Am d 0) (vi (i64.wrap ((i64.wrap (3+(i64.wrap (tK f 8)))) - 4))) λF=>Lk F .u8 (Am q 1) λg=>Ls F (Am i 4) λa=>(a.len:Int)≠0/\rj F (Am d 4) (vi (tK (i64.wrap g) (a.len:Int))) λF=>Lk F .u8 (Am q 2) λh=>Nb F (mX #[(vi (tK (i64.wrap h) 9))] 3) λk F=>rj F (Am d 6) (nV (Sb k 1)) λF=>tF i r d R F) (Bc ((tK j 8)=6) (rj F (Am d 0) (vi 5) λF=>Nb F (mX #[(vi 5)] 3) λl F=>rj F (Am d 6) (nV (Sb l 1)) λF=>tF i r d R F) (Nb F (mX #[] 166) λs F=>Ls F (Am i 3) λm=>Ap 34 #[nV (Sb s 0),nV m] F λb F=>Lk F .u8 (Am q 1) λc=>Lr F 2 (Am t 0) λn=>Ix b (tK (i64.wrap c) 9) λo=>aB F (od (od o (pc (tK (i64.wrap c) 9)*7)) 5) 2 n λF=>rj F (Am i 3) (nV b) λF=>Lr F 9 (Am i 0) λp=>aB F (Am r 0) 9 p λF=>Rr 9 (Am r 0) R F))
def xH (k f l m:Nat) (g:Int) (h:Sl) (c:Nat) (a:Int) (i:Bool) (R:VR) (F:PH):Prop:=Bb (i) (Lk F .u8 (Am f 0) λj=>rj F (Am c 0) (vi (i64.wrap ((i64.wrap (1+(i64.wrap (tK j 8)))) - 2))) λF=>rj F (Am c 1) (vi (tK (i64.wrap g) (h.len:Int))) λF=>Lk F .u8 (Am f 3) λd=>rj F (Am c 2) (vi (tK (i64.wrap d) 16)) λF=>Lk F .u8 (Am f 2) λe=>Ls F (Am k 5) λb=>(b.len:Int)≠0/\rj F (Am c 3) (vi (tK (i64.wrap e) (b.len:Int))) λF=>tF k l c R F) (Bc ((tK a 8)=4) (xG k f l m c a (decide ((tK a 8)=4)) R F) (xG k f l m c a (decide ((tK a 8)=5)) R F))
def xI (f o h p:Nat) (a:Int) (b:Sl) (s:Nat) (c:Int) (i:Bool) (R:VR) (F:PH):Prop:=Bb (i) (Lr F 9 (Am f 0) λj=>vc 130 #[oc j,(vi (tK (i64.wrap a) (b.len:Int)))] F λk F=>Bb ((!k)) (Nb F (mX #[(vi (tK (i64.wrap a) (b.len:Int)))] 3) λq F=>Lk F .u8 (Am o 3) λl=>Lr F 2 (Am p 0) λg=>g.size=2/\Nb F (mX zL 236) λr F=>aB F (Am r 0) 4 (wr (tL (tL zL 0 (nV (Sb q 1))) 1 (vi (i64.wrap (tK l 4)))) 2 g.toList) λF=>Lk F .u8 (Am o 2) λe=>Ls F (Am f 5) λd=>(d.len:Int)≠0/\Bc ((tK (i64.wrap e) (d.len:Int))≠(tK (i64.wrap a) (b.len:Int))) (Lr F 9 (Am f 0) λm=>vc 130 #[oc m,(vi (tK (i64.wrap e) (d.len:Int)))] F λn F=>xF f h r e d (!n) R F) (xF f h r e d nS R F)) (oo f h R F)) (Bc ((tK c 8)=2) (xH f o h p a b s c (decide ((tK c 8)=2)) R F) (xH f o h p a b s c (decide ((tK c 8)=3)) R F))
def Yf (k l:Γ) (R:VR) (F:PH):Prop:=Nb F (mX k 39) λi F=>Nb F (mX l 194) λe F=>Nb F (mX zG 39) λn F=>Lk F .u8 (Am e 4) λf=>Ls F (Am i 0) λg=>Ca 128 #[tJ .u8 f,(vi (g.len:Int))] F λh F=>Nb F (mX zD 33) λj F=>aB F (Am j 0) 2 h λF=>Lk F .u8 (Am e 1) λc=>Ls F (Am i 5) λb=>(b.len:Int)≠0/\Lr F 2 (Am j 0) λd=>d.size=2/\Nb F (mX zF 233) λm F=>aB F (Am m 0) 9 (wr zF 7 d.toList) λF=>Lk F .u8 (Am e 0) λa=>Bc ((tK a 8)=0) (xI i e n j c b m a (decide ((tK a 8)=0)) R F) (xI i e n j c b m a (decide ((tK a 8)=1)) R F)
theorem aas {a:Γ} {b:Γ} (h:Yf a b R F):ν 95 #[oc a,oc b] F R:=Rx.Λ (.qa8 (.qa8 (.qa8 (.qa8 (.J nS [] (.qa8 (.J nS [(44,.bool)] .N (.T (.J nS [] (.qa8 (.T (.qa8 (.qa8 (.J nS [] (.J nS [(74,.bool)] .N .N) .N))) .N)) .N) (.J nS [(90,.bool)] .N (.qa8 (.J nS [(115,.bool)] .N .N)))))) (.J nS [] .N .N)))))) h
def Yg (g:Γ) (c:Int) (R:VR) (F:PH):Prop:=Nb F (mX g 39) λh F=>Ls F (Am h 0) λd=>Bc ((d.len:Int)=64) (Lr F 2 (Am h 1) λe=>vc 132 #[oc e,tJ .u64 c] F λf F=>R (oY f) F) (0<=(u64.wrap (d.len:Int))/\Bc ((Int.fdiv c (2 ^ (min (pc (u64.wrap (d.len:Int))) (u64).bits)))=0) (Lr F 2 (Am h 1) λa=>vc 132 #[oc a,tJ .u64 c] F λb F=>R (oY b) F) (R (oY nS) F))
theorem aat {a:Γ} {b:Int} (h:Yg a b R F):ν 96 #[oc a,tJ .u64 b] F R:=Rx.Λ .N h
def Qr (a b:Int) (R:VR) (F:PH):Prop:=Nb F (mX (#[vi 0,vi 0,vi 0,vi 0,vi 0]) 225) λc F=>aB F (Am c 0) 5 (#[(vi 1),(vi a),(vi b),vi 0,vi 0]:Γ) λF=>Rr 5 (Am c 0) R F
theorem qfD {a:Int} {b:Int} (h:Qr a b R F):ν 119 #[(vi a),(vi b)] F R:=Rx.Λ .N h
def Qt (a b c:Int) (R:VR) (F:PH):Prop:=Nb F (mX (#[vi 0,vi 0,vi 0,vi 0,vi 0]) 225) λd F=>aB F (Am d 0) 5 (#[(vi a),vi 0,vi 0,(vi b),(vi c)]:Γ) λF=>Rr 5 (Am d 0) R F
theorem qfE {a:Int} {b:Int} {c:Int} (h:Qt a b c R F):ν 120 #[(vi a),(vi b),(vi c)] F R:=Rx.Λ .N h
def Fb (c b:Nat) (R:VR) (F:PH):Prop:=Lr F 9 (Am c 0) λa=>aB F (Am b 0) 9 a λF=>Rr 9 (Am b 0) R F
def mY (b a c:Nat) (R:VR) (F:PH):Prop:=rj F (Am b 7) (nV (Sb a 3)) λF=>Fb b c R F
def jU (a:Γ) (d:Nat) (b:Γ) (e:Nat) (c:Γ) (f h i:Nat) (R:VR) (F:PH):Prop:=a.size=2/\(wr (tL (tL zL 0 (nV (Sb d 1))) 1 (vi 2)) 2 b.toList).size=4/\(wr (tL (tL zL 0 (nV (Sb e 1))) 1 (vi 1)) 2 c.toList).size=4/\(wr (tL (tL zL 0 (nV (Sb f 1))) 1 (vi 1)) 2 a.toList).size=4/\Nb F (mX (wr (wr (wr (#[.slice nC 0 0,vi 0,.slice nC 0 0,vi 0,.slice nC 0 0,vi 0,.slice nC 0 0,vi 0,.slice nC 0 0,vi 0,.slice nC 0 0,vi 0]:Γ) 0 (wr (tL (tL zL 0 (nV (Sb d 1))) 1 (vi 2)) 2 b.toList).toList) 4 (wr (tL (tL zL 0 (nV (Sb e 1))) 1 (vi 1)) 2 c.toList).toList) 8 (wr (tL (tL zL 0 (nV (Sb f 1))) 1 (vi 1)) 2 a.toList).toList) 236) λg F=>mY h g i R F
def jV (c:Γ) (h:Nat) (a b:Γ) (e f g i j:Nat) (R:VR) (F:PH):Prop:=Ca 157 #[oc c] F λd F=>F.row (Am h 0) a/\F.row (Am h 0) b/\jU d e b f a g i j R F
def Fc (d:Nat) (a b:Γ) (e f g h i:Nat) (R:VR) (F:PH):Prop:=Ca 56 #[(vi 0)] F λc F=>F.row (Am d 0) a/\F.row (Am d 0) b/\jV c d a b e f g h i R F
def xJ (a:Γ) (e:Nat) (c:Γ) (f:Nat) (d:Γ) (g h:Nat) (R:VR) (F:PH):Prop:=Nb F (mX #[(vi 0)] 3) λb F=>jU a e c f d b g h R F
def Fd (a:Γ) (h:Nat) (b c:Γ) (f g i j:Nat) (R:VR) (F:PH):Prop:=((Nb F (mX #[(vi 0)] 3) λe F=>jV a h b c f g e i j R F)/\(Ca 157 #[oc a] F λd F=>F.row (Am h 0) b/\F.row (Am h 0) c/\xJ d f c g b i j R F))
def NO (a:Γ) (f:Nat) (b:Γ) (d e h i:Nat) (R:VR) (F:PH):Prop:=a.size=2/\((Nb F (mX #[(vi 0)] 3) λg F=>Fc f a b d e g h i R F)/\(Ca 56 #[(vi 0)] F λc F=>F.row (Am f 0) a/\F.row (Am f 0) b/\Fd c f a b d e h i R F))
def zK (a:Γ) (f:Nat) (c:Γ) (g d e h i:Nat) (R:VR) (F:PH):Prop:=a.size=2/\Ca 56 #[(vi 0)] F λb F=>F.row (Am f 0) a/\F.row (Am f 0) c/\jV b f a c g d e h i R F
def zM (a b:Γ) (h:Nat) (d:Γ) (g e f i j:Nat) (R:VR) (F:PH):Prop:=a.size=2/\Ca 157 #[oc b] F λc F=>F.row (Am h 0) a/\F.row (Am h 0) d/\jU c g d e a f i j R F
def zN (b:Γ) (g:Nat) (e:Γ) (c d:Nat) (a:Γ) (h i:Nat) (R:VR) (F:PH):Prop:=b.size=2/\(wr (tL (tL zL 0 (nV (Sb g 1))) 1 (vi 2)) 2 e.toList).size=4/\(wr (tL (tL zL 0 (nV (Sb c 1))) 1 (vi 1)) 2 b.toList).size=4/\(wr (tL (tL zL 0 (nV (Sb d 1))) 1 (vi 1)) 2 a.toList).size=4/\Nb F (mX (wr (wr (wr (#[.slice nC 0 0,vi 0,.slice nC 0 0,vi 0,.slice nC 0 0,vi 0,.slice nC 0 0,vi 0,.slice nC 0 0,vi 0,.slice nC 0 0,vi 0]:Γ) 0 (wr (tL (tL zL 0 (nV (Sb g 1))) 1 (vi 2)) 2 e.toList).toList) 4 (wr (tL (tL zL 0 (nV (Sb c 1))) 1 (vi 1)) 2 b.toList).toList) 8 (wr (tL (tL zL 0 (nV (Sb d 1))) 1 (vi 1)) 2 a.toList).toList) 236) λf F=>mY h f i R F
def mZ (a d:Γ) (f:Nat) (e:Γ) (b g h:Nat) (R:VR) (F:PH):Prop:=a.size=2/\Nb F (mX #[(vi 1)] 3) λc F=>zN d f e c b a g h R F
def ni (b a:Γ) (h:Nat) (c:Γ) (g d i j:Nat) (R:VR) (F:PH):Prop:=((Nb F (mX #[(vi 1)] 3) λf F=>zM b a h c g f d i j R F)/\(Ca 157 #[oc a] F λe F=>F.row (Am h 0) b/\F.row (Am h 0) c/\mZ e b g c d i j R F))
def KP (a:Γ) (g:Nat) (b:Γ) (f c h i:Nat) (R:VR) (F:PH):Prop:=((Nb F (mX #[(vi 1)] 3) λe F=>zK a g b f e c h i R F)/\(Ca 56 #[(vi 0)] F λd F=>F.row (Am g 0) a/\F.row (Am g 0) b/\ni a d g b f c h i R F))
def zO (a b:Γ) (h:Nat) (c:Γ) (g d i j:Nat) (R:VR) (F:PH):Prop:=a.size=2/\((Nb F (mX #[(vi 0)] 3) λf F=>jV b h a c g d f i j R F)/\(Ca 157 #[oc b] F λe F=>F.row (Am h 0) a/\F.row (Am h 0) c/\xJ e g c d a i j R F))
def zQ (b a:Γ) (f:Nat) (e:Γ) (c g h:Nat) (R:VR) (F:PH):Prop:=b.size=2/\Nb F (mX #[(vi 0)] 3) λd F=>jU a f e c b d g h R F
def zR (b a:Γ) (f:Nat) (c:Γ) (g h:Nat) (R:VR) (F:PH):Prop:=((Nb F (mX #[(vi 1)] 3) λd F=>zQ b a f c d g h R F)/\(Nb F (mX #[(vi 0)] 3) λe F=>mZ a b f c e g h R F))
def KQ (b a:Γ) (h:Nat) (c:Γ) (e i j:Nat) (R:VR) (F:PH):Prop:=((Nb F (mX #[(vi 1)] 3) λf F=>zO b a h c e f i j R F)/\(Nb F (mX #[(vi 0)] 3) λg F=>ni b a h c e g i j R F)/\(Ca 157 #[oc a] F λd F=>F.row (Am h 0) b/\F.row (Am h 0) c/\zR b d e c i j R F))
def NP (a b:Γ) (f d g h:Nat) (R:VR) (F:PH):Prop:=a.size=2/\((Nb F (mX #[(vi 1)] 3) λi F=>NO b f a d i g h R F)/\(Nb F (mX #[(vi 0)] 3) λe F=>KP b f a d e g h R F)/\(Ca 56 #[(vi 0)] F λc F=>F.row (Am f 0) b/\F.row (Am f 0) a/\KQ b c f a d g h R F))
def KR (a:Γ) (g:Nat) (b:Γ) (c d h i:Nat) (R:VR) (F:PH):Prop:=a.size=2/\((Nb F (mX #[(vi 0)] 3) λf F=>Fc g b a c d f h i R F)/\(Ca 56 #[(vi 0)] F λe F=>F.row (Am g 0) b/\F.row (Am g 0) a/\Fd e g b a c d h i R F))
def zS (a:Γ) (g:Nat) (c:Γ) (d e f h i:Nat) (R:VR) (F:PH):Prop:=a.size=2/\Ca 56 #[(vi 0)] F λb F=>F.row (Am g 0) c/\F.row (Am g 0) a/\jV b g c a d e f h i R F
def zU (a b:Γ) (h:Nat) (d:Γ) (e f g i j:Nat) (R:VR) (F:PH):Prop:=a.size=2/\Ca 157 #[oc b] F λc F=>F.row (Am h 0) d/\F.row (Am h 0) a/\jU c e a f d g i j R F
def zV (b:Γ) (c d:Nat) (f:Γ) (e:Nat) (a:Γ) (h i:Nat) (R:VR) (F:PH):Prop:=b.size=2/\(wr (tL (tL zL 0 (nV (Sb c 1))) 1 (vi 2)) 2 b.toList).size=4/\(wr (tL (tL zL 0 (nV (Sb d 1))) 1 (vi 1)) 2 f.toList).size=4/\(wr (tL (tL zL 0 (nV (Sb e 1))) 1 (vi 1)) 2 a.toList).size=4/\Nb F (mX (wr (wr (wr (#[.slice nC 0 0,vi 0,.slice nC 0 0,vi 0,.slice nC 0 0,vi 0,.slice nC 0 0,vi 0,.slice nC 0 0,vi 0,.slice nC 0 0,vi 0]:Γ) 0 (wr (tL (tL zL 0 (nV (Sb c 1))) 1 (vi 2)) 2 b.toList).toList) 4 (wr (tL (tL zL 0 (nV (Sb d 1))) 1 (vi 1)) 2 f.toList).toList) 8 (wr (tL (tL zL 0 (nV (Sb e 1))) 1 (vi 1)) 2 a.toList).toList) 236) λg F=>mY h g i R F
def nj (a e:Γ) (b:Nat) (f:Γ) (c g h:Nat) (R:VR) (F:PH):Prop:=a.size=2/\Nb F (mX #[(vi 4)] 3) λd F=>zV e d b f c a g h R F
def nk (b a:Γ) (h:Nat) (c:Γ) (d e i j:Nat) (R:VR) (F:PH):Prop:=((Nb F (mX #[(vi 4)] 3) λg F=>zU b a h c g d e i j R F)/\(Ca 157 #[oc a] F λf F=>F.row (Am h 0) c/\F.row (Am h 0) b/\nj f b d c e i j R F))
def KT (a:Γ) (g:Nat) (b:Γ) (c d h i:Nat) (R:VR) (F:PH):Prop:=((Nb F (mX #[(vi 4)] 3) λf F=>zS a g b f c d h i R F)/\(Ca 56 #[(vi 0)] F λe F=>F.row (Am g 0) b/\F.row (Am g 0) a/\nk a e g b c d h i R F))
def zW (a b:Γ) (h:Nat) (c:Γ) (d e i j:Nat) (R:VR) (F:PH):Prop:=a.size=2/\((Nb F (mX #[(vi 0)] 3) λf F=>jV b h c a d e f i j R F)/\(Ca 157 #[oc b] F λg F=>F.row (Am h 0) c/\F.row (Am h 0) a/\xJ g d a e c i j R F))
def zX (c a:Γ) (d e:Nat) (f:Γ) (g h:Nat) (R:VR) (F:PH):Prop:=c.size=2/\Nb F (mX #[(vi 0)] 3) λb F=>jU a d c e f b g h R F
def zY (d a:Γ) (b:Nat) (e:Γ) (g h:Nat) (R:VR) (F:PH):Prop:=((Nb F (mX #[(vi 4)] 3) λf F=>zX d a f b e g h R F)/\(Nb F (mX #[(vi 0)] 3) λc F=>nj a d b e c g h R F))
def KU (c a:Γ) (h:Nat) (d:Γ) (b i j:Nat) (R:VR) (F:PH):Prop:=((Nb F (mX #[(vi 4)] 3) λg F=>zW c a h d g b i j R F)/\(Nb F (mX #[(vi 0)] 3) λe F=>nk c a h d b e i j R F)/\(Ca 157 #[oc a] F λf F=>F.row (Am h 0) d/\F.row (Am h 0) c/\zY c f b d i j R F))
def KV (a c:Γ) (g b h i:Nat) (R:VR) (F:PH):Prop:=a.size=2/\((Nb F (mX #[(vi 4)] 3) λe F=>KR c g a e b h i R F)/\(Nb F (mX #[(vi 0)] 3) λf F=>KT c g a b f h i R F)/\(Ca 56 #[(vi 0)] F λd F=>F.row (Am g 0) a/\F.row (Am g 0) c/\KU c d g a b h i R F))
def KW (a c:Γ) (g d b h i:Nat) (R:VR) (F:PH):Prop:=a.size=2/\((Nb F (mX #[(vi 1)] 3) λf F=>zK c g a d f b h i R F)/\(Ca 56 #[(vi 0)] F λe F=>F.row (Am g 0) c/\F.row (Am g 0) a/\ni c e g a d b h i R F))
def KX (a c:Γ) (g d b h i:Nat) (R:VR) (F:PH):Prop:=a.size=2/\((Nb F (mX #[(vi 4)] 3) λf F=>zS c g a f d b h i R F)/\(Ca 56 #[(vi 0)] F λe F=>F.row (Am g 0) a/\F.row (Am g 0) c/\nk c e g a d b h i R F))
def KY (b d a:Γ) (h e c i j:Nat) (R:VR) (F:PH):Prop:=b.size=2/\((Nb F (mX #[(vi 1)] 3) λg F=>zM d a h b e g c i j R F)/\(Ca 157 #[oc a] F λf F=>F.row (Am h 0) d/\F.row (Am h 0) b/\mZ f d e b c i j R F))
def KZ (b e a:Γ) (h c d i j:Nat) (R:VR) (F:PH):Prop:=b.size=2/\((Nb F (mX #[(vi 4)] 3) λg F=>zU e a h b g c d i j R F)/\(Ca 157 #[oc a] F λf F=>F.row (Am h 0) b/\F.row (Am h 0) e/\nj f e c b d i j R F))
def K9 (e f:Γ) (b c:Nat) (a:Γ) (g h:Nat) (R:VR) (F:PH):Prop:=e.size=2/\Nb F (mX #[(vi 1)] 3) λd F=>zN f b e d c a g h R F
def La (e f:Γ) (b c:Nat) (a:Γ) (g h:Nat) (R:VR) (F:PH):Prop:=e.size=2/\Nb F (mX #[(vi 4)] 3) λd F=>zV f d b e c a g h R F
def zZ (a e f:Γ) (b g h:Nat) (R:VR) (F:PH):Prop:=a.size=2/\((Nb F (mX #[(vi 4)] 3) λc F=>K9 e f c b a g h R F)/\(Nb F (mX #[(vi 1)] 3) λd F=>La f e d b a g h R F))
def z6 (c d a:Γ) (h b i j:Nat) (R:VR) (F:PH):Prop:=((Nb F (mX #[(vi 4)] 3) λg F=>KY c d a h g b i j R F)/\(Nb F (mX #[(vi 1)] 3) λf F=>KZ d c a h f b i j R F)/\(Ca 157 #[oc a] F λe F=>F.row (Am h 0) d/\F.row (Am h 0) c/\zZ e c d b i j R F))
def Lc (b c:Γ) (g a h i:Nat) (R:VR) (F:PH):Prop:=((Nb F (mX #[(vi 4)] 3) λe F=>KW b c g e a h i R F)/\(Nb F (mX #[(vi 1)] 3) λf F=>KX c b g f a h i R F)/\(Ca 56 #[(vi 0)] F λd F=>F.row (Am g 0) c/\F.row (Am g 0) b/\z6 b c d g a h i R F))
def Ld (c d a:Γ) (h b i j:Nat) (R:VR) (F:PH):Prop:=c.size=2/\((Nb F (mX #[(vi 1)] 3) λf F=>zO d a h c b f i j R F)/\(Nb F (mX #[(vi 0)] 3) λg F=>ni d a h c b g i j R F)/\(Ca 157 #[oc a] F λe F=>F.row (Am h 0) d/\F.row (Am h 0) c/\zR d e b c i j R F))
def Le (c d a:Γ) (h b i j:Nat) (R:VR) (F:PH):Prop:=c.size=2/\((Nb F (mX #[(vi 4)] 3) λf F=>zW d a h c f b i j R F)/\(Nb F (mX #[(vi 0)] 3) λg F=>nk d a h c b g i j R F)/\(Ca 157 #[oc a] F λe F=>F.row (Am h 0) c/\F.row (Am h 0) d/\zY d e b c i j R F))
def Lf (c f a:Γ) (b g h:Nat) (R:VR) (F:PH):Prop:=c.size=2/\((Nb F (mX #[(vi 1)] 3) λd F=>zQ f a b c d g h R F)/\(Nb F (mX #[(vi 0)] 3) λe F=>mZ a f b c e g h R F))
def Lj (c f a:Γ) (b g h:Nat) (R:VR) (F:PH):Prop:=c.size=2/\((Nb F (mX #[(vi 4)] 3) λd F=>zX f a d b c g h R F)/\(Nb F (mX #[(vi 0)] 3) λe F=>nj a f b c e g h R F))
def Ll (b c a:Γ) (g h:Nat) (R:VR) (F:PH):Prop:=((Nb F (mX #[(vi 4)] 3) λd F=>Lf b c a d g h R F)/\(Nb F (mX #[(vi 1)] 3) λe F=>Lj c b a e g h R F)/\(Nb F (mX #[(vi 0)] 3) λf F=>zZ a b c f g h R F))
def Lm (b c a:Γ) (h i j:Nat) (R:VR) (F:PH):Prop:=((Nb F (mX #[(vi 4)] 3) λe F=>Ld b c a h e i j R F)/\(Nb F (mX #[(vi 1)] 3) λf F=>Le c b a h f i j R F)/\(Nb F (mX #[(vi 0)] 3) λg F=>z6 b c a h g i j R F)/\(Ca 157 #[oc a] F λd F=>F.row (Am h 0) c/\F.row (Am h 0) b/\Ll b c d i j R F))
def Qu (R:VR) (F:PH):Prop:=Nb F (mX zG 39) λP F=>Nb F (mX #[pg ⟨#[69]⟩] 9) λb3 F=>Ca 52 #[nV (Sb b3 1)] F λQ F=>Nb F (mX zG 39) λa F=>aB F (Am a 0) 9 Q λF=>Ca 85 #[oY nZ] F λS F=>Nb F (mX zD 33) λj F=>aB F (Am j 0) 2 S λF=>Ls F (Am a 5) λg=>Ca 54 #[(vi 0)] F λD F=>F.cell (Am a 5)=mB (nV g)/\Ca 55 #[(vi 1)] F λE F=>F.cell (Am a 5)=mB (nV g)/\Ca 54 #[(vi 0)] F λl F=>F.cell (Am a 5)=mB (nV g)/\D.size=2/\E.size=2/\l.size=2/\Nb F (mX (wr (wr (wr (#[oY nS,vi 0,.bool nS,vi 0,.bool nS,vi 0]:Γ) 0 D.toList) 2 E.toList) 4 l.toList) 130) λT F=>Ca 53 #[pg ⟨#[97,100,100]⟩,(vi 0),nV (Sb T 3)] F λm F=>F.cell (Am a 5)=mB (nV g)/\m.size=13/\Nb F (mX m 64) λU F=>Ap 35 #[nV g,nV (Sb U 1)] F λG F=>rj F (Am a 5) (nV G) λF=>Ls F (Am a 5) λb=>Ca 54 #[(vi 0)] F λn F=>F.cell (Am a 5)=mB (nV b)/\Ca 55 #[(vi 2)] F λo F=>F.cell (Am a 5)=mB (nV b)/\Ca 54 #[(vi 0)] F λp F=>F.cell (Am a 5)=mB (nV b)/\n.size=2/\o.size=2/\p.size=2/\Nb F (mX (wr (wr (wr (#[oY nS,vi 0,.bool nS,vi 0,.bool nS,vi 0]:Γ) 0 n.toList) 2 o.toList) 4 p.toList) 130) λV F=>Ca 53 #[pg ⟨#[109,117,108]⟩,(vi 0),nV (Sb V 3)] F λq F=>F.cell (Am a 5)=mB (nV b)/\q.size=13/\Nb F (mX q 64) λW F=>Ap 35 #[nV b,nV (Sb W 1)] F λH F=>rj F (Am a 5) (nV H) λF=>Ls F (Am a 5) λc=>Ca 55 #[(vi 3)] F λr F=>F.cell (Am a 5)=mB (nV c)/\Ca 54 #[(vi 0)] F λs F=>F.cell (Am a 5)=mB (nV c)/\Ca 55 #[(vi 4)] F λt F=>F.cell (Am a 5)=mB (nV c)/\r.size=2/\s.size=2/\t.size=2/\Nb F (mX (wr (wr (wr (#[oY nS,vi 0,.bool nS,vi 0,.bool nS,vi 0]:Γ) 0 r.toList) 2 s.toList) 4 t.toList) 130) λX F=>Ca 53 #[pg ⟨#[98,114,97,99,107,101,116]⟩,(vi 0),nV (Sb X 3)] F λu F=>F.cell (Am a 5)=mB (nV c)/\u.size=13/\Nb F (mX u 64) λY F=>Ap 35 #[nV c,nV (Sb Y 1)] F λI F=>rj F (Am a 5) (nV I) λF=>Ls F (Am a 5) λh=>Ca 55 #[(vi 0)] F λv F=>F.cell (Am a 5)=mB (nV h)/\v.size=2/\Nb F (mX v 130) λZ F=>Ca 53 #[pg ⟨#[110,97,109,101]⟩,(vi 0),nV (Sb Z 1)] F λw F=>F.cell (Am a 5)=mB (nV h)/\w.size=13/\Nb F (mX w 64) λaa F=>Ap 35 #[nV h,nV (Sb aa 1)] F λJ F=>rj F (Am a 5) (nV J) λF=>Ls F (Am a 5) λd=>Ca 54 #[(vi 0)] F λx F=>F.cell (Am a 5)=mB (nV d)/\Ca 55 #[(vi 8)] F λy F=>F.cell (Am a 5)=mB (nV d)/\Ca 54 #[(vi 0)] F λz F=>F.cell (Am a 5)=mB (nV d)/\x.size=2/\y.size=2/\z.size=2/\Nb F (mX (wr (wr (wr (#[oY nS,vi 0,.bool nS,vi 0,.bool nS,vi 0]:Γ) 0 x.toList) 2 y.toList) 4 z.toList) 130) λab F=>Ca 53 #[pg ⟨#[112,111,119]⟩,(vi 0),nV (Sb ab 3)] F λA F=>F.cell (Am a 5)=mB (nV d)/\A.size=13/\Nb F (mX A 64) λac F=>Ap 35 #[nV d,nV (Sb ac 1)] F λK F=>rj F (Am a 5) (nV K) λF=>Ls F (Am a 5) λL=>Ix L 2 λM=>rj F (od (od M (pc 2*13)) 5) (oY nZ) λF=>Ls F (Am a 5) λB=>Ca 56 #[(vi 1)] F λN F=>F.cell (Am a 5)=mB (nV B)/\Ix B 4 λO=>aB F (od (od O (pc 4*13)) 3) 2 N λF=>Lr F 2 (Am j 0) λe=>Lr F 2 (Am j 0) λf=>((Nb F (mX #[(vi 4)] 3) λad F=>NP e f j ad a P R F)/\(Nb F (mX #[(vi 1)] 3) λC F=>KV f e j C a P R F)/\(Nb F (mX #[(vi 0)] 3) λk F=>Lc e f j k a P R F)/\(Ca 56 #[(vi 0)] F λi F=>F.row (Am j 0) f/\F.row (Am j 0) e/\Lm e f i j a P R F))
theorem qfF (h:Qu R F):ν 122 #[] F R:=Rx.Λ .N h
def qD (f e:Nat) (R:VR) (F:PH):Prop:=Ls F (Am e 8) λa=>Ca 56 #[(vi 1)] F λb F=>F.cell (Am e 8)=mB (nV a)/\Ix a 1 λc=>aB F (od (od c (pc 1*9)) 7) 2 b λF=>Lr F 9 (Am e 0) λd=>aB F (Am f 0) 9 d λF=>Rr 9 (Am f 0) R F
def Qv (R:VR) (F:PH):Prop:=Nb F (mX zG 39) λb0 F=>Nb F (mX #[pg ⟨#[83]⟩,pg ⟨#[67]⟩] 9) λb3 F=>Ca 52 #[nV (Sb b3 2)] F λO F=>Nb F (mX zG 39) λa F=>aB F (Am a 0) 9 O λF=>Ca 85 #[oY nZ] F λP F=>Nb F (mX zD 33) λN F=>aB F (Am N 0) 2 P λF=>Ls F (Am a 5) λf=>Ca 55 #[(vi 5)] F λC F=>F.cell (Am a 5)=mB (nV f)/\Ca 54 #[(vi 1)] F λD F=>F.cell (Am a 5)=mB (nV f)/\Ca 54 #[(vi 0)] F λk F=>F.cell (Am a 5)=mB (nV f)/\Ca 55 #[(vi 6)] F λl F=>F.cell (Am a 5)=mB (nV f)/\Ca 54 #[(vi 0)] F λm F=>F.cell (Am a 5)=mB (nV f)/\C.size=2/\D.size=2/\k.size=2/\l.size=2/\m.size=2/\Nb F (mX (wr (wr (wr (wr (wr (#[oY nS,vi 0,.bool nS,vi 0,.bool nS,vi 0,.bool nS,vi 0,.bool nS,vi 0]:Γ) 0 C.toList) 2 D.toList) 4 k.toList) 6 l.toList) 8 m.toList) 130) λQ F=>Ca 53 #[pg ⟨#[98,111,116,104]⟩,(vi 0),nV (Sb Q 5)] F λn F=>F.cell (Am a 5)=mB (nV f)/\n.size=13/\Nb F (mX n 64) λS F=>Ap 35 #[nV f,nV (Sb S 1)] F λE F=>rj F (Am a 5) (nV E) λF=>Ls F (Am a 5) λd=>Ca 55 #[(vi 5)] F λo F=>F.cell (Am a 5)=mB (nV d)/\Ca 54 #[(vi 1)] F λp F=>F.cell (Am a 5)=mB (nV d)/\Ca 54 #[(vi 0)] F λq F=>F.cell (Am a 5)=mB (nV d)/\o.size=2/\p.size=2/\q.size=2/\Nb F (mX (wr (wr (wr (#[oY nS,vi 0,.bool nS,vi 0,.bool nS,vi 0]:Γ) 0 o.toList) 2 p.toList) 4 q.toList) 130) λT F=>Ca 53 #[pg ⟨#[116,104,101,110]⟩,(vi 0),nV (Sb T 3)] F λr F=>F.cell (Am a 5)=mB (nV d)/\r.size=13/\Nb F (mX r 64) λU F=>Ap 35 #[nV d,nV (Sb U 1)] F λG F=>rj F (Am a 5) (nV G) λF=>Ls F (Am a 5) λg=>Ca 54 #[(vi 1)] F λs F=>F.cell (Am a 5)=mB (nV g)/\Ca 55 #[(vi 7)] F λt F=>F.cell (Am a 5)=mB (nV g)/\s.size=2/\t.size=2/\Nb F (mX (wr (wr (#[oY nS,vi 0,.bool nS,vi 0]:Γ) 0 s.toList) 2 t.toList) 130) λV F=>Ca 53 #[pg ⟨#[99,97,108,108]⟩,(vi 0),nV (Sb V 2)] F λu F=>F.cell (Am a 5)=mB (nV g)/\u.size=13/\Nb F (mX u 64) λW F=>Ap 35 #[nV g,nV (Sb W 1)] F λH F=>rj F (Am a 5) (nV H) λF=>Ls F (Am a 5) λe=>Ca 55 #[(vi 3)] F λv F=>F.cell (Am a 5)=mB (nV e)/\Ca 54 #[(vi 0)] F λw F=>F.cell (Am a 5)=mB (nV e)/\Ca 55 #[(vi 4)] F λx F=>F.cell (Am a 5)=mB (nV e)/\v.size=2/\w.size=2/\x.size=2/\Nb F (mX (wr (wr (wr (#[oY nS,vi 0,.bool nS,vi 0,.bool nS,vi 0]:Γ) 0 v.toList) 2 w.toList) 4 x.toList) 130) λX F=>Ca 53 #[pg ⟨#[98,108,111,99,107]⟩,(vi 0),nV (Sb X 3)] F λy F=>F.cell (Am a 5)=mB (nV e)/\y.size=13/\Nb F (mX y 64) λY F=>Ap 35 #[nV e,nV (Sb Y 1)] F λI F=>rj F (Am a 5) (nV I) λF=>Ls F (Am a 5) λh=>Ca 55 #[(vi 0)] F λz F=>F.cell (Am a 5)=mB (nV h)/\z.size=2/\Nb F (mX z 130) λZ F=>Ca 53 #[pg ⟨#[119,111,114,100]⟩,(vi 1),nV (Sb Z 1)] F λA F=>F.cell (Am a 5)=mB (nV h)/\A.size=13/\Nb F (mX A 64) λaa F=>Ap 35 #[nV h,nV (Sb aa 1)] F λJ F=>rj F (Am a 5) (nV J) λF=>Ls F (Am a 5) λK=>Ix K 3 λL=>rj F (od (od L (pc 3*13)) 5) (oY nZ) λF=>Lr F 2 (Am N 0) λb=>((Ca 56 #[(vi 0)] F λi F=>F.row (Am N 0) b/\i.size=2/\Nb F (mX #[(vi 5),(vi 6)] 3) λM F=>b.size=2/\(wr (tL (tL (tL zF 0 (vi 2)) 2 (vi 2)) 3 (vi 1)) 7 i.toList).size=9/\(wr (tL (tL zF 0 (vi 5)) 6 (nV (Sb M 2))) 7 b.toList).size=9/\Nb F (mX (wr (wr (#[vi 0,vi 0,vi 0,vi 0,vi 0,vi 0,.slice nC 0 0,.slice nC 0 0,vi 0,vi 0,vi 0,vi 0,vi 0,vi 0,vi 0,.slice nC 0 0,.slice nC 0 0,vi 0]:Γ) 0 (wr (tL (tL (tL zF 0 (vi 2)) 2 (vi 2)) 3 (vi 1)) 7 i.toList).toList) 9 (wr (tL (tL zF 0 (vi 5)) 6 (nV (Sb M 2))) 7 b.toList).toList) 233) λab F=>rj F (Am a 8) (nV (Sb ab 2)) λF=>qD b0 a R F)/\(Nb F (mX #[(vi 5),(vi 6)] 3) λj F=>b.size=2/\Ca 56 #[(vi 0)] F λc F=>F.row (Am N 0) b/\c.size=2/\(wr (tL (tL (tL zF 0 (vi 2)) 2 (vi 2)) 3 (vi 1)) 7 c.toList).size=9/\(wr (tL (tL zF 0 (vi 5)) 6 (nV (Sb j 2))) 7 b.toList).size=9/\Nb F (mX (wr (wr (#[vi 0,vi 0,vi 0,vi 0,vi 0,vi 0,.slice nC 0 0,.slice nC 0 0,vi 0,vi 0,vi 0,vi 0,vi 0,vi 0,vi 0,.slice nC 0 0,.slice nC 0 0,vi 0]:Γ) 0 (wr (tL (tL (tL zF 0 (vi 2)) 2 (vi 2)) 3 (vi 1)) 7 c.toList).toList) 9 (wr (tL (tL zF 0 (vi 5)) 6 (nV (Sb j 2))) 7 b.toList).toList) 233) λB F=>rj F (Am a 8) (nV (Sb B 2)) λF=>qD b0 a R F))
theorem qfG (h:Qv R F):ν 123 #[] F R:=Rx.Λ (.qa8 (.qa8 (.qa8 (.qa8 (.qa8 (.qa8 (.qa8 (.qa8 (.qa8 (.J nS [] .N .N)))))))))) h
def Qw (R:VR) (F:PH):Prop:=Nb F (mX zG 39) λX F=>Nb F (mX #[pg ⟨#[66]⟩,pg ⟨#[73]⟩] 9) λY F=>Ca 52 #[nV (Sb Y 2)] F λK F=>Nb F (mX zG 39) λa F=>aB F (Am a 0) 9 K λF=>Ls F (Am a 5) λs=>Ca 54 #[(vi 1)] F λt F=>F.cell (Am a 5)=mB (nV s)/\t.size=2/\Nb F (mX t 130) λZ F=>Ca 53 #[pg ⟨#[111,110,101]⟩,(vi 0),nV (Sb Z 1)] F λu F=>F.cell (Am a 5)=mB (nV s)/\u.size=13/\Nb F (mX u 64) λb9 F=>Ap 35 #[nV s,nV (Sb b9 1)] F λv F=>rj F (Am a 5) (nV v) λF=>Ls F (Am a 5) λc=>Ca 54 #[(vi 0)] F λf F=>F.cell (Am a 5)=mB (nV c)/\Ca 54 #[(vi 1)] F λg F=>F.cell (Am a 5)=mB (nV c)/\f.size=2/\g.size=2/\Nb F (mX (wr (wr (#[oY nS,vi 0,.bool nS,vi 0]:Γ) 0 f.toList) 2 g.toList) 130) λL F=>Ca 53 #[pg ⟨#[108,105,115,116]⟩,(vi 0),nV (Sb L 2)] F λh F=>F.cell (Am a 5)=mB (nV c)/\h.size=13/\Nb F (mX h 64) λM F=>Ap 35 #[nV c,nV (Sb M 1)] F λw F=>rj F (Am a 5) (nV w) λF=>Ls F (Am a 5) λe=>Ca 55 #[(vi 0)] F λi F=>F.cell (Am a 5)=mB (nV e)/\i.size=2/\Nb F (mX i 130) λN F=>Ca 53 #[pg ⟨#[119,111,114,100]⟩,(vi 1),nV (Sb N 1)] F λj F=>F.cell (Am a 5)=mB (nV e)/\j.size=13/\Nb F (mX j 64) λO F=>Ap 35 #[nV e,nV (Sb O 1)] F λx F=>rj F (Am a 5) (nV x) λF=>Ls F (Am a 5) λb=>Ca 55 #[(vi 5)] F λk F=>F.cell (Am a 5)=mB (nV b)/\Ca 55 #[(vi 0)] F λl F=>F.cell (Am a 5)=mB (nV b)/\Ca 54 #[(vi 0)] F λm F=>F.cell (Am a 5)=mB (nV b)/\k.size=2/\l.size=2/\m.size=2/\Nb F (mX (wr (wr (wr (#[oY nS,vi 0,.bool nS,vi 0,.bool nS,vi 0]:Γ) 0 k.toList) 2 l.toList) 4 m.toList) 130) λP F=>Ca 53 #[pg ⟨#[104,101,97,100]⟩,(vi 1),nV (Sb P 3)] F λn F=>F.cell (Am a 5)=mB (nV b)/\n.size=13/\Nb F (mX n 64) λQ F=>Ap 35 #[nV b,nV (Sb Q 1)] F λy F=>rj F (Am a 5) (nV y) λF=>Ls F (Am a 5) λd=>Ca 55 #[(vi 5)] F λo F=>F.cell (Am a 5)=mB (nV d)/\Ca 54 #[(vi 0)] F λp F=>F.cell (Am a 5)=mB (nV d)/\o.size=2/\p.size=2/\Nb F (mX (wr (wr (#[oY nS,vi 0,.bool nS,vi 0]:Γ) 0 o.toList) 2 p.toList) 130) λS F=>Ca 53 #[pg ⟨#[108,105,110,101]⟩,(vi 1),nV (Sb S 2)] F λq F=>F.cell (Am a 5)=mB (nV d)/\q.size=13/\Nb F (mX q 64) λT F=>Ap 35 #[nV d,nV (Sb T 1)] F λz F=>rj F (Am a 5) (nV z) λF=>Ls F (Am a 5) λA=>(#[(vi 2),(vi 0),(vi 1)]:Γ).size=3/\Nb F (mX (#[(vi 2),(vi 0),(vi 1)]:Γ) 260) λU F=>Ix A 1 λB=>rj F (od (od B (pc 1*13)) 7) (nV (Sb U 1)) λF=>Ls F (Am a 5) λC=>(#[(vi 3),(vi 0),(vi 2)]:Γ).size=3/\(#[(vi 1),(vi 2),vi 0]:Γ).size=3/\Nb F (mX (wr (wr (#[vi 0,vi 0,vi 0,vi 0,vi 0,vi 0]:Γ) 0 (#[(vi 3),(vi 0),(vi 2)]:Γ).toList) 3 (#[(vi 1),(vi 2),vi 0]:Γ).toList) 260) λV F=>Ix C 3 λD=>rj F (od (od D (pc 3*13)) 7) (nV (Sb V 2)) λF=>Ls F (Am a 5) λE=>(#[(vi 4),(vi 0),(vi 1)]:Γ).size=3/\Nb F (mX (#[(vi 4),(vi 0),(vi 1)]:Γ) 260) λW F=>Ix E 4 λG=>rj F (od (od G (pc 4*13)) 7) (nV (Sb W 1)) λF=>Ls F (Am a 5) λr=>Ca 56 #[(vi 0)] F λH F=>F.cell (Am a 5)=mB (nV r)/\Ix r 4 λI=>aB F (od (od I (pc 4*13)) 3) 2 H λF=>Lr F 9 (Am a 0) λJ=>aB F (Am X 0) 9 J λF=>Rr 9 (Am X 0) R F
theorem qfH (h:Qw R F):ν 124 #[] F R:=Rx.Λ .N h
def Qx (R:VR) (F:PH):Prop:=Nb F (mX zG 39) λb0 F=>Nb F (mX #[pg ⟨#[83]⟩,pg ⟨#[87]⟩,pg ⟨#[86]⟩] 9) λb2 F=>Ca 52 #[nV (Sb b2 3)] F λO F=>Nb F (mX zG 39) λa F=>aB F (Am a 0) 9 O λF=>Ls F (Am a 5) λh=>Ca 54 #[(vi 1)] F λw F=>F.cell (Am a 5)=mB (nV h)/\Ca 54 #[(vi 2)] F λx F=>F.cell (Am a 5)=mB (nV h)/\w.size=2/\x.size=2/\Nb F (mX (wr (wr (#[oY nS,vi 0,.bool nS,vi 0]:Γ) 0 w.toList) 2 x.toList) 130) λb8 F=>Ca 53 #[pg ⟨#[112,97,105,114]⟩,(vi 0),nV (Sb b8 2)] F λy F=>F.cell (Am a 5)=mB (nV h)/\y.size=13/\Nb F (mX y 64) λP F=>Ap 35 #[nV h,nV (Sb P 1)] F λz F=>rj F (Am a 5) (nV z) λF=>Ls F (Am a 5) λe=>Ca 55 #[(vi 0)] F λi F=>F.cell (Am a 5)=mB (nV e)/\i.size=2/\Nb F (mX i 130) λQ F=>Ca 53 #[pg ⟨#[115,105,110,103,108,101]⟩,(vi 1),nV (Sb Q 1)] F λj F=>F.cell (Am a 5)=mB (nV e)/\j.size=13/\Nb F (mX j 64) λS F=>Ap 35 #[nV e,nV (Sb S 1)] F λA F=>rj F (Am a 5) (nV A) λF=>Ls F (Am a 5) λb=>Ca 55 #[(vi 0)] F λk F=>F.cell (Am a 5)=mB (nV b)/\Ca 55 #[(vi 0)] F λl F=>F.cell (Am a 5)=mB (nV b)/\k.size=2/\l.size=2/\Nb F (mX (wr (wr (#[oY nS,vi 0,.bool nS,vi 0]:Γ) 0 k.toList) 2 l.toList) 130) λT F=>Ca 53 #[pg ⟨#[100,111,117,98,108,101]⟩,(vi 1),nV (Sb T 2)] F λm F=>F.cell (Am a 5)=mB (nV b)/\m.size=13/\Nb F (mX m 64) λU F=>Ap 35 #[nV b,nV (Sb U 1)] F λB F=>rj F (Am a 5) (nV B) λF=>Ls F (Am a 5) λn=>Nb F (mX #[] 130) λV F=>Ca 53 #[pg ⟨#[110,111,110,101]⟩,(vi 2),nV (Sb V 0)] F λo F=>F.cell (Am a 5)=mB (nV n)/\o.size=13/\Nb F (mX o 64) λW F=>Ap 35 #[nV n,nV (Sb W 1)] F λC F=>rj F (Am a 5) (nV C) λF=>Ls F (Am a 5) λc=>Ca 55 #[(vi 0)] F λp F=>F.cell (Am a 5)=mB (nV c)/\Ca 54 #[(vi 2)] F λq F=>F.cell (Am a 5)=mB (nV c)/\p.size=2/\q.size=2/\Nb F (mX (wr (wr (#[oY nS,vi 0,.bool nS,vi 0]:Γ) 0 p.toList) 2 q.toList) 130) λX F=>Ca 53 #[pg ⟨#[110,101,120,116]⟩,(vi 2),nV (Sb X 2)] F λr F=>F.cell (Am a 5)=mB (nV c)/\r.size=13/\Nb F (mX r 64) λY F=>Ap 35 #[nV c,nV (Sb Y 1)] F λD F=>rj F (Am a 5) (nV D) λF=>Ls F (Am a 5) λd=>Ca 55 #[(vi 1)] F λs F=>F.cell (Am a 5)=mB (nV d)/\Ca 54 #[(vi 2)] F λt F=>F.cell (Am a 5)=mB (nV d)/\s.size=2/\t.size=2/\Nb F (mX (wr (wr (#[oY nS,vi 0,.bool nS,vi 0]:Γ) 0 s.toList) 2 t.toList) 130) λZ F=>Ca 53 #[pg ⟨#[109,97,114,107]⟩,(vi 2),nV (Sb Z 2)] F λu F=>F.cell (Am a 5)=mB (nV d)/\u.size=13/\Nb F (mX u 64) λaa F=>Ap 35 #[nV d,nV (Sb aa 1)] F λE F=>rj F (Am a 5) (nV E) λF=>Ls F (Am a 5) λG=>Ix G 1 λH=>rj F (od (od H (pc 1*13)) 6) (vi (-1:Int)) λF=>Ls F (Am a 5) λv=>Ca 56 #[(vi 1)] F λI F=>F.cell (Am a 5)=mB (nV v)/\Ix v 5 λJ=>aB F (od (od J (pc 5*13)) 3) 2 I λF=>Nb F (mX #[(vi 0)] 3) λK F=>Ca 56 #[(vi 0)] F λf F=>f.size=2/\Nb F (mX #[(vi 1)] 3) λL F=>Ca 56 #[(vi 1)] F λM F=>Ca 157 #[oc M] F λg F=>g.size=2/\(wr (tL (tL (tL zF 0 (vi 3)) 4 (vi 1)) 6 (nV (Sb K 1))) 7 f.toList).size=9/\(wr (tL (tL (tL zF 0 (vi 4)) 4 (vi 2)) 6 (nV (Sb L 1))) 7 g.toList).size=9/\Nb F (mX (wr (wr (#[vi 0,vi 0,vi 0,vi 0,vi 0,vi 0,.slice nC 0 0,.slice nC 0 0,vi 0,vi 0,vi 0,vi 0,vi 0,vi 0,vi 0,.slice nC 0 0,.slice nC 0 0,vi 0]:Γ) 0 (wr (tL (tL (tL zF 0 (vi 3)) 4 (vi 1)) 6 (nV (Sb K 1))) 7 f.toList).toList) 9 (wr (tL (tL (tL zF 0 (vi 4)) 4 (vi 2)) 6 (nV (Sb L 1))) 7 g.toList).toList) 233) λab F=>rj F (Am a 8) (nV (Sb ab 2)) λF=>Lr F 9 (Am a 0) λN=>aB F (Am b0 0) 9 N λF=>Rr 9 (Am b0 0) R F
theorem qfI (h:Qx R F):ν 125 #[] F R:=Rx.Λ .N h
def Qy (R:VR) (F:PH):Prop:=Nb F (mX zG 39) λN F=>Nb F (mX #[pg ⟨#[83]⟩,pg ⟨#[79]⟩,pg ⟨#[80]⟩] 9) λO F=>Ca 52 #[nV (Sb O 3)] F λB F=>Nb F (mX zG 39) λa F=>aB F (Am a 0) 9 B λF=>Ls F (Am a 5) λc=>Ca 54 #[(vi 1)] F λp F=>F.cell (Am a 5)=mB (nV c)/\Ca 55 #[(vi 0)] F λq F=>F.cell (Am a 5)=mB (nV c)/\Ca 54 #[(vi 1)] F λr F=>F.cell (Am a 5)=mB (nV c)/\Ca 54 #[(vi 2)] F λs F=>F.cell (Am a 5)=mB (nV c)/\p.size=2/\q.size=2/\r.size=2/\s.size=2/\Nb F (mX (wr (wr (wr (wr (#[oY nS,vi 0,.bool nS,vi 0,.bool nS,vi 0,.bool nS,vi 0]:Γ) 0 p.toList) 2 q.toList) 4 r.toList) 6 s.toList) 130) λC F=>Ca 53 #[pg ⟨#[97,108,108]⟩,(vi 0),nV (Sb C 4)] F λe F=>F.cell (Am a 5)=mB (nV c)/\e.size=13/\Nb F (mX e 64) λD F=>Ap 35 #[nV c,nV (Sb D 1)] F λt F=>rj F (Am a 5) (nV t) λF=>Ls F (Am a 5) λf=>Nb F (mX #[] 130) λE F=>Ca 53 #[pg ⟨#[110,111]⟩,(vi 1),nV (Sb E 0)] F λg F=>F.cell (Am a 5)=mB (nV f)/\g.size=13/\Nb F (mX g 64) λG F=>Ap 35 #[nV f,nV (Sb G 1)] F λu F=>rj F (Am a 5) (nV u) λF=>Ls F (Am a 5) λd=>Ca 55 #[(vi 1)] F λh F=>F.cell (Am a 5)=mB (nV d)/\h.size=2/\Nb F (mX h 130) λH F=>Ca 53 #[pg ⟨#[121,101,115]⟩,(vi 1),nV (Sb H 1)] F λi F=>F.cell (Am a 5)=mB (nV d)/\i.size=13/\Nb F (mX i 64) λI F=>Ap 35 #[nV d,nV (Sb I 1)] F λv F=>rj F (Am a 5) (nV v) λF=>Ls F (Am a 5) λj=>Nb F (mX #[] 130) λJ F=>Ca 53 #[pg ⟨#[101,110,100]⟩,(vi 2),nV (Sb J 0)] F λk F=>F.cell (Am a 5)=mB (nV j)/\k.size=13/\Nb F (mX k 64) λK F=>Ap 35 #[nV j,nV (Sb K 1)] F λw F=>rj F (Am a 5) (nV w) λF=>Ls F (Am a 5) λb=>Ca 55 #[(vi 1)] F λl F=>F.cell (Am a 5)=mB (nV b)/\Ca 54 #[(vi 2)] F λm F=>F.cell (Am a 5)=mB (nV b)/\l.size=2/\m.size=2/\Nb F (mX (wr (wr (#[oY nS,vi 0,.bool nS,vi 0]:Γ) 0 l.toList) 2 m.toList) 130) λL F=>Ca 53 #[pg ⟨#[114,101,115,116]⟩,(vi 2),nV (Sb L 2)] F λn F=>F.cell (Am a 5)=mB (nV b)/\n.size=13/\Nb F (mX n 64) λM F=>Ap 35 #[nV b,nV (Sb M 1)] F λx F=>rj F (Am a 5) (nV x) λF=>Ls F (Am a 5) λo=>Ca 56 #[(vi 0)] F λy F=>F.cell (Am a 5)=mB (nV o)/\Ix o 4 λz=>aB F (od (od z (pc 4*13)) 3) 2 y λF=>Lr F 9 (Am a 0) λA=>aB F (Am N 0) 9 A λF=>Rr 9 (Am N 0) R F
theorem qfJ (h:Qy R F):ν 126 #[] F R:=Rx.Λ .N h
def qE (a c:Int) (b:Nat) (d:Bool) (R:VR) (F:PH):Prop:=Bb (d) (Ca 85 #[oY nZ] F λe F=>aB F (Am b 0) 2 e λF=>Rr 2 (Am b 0) R F) (c≠0/\Ca 56 #[(vi (tK (i64.wrap (u8.wrap (Int.tdiv a 6))) c))] F λf F=>Nb F (mX zD 33) λk F=>aB F (Am k 0) 2 f λF=>Bc ((tK a 6)=3) (Lr F 2 (Am k 0) λg=>aB F (Am b 0) 2 g λF=>Rr 2 (Am b 0) R F) (Bc ((tK a 6)=4) (Lr F 2 (Am k 0) λh=>Ca 157 #[oc h] F λi F=>aB F (Am b 0) 2 i λF=>Rr 2 (Am b 0) R F) (Nb F (mX #[tJ .u8 a] 5) λl F=>Ca 93 #[nV (Sb l 1),(vi c)] F λj F=>aB F (Am b 0) 2 j λF=>Rr 2 (Am b 0) R F)))
def Qz (a b:Int) (R:VR) (F:PH):Prop:=Nb F (mX zD 33) λc F=>Bc (b=0) (qE a b c nZ R F) (qE a b c (decide ((tK a 6)<3)) R F)
theorem qfK {a:Int} {b:Int} (h:Qz a b R F):ν 128 #[tJ .u8 a,(vi b)] F R:=Rx.Λ (.qa8 (.T (.J nS [(12,.bool)] .N .N) .N)) h
def dp (c b:Nat) (R:VR) (F:PH):Prop:=Lr F 13 (Am c 0) λa=>aB F (Am b 0) 13 a λF=>Rr 13 (Am b 0) R F
def QA (p:Γ) (a:Int) (R:VR) (F:PH):Prop:=Nb F (mX p 64) λc F=>Nb F (mX zP 64) λd F=>Ls F (Am c 2) λb=>Bc ((b.len:Int)=0) (Lr F 13 (Am c 0) λg=>aB F (Am d 0) 13 g λF=>Rr 13 (Am d 0) R F) (Bc ((tK a 8)=1) (rj F (Am c 6) (vi 1) λF=>dp c d R F) (Bc ((tK a 8)=2) (rj F (Am c 6) (vi (-1:Int)) λF=>dp c d R F) (Bc ((tK a 8)=3) (rj F (Am c 5) (oY nZ) λF=>Lr F 13 (Am c 0) λh=>vc 161 #[oc h] F λi F=>rj F (Am c 5) (oY i) λF=>dp c d R F) (Bc ((tK a 8)=4) ((b.len:Int)≠0/\(#[(vi (i64.wrap (1+(tK (i64.wrap (u8.wrap (Int.tdiv a 8))) 4)))),(vi (tK (i64.wrap (Int.tdiv (i64.wrap (u8.wrap (Int.tdiv a 8))) 4)) (b.len:Int))),(vi (i64.wrap ((b.len:Int) - 1)))]:Γ).size=3/\Nb F (mX (#[(vi (i64.wrap (1+(tK (i64.wrap (u8.wrap (Int.tdiv a 8))) 4)))),(vi (tK (i64.wrap (Int.tdiv (i64.wrap (u8.wrap (Int.tdiv a 8))) 4)) (b.len:Int))),(vi (i64.wrap ((b.len:Int) - 1)))]:Γ) 260) λq F=>rj F (Am c 7) (nV (Sb q 1)) λF=>Bc ((tK (i64.wrap (u8.wrap (Int.tdiv a 8))) 4)=0) (Ls F (Am c 7) λj=>Ix j 0 λk=>rj F (od (od k (pc 0*3)) 2) (vi 0) λF=>dp c d R F) (dp c d R F)) (Bc ((tK a 8)=5) (rj F (Am c 8) (oY nZ) λF=>dp c d R F) (Bc ((tK a 8)=6) (Ls F (Am c 2) λl=>(b.len:Int)≠0/\Ix l (tK (i64.wrap (u8.wrap (Int.tdiv a 8))) (b.len:Int)) λm=>∃e,F.cell (od m (pc (tK (i64.wrap (u8.wrap (Int.tdiv a 8))) (b.len:Int))*2))=mB (oY e)/\Bb (e) ((b.len:Int)≠0/\aB F (Am c 8) 5 (#[oY nS,(vi (i64.wrap ((tK (i64.wrap (u8.wrap (Int.tdiv a 8))) (b.len:Int))+1))),(vi (i64.wrap (1+(tK (i64.wrap (u8.wrap (Int.tdiv a 8))) 2)))),vi 0,vi 0]:Γ) λF=>dp c d R F) (dp c d R F)) (Bc ((tK a 8)=7) (Ls F (Am c 2) λn=>(b.len:Int)≠0/\Ix n (tK (i64.wrap (u8.wrap (Int.tdiv a 8))) (b.len:Int)) λo=>∃f,F.cell (od o (pc (tK (i64.wrap (u8.wrap (Int.tdiv a 8))) (b.len:Int))*2))=mB (oY f)/\Bb (f) ((b.len:Int)≠0/\aB F (Am c 8) 5 (#[oY nS,vi 0,vi 0,(vi (i64.wrap ((tK (i64.wrap (u8.wrap (Int.tdiv a 8))) (b.len:Int))+1))),(vi (i64.wrap (1+(tK (i64.wrap (u8.wrap (Int.tdiv a 8))) 7))))]:Γ) λF=>dp c d R F) (dp c d R F)) (dp c d R F))))))))
theorem qfL {b:Γ} {a:Int} (h:QA b a R F):ν 129 #[oc b,tJ .u8 a] F R:=Rx.Λ (.qa8 (.qa8 (.qa8 (.qa8 (.J nS [] .N .N))))) h
def Ff (R:VR) (F:PH):Prop:=R (oY nS) F
def Fh (b:Ω) (_:Int) (_:Nat) (a:Int) (_:VR) (F:PH):Prop:=b (i64.wrap (a+1)) F
def xK (m n:Ω) (c:Int) (l:Nat) (a:Int) (R:VR) (b:Int) (F:PH):Prop:=Ls F (Am l 7) λd=>Ix d a λe=>Ls F (od e (pc a*4)) λf=>Bc (b<(f.len:Int)) (Ls F (Am l 7) λg=>Ix g a λh=>Ls F (od h (pc a*4)) λi=>Ix i b λj=>Li F (od j (pc b*1)) λk=>Bc (k=c) (R (oY nZ) F) (n (i64.wrap (b+1)) F)) (Fh m c l a R F)
def xL (h:Ω) (d:Int) (g:Nat) (R:VR) (a:Int) (F:PH):Prop:=Ls F (Am g 7) λe=>Bc (a<(e.len:Int)) ((∃(f:Nat->Ω) (c:Nat),f c 0 F/\∀c b F,f c b F-> xK h (WX f c) d g a R b F)) (Ff R F)
def QB (a:Γ) (b:Int) (R:VR) (F:PH):Prop:=Nb F (mX a 39) λd F=>Lp 0 F λN c F=>xL N b d R c F
theorem qfM {a:Γ} {b:Int} (h:QB a b R F):ν 130 #[oc a,(vi b)] F R:=Rx.Λ (.qa8 (.J nS [] (.qa8 (.L [(5,.int .i64)] (.qa8 (.J nS [] (.qa8 (.L [(6,.int .i64)] .N)) .N)))) .N)) h
def qF (u b:Nat) (c:Bool) (R:VR) (F:PH):Prop:=Bb (c) (Li F (Am b 4) λd=>Bc (0<=d) (Li F (Am b 4) λe=>Ls F (Am u 4) λf=>Bc (e<(f.len:Int)) (Lr F 9 (Am u 0) λg=>Ls F (Am b 6) λh=>vc 164 #[oc g,nV h,oY nS] F λi F=>R (oY i) F) (R (oY nS) F)) (R (oY nS) F)) (Li F (Am b 5) λj=>Bc (j<0) (R (oY nS) F) (Li F (Am b 5) λk=>Ls F (Am u 3) λl=>Bc ((l.len:Int)<=k) (R (oY nS) F) (Lr F 9 (Am u 0) λm=>Ls F (Am b 6) λn=>vc 164 #[oc m,nV n,oY nZ] F λo F=>Bb ((!o)) (R (oY nS) F) (Ls F (Am u 3) λp=>Li F (Am b 5) λa=>Ix p a λq=>Lr F 7 (od q (pc a*7)) λr=>Nb F (mX zT 166) λv F=>aB F (Am v 0) 7 r λF=>Li F (Am v 1) λs=>Bc (s=0) (Lx F (Am v 2) λt=>R (oY (t.toList==(ByteArray.mk #[]).toList)) F) (R (oY nS) F)))))
def qG (h a:Nat) (b:Int) (i:Bool) (R:VR) (F:PH):Prop:=Bb (i) (Li F (Am a 1) λj=>Bc (j<0) (R (oY nS) F) (Li F (Am a 1) λk=>Ls F (Am h 5) λl=>Bc ((l.len:Int)<=k) (R (oY nS) F) (Li F (Am a 3) λm=>Bc (m<0) (R (oY nS) F) (Li F (Am a 3) λn=>Ls F (Am h 5) λo=>Bc ((o.len:Int)<=n) (R (oY nS) F) (Ls F (Am h 5) λp=>Li F (Am a 1) λd=>Ix p d λq=>Ls F (od (od q (pc d*13)) 2) λc=>Li F (Am a 2) λr=>Bc (0<=r) (Li F (Am a 2) λs=>Bc (s<(c.len:Int)) (Li F (Am a 2) λe=>Ix c e λt=>Lb F (od t (pc e*2)) λu=>Bb ((!u)) (Li F (Am a 2) λf=>Ix c f λv=>Li F (od (od v (pc f*2)) 1) λw=>Ls F (Am h 5) λx=>Li F (Am a 3) λg=>Ix x g λy=>Li F (od (od y (pc g*13)) 1) λz=>R (oY (decide (w=z))) F) (R (oY nS) F)) (R (oY nS) F)) (R (oY nS) F)))))) (Bc (b=3) (qF h a (decide (b=3)) R F) (qF h a (decide (b=4)) R F))
def QC (i j:Γ) (R:VR) (F:PH):Prop:=Nb F (mX i 39) λk F=>Nb F (mX j 233) λb F=>Li F (Am b 0) λl=>Bc (l<1) (R (oY nS) F) (Li F (Am b 0) λc=>Bc (5<c) (R (oY nS) F) (Lr F 2 (Am b 7) λd=>Ls F (Am k 0) λe=>vc 162 #[oc d,(vi (e.len:Int))] F λf F=>Bb ((!f)) (R (oY nS) F) (Lr F 9 (Am b 0) λg=>vc 163 #[oc g] F λh F=>Bb ((!h)) (R (oY nS) F) (Li F (Am b 0) λa=>Bc (a=1) (qG k b a (decide (a=1)) R F) (qG k b a (decide (a=2)) R F)))))
theorem qfN {a:Γ} {b:Γ} (h:QC a b R F):ν 131 #[oc a,oc b] F R:=Rx.Λ (.qa8 (.qa8 (.T (.qa8 (.J nS [(31,.bool)] .N (.qa8 (.J nS [(100,.bool)] .N .N)))) .N))) h
def Fj (c:Int) (d:Nat) (R:VR) (F:PH):Prop:=Lr F 2 (Am d 3) λa=>vc 132 #[oc a,tJ .u64 c] F λb F=>R (oY b) F
def qH (b:Ω) (_:Int) (_ _:Nat) (a:Int) (_:VR) (F:PH):Prop:=b (i64.wrap (a+1)) F
def xM (p:Ω) (c:Int) (o d:Nat) (R:VR) (a:Int) (F:PH):Prop:=Ls F (Am d 2) λk=>Bc (a<(k.len:Int)) (Ls F (Am d 2) λe=>Ix e a λf=>Lb F (od f (pc a*2)) λg=>Bb (g) (Ls F (Am o 3) λh=>Ls F (Am d 2) λi=>Ix i a λj=>Li F (od (od j (pc a*2)) 1) λb=>Ix h b λl=>Lr F 2 (od (od l (pc b*7)) 5) λm=>vc 132 #[oc m,tJ .u64 c] F λn F=>F.cell (od (od j (pc a*2)) 1)=mB (vi b)/\F.cell (Am d 2)=mB (nV i)/\F.cell (Am o 3)=mB (nV h)/\F.cell (od f (pc a*2))=mB (oY g)/\F.cell (Am d 2)=mB (nV e)/\Bb ((!n)) (R (oY nS) F) (qH p c o d a R F)) (qH p c o d a R F)) (Fj c d R F)
def QD (e:Γ) (f a:Int) (R:VR) (F:PH):Prop:=Nb F (mX e 39) λh F=>Ls F (Am h 5) λb=>Ix b a λc=>Lr F 13 (od c (pc a*13)) λd=>Nb F (mX zP 64) λi F=>aB F (Am i 0) 13 d λF=>Lp 0 F λN g F=>xM N f h i R g F
theorem qfO {a:Γ} {b:Int} {c:Int} (h:QD a b c R F):ν 138 #[oc a,tJ .u64 b,(vi c)] F R:=Rx.Λ (.qa8 (.qa8 (.J nS [] (.qa8 (.L [(8,.int .i64)] (.qa8 (.J nS [] .N .N)))) .N))) h
def QE (r:Γ) (R:VR) (F:PH):Prop:=Nb F (mX r 64) λa F=>Ls F (Am a 2) λs=>Bc ((s.len:Int)≠3) (R (oY nS) F) (Li F (Am a 6) λt=>Bc (t≠0) (R (oY nS) F) (Ls F (Am a 7) λd=>Bc ((0:Int)<(d.len:Int)) (R (oY nS) F) (Lr F 5 (Am a 8) λe=>∃b,(∀F,s9 prog (Op.equal 60 (oc e) (oc (#[oY nS,vi 0,vi 0,vi 0,vi 0]:Γ))) F b)/\Bb ((!b)) (R (oY nS) F) (Ls F (Am a 2) λf=>Ix f 0 λg=>Lb F (od g (pc 0*2)) λh=>Bb (h) (Ls F (Am a 2) λi=>Ix i 2 λj=>Lb F (od j (pc 2*2)) λk=>Bb (k) (Ls F (Am a 2) λl=>Ix l 1 λm=>Lb F (od m (pc 1*2)) λn=>Bb ((!n)) (Ls F (Am a 2) λo=>Ix o 1 λp=>∃c,F.cell (od (od p (pc 1*2)) 1)=mB (vi c)/\Li F (Am a 1) λq=>R (oY (decide (c=q))) F) (R (oY nS) F)) (R (oY nS) F)) (R (oY nS) F)))))
theorem qfP {a:Γ} (h:QE a R F):ν 161 #[oc a] F R:=Rx.Λ .N h
def Fk (R:VR) (F:PH):Prop:=R (oY nZ) F
def xN (h:Ω) (f:Int) (g:Nat) (R:VR) (a:Int) (F:PH):Prop:=Ls F (Am g 0) λb=>Bc (a<(b.len:Int)) (Ls F (Am g 0) λc=>Ix c a λd=>Li F (od d (pc a*3)) λe=>Bc (f<=e) (R (oY nS) F) (h (i64.wrap (a+1)) F)) (Fk R F)
def QF (a:Γ) (b:Int) (R:VR) (F:PH):Prop:=Nb F (mX a 33) λf F=>Lr F 2 (Am f 0) λc=>Ci 192 #[oc c] F λd F=>Bc (d≠0) (R (oY nS) F) (Lp 0 F λN e F=>xN N b f R e F)
theorem qfQ {a:Γ} {b:Int} (h:QF a b R F):ν 162 #[oc a,(vi b)] F R:=Rx.Λ (.qa8 (.qa8 (.J nS [] (.qa8 (.L [(5,.int .i64)] .N)) .N))) h
def qI (d:Nat) (a:Bool) (R:VR) (F:PH):Prop:=Bb (a) (Li F (Am d 0) λe=>Bc (e=5) (R (oY nZ) F) (Li F (Am d 5) λf=>R (oY (decide (f=0))) F)) (Li F (Am d 4) λg=>Bc (g=0) (Li F (Am d 0) λb=>Bc (b=5) (R (oY nZ) F) (Li F (Am d 5) λc=>R (oY (decide (c=0))) F)) (R (oY nS) F))
def jW (c:Nat) (R:VR) (F:PH):Prop:=Li F (Am c 0) λa=>Bc (a=3) (qI c nZ R F) (Li F (Am c 0) λb=>qI c (decide (b=4)) R F)
def qJ (b:Nat) (a:Bool) (R:VR) (F:PH):Prop:=Bb ((!a)) (Li F (Am b 1) λd=>Bc (d≠0) (R (oY nS) F) (Li F (Am b 2) λe=>Bc (e≠0) (R (oY nS) F) (Li F (Am b 3) λf=>Bc (f≠0) (R (oY nS) F) (Bb (a) (Ls F (Am b 6) λg=>Bc ((0:Int)<(g.len:Int)) (R (oY nS) F) (jW b R F)) (jW b R F))))) (Bb (a) (Ls F (Am b 6) λc=>Bc ((0:Int)<(c.len:Int)) (R (oY nS) F) (jW b R F)) (jW b R F))
def QG (c:Γ) (R:VR) (F:PH):Prop:=Nb F (mX c 233) λb F=>Li F (Am b 0) λd=>Bc (d=1) (qJ b nZ R F) (Li F (Am b 0) λa=>qJ b (decide (a=2)) R F)
theorem qfR {a:Γ} (h:QG a R F):ν 163 #[oc a] F R:=Rx.Λ (.qa8 (.J nS [(3,.bool)] .N (.J nS [] .N (.J nS [(4,.bool)] .N .N)))) h
def Fl (a:Sl) (R:VR) (F:PH):Prop:=R (oY (decide ((0:Int)<(a.len:Int)))) F
def qK (c:Ω) (_:Sl) (_:Bool) (_:Nat) (b:Int) (_:VR) (F:PH):Prop:=c (i64.wrap (b+1)) F
def qL (m:Ω) (d:Sl) (a:Bool) (k:Nat) (b:Int) (R:VR) (F:PH):Prop:=Ls F (Am k 3) λe=>Ix d b λf=>Li F (od f (pc b*1)) λc=>Ix e c λg=>Lr F 7 (od g (pc c*7)) λh=>Nb F (mX zT 166) λl F=>aB F (Am l 0) 7 h λF=>Bb (a) (Lx F (Am l 2) λi=>Bb ((i.toList==(ByteArray.mk #[]).toList)) (R (oY nS) F) (qK m d a k b R F)) (Li F (Am l 1) λj=>Bc (j≠0) (R (oY nS) F) (qK m d a k b R F))
def xO (n:Ω) (c:Sl) (a:Bool) (m:Nat) (R:VR) (b:Int) (F:PH):Prop:=Bc (b<(c.len:Int)) (Ix c b λe=>Li F (od e (pc b*1)) λf=>Bc (f<0) (R (oY nS) F) (Ix c b λg=>Li F (od g (pc b*1)) λh=>Ls F (Am m 3) λi=>Bc ((i.len:Int)<=h) (R (oY nS) F) (Bc (0<b) (Ix c b λj=>Li F (od j (pc b*1)) λk=>Ix c (i64.wrap (b - 1)) λl=>∃d,F.cell (od l (pc (i64.wrap (b - 1))*1))=mB (vi d)/\Bc (k<=d) (R (oY nS) F) (qL n c a m b R F)) (qL n c a m b R F)))) (Fl c R F)
def QH (b:Γ) (c:Sl) (a:Bool) (R:VR) (F:PH):Prop:=Nb F (mX b 39) λe F=>Lp 0 F λN d F=>xO N c a e R d F
theorem qfS {b:Γ} {c:Sl} {a:Bool} (h:QH b c a R F):ν 164 #[oc b,nV c,oY a] F R:=Rx.Λ (.qa8 (.J nS [] (.qa8 (.L [(7,.int .i64)] (.qa8 (.J nS [] (.J nS [] .N .N) .N)))) .N)) h
variable {F:PH}
theorem Lu (i:Int) (F:PH):ν 54 #[vi i] F λr g=>r=oc (Sy.arr ⟨nS,i⟩)/\F.le g:=by refine aal ?_;unfold X8;refine (St.start F).new λb w h=> ?_;refine h.put0 (w':=(Sy.arr ⟨nS,i⟩)) rfl rfl (by simp [ak]) λF2 h=> ?_;exact ⟨_,rfl,h.whole0,rfl,h.le⟩
theorem CD (i:Int) (F:PH):ν 55 #[vi i] F λr g=>r=oc (Sy.arr ⟨nZ,i⟩)/\F.le g:=by refine aam ?_;unfold X9;refine (St.start F).new λb w h=> ?_;refine h.put0 (w':=(Sy.arr ⟨nZ,i⟩)) rfl rfl (by simp [ak]) λF2 h=> ?_;exact ⟨_,rfl,h.whole0,rfl,h.le⟩
theorem dq (lo hi:Int) (F:PH):ν 119 #[vi lo,vi hi] F λr g=>r=oc (Nd.arr ⟨1,lo,hi,0,0⟩)/\F.le g:=by refine qfD ?_;unfold Qr;refine (St.start F).new λb w h=> ?_;refine h.put0 (w':=(Nd.arr ⟨1,lo,hi,0,0⟩)) rfl rfl (by simp [ak]) λF2 h=> ?_;exact ⟨_,rfl,h.whole0,rfl,h.le⟩
theorem cd (k x y:Int) (F:PH):ν 120 #[vi k,vi x,vi y] F λr g=>r=oc (Nd.arr ⟨k,0,0,x,y⟩)/\F.le g:=by refine qfE ?_;unfold Qt;refine (St.start F).new λb w h=> ?_;refine h.put0 (w':=(Nd.arr ⟨k,0,0,x,y⟩)) rfl rfl (by simp [ak]) λF2 h=> ?_;exact ⟨_,rfl,h.whole0,rfl,h.le⟩
theorem DV.out {v:Γ} {d:wc} (h:DV F v d):∃s,v= #[s.v,vi d.2]/\RL F s d.1:=by obtain ⟨s,r,g⟩:=h;exact ⟨s,r,RL.brs.2 g⟩
abbrev dF:wc:=ph (qa6 nZ)
abbrev CE (d:wc) (r:Value) (F:PH):Prop:=∃w,r=oc w/\DV F w d
theorem gV (F:PH):ν 85 #[oY nZ] F λr g=>CE dF r g/\F.le g:=
 (d6 nZ).mono λ_ _ ⟨w,B,h,A⟩=>⟨⟨w,B,h⟩,A⟩
abbrev bA (nm:ByteArray) (left:Int) (right:List Sy):Pr:=⟨nm,left,right,dF,nS,0,[],⟨nS,0,0,0,0⟩⟩
theorem uW (g:ο) (left:Int) {s:Sl} {right:List Sy} {F:PH} (C:RL F s right):ν 53 #[pg g,vi left,s.v] F λr A=>(∃w,r=oc w/\Mem.rep A (bA g left right) w)/\F.le A:=by refine X7 ?_;unfold Tn;refine (St.start F).new λb H h=> ?_;refine h.run (gV _) λ_ G F2 B l h=> ?_;obtain ⟨w,rfl,D⟩:=B;obtain ⟨n,rfl,E⟩:=D.out;refine ⟨_,rfl,rfl,?_⟩;refine h.put0 (w':=(bA g left right).arr s n pk) rfl rfl (by simp [ak,nV]) λF2 h=> ?_;exact ⟨_,rfl,h.whole0,⟨_,rfl,s,n,pk,rfl,(C.le l).le h.le,E.le h.le,.nil _⟩,aa l h.le⟩
theorem bS (v:Nat) (D:v<=63) (F:PH):ν 56 #[vi v] F λr g=>CE (ph (tv v)) r g/\F.le g:=by
 refine aan ?_;unfold Ya;refine (St.start F).new λb I h=> ?_;refine h.run (uq (v:Int)) λ_ G F2 B l h=> ?_;obtain ⟨w,rfl,A⟩:=B;have e:tR (v:Int)=(ph (tv v),0):=by unfold tR;rw [Υ (by omega)];simp
 rw [e] at A ⊢;obtain ⟨n,rfl,C⟩:=A.out;refine ⟨_,_,rfl,?_⟩;refine h.new λE H h=> ?_;refine h.put0 (w':= #[n.v,vi (ph (tv v)).2]) rfl rfl (by simp [ak,nV]) λF2 h=> ?_;refine ⟨_,rfl,h.whole0,?_⟩;refine h.put1 (w':= #[n.v,vi (ph (tv v)).2]) rfl rfl (by simp [ak,nV]) λF2 h=> ?_;exact ⟨_,rfl,h.whole1,⟨_,rfl,DV.mk (C.le h.le)⟩,aa l h.le⟩
theorem Lw {n:Nat}:∀{vs:List Γ} {k:Nat} {c:Γ},(∀d∈vs,d.size=n)->vs[k]? =mB c->∀{off:Nat} {v:Ξ},off+v.length<=n->
  uX (vs.set k (wr c off v))=(uX vs).take (k*n+off)++v++(uX vs).drop (k*n+off+v.length)
 |[],k,c,_,hk,off,v,_=>by simp at hk
 |d::vs,0,c,hn,hk,off,v,ho=>by simp at hk;subst hk;have hd:d.size=n:=hn d (by simp);rw [List.set_cons_zero,cE,cE,V9,yp];have g:=jL v d.toList off (by rw [zA (xs:=d)];omega);rw [show d.toList.toArray=d by simp] at g;have A:d.toList.length=d.size:=zA;rw [g,WJ (by omega),List.drop_append_of_le_length (by omega)];simp []
 |d::vs,k+1,c,hn,hk,off,v,ho=>by
  have hd:d.toList.length=n:=by rw [zA];exact hn d (by simp)
  rw [List.set_cons_succ,cE,cE,Lw (λx h=>hn x (by simp [h])) (by simpa using hk) ho];have r:(k+1)*n+off=d.toList.length+(k*n+off):=by rw [hd,Wr];omega
  have w:(k+1)*n+off+v.length=d.toList.length+(k*n+off+v.length):=by rw [hd,Wr];omega
  rw [w,r,List.take_length_add_append,List.drop_length_add_append];simp []
theorem NQ {α:Type} (L v:List α) {o M:Nat} (h:o+v.length<=M) (r:M<=L.length):(L.take o++v++L.drop (o+v.length)).take M=(L.take M).take o++v++(L.take M).drop (o+v.length):=by
 have g:(L.take o++v).length=o+v.length:=by rw [tT,PM];omega
 rw [List.take_append,g,yY (l:=L.take o++v) (by omega),List.take_take,YY (by omega),List.drop_take]
theorem St.elAt {G F:PH} {As:List (Ψ)} {s:Sl} {e n k:Nat} {vs:List Γ} {c:Γ} (h:St G F As) (i:Nat) (hi:As[i]? =mB (own s e n (uX vs))) (I:∀d∈vs,d.size=n) (M:vs[k]? =mB c) (V:0<n):
  ∃b g,s.qa5=mB ⟨b,0,nC⟩/\k<s.len/\F b=mB (mX g e)/\k*n+n<=g.size/\
   ∀r (v:Ξ),r+v.length<=n->St G (F.set b (mX (wr g (k*n+r) v) e)) (As.set i (own s e n (uX (vs.set k (wr c r v))))):=by
 have a5:k<vs.length:=(N6.1 M).1;have B:∀(l:List Γ),(∀d∈l,d.size=n)->(uX l).length=l.length*n:=by
  intro l;induction l with
  |nil=>intro _;simp [uX]
  |cons d l ih=>intro hd;rw [cE,tT,ih (λx w=>hd x (by simp [w])),zA,hd d (by simp),wo,Wr,XM]
 have L:=B vs I;obtain ⟨Y,-⟩:=h.ownAt hi;rcases Y with ⟨rfl,K⟩|⟨b,g,E,h2,O,P,N,h6⟩
 ·rw [K] at L;have h:=Nat.mul_pos (show 0<vs.length by omega) V;simp at L;omega
 ·have e1:s.len=vs.length:=by rw [L] at N;exact (Nat.eq_of_mul_eq_mul_right V N).symm
  have a0:k*n+n<=s.len*n:=by rw [<- Wr];exact W1 _ (by omega)
  have Z:s.len*n<=g.size:=by rw [O];exact W1 _ P
  refine ⟨b,g,E,by omega,h2,by omega,λr v K=> ?_⟩;obtain ⟨H,X,a2,a3,a4⟩:=h.set (A':=own s e n (uX (vs.set k (wr c r v)))) hi;have D:H b≠nC:=by
   rcases X with ⟨rfl,_⟩|⟨b',Q,U,g2,_⟩
   ·cases E
   ·rw [E] at U;cases U;rw [g2];simp
  have C:∀d∈vs.set k (wr c r v),d.size=n:=by
   intro d hd;rcases List.mem_or_eq_of_mem_set hd with hd|rfl
   ·exact I d hd
   ·rw [dG];exact I c (wh M)
  refine a4 (PH.set (λ_=>nC) b (mX (wr g (k*n+r) v) e)) _ (.inr ⟨b,_,E,aq _ _ _,by rw [dG,O],P,?_,?_⟩) (λx w=> ?_) (λx p w=> ?_) (λx p w J=> ?_)
  ·rw [B _ C,YA,e1]
  ·have W:=jL v g.toList (k*n+r) (by rw [zA (xs:=g)];omega);rw [show g.toList.toArray=g by simp] at W;rw [W,Lw I M K,<- h6];exact NQ _ _ (by omega) (by rw [zA (xs:=g)];omega)
  ·by_cases A:x=b
   ·rw [A];exact .inl D
   ·rw [aw _ _ A] at w;exact absurd rfl w
  ·by_cases A:x=b
   ·rw [A,aq] at w ⊢;exact w
   ·rw [aw _ _ A] at w;cases w
  ·have A:x≠b:=λA=>by subst A;exact D J
   rw [aw _ _ A];exact w
theorem St.elN {G F:PH} {As:List (Ψ)} {s:Sl} {e n k:Nat} {vs:List Γ} {c:Γ} (h:St G F As) (i:Nat) (hi:As[i]? =mB (own s e n (uX vs))) (E:∀d∈vs,d.size=n) (D:vs[k]? =mB c) (H:0<n)
  {off m:Nat} {v:Γ} (B:v.size=m) (O:off+m<=n) (r:∀x∈v.toList,ak x) {C:Ψ} (K:∀w,St G w (As.set i (own s e n (uX (vs.set k (wr c off v.toList)))))->C w):
  ∃a:Addr,s.qa5=mB a/\0<=(k:Int)/\(k:Int)<(s.len:Int)/\aB F (od (od a (pc (k:Int)*n)) off) m v C:=by
 obtain ⟨b,g,J,N,I,M,A⟩:=h.elAt i hi E D H;have L:od (od ⟨b,0,nC⟩ (pc (k:Int)*n)) off=⟨b,k*n+off,nC⟩:=by simp only [aJ,N4,yp]
 refine ⟨_,J,by omega,by omega,?_⟩;rw [L];exact ⟨B,r,g,e,I,rfl,(by show k*n+off+m<=g.size;omega),tP (K _ (A off v.toList (by rw [zA];omega)))⟩
theorem St.el1 {G F:PH} {As:List (Ψ)} {s:Sl} {e n k:Nat} {vs:List Γ} {c:Γ} (h:St G F As) (i:Nat) (hi:As[i]? =mB (own s e n (uX vs))) (B:∀d∈vs,d.size=n) (A:vs[k]? =mB c) (D:0<n)
  {off:Nat} {v:ξ} (M:off<n) {C:Ψ} (I:∀r,St G r (As.set i (own s e n (uX (vs.set k (c.setIfInBounds off v)))))->C r):
  ∃a:Addr,s.qa5=mB a/\0<=(k:Int)/\(k:Int)<(s.len:Int)/\rj F (od (od a (pc (k:Int)*n)) off) v C:=by
 obtain ⟨b,g,H,L,E,K,w⟩:=h.elAt i hi B A D;have J:od (od ⟨b,0,nC⟩ (pc (k:Int)*n)) off=⟨b,k*n+off,nC⟩:=by simp only [aJ,N4,yp]
 refine ⟨_,H,by omega,by omega,?_⟩;rw [J];exact ⟨g,e,E,rfl,(by show k*n+off<g.size;omega),tP (I _ (w off [v] (by show off+1<=n;omega)))⟩
end
