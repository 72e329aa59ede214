/-
  A grammar that is made step by step: one lemma for each kind of statement. Printed by a program (mkIc.py).
-/
import Derived.Test.YteilolbbgieadaaGreatDoorHb
set_option maxRecDepth 10000
open Option renaming some->V,none->I
open Go.Obj renaming cells->Y
open Bool renaming false->mz,true->mY
open Go.Value renaming agg->nL,bool->nS,int->ru,pointer->ph,string->pe
open Go.Addr renaming add->nR,mk->ou
open Int renaming toNat->nT,tmod->sq
open Array renaming setIfInBounds->rV
noncomputable section
namespace Go.Proofs.YteilolbbgieadaaGreatDoor
open Go.IntKind (i64 u8 u64)
open Sl renaming v->nE,nil->pi,mk->ua
open Go Go.Proofs.Tryz
section
namespace St
section
variable {G F:PH} {As:List (Ψ)} {b:Nat} {w:Γ} {e:TypeId}
theorem ld0 (h:St G F (pt b (Y w e)::As)) {i:Nat} {v:ξ} (g:w[i]? =V v):F.cell (ou b i I)=V v:=ld (h.ptAt (i:=0) rfl) g
theorem row0 (h:St G F (pt b (Y w e)::As)) {o:Nat} {d:Γ} (hd:(w.toList.drop o).take d.size=d.toList):F.row (ou b o I) d:=fX (h.ptAt (i:=0) rfl) hd
theorem whole0 (h:St G F (pt b (Y w e)::As)):F.row (ou b 0 I) w:=ai (h.ptAt (i:=0) rfl)
theorem put0 (h:St G F (pt b (Y w e)::As)) {n:Nat} {w':Γ} (B:w'.size=n) (A:w.size=n) (g:∀v∈w'.toList,ak v) {K:Ψ} (C:∀r,St G r (pt b (Y w' e)::As)->K r):
  aA F (ou b 0 I) n w' K:=Ud (h.ptAt (i:=0) rfl) B A g (C _ (h.putAt 0 _ rfl))
theorem set0 (h:St G F (pt b (Y w e)::As)) {i:Nat} {v:ξ} {w':Γ} (hi:i<w.size) (A:w.setIfInBounds i v=w') {K:Ψ} (r:∀g,St G g (pt b (Y w' e)::As)->K g):
  qW F (ou b i I) v K:=Wp (h.ptAt (i:=0) rfl) hi (by subst A;exact r _ (h.putAt 0 _ rfl))
theorem putR0 (h:St G F (pt b (Y w e)::As)) {o n:Nat} {v w':Γ} (B:v.size=n) (g:∀x∈v.toList,ak x) (D:o+n<=w.size) (A:wr w o v.toList=w') {K:Ψ} (C:∀r,St G r (pt b (Y w' e)::As)->K r):
  aA F (ou b o I) n v K:=⟨B,g,w,e,h.ptAt (i:=0) rfl,rfl,D,tR (by subst A;exact C _ (h.putAt 0 _ rfl))⟩
theorem ld1 {g:Ψ} (h:St G F (g::pt b (Y w e)::As)) {i:Nat} {v:ξ} (r:w[i]? =V v):F.cell (ou b i I)=V v:=ld (h.ptAt (i:=1) rfl) r
theorem whole1 {g:Ψ} (h:St G F (g::pt b (Y w e)::As)):F.row (ou b 0 I) w:=ai (h.ptAt (i:=1) rfl)
theorem put1 {r:Ψ} (h:St G F (r::pt b (Y w e)::As)) {n:Nat} {w':Γ} (C:w'.size=n) (B:w.size=n) (g:∀v∈w'.toList,ak v) {K:Ψ} (D:∀A,St G A (r::pt b (Y w' e)::As)->K A):
  aA F (ou b 0 I) n w' K:=Ud (h.ptAt (i:=1) rfl) C B g (D _ (h.putAt 1 _ rfl))
theorem set1 {r:Ψ} (h:St G F (r::pt b (Y w e)::As)) {i:Nat} {v:ξ} {w':Γ} (hi:i<w.size) (B:w.setIfInBounds i v=w') {K:Ψ} (A:∀g,St G g (r::pt b (Y w' e)::As)->K g):
  qW F (ou b i I) v K:=Wp (h.ptAt (i:=1) rfl) hi (by subst B;exact A _ (h.putAt 1 _ rfl))
theorem putR1 {r:Ψ} (h:St G F (r::pt b (Y w e)::As)) {o n:Nat} {v w':Γ} (C:v.size=n) (g:∀x∈v.toList,ak x) (E:o+n<=w.size) (B:wr w o v.toList=w') {K:Ψ} (D:∀A,St G A (r::pt b (Y w' e)::As)->K A):
  aA F (ou b o I) n v K:=⟨C,g,w,e,h.ptAt (i:=1) rfl,rfl,E,tR (by subst B;exact D _ (h.putAt 1 _ rfl))⟩
theorem front1 {g:Ψ} {A:Ψ} (h:St G F (g::A::As)):St G F (A::g::As):=by
 refine h.pick (λi=>if i=0 then 1 else if i<=1 then i - 1 else i) (λi j _ _ e=> ?_) (λi _=> ?_)
 ·repeat' split at e
  all_goals omega
 ·match i with
  |0=>rfl
  |1=>rfl
  |i+2=>rfl
theorem ld2 {r g:Ψ} (h:St G F (r::g::pt b (Y w e)::As)) {i:Nat} {v:ξ} (A:w[i]? =V v):F.cell (ou b i I)=V v:=ld (h.ptAt (i:=2) rfl) A
theorem whole2 {g r:Ψ} (h:St G F (g::r::pt b (Y w e)::As)):F.row (ou b 0 I) w:=ai (h.ptAt (i:=2) rfl)
theorem put2 {r B:Ψ} (h:St G F (r::B::pt b (Y w e)::As)) {n:Nat} {w':Γ} (D:w'.size=n) (C:w.size=n) (g:∀v∈w'.toList,ak v) {K:Ψ} (E:∀A,St G A (r::B::pt b (Y w' e)::As)->K A):
  aA F (ou b 0 I) n w' K:=Ud (h.ptAt (i:=2) rfl) D C g (E _ (h.putAt 2 _ rfl))
theorem set2 {g A:Ψ} (h:St G F (g::A::pt b (Y w e)::As)) {i:Nat} {v:ξ} {w':Γ} (hi:i<w.size) (B:w.setIfInBounds i v=w') {K:Ψ} (C:∀r,St G r (g::A::pt b (Y w' e)::As)->K r):
  qW F (ou b i I) v K:=Wp (h.ptAt (i:=2) rfl) hi (by subst B;exact C _ (h.putAt 2 _ rfl))
theorem front2 {g r:Ψ} {A:Ψ} (h:St G F (g::r::A::As)):St G F (A::g::r::As):=by
 refine h.pick (λi=>if i=0 then 2 else if i<=2 then i - 1 else i) (λi j _ _ e=> ?_) (λi _=> ?_)
 ·repeat' split at e
  all_goals omega
 ·match i with
  |0=>rfl
  |1=>rfl
  |2=>rfl
  |i+3=>rfl
theorem back2 {g r:Ψ} {A:Ψ} (h:St G F (A::g::r::As)):St G F (g::r::A::As):=by
 refine h.pick (λi=>if i=2 then 0 else if i<2 then i+1 else i) (λi j _ _ e=> ?_) (λi _=> ?_)
 ·repeat' split at e
  all_goals omega
 ·match i with
  |0=>rfl
  |1=>rfl
  |2=>rfl
  |i+3=>show (A::g::r::As)[if i+3=2 then 0 else if i+3<2 then i+3+1 else i+3]? =_;rw [Υ (by omega),Υ (by omega)];rfl
theorem ld3 {r g B:Ψ} (h:St G F (r::g::B::pt b (Y w e)::As)) {i:Nat} {v:ξ} (A:w[i]? =V v):F.cell (ou b i I)=V v:=ld (h.ptAt (i:=3) rfl) A
theorem whole3 {g r A:Ψ} (h:St G F (g::r::A::pt b (Y w e)::As)):F.row (ou b 0 I) w:=ai (h.ptAt (i:=3) rfl)
theorem put3 {r B C:Ψ} (h:St G F (r::B::C::pt b (Y w e)::As)) {n:Nat} {w':Γ} (E:w'.size=n) (D:w.size=n) (g:∀v∈w'.toList,ak v) {K:Ψ} (H:∀A,St G A (r::B::C::pt b (Y w' e)::As)->K A):
  aA F (ou b 0 I) n w' K:=Ud (h.ptAt (i:=3) rfl) E D g (H _ (h.putAt 3 _ rfl))
theorem front3 {g r B:Ψ} {A:Ψ} (h:St G F (g::r::B::A::As)):St G F (A::g::r::B::As):=by
 refine h.pick (λi=>if i=0 then 3 else if i<=3 then i - 1 else i) (λi j _ _ e=> ?_) (λi _=> ?_)
 ·repeat' split at e
  all_goals omega
 ·match i with
  |0=>rfl
  |1=>rfl
  |2=>rfl
  |3=>rfl
  |i+4=>rfl
theorem ld4 {g B C r:Ψ} (h:St G F (g::B::C::r::pt b (Y w e)::As)) {i:Nat} {v:ξ} (A:w[i]? =V v):F.cell (ou b i I)=V v:=ld (h.ptAt (i:=4) rfl) A
theorem whole4 {g r B A:Ψ} (h:St G F (g::r::B::A::pt b (Y w e)::As)):F.row (ou b 0 I) w:=ai (h.ptAt (i:=4) rfl)
end
end St
variable {R:VR} {F:PH}
set_option maxHeartbeats 4000000
def Vy (b:Γ) (c:Int) (R:VR) (F:PH):Prop:=Nb F (Y b 39) λg F=>Lr F 9 (Z g 0) λd=>Ci 104 #[nL d] F λe F=>Bc (e=0) (Lr F 9 (Z g 0) λf=>ud 105 #[nL f,ru .u64 c] F λa F=>R (nS a) F) (R (nS mz) F)
theorem qgE {a:Γ} {b:Int} (h:Vy a b R F):ν 75 #[nL a,ru .u64 b] F R:=Rx.Λ .N h
def DY (R:VR) (F:PH):Prop:=R (U 0) F
def wP (j:Ω) (k i:Nat) (R:VR) (a:Int) (F:PH):Prop:=Bc (a<((Sb i 6).len:Int)) (Ix (Sb i 6) a λf=>∃c:ξ,F.cell (nR f (nT a*1))=V c/\Lr F 9 (Z k 0) λg=>Fn c λh d e=>aj prog h (d++([(nL g)]).toArray++e) F λv F=>∃b,v=(U b)/\Bc (b≠0) (R (U b) F) (j (i64.wrap (a+1)) F)) (DY R F)
def OM (b:Γ) (R:VR) (F:PH):Prop:=Nb F (Y b 39) λe F=>Lr F 9 (Z e 0) λc=>ud 139 #[nL c] F λd F=>Bb (d) (R (U 2) F) (Nb F (Y #[.func (.func 140) #[] #[],.func (.func 141) #[] #[],.func (.func 142) #[] #[],.func (.func 143) #[] #[],.func (.func 144) #[] #[],.func (.func 145) #[] #[]] 120) λf F=>Lp 0 F λN a F=>wP N e f R a F)
theorem qdE {a:Γ} (h:OM a R F):ν 104 #[nL a] F R:=Rx.Λ (.qa8 (.qa8 (.qa8 (.J mz [] (.qa8 (.L [(12,.int .i64)] .N)) .N)))) h
def ON (e:Γ) (a:Int) (R:VR) (F:PH):Prop:=Nb F (Y e 39) λf F=>Ls F (Z f 0) λb=>0<=(b.len:Int)/\Bc ((Int.fdiv a (2 ^ (min (nT (b.len:Int)) (u64).bits)))=0) (Lr F 2 (Z f 1) λc=>ud 76 #[nL c,ru .u64 a] F λd F=>R (nS d) F) (R (nS mz) F)
theorem qc8 {a:Γ} {b:Int} (h:ON a b R F):ν 105 #[nL a,ru .u64 b] F R:=Rx.Λ .N h
def OO (h:Γ) (R:VR) (F:PH):Prop:=Nb F (Y h 39) λa F=>Ls F (Z a 0) λi=>Bc ((64:Int)<(i.len:Int)) (R (nS mY) F) (Ls F (Z a 3) λj=>Bc ((256:Int)<(j.len:Int)) (R (nS mY) F) (Ls F (Z a 8) λb=>Bc ((4096:Int)<(b.len:Int)) (R (nS mY) F) (Ls F (Z a 4) λc=>Ls F (Z a 5) λd=>Ls F (Z a 7) λe=>Bc ((2000:Int)<(max (max (c.len:Int) (d.len:Int)) (e.len:Int))) (R (nS mY) F) (Ls F (Z a 5) λf=>ud 167 #[nE f,.func (.func 168) #[] #[]] F λg F=>R (nS g) F))))
theorem qc9 {a:Γ} (h:OO a R F):ν 139 #[nL a] F R:=Rx.Λ .N h
def DZ (e:Nat) (R:VR) (F:PH):Prop:=Lr F 2 (Z e 1) λa=>Ls F (Z e 0) λb=>ud 171 #[nL a,(U (b.len:Int))] F λc F=>Bb ((!c)) (R (U 54) F) (Li F (Z e 2) λd=>Bc (d=0) (R (U 54) F) (R (U 0) F))
def wQ (k:Ω) (l:Nat) (i:ξ) (f:Sl) (R:VR) (a:Int) (F:PH):Prop:=Bc (a<(f.len:Int)) (Ix f a λg=>Lx F (nR g (nT a*1)) λb=>ud 170 #[pe b] F λh F=>Bb ((!h)) (R (U 54) F) (Bb ((b.toList==(ByteArray.mk #[116,114,117,101]).toList)) (R (U 54) F) (Bb ((b.toList==(ByteArray.mk #[102,97,108,115,101]).toList)) (R (U 54) F) (Fn i λj d e=>aj prog j (d++([(pe b)]).toArray++e) F λv F=>∃c,v=(nS c)/\Bb ((!c)) (R (U 54) F) (k (i64.wrap (a+1)) F))))) (DZ l R F)
def OP (c:Γ) (R:VR) (F:PH):Prop:=Nb F (Y c 39) λe F=>ν 169 #[] F λv F=>∃a:ξ,v=a/\Ls F (Z e 0) λd=>Lp 0 F λN b F=>wQ N e a d R b F
theorem qda {a:Γ} (h:OP a R F):ν 140 #[nL a] F R:=Rx.Λ (.qa8 (.qa8 (.J mz [] (.qa8 (.L [(10,.int .i64)] .N)) .N))) h
def D0 (R:VR) (F:PH):Prop:=R (U 0) F
def gi (c:Ω) (_:Nat) (_:ξ) (_:Sl) (b:Int) (a:Bool) (R:VR) (F:PH):Prop:=Bb ((!a)) (R (U 51) F) (c (i64.wrap (b+1)) F)
def wR (j:Ω) (g:Nat) (c:ξ) (b:Sl) (R:VR) (a:Int) (F:PH):Prop:=Bc (a<(b.len:Int)) (Ix b a λk=>Lr F 7 (nR k (nT a*7)) λl=>Nb F (Y zT 166) λd F=>aA F (Z d 0) 7 l λF=>Lx F (Z d 0) λm=>Fn c λB h i=>aj prog B (h++([(pe m)]).toArray++i) F λv F=>∃f,v=(nS f)/\Bb ((!f)) (R (U 51) F) (Li F (Z d 1) λn=>Bc (n<0) (R (U 51) F) (Li F (Z d 1) λo=>Bc (2<o) (R (U 51) F) (Lr F 2 (Z d 5) λp=>Ls F (Z g 0) λq=>ud 171 #[nL p,(U (q.len:Int))] F λr F=>Bb ((!r)) (R (U 51) F) (Lx F (Z d 4) λe=>Lx F (Z d 2) λs=>Bb ((!(s.toList==(ByteArray.mk #[]).toList))) (Bb ((e.toList==(ByteArray.mk #[]).toList)) (Ls F (Z d 3) λt=>gi j g c b a (decide ((t.len:Int)=0)) R F) (gi j g c b a mz R F)) (Ls F (Z d 3) λu=>Ci 172 #[nE u] F λw F=>Bc (w≠0) (gi j g c b a mz R F) (Li F (Z d 1) λx=>Bc (x=0) (Bb ((!(e.toList==(ByteArray.mk #[]).toList))) (Ls F (Z d 3) λy=>Lx F (Z d 4) λz=>ud 173 #[nE y,pe z] F λA F=>gi j g c b a A R F) (gi j g c b a mz R F)) (gi j g c b a (e.toList==(ByteArray.mk #[]).toList) R F)))))))) (D0 R F)
def OQ (c:Γ) (R:VR) (F:PH):Prop:=Nb F (Y c 39) λe F=>ν 169 #[] F λv F=>∃a:ξ,v=a/\Ls F (Z e 3) λd=>Lp 0 F λN b F=>wR N e a d R b F
theorem qdb {a:Γ} (h:OQ a R F):ν 141 #[nL a] F R:=Rx.Λ (.qa8 (.qa8 (.J mz [] (.qa8 (.L [(11,.int .i64)] (.qa8 (.qa8 (.T (.qa8 (.qa8 (.qa8 (.J mz [(6,.bool)] .N .N)))) .N))))) .N))) h
def D1 (d:Nat) (R:VR) (F:PH):Prop:=Li F (Z d 6) λa=>Bc (a<0) (R (U 50) F) (Li F (Z d 6) λb=>Ls F (Z d 4) λc=>Bc ((c.len:Int)<=b) (R (U 50) F) (R (U 0) F))
def wS (j:Ω) (k:Nat) (h:ξ) (e:Sl) (R:VR) (a:Int) (F:PH):Prop:=Bc (a<(e.len:Int)) (Ix e a λf=>Lx F (nR f (nT a*1)) λg=>Fn h λi c d=>aj prog i (c++([(pe g)]).toArray++d) F λv F=>∃b,v=(nS b)/\Bb ((!b)) (R (U 50) F) (j (i64.wrap (a+1)) F)) (D1 k R F)
def OR (c:Γ) (R:VR) (F:PH):Prop:=Nb F (Y c 39) λe F=>ν 169 #[] F λv F=>∃a:ξ,v=a/\Ls F (Z e 4) λd=>Lp 0 F λN b F=>wS N e a d R b F
theorem qdc {a:Γ} (h:OR a R F):ν 142 #[nL a] F R:=Rx.Λ (.qa8 (.qa8 (.J mz [] (.qa8 (.L [(10,.int .i64)] .N)) .N))) h
def D2 (R:VR) (F:PH):Prop:=R (U 0) F
def wT (y:Ω) (u:Nat) (w:ξ) (f:Sl) (R:VR) (a:Int) (F:PH):Prop:=Bc (a<(f.len:Int)) (Ix f a λg=>Lr F 13 (nR g (nT a*13)) λh=>Nb F (Y zP 64) λb F=>aA F (Z b 0) 13 h λF=>Li F (Z b 1) λi=>ud 174 #[nL (#[nS mz,(U i)]:Γ),(Pp u)] F λj F=>Bb (j) (R (U 50) F) (Ls F (Z b 2) λk=>ud 176 #[nE k,.func (.func 174) #[] #[(Pp u)]] F λl F=>Bb (l) (R (U 50) F) (Lx F (Z b 0) λm=>Fn w λx d e=>aj prog x (d++([(pe m)]).toArray++e) F λv F=>∃c,v=(nS c)/\Bb ((!c)) (R (U 52) F) (Lr F 2 (Z b 3) λn=>Ls F (Z u 0) λo=>ud 171 #[nL n,(U (o.len:Int))] F λp F=>Bb ((!p)) (R (U 52) F) (Li F (Z b 6) λq=>Bc (q<(-1:Int)) (R (U 52) F) (Li F (Z b 6) λr=>Bc (1<r) (R (U 52) F) (Lr F 13 (Z b 0) λs=>ud 177 #[nL s] F λt F=>Bb ((!t)) (R (U 52) F) (y (i64.wrap (a+1)) F)))))))) (D2 R F)
def OS (c:Γ) (R:VR) (F:PH):Prop:=Nb F (Y c 39) λe F=>ν 169 #[] F λv F=>∃a:ξ,v=a/\Ls F (Z e 5) λd=>Lp 0 F λN b F=>wT N e a d R b F
theorem qdd {a:Γ} (h:OS a R F):ν 143 #[nL a] F R:=Rx.Λ (.qa8 (.qa8 (.J mz [] (.qa8 (.L [(11,.int .i64)] .N)) .N))) h
def D3 (R:VR) (F:PH):Prop:=R (U 0) F
def D4 (c:Ω) (_ _:Nat) (_:Sl) (a:Int) (_:VR) (F:PH):Prop:=c (i64.wrap (a+1)) F
def wU (k l:Ω) (j i:Nat) (e:Sl) (f:Int) (c:Sl) (R:VR) (a:Int) (F:PH):Prop:=Bc (a<(c.len:Int)) (Ix c a λg=>Li F (nR g (nT a*1)) λb=>Bc (b<0) (R (U 53) F) (Ls F (Z j 5) λh=>Bc ((h.len:Int)<=b) (R (U 53) F) (∃d,pn prog (Instr.lookup 275 (.map (V i)) (U b) mz) F (nS d)/\Bb (d) (R (U 53) F) (aG prog (Instr.mapUpdate 275 (.map (V i)) (U b) (nS mY)) F λ_ F=>l (i64.wrap (a+1)) F)))) (D4 k j i e f R F)
def wV (p:Ω) (o q:Nat) (b:Sl) (R:VR) (a:Int) (F:PH):Prop:=Bc (a<(b.len:Int)) (Ix b a λd=>Lr F 4 (nR d (nT a*4)) λe=>Nb F (Y zL 236) λf F=>aA F (Z f 0) 4 e λF=>Li F (Z f 1) λg=>Bc (g<0) (R (U 53) F) (Li F (Z f 1) λh=>Bc (3<h) (R (U 53) F) (Lr F 2 (Z f 2) λi=>Ls F (Z o 0) λj=>ud 171 #[nL i,(U (j.len:Int))] F λk F=>Bb ((!k)) (R (U 53) F) (Ls F (Z f 0) λl=>(∃(n:Nat->Ω) (m:Nat),n m 0 F/\∀m c F,n m c F-> wU p (Xg n m) o q b a l R c F))))) (D3 R F)
def OT (c:Γ) (R:VR) (F:PH):Prop:=Nb F (Y c 39) λd F=>Nb F (.map #[] 0) λe F=>Ls F (Z d 7) λa=>Lp 0 F λN b F=>wV N d e a R b F
theorem qde {a:Γ} (h:OT a R F):ν 144 #[nL a] F R:=Rx.Λ (.qa8 (.qa8 (.J mz [] (.qa8 (.L [(12,.int .i64)] (.qa8 (.qa8 (.J mz [] (.qa8 (.qa8 (.qa8 (.L [(36,.int .i64)] .N)))) .N))))) .N))) h
def D5 (R:VR) (F:PH):Prop:=R (U 0) F
def dJ (k:Ω) (_ h:Nat) (_:Sl) (i:Int) (a:Bool) (R:VR) (F:PH):Prop:=Bb ((!a)) (R (U 53) F) (Li F (Z h 1) λb=>Bc (b≠0) (R (U 53) F) (Li F (Z h 2) λc=>Bc (c≠0) (R (U 53) F) (Li F (Z h 3) λd=>Bc (d≠0) (R (U 53) F) (Li F (Z h 4) λe=>Bc (e≠0) (R (U 53) F) (Li F (Z h 5) λf=>Bc (f≠0) (R (U 53) F) (Ls F (Z h 6) λg=>Bc ((0:Int)<(g.len:Int)) (R (U 53) F) (k (i64.wrap (i+1)) F)))))))
def iv (o:Ω) (k q p:Nat) (b:Sl) (c:Int) (a:Bool) (R:VR) (F:PH):Prop:=Bb (a) (Ls F (Z k 3) λl=>Li F (Z q 5) λe=>Ix l e λm=>Lr F 7 (nR m (nT e*7)) λn=>ud 178 #[nL n] F λf F=>Bb (f) (Ls F (Z k 3) λg=>Li F (Z q 5) λd=>Ix g d λh=>Lr F 7 (nR h (nT d*7)) λi=>ud 179 #[nL i] F λj F=>dJ o k p b c (!j) R F) (dJ o k p b c mz R F)) (dJ o k p b c mz R F)
def pT (f:Ω) (c e:Nat) (g:Bool) (d:Nat) (a:Sl) (b h:Int) (i:Bool) (R:VR) (F:PH):Prop:=Bb (i) (qW F (Z d 4) (U 0) λF=>qW F (Z d 6) (nE pi) λF=>Bb (g) (Li F (Z e 4) λj=>Bc (0<=j) (Li F (Z e 4) λk=>Ls F (Z c 4) λl=>Bc (k<(l.len:Int)) (Lr F 9 (Z c 0) λm=>Ls F (Z e 6) λn=>ud 181 #[nL m,nE n,.func (.func 178) #[] #[]] F λo F=>dJ f c d a b o R F) (dJ f c d a b mz R F)) (dJ f c d a b mz R F)) (dJ f c d a b mz R F)) (Bc (h=5) (qW F (Z d 5) (U 0) λF=>qW F (Z d 6) (nE pi) λF=>Bb (g) (Lr F 9 (Z c 0) λp=>Ls F (Z e 6) λq=>ud 181 #[nL p,nE q,.func (.func 179) #[] #[]] F λr F=>Bb (r) (Li F (Z e 5) λs=>Bc (0<=s) (Li F (Z e 5) λt=>Ls F (Z c 3) λu=>iv f c e d a b (decide (t<(u.len:Int))) R F) (iv f c e d a b mz R F)) (iv f c e d a b mz R F)) (iv f c e d a b mz R F)) (dJ f c d a b mz R F))
def pU (k:Ω) (f l:Nat) (d:Bool) (e:Nat) (b:Sl) (c a:Int) (g:Bool) (R:VR) (F:PH):Prop:=Bb (g) (qW F (Z e 1) (U 0) λF=>qW F (Z e 2) (U 0) λF=>qW F (Z e 3) (U 0) λF=>Bb (d) (Lr F 9 (Z f 0) λh=>Lr F 9 (Z l 0) λi=>ud 180 #[nL h,nL i] F λj F=>dJ k f e b c j R F) (dJ k f e b c mz R F)) (Bc (a=3) (pT k f l d e b c a (decide (a=3)) R F) (pT k f l d e b c a (decide (a=4)) R F))
def wW (m:Ω) (l:Nat) (c:Sl) (R:VR) (a:Int) (F:PH):Prop:=Bc (a<(c.len:Int)) (Ix c a λf=>Lr F 9 (nR f (nT a*9)) λg=>Nb F (Y zF 233) λe F=>aA F (Z e 0) 9 g λF=>Lr F 2 (Z e 7) λh=>Ls F (Z l 0) λi=>ud 171 #[nL h,(U (i.len:Int))] F λd F=>Lr F 9 (Z e 0) λj=>Nb F (Y zF 233) λk F=>aA F (Z k 0) 9 j λF=>qW F (Z k 0) (U 0) λF=>aA F (Z k 7) 2 zD λF=>Li F (Z e 0) λb=>Bc (b=1) (pU m l e d k c a b (decide (b=1)) R F) (pU m l e d k c a b (decide (b=2)) R F)) (D5 R F)
def OU (c:Γ) (R:VR) (F:PH):Prop:=Nb F (Y c 39) λd F=>Ls F (Z d 8) λa=>Lp 0 F λN b F=>wW N d a R b F
theorem qdf {a:Γ} (h:OU a R F):ν 145 #[nL a] F R:=Rx.Λ (.qa8 (.qa8 (.qa8 (.J mz [] (.qa8 (.L [(12,.int .i64)] (.qa8 (.qa8 (.T (.qa8 (.qa8 (.qa8 (.qa8 (.J mz [(7,.bool)] (.qa8 (.J mz [(28,.bool)] .N (.qa8 (.J mz [(40,.bool)] .N (.qa8 (.qa8 (.T (.qa8 (.J mz [(7,.bool)] .N .N)) .N))))))) .N))))) .N))))) .N)))) h
def OV (a:Γ) (R:VR) (F:PH):Prop:=Nb F (Y a 64) λd F=>Ls F (Z d 2) λb=>Ls F (Z d 7) λc=>R (nS (decide ((16:Int)<(max (b.len:Int) (c.len:Int))))) F
theorem qdg {a:Γ} (h:OV a R F):ν 168 #[nL a] F R:=Rx.Λ .N h
def OW (R:VR) (F:PH):Prop:=Nb F (.map #[] 0) λa F=>aG prog (Instr.mapUpdate 294 (.map (V a)) (pe ⟨#[]⟩) (nS mY)) F λ_ F=>Nb F (Y (#[.map I]) 294) λb F=>qW F (Z b 0) (.map (V a)) λF=>R (.func (.func 200) #[] #[(Pp b)]) F
theorem qdh (h:OW R F):ν 169 #[] F R:=Rx.Λ .N h
def D6 (a:ο) (R:VR) (F:PH):Prop:=R (nS (!(a.toList==(ByteArray.mk #[]).toList))) F
def pV (b:Ω) (_:ο) (a:Int) (_:VR) (F:PH):Prop:=b (i64.wrap (a+1)) F
def fz (e:Ω) (d:ο) (c b:Int) (a:Bool) (R:VR) (F:PH):Prop:=Bb ((!a)) (Bc (c=0) (R (nS mz) F) (Bc (b<48) (R (nS mz) F) (Bc (57<b) (R (nS mz) F) (pV e d c R F)))) (pV e d c R F)
def wX (d:Ω) (b:ο) (R:VR) (c:Int) (F:PH):Prop:=Bc (c<(b.size:Int)) (0<=c/\c<(b.size:Int)/\∃(hx:nT c<b.size) (a:Int),a=((b[nT c]'hx).toNat:Int)/\Bc (97<=a) (Bc (a<=(122:Int)) (fz d b c a mY R F) (Bc (65<=a) (Bc (a<=(90:Int)) (fz d b c a mY R F) (fz d b c a (decide (a=95)) R F)) (fz d b c a (decide (a=95)) R F))) (Bc (65<=a) (Bc (a<=(90:Int)) (fz d b c a mY R F) (fz d b c a (decide (a=95)) R F)) (fz d b c a (decide (a=95)) R F))) (D6 b R F)
def OX (a:ο) (R:VR) (F:PH):Prop:=Lp 0 F λN b F=>wX N a R b F
theorem qdi {a:ο} (h:OX a R F):ν 170 #[pe a] F R:=Rx.Λ (.qa8 (.J mz [] (.qa8 (.L [(8,.int .i64)] (.qa8 (.qa8 (.J mz [] (.qa8 (.qa8 (.J mz [(5,.bool)] .N .N))) .N))))) .N)) h
def OY (b:Γ) (c:Int) (R:VR) (F:PH):Prop:=Nb F (Y b 33) λg F=>Nb F (Y #[(U c)] 3) λh F=>Lr F 2 (Z g 0) λd=>Ci 106 #[nL d] F λe F=>Bc (e≠0) (R (nS mz) F) (Ls F (Z g 0) λf=>ud 201 #[nE f,.func (.func 202) #[] #[(Pp h)]] F λa F=>R (nS (!a)) F)
theorem qdj {a:Γ} {b:Int} (h:OY a b R F):ν 171 #[nL a,(U b)] F R:=Rx.Λ .N h
def OZ (b:Γ) (c:Θ) (R:VR) (F:PH):Prop:=Nb F (Y b 130) λg F=>∃a,c=V a/\Lr F 9 a λd=>Lr F 2 (Z g 0) λe=>ud 175 #[nL d,nL e] F λf F=>R (nS (!f)) F
theorem qdk {a:Γ} {b:Θ} (h:OZ a b R F):ν 174 #[nL a,ph b] F R:=Rx.Λ .N h
def O0 (k l:Γ) (R:VR) (F:PH):Prop:=Nb F (Y k 39) λm F=>Nb F (Y l 130) λb F=>Lb F (Z b 0) λn=>Bb ((!n)) (Li F (Z b 1) λo=>Bc (0<=o) (Li F (Z b 1) λc=>Ls F (Z m 4) λd=>R (nS (decide (c<(d.len:Int)))) F) (R (nS mz) F)) (Li F (Z b 1) λe=>Bc (0<=e) (Li F (Z b 1) λf=>Ls F (Z m 3) λg=>Bc (f<(g.len:Int)) (Ls F (Z m 3) λh=>Li F (Z b 1) λa=>Ix h a λi=>Li F (nR (nR i (nT a*7)) 1) λj=>R (nS (decide (j=0))) F) (R (nS mz) F)) (R (nS mz) F))
theorem qdl {a:Γ} {b:Γ} (h:O0 a b R F):ν 175 #[nL a,nL b] F R:=Rx.Λ .N h
def D7 (a:Nat) (R:VR) (F:PH):Prop:=Lr F 5 (Z a 8) λj=>Nb F (Y (#[nS mz,U 0,U 0,U 0,U 0]) 60) λi F=>aA F (Z i 0) 5 j λF=>Li F (Z i 1) λk=>Li F (Z i 2) λl=>ud 210 #[(U k),(U l),(U 1),(U 7),(Pp a)] F λm F=>Bb ((!m)) (R (nS mz) F) (Li F (Z i 3) λn=>Li F (Z i 4) λo=>ud 210 #[(U n),(U o),(U 0),(U 255),(Pp a)] F λp F=>Bb ((!p)) (R (nS mz) F) (Lb F (Z a 5) λq=>Bb ((!q)) (R (nS mY) F) (Ls F (Z a 2) λr=>Bc ((r.len:Int)≠3) (R (nS mz) F) (Li F (Z a 6) λs=>Bc (s≠0) (R (nS mz) F) (Ls F (Z a 7) λt=>Bc ((0:Int)<(t.len:Int)) (R (nS mz) F) (Lr F 5 (Z i 0) λu=>∃c,(∀F,pn prog (Op.equal 60 (nL u) (nL (#[nS mz,U 0,U 0,U 0,U 0]:Γ))) F c)/\Bb ((!c)) (R (nS mz) F) (Ls F (Z a 2) λv=>Ix v 0 λw=>Lb F (nR w (nT 0*2)) λx=>Bb (x) (Ls F (Z a 2) λy=>Ix y 1 λz=>Lr F 2 (nR z (nT 1*2)) λd=>Li F (Z a 1) λe=>∃b,(∀F,pn prog (Op.equal 130 (nL d) (nL (#[nS mz,(U e)]:Γ))) F b)/\Bb (b) (Ls F (Z a 2) λf=>Ix f 2 λg=>Lb F (nR g (nT 2*2)) λh=>R (nS h) F) (R (nS mz) F)) (R (nS mz) F))))))))
def pW (b:Ω) (_:Nat) (_:Sl) (a:Int) (_:VR) (F:PH):Prop:=b (i64.wrap (a+1)) F
def wY (o:Ω) (d:Nat) (b:Sl) (R:VR) (a:Int) (F:PH):Prop:=Bc (a<(b.len:Int)) (Ix b a λe=>Lr F 3 (nR e (nT a*3)) λf=>Nb F (Y (#[U 0,U 0,U 0]) 260) λc F=>aA F (Z c 0) 3 f λF=>Li F (Z c 0) λg=>Bc (g<1) (R (nS mz) F) (Li F (Z c 0) λh=>Bc (4<h) (R (nS mz) F) (Li F (Z c 1) λi=>ud 209 #[(U i),(Pp d)] F λj F=>Bb ((!j)) (R (nS mz) F) (Li F (Z c 2) λk=>ud 209 #[(U k),(Pp d)] F λl F=>Bb ((!l)) (R (nS mz) F) (Li F (Z c 0) λm=>Bc (m=1) (Li F (Z c 2) λn=>Bc (n≠0) (R (nS mz) F) (pW o d b a R F)) (pW o d b a R F)))))) (D7 d R F)
def O1 (b:Γ) (R:VR) (F:PH):Prop:=Nb F (Y b 64) λd F=>Ls F (Z d 7) λc=>Lp 0 F λN a F=>wY N d c R a F
theorem qdm {a:Γ} (h:O1 a R F):ν 177 #[nL a] F R:=Rx.Λ (.qa8 (.J mz [] (.qa8 (.L [(11,.int .i64)] (.qa8 (.qa8 (.J mz [] .N .N))))) .N)) h
def O2 (a:Γ) (R:VR) (F:PH):Prop:=Nb F (Y a 166) λc F=>Li F (Z c 1) λb=>R (nS (decide (b=0))) F
theorem qdn {a:Γ} (h:O2 a R F):ν 178 #[nL a] F R:=Rx.Λ .N h
def O3 (a:Γ) (R:VR) (F:PH):Prop:=Nb F (Y a 166) λc F=>Lx F (Z c 2) λb=>R (nS (!(b.toList==(ByteArray.mk #[]).toList))) F
theorem qdo {a:Γ} (h:O3 a R F):ν 179 #[nL a] F R:=Rx.Λ .N h
def O4 (v w:Γ) (R:VR) (F:PH):Prop:=Nb F (Y v 39) λu F=>Nb F (Y w 233) λa F=>Li F (Z a 1) λx=>Bc (x<0) (R (nS mz) F) (Li F (Z a 1) λg=>Ls F (Z u 5) λh=>Bc ((h.len:Int)<=g) (R (nS mz) F) (Li F (Z a 3) λi=>Bc (i<0) (R (nS mz) F) (Li F (Z a 3) λj=>Ls F (Z u 5) λk=>Bc ((k.len:Int)<=j) (R (nS mz) F) (Ls F (Z u 5) λl=>Li F (Z a 1) λb=>Ix l b λm=>Ls F (nR (nR m (nT b*13)) 2) λc=>Li F (Z a 2) λn=>Bc (0<=n) (Li F (Z a 2) λo=>Bc (o<(c.len:Int)) (Li F (Z a 2) λd=>Ix c d λp=>Lr F 2 (nR p (nT d*2)) λq=>Ls F (Z u 5) λr=>Li F (Z a 3) λe=>Ix r e λs=>Li F (nR (nR s (nT e*13)) 1) λt=>∃f,(∀F,pn prog (Op.equal 130 (nL q) (nL (#[nS mz,(U t)]:Γ))) F f)/\R (nS f) F) (R (nS mz) F)) (R (nS mz) F)))))
theorem qdp {a:Γ} {b:Γ} (h:O4 a b R F):ν 180 #[nL a,nL b] F R:=Rx.Λ .N h
def D8 (a:Sl) (R:VR) (F:PH):Prop:=R (nS (decide ((0:Int)<(a.len:Int)))) F
def pX (c:Ω) (_:Sl) (_:ξ) (_:Nat) (a:Int) (_:VR) (F:PH):Prop:=c (i64.wrap (a+1)) F
def wZ (u:Ω) (g:Sl) (b:ξ) (n:Nat) (R:VR) (a:Int) (F:PH):Prop:=Bc (a<(g.len:Int)) (Ix g a λo=>Li F (nR o (nT a*1)) λc=>Bc (c<0) (R (nS mz) F) (Ls F (Z n 3) λp=>Bc ((p.len:Int)<=c) (R (nS mz) F) (Bc (0<a) (Ix g (i64.wrap (a - 1)) λq=>∃k,F.cell (nR q (nT (i64.wrap (a - 1))*1))=V (U k)/\Bc (c<=k) (R (nS mz) F) (Ls F (Z n 3) λr=>Ix r c λs=>Lr F 7 (nR s (nT c*7)) λt=>Fn b λm d e=>aj prog m (d++([(nL t)]).toArray++e) F λv F=>∃l,v=(nS l)/\Bb ((!l)) (R (nS mz) F) (pX u g b n a R F))) (Ls F (Z n 3) λh=>Ix h c λi=>Lr F 7 (nR i (nT c*7)) λj=>Fn b λm d e=>aj prog m (d++([(nL j)]).toArray++e) F λv F=>∃f,v=(nS f)/\Bb ((!f)) (R (nS mz) F) (pX u g b n a R F))))) (D8 g R F)
def O5 (c:Γ) (d:Sl) (a:ξ) (R:VR) (F:PH):Prop:=Nb F (Y c 39) λe F=>Lp 0 F λN b F=>wZ N d a e R b F
theorem qdq {b:Γ} {c:Sl} {a:ξ} (h:O5 b c a R F):ν 181 #[nL b,nE c,a] F R:=Rx.Λ (.qa8 (.J mz [] (.qa8 (.L [(11,.int .i64)] (.qa8 (.qa8 (.J mz [] .N .N))))) .N)) h
def O6 (b:ο) (f:Θ) (R:VR) (F:PH):Prop:=∃a,f=V a/\∃c:Option Nat,F.cell a=V (.map c)/\∃d,pn prog (Instr.lookup 294 (.map c) (pe b) mz) F (nS d)/\Bb (d) (R (nS mz) F) (∃e:Option Nat,F.cell a=V (.map e)/\aG prog (Instr.mapUpdate 294 (.map e) (pe b) (nS mY)) F λ_ F=>R (nS mY) F)
theorem qdr {a:ο} {b:Θ} (h:O6 a b R F):ν 200 #[pe a,ph b] F R:=Rx.Λ .N h
def O7 (b:Γ) (c:Θ) (R:VR) (F:PH):Prop:=Nb F (Y b 201) λf F=>Li F (Z f 0) λd=>∃a,c=V a/\Li F a λe=>R (nS (decide (e<=d))) F
theorem qds {a:Γ} {b:Θ} (h:O7 a b R F):ν 202 #[nL a,ph b] F R:=Rx.Λ .N h
def O8 (b:Int) (c:Θ) (R:VR) (F:PH):Prop:=Bc (0<=b) (∃a,c=V a/\Ls F (nR a 2) λd=>R (nS (decide (b<(d.len:Int)))) F) (R (nS mz) F)
theorem qc0 {a:Int} {b:Θ} (h:O8 a b R F):ν 209 #[(U a),ph b] F R:=Rx.Λ .N h
def O9 (b a f d:Int) (j:Θ) (R:VR) (F:PH):Prop:=Bc (b=0) (R (nS (decide (a=0))) F) (Bc (0<b) (∃c,j=V c/\Ls F (nR c 2) λg=>Bc (b<=(g.len:Int)) (Ls F (nR c 2) λh=>Ix h (i64.wrap (b - 1)) λi=>∃e,F.cell (nR i (nT (i64.wrap (b - 1))*2))=V (nS e)/\Bb (e) (Bc (f<=a) (R (nS (decide (a<=d))) F) (R (nS mz) F)) (R (nS mz) F)) (R (nS mz) F)) (R (nS mz) F))
theorem qc1 {d:Int} {a:Int} {c:Int} {b:Int} {e:Θ} (h:O9 d a c b e R F):ν 210 #[(U d),(U a),(U c),(U b),ph e] F R:=Rx.Λ .N h
theorem mj (a b:ο):(a.toList==b.toList)=decide (a=b):=by rw [Km,wi,δ,δ];exact ⟨Cq,λh=>by rw [h]⟩
theorem zg (a b:ο):(a==b)=decide (a=b):=by show (a.data==b.data)=_;rw [wi,beq_iff_eq,δ];exact ⟨λh=>by cases a;cases b;cases h;rfl,λh=>by rw [h]⟩
instance:LawfulBEq ο where
 eq_of_beq {a b} h:=by rw [zg] at h;exact ζ h
 rfl {a}:=by rw [zg];exact ε rfl
abbrev emp:ByteArray:=ByteArray.mk #[]
theorem qf5:oY prog 9 pe:=by
 refine ⟨λF a b=> ?_,λF e a=> ?_,λa=> ?_,_,underlying9,.inl λa b=> ?_⟩
 ·unfold Op.equal Op.maxDepth;show pn prog (Op.equalIn (9999+1) 9 (.string a) (.string b)) F _;unfold Op.equalIn;simp only [am];refine ⟨_,(az underlying9 _).2 rfl,?_⟩;exact zg a b
 ·show pn prog (Instr.checkKey e (9999+1) 9 (.string a)) F ();unfold Instr.checkKey;simp only [am];exact ⟨_,(az underlying9 _).2 rfl,rfl⟩
 ·show (a==a)=mY;rw [zg];simp
 ·show V (a==b)=_;rw [zg]
theorem V2:bu prog 4=V (nS mz):=by kernel_rfl
theorem Sh:fS prog 294 Value.string (.bool mz):=⟨_,_,underlying294,V2,qf5⟩
def gQ (l:List ο) (s:ο):Option ξ:=if s=emp\/s∈l then V (nS mY) else I
def seen (m:Nat) (l:List ο):Ψ:=λH=>∃o,H m=V o/\dX pe (gQ l) o
theorem St.mapAt {G F:PH} {As:List (Ψ)} {m:Nat} {l:List ο} (h:St G F (seen m l::As)):∃o,F m=V o/\dX pe (gQ l) o:=by obtain ⟨H,⟨o,r,w⟩,_,g⟩:=h.get (i:=0) rfl;exact ⟨o,g _ _ r,w⟩
theorem St.mapSet {G F:PH} {As:List (Ψ)} {m:Nat} {l l':List ο} {o':Obj} (h:St G F (seen m l::As)) (B:dX pe (gQ l') o'):St G (F.set m o') (seen m l'::As):=by
 obtain ⟨H,⟨o,w,_⟩,D,A,C⟩:=h.set (i:=0) (A':=seen m l') rfl;refine C (H.set m o') _ ⟨o',aq _ _ _,B⟩ (λx g=> ?_) (λx p g=> ?_) (λx p g r=> ?_)
 ·by_cases e:x=m
  ·rw [e,w];exact .inl (by simp)
  ·rw [aw _ _ e] at g;exact .inl g
 ·by_cases e:x=m
  ·rw [e,aq] at g ⊢;exact g
  ·rw [aw _ _ e] at g ⊢;exact A _ _ g
 ·have e:x≠m:=λe=>by rw [e,w] at r;cases r
  rw [aw _ _ e];exact g
abbrev zh (b:Nat):Value:=.func (.func 200) #[] #[ph (V ⟨b,0,I⟩)]
theorem iw (F:PH):ν 169 #[] F λr J=>∃g b m,r=zh b/\F.le g/\g.cell ⟨b,0,I⟩=V (.map (V m))/\St g J [seen m []]:=by
 refine qdh ?_;unfold OW;intro m D;refine tR ?_;refine bh Sh (aq _ _ _) (dX.empty _) emp (nS mY) λA B=> ?_;rw [aR];have M:St F (F.set m A) [seen m []]:=by
  have C:dX pe (gQ []) A:=by obtain ⟨N,c,L,O,G,E⟩:=B;refine ⟨N,c,L,O,G,λk=> ?_⟩;rw [<- E k];unfold gQ;by_cases e:k=emp<;>simp [e]
  refine (St.start F).push (H:=PH.set (λ_=>I) m A) ⟨A,aq _ _ _,C⟩ (λx w=> ?_) (λx p w=> ?_) (ae A D)
  ·by_cases e:x=m
   ·rw [e];exact D
   ·rw [aw _ _ e] at w;exact absurd rfl w
  ·by_cases e:x=m
   ·rw [e,aq] at w ⊢;exact w
   ·rw [aw _ _ e] at w;cases w
 refine M.new λP Q h=> ?_;refine h.set0 (by decide) rfl λF2 h=> ?_;refine h.pinb (K:=λF2=>∃g b m,_=zh b/\F.le g/\g.cell ⟨b,0,I⟩=V (.map (V m))/\St g F2 [seen m []]) λg l q h=> ?_;exact ⟨g,P,m,rfl,l,ld q rfl,h⟩
theorem BS {G F:PH} {b m:Nat} {l:List ο} (h:St G F [seen m l]) (N:G.cell ⟨b,0,I⟩=V (.map (V m))) (s:ο):
  ν 200 #[pe s,ph (V ⟨b,0,I⟩)] F λr M=>∃J,r=nS (decide (s≠emp/\s ∉ l))/\G.le J/\St J M [seen m (s::l)]:=by
 refine qdr ?_;unfold O6;obtain ⟨o,K,A⟩:=h.mapAt;have w:=aK h.le N;have g:=bM (F:=F) Sh K A s mz;have B:∀k,gQ (s::l) k=if k=s then V (nS mY) else gQ l k:=λk=>by
  unfold gQ;by_cases e:k=s
  ·simp [e]
  ·simp [e]
 by_cases C:s=emp\/s∈l
 ·have D:gQ l s=V (nS mY):=Χ C;rw [D] at g;refine ⟨_,rfl,V m,w,mY,g,λ_=> ?_,λh=>(by cases h)⟩;have hd:decide (s≠emp/\s ∉ l)=mz:=by
   rw [decide_eq_false_iff_not];rintro ⟨O,L⟩;rcases C with h|h
   ·exact O h
   ·exact L h
  refine ⟨G,by rw [hd],au G,?_⟩;have:seen m (s::l)=seen m l:=by
   unfold seen;funext H
   rw [show gQ (s::l)=gQ l from funext λk=>by
    rw [B];by_cases e:k=s
    ·rw [Χ e,e,D]
    ·rw [Υ e]]
  rw [this];exact h
 ·have D:gQ l s=I:=Υ C;rw [D] at g;refine ⟨_,rfl,V m,w,mz,g,λh=>(by cases h),λ_=>⟨V m,w,?_⟩⟩;refine bh Sh K A s (nS mY) λP E=> ?_;have hd:decide (s≠emp/\s ∉ l)=mY:=by rw [δ];exact ⟨λe=>C (.inl e),λe=>C (.inr e)⟩
  refine ⟨G,by rw [hd],au G,h.mapSet ?_⟩;rw [show gQ (s::l)=_ from funext B];exact E
theorem qc2:aF prog 200=mY:=by kernel_rfl
def pj (b:Nat):Prop:=(97<=b/\b<=122)\/(65<=b/\b<=90)\/b=95
def w5 (b:Nat):Prop:=48<=b/\b<=57
instance (b:Nat):Decidable (pj b):=inferInstanceAs (Decidable (_\/_))
instance (b:Nat):Decidable (w5 b):=inferInstanceAs (Decidable (_/\_))
def BT (l:Δ):Bool:=(List.range l.length).all (λi=>decide (pj (l.getD i 0)) || (i !=0 && decide (w5 (l.getD i 0)))) && !l.isEmpty
def oI (s:ο):Bool:=BT (bs s)
theorem Si (s:ο) (i:Nat) (h:i<s.size):(s[i]'h).toNat=(bs s).getD i 0:=by rw [<- Kl];unfold cb;rw [dif_pos h]
theorem qhh {F:PH} (s:ο) (hs:s.size<=1000000000):ν 170 #[pe s] F λr D=>r=nS (oI s)/\F.le D:=by
 refine qdi ?_;unfold OX;have E:=df s;refine bC (wX · s _) s.size (λk D=>F.le D/\∀i,i<k->(pj ((bs s).getD i 0)\/(i≠0/\w5 ((bs s).getD i 0)))) ⟨au F,λi h=>by omega⟩ ?_;rintro k J N hk ⟨O,hi⟩ next;unfold wX;refine ⟨λg=> ?_,λW=> ?_⟩
 ·have g:k<s.size:=by omega
  refine ⟨by omega,by omega,by simpa using g,((bs s).getD k 0:Nat),?_,?_⟩
  ·rw [<- Si s k g];rfl
  generalize Q:(bs s).getD k 0=c;have bad:¬(pj c\/(k≠0/\w5 c))->nS mz=nS (oI s)/\F.le J:=λhn=>by
   refine ⟨?_,O⟩;have:oI s=mz:=by unfold oI BT;rw [Bool.and_eq_false_iff];refine .inl ?_;rw [List.all_eq_false];refine ⟨k,WU.2 (by omega),?_⟩;rw [Q];simp only [W8,δ,VO,bne_iff_ne,ne_eq];exact hn
   rw [this]
  have w:(pj c\/(k≠0/\w5 c))->pV N s (k:Int) (λr D=>r=nS (oI s)/\F.le D) J:=λhg=>by
   unfold pV;rw [aC g];refine next _ g ⟨O,λi C=> ?_⟩;by_cases e:i=k
   ·rw [e,Q];exact hg
   ·exact hi i (by omega)
  have B:∀t:Bool,(t=mY↔pj c)->fz N s (k:Int) (c:Int) t (λr D=>r=nS (oI s)/\F.le D) J:=λt P=>by
   unfold fz;refine ⟨λh=> ?_,λh=>w (.inl (P.1 (by simpa using h)))⟩;have A:¬pj c:=λL=>by rw [P.2 L] at h;cases h
   refine ⟨λX=>bad ?_,λX=>⟨λG=>bad ?_,λG=>⟨λH=>bad ?_,λH=>w ?_⟩⟩⟩
   ·rintro (h|h)
    ·exact A h
    ·omega
   ·rintro (h|h)
    ·exact A h
    ·unfold w5 at h;omega
   ·rintro (h|h)
    ·exact A h
    ·unfold w5 at h;omega
   ·exact .inr ⟨by omega,by unfold w5;omega⟩
  refine ⟨λG=>⟨λH=>B _ ⟨λ_=>by unfold pj;omega,λ_=>rfl⟩,λH=>⟨λM=>⟨λK=>B _ ⟨λ_=>by unfold pj;omega,λ_=>rfl⟩,λK=>B _ ?_⟩,λM=>B _ ?_⟩⟩,
   λG=>⟨λM=>⟨λK=>B _ ⟨λ_=>by unfold pj;omega,λ_=>rfl⟩,λK=>B _ ?_⟩,λM=>B _ ?_⟩⟩
  all_goals (rw [δ];unfold pj;omega)
 ·have e:k=s.size:=by omega
  subst e;unfold D6;refine ⟨?_,O⟩;congr 1;rw [mj];unfold oI BT;have G:(List.range (bs s).length).all (λi=>decide (pj ((bs s).getD i 0)) || (i !=0 && decide (w5 ((bs s).getD i 0))))=mY:=by rw [Vn];intro i C;rw [E] at C;have:=hi i (WU.1 C);simp only [W8,δ,VO,bne_iff_ne,ne_eq];exact this
  rw [G,Wy,wi];simp only [Bool.not_eq_true',decide_eq_false_iff_not,List.isEmpty_eq_false_iff];refine not_congr ⟨λe=>by rw [e];rfl,λe=>Cq (e.trans rfl)⟩
section
variable {α:Type} [Mem α] {F:PH}
def Sj (n:Nat) (j:Ω) (f:Sl) (i:ξ) (R:VR) (a:Int) (F:PH):Prop:=((a<(f.len:Int)-> ∃g:Addr,f.qa5=V g/\0<=a/\a<(f.len:Int)/\∃b:Γ,b.size=n/\F.row (nR g (nT a*n)) b/\∃(h:Nat) (c d:Γ),i=.func (.func h) c d/\aF prog h=mY/\aj prog h (c++([nL b]).toArray++d) F λv F=>∃e:Bool,v=(nS e)/\((e=mY-> R (ru .i64 a) F)/\(e=mz-> j (i64.wrap (a+(1:Int))) F)))/\(¬(a<(f.len:Int))-> R (ru .i64 (-1:Int)) F))
def qf6 (n:Nat) (d:Sl) (e:ξ) (R:VR) (F:PH):Prop:=(∃(f:Nat->Ω) (c:Nat),f c (0:Int) F/\∀c a F,f c a F-> Sj n (λb F=>∃g,g<c/\f g b F) d e R a F)
theorem BU {s:Sl} {l:List α} (J:RL F s l) (D:0<Mem.n α) (Q:l.length<=1000000000) {k:Nat} {fst cap:Γ} (K:aF prog k=mY) (p:α->Bool)
  (O:∀x∈l,∀c B,F.le B->Mem.rep B x c->aj prog k (fst++([nL c]).toArray++cap) B λr C=>r=nS (p x)/\B.le C):
  qf6 (Mem.n α) s (.func (.func k) fst cap) (λr C=>∃i,r=U i/\(0<=i↔l.any p=mY)/\F.le C) F:=by
 have H:=J.len D;refine bC (Sj (Mem.n α) · s (.func (.func k) fst cap) _) l.length (λk C=>F.le C/\(l.take k).any p=mz) ⟨au F,by simp⟩ ?_;rintro i B N hi ⟨w,A⟩ next;unfold Sj;refine ⟨λg=> ?_,λL=> ?_⟩
 ·have g:i<l.length:=by omega
  obtain ⟨a,c,P,M,G⟩:=(J.le w).get D (N5 g);refine ⟨a,P,by omega,by omega,c,Mem.len G,by rw [N4];exact M,k,fst,cap,rfl,K,?_⟩;refine (O _ (U9 g) c B w G).mono ?_;rintro _ F2 ⟨rfl,E⟩;refine ⟨_,rfl,λh=> ?_,λh=> ?_⟩
  ·exact ⟨_,rfl,⟨λ_=>XI.2 ⟨_,U9 g,h⟩,λ_=>by omega⟩,aa w E⟩
  ·rw [aC g];refine next _ g ⟨aa w E,?_⟩;rw [W4 g,List.any_append,A];simp [h]
 ·have e:i=l.length:=by omega
  subst e;rw [wy] at A;exact ⟨_,rfl,⟨λh=>by omega,λh=>by rw [A] at h;cases h⟩,w⟩
end
theorem t6 {α:Type} [Mem α] {F:PH} {s:Sl} {l:List α} (h:RL F s l) (r:0<Mem.n α) {i:Int} (A:0<=i) (D:i<(s.len:Int)) {K:Addr->Prop}
  (k:∀a c x,l[i.toNat]? =V x->F.row (a.add (i.toNat*Mem.n α)) c->Mem.rep F x c->K a):∃a,s.qa5=V a/\0<=i/\i<(s.len:Int)/\K a:=by
 have w:=h.len r;have g:i.toNat<l.length:=by omega
 obtain ⟨a,c,E,C,B⟩:=h.get r (N5 g);exact ⟨a,E,A,D,k a c _ (N5 g) C B⟩
def iz (d:vE) (n:Nat):Prop:=chk d=0/\∀b∈d.1,b.v<n
open Classical in
def sj (d:vE) (n:Nat):Bool:=decide (iz d n)
theorem cP {d:vE} {n:Nat}:sj d n=mY↔iz d n:=by unfold sj;simp
theorem w6 {d:vE} {n:Nat}:sj d n=mz↔¬iz d n:=by unfold sj;simp
theorem qc3:aF prog 202=mY:=by kernel_rfl
theorem gR {F:PH} {v:Γ} {d:vE} {n:Nat} (hd:DV F v d):ν 171 #[nL v,U n] F λr K=>r=nS (sj d n)/\F.le K:=by
 obtain ⟨s,rfl,A⟩:=hd;refine qdj ?_;unfold OY;refine fresh λb2 F1 g q1 _=> ?_;refine fresh λM F2 G q2 _=> ?_;have q1:=G _ _ q1;have A:=A.le (aa g G);have g:=aa g G;refine ⟨_,rfl,ai q1,?_⟩;refine (li (d:=d) ⟨s,rfl,A⟩).mono ?_;rintro _ H ⟨rfl,w⟩;refine ⟨_,rfl,λh=>⟨?_,aa g w⟩,λh=> ?_⟩
 ·have:sj d n=mz:=w6.2 λX=>h X.1;rw [this]
 ·have h:chk d=0:=Classical.not_not.1 h;have N:d.1.length<=4096:=by apply Classical.byContradiction;intro B;unfold chk at h;rw [Χ (by omega)] at h;omega
  refine ⟨_,ld (w _ _ q1) rfl,?_⟩;refine qfe ?_;unfold Ql;have O:RL H s d.1:=(RL.brs.2 A).le w
  refine (show ν 231 #[s.v,.func (.func 202) #[] #[ph (V ⟨M,0,I⟩)]] H (λr K=>∃i,r=U i/\(0<=i↔d.1.any (λb=>decide ((n:Int)<=b.v))=mY)/\H.le K)
   from qeu (BU O (by decide) (by omega) qc3 (λb=>decide ((n:Int)<=b.v)) λx hx c Q E W=> ?_)).mono ?_
  ·rw [show c=aW x from W];refine qds ?_;unfold O7;refine fresh λb F5 L q5 _=> ?_;exact ⟨_,ld q5 rfl,_,rfl,_,ld (L _ _ (E _ _ (w _ _ q2))) rfl,rfl,L⟩
  ·rintro _ Q ⟨i,rfl,hi,E⟩;refine ⟨_,rfl,_,rfl,?_,aa g (aa w E)⟩;congr 1;rw [wi,cP];simp only [Bool.not_eq_true',decide_eq_false_iff_not];rw [hi,XI];constructor
   ·intro P;refine ⟨h,λb B=>Int.not_le.1 λJ=>P ⟨b,B,by simpa using J⟩⟩
   ·rintro ⟨_,B⟩ ⟨b,C,D⟩;have:=B b C;simp at D;omega
def dN (g:Gr):Bool:=decide (64<g.qa4.length\/256<g.qa2.length\/4096<g.fils.length\/2000<g.qa1.length\/2000<g.qa0.length\/2000<g.lvs.length) || g.qa0.any λp=>decide (16<p.right.length\/16<p.lay.length)
theorem MS:aF prog 168=mY:=by kernel_rfl
theorem BV {F:PH} {v:Γ} {g:Gr} (P:GV F v g):ν 139 #[nL v] F λr D=>r=nS (dN g)/\F.le D:=by
 obtain ⟨c,n,t,s,p,l,f,rfl,w⟩:=P;refine qc9 ?_;unfold OO;refine fresh λb1 B A q1 _=> ?_;have L:=w.c.len;have M:=w.t.len;have e3:=w.s.len;have e4:=w.p.len;have e5:=w.l.len;have X:=w.f.len;have bad:(64<g.qa4.length\/256<g.qa2.length\/4096<g.fils.length\/2000<g.qa1.length\/2000<g.qa0.length\/2000<g.lvs.length)->(nS mY=nS (dN g)/\F.le B):=λh=>by refine ⟨?_,A⟩;unfold dN;rw [ε h,Bool.true_or]
 refine ⟨_,ld q1 rfl,λh=>bad (by omega),λG=>⟨_,ld q1 rfl,λh=>bad (by omega),λJ=>⟨_,ld q1 rfl,λh=>bad (by omega),λH=>⟨_,ld q1 rfl,_,ld q1 rfl,_,ld q1 rfl,λh=>bad (by omega),λW=>⟨_,ld q1 rfl,?_⟩⟩⟩⟩⟩;refine qfa ?_;unfold Qj
 refine (show ν 199 #[p.v,.func (.func 168) #[] #[]] B (λr D=>∃i,r=U i/\(0<=i↔g.qa0.any (λp=>decide (16<p.right.length\/16<p.lay.length))=mY)/\B.le D)
  from qfd (BU (w.p.le A) (by decide) (by omega) MS (λp=>decide (16<p.right.length\/16<p.lay.length)) λx hx c N E O=> ?_)).mono ?_
 ·obtain ⟨r,n',l',rfl,G,J,H⟩:=O;refine qdg ?_;unfold OV;refine fresh λb Q K q5 _=> ?_;have L:=G.len;have M:=H.len;refine ⟨_,ld q5 rfl,_,ld q5 rfl,?_,K⟩;congr 1;rw [wi];simp only [δ];omega
 ·rintro _ N ⟨i,rfl,hi,E⟩;refine ⟨_,rfl,_,rfl,?_,aa A E⟩;congr 1;unfold dN;have C:¬(64<g.qa4.length\/256<g.qa2.length\/4096<g.fils.length\/2000<g.qa1.length\/2000<g.qa0.length\/2000<g.lvs.length):=by omega
  rw [η C,Bool.false_or,wi,δ];exact hi
structure Sz (g:Gr):Prop where
 c:∀s∈g.qa4,s.size<=1000000000
 t:∀t∈g.qa2,t.smp.size<=100000
 l:∀l∈g.lvs,l.ps.length<=1000000000
 f:∀f∈g.fils,f.qa2.length<=1000000000
def bG (l:List ο):Prop:=l.Nodup/\emp ∉ l
theorem fC {l:List ο} {s:ο}:bG (l++[s])↔bG l/\s≠emp/\s ∉ l:=by
 unfold bG;rw [Vw];simp only [vd,vy,not_or];constructor
 ·rintro ⟨⟨h,_,g⟩,r,w⟩;exact ⟨⟨h,r⟩,λe=>w e.symm,λA=>g s A s rfl rfl⟩
 ·rintro ⟨⟨h,g⟩,r,w⟩;exact ⟨⟨h,by simp,λa C b B e=>w (by rw [<- B,<- e];exact C)⟩,g,λe=>r e.symm⟩
theorem ml {l:List ο} (h:bG l) (k:Nat):bG (l.take k):=⟨h.1.sublist (List.take_sublist k l),λg=>h.2 (YI g)⟩
theorem bD {α:Type} {l:List α} {k:Nat} {x:α} (h:l[k]? =V x):l.take (k+1)=l.take k++[x]:=by obtain ⟨g,rfl⟩:=N6.1 h;exact W4 g
theorem pY {G F:PH} {As:List (Ψ)} {b m:Nat} {l:List ο} (h:St G F (seen m l.reverse::As)) (L:G.cell ⟨b,0,I⟩=V (.map (V m))) (s:ο) {R:VR}
  (k:∀C D,G.le C->St C D (seen m (l++[s]).reverse::As)->R (nS (decide (s≠emp/\s ∉ l))) D):
  ∃(B:Nat) (w g:Γ),zh b=.func (.func B) w g/\aF prog B=mY/\aj prog B (w++([(pe s)]).toArray++g) F R:=by
 refine ⟨_,_,_,rfl,qc2,?_⟩;have K:=St.callL (Bs:=[seen m l.reverse]) (Cs:=As) (Bs':=λ_ _=>[seen m (s::l.reverse)]) (P:=λr _=>r=nS (decide (s≠emp/\s ∉ l.reverse))) h λM J=>(BS J L s).mono λr D ⟨C,H,E,A⟩=>⟨C,H,E,A⟩;refine K.mono ?_;rintro r D ⟨C,rfl,E,A⟩;have:=k C D E (by rw [List.reverse_append];exact A);rw [show decide (s≠emp/\s ∉ l.reverse)=decide (s≠emp/\s ∉ l) by simp];exact this
def qc4:ο:=ByteArray.mk #[116,114,117,101]
def Sk:ο:=ByteArray.mk #[102,97,108,115,101]
def so (s:ο):Prop:=oI s=mY/\s≠qc4/\s≠Sk
def oJ (g:Gr):Prop:=(∀s∈g.qa4,so s)/\bG g.qa4/\iz g.fam g.qa4.length/\g.fam.2≠0
open Classical in
theorem qg9 {F:PH} {v:Γ} {g:Gr} (hg:GV F v g) (hz:Sz g) (hl:g.qa4.length<=64):ν 140 #[nL v] F λr O=>r=U (if oJ g then 0 else 54)/\F.le O:=by
 obtain ⟨c,n,t,s,p,l,f,rfl,C⟩:=hg;have ec:=C.c.len;refine qda ?_;unfold OP;refine fresh λb1 F1 Q q1 _=> ?_;have C:=C.le Q;refine (iw F1).mono ?_;rintro _ F2 ⟨G2,bn,m,rfl,l2,a0,h⟩;refine ⟨_,rfl,_,ld (h.le _ _ (l2 _ _ q1)) rfl,?_⟩;have bad:∀{O},F1.le O->¬oJ g->(U 54=U (if oJ g then 0 else 54)/\F.le O):=λ{O} l B=>⟨by rw [Υ B],aa Q l⟩;refine bC (wQ · b1 (zh bn) c _) g.qa4.length (λk O=>∃G,G2.le G/\St G O [seen m (g.qa4.take k).reverse]/\(∀s∈g.qa4.take k,so s)/\bG (g.qa4.take k))
  ⟨G2,au _,h,by simp,by simp [bG]⟩ ?_
 rintro k F3 N hk ⟨G3,l3,h,hi,M⟩ next;have w:=aa l2 l3;unfold wQ;refine ⟨λL=> ?_,λa2=> ?_⟩
 ·have L:k<g.qa4.length:=by omega
  refine t6 ((C.c.le w).le h.le) (by decide) (by omega) (by omega) λa cc x P X hc=> ?_;rw [N4] at P X;rw [show cc= #[pe x] from hc] at X;have K:x∈g.qa4:=vQ P;refine ⟨_,aE X rfl,?_⟩;refine h.runv (qhh x (hz.c x K)) λG4 F4 E h=>⟨_,rfl,λJ=> ?_,λJ=>⟨λD=> ?_,λD=>⟨λH=> ?_,λH=> ?_⟩⟩⟩
  ·exact bad (aa w (aa E h.le)) λB=>by rw [(B.1 x K).1] at J;cases J
  ·exact bad (aa w (aa E h.le)) λB=>(B.1 x K).2.1 (by rw [mj] at D;exact ζ D)
  ·exact bad (aa w (aa E h.le)) λB=>(B.1 x K).2.2 (by rw [mj] at H;exact ζ H)
  ·refine pY h (aK (aa l3 E) a0) x λG5 F5 l5 h=> ?_;have a1:=aa w (aa E l5);refine ⟨_,rfl,λA=> ?_,λA=> ?_⟩
   ·refine bad (aa a1 h.le) λB=> ?_;have:=ml B.2.1 (k+1);rw [bD P,fC] at this;rw [ε this.2] at A;cases A
   ·rw [aC L];have A:x≠emp/\x ∉ g.qa4.take k:=by simpa using A
    rw [<- bD P] at h;refine next _ L ⟨G5,aa l3 (aa E l5),h,λs C=> ?_,?_⟩
    ·rw [bD P] at C;rcases vd.1 C with C|C
     ·exact hi s C
     ·rw [vy.1 C];rw [mj] at D H;exact ⟨by simpa using J,ι D,ι H⟩
    ·rw [bD P,fC];exact ⟨M,A⟩
 ·have e:k=g.qa4.length:=by omega
  subst e;rw [wy] at hi M;unfold DZ;refine ⟨#[n.v,U g.fam.2],rfl,fX (h.le _ _ (w _ _ q1)) rfl,_,ld (h.le _ _ (w _ _ q1)) rfl,?_⟩;dsimp only;rw [ec];refine h.runv (gR (d:=g.fam) (DV.mk (C.n.le w))) λG4 F4 E h=>⟨_,rfl,λJ=> ?_,λJ=> ?_⟩
  ·refine bad (aa w (aa E h.le)) λB=> ?_;have:sj g.fam g.qa4.length=mY:=cP.2 B.2.2.1;rw [this] at J;cases J
  ·refine ⟨_,ld (h.le _ _ (E _ _ (w _ _ q1))) rfl,λW=> ?_,λW=> ?_⟩
   ·exact bad (aa w (aa E h.le)) λB=>B.2.2.2 W
   ·refine ⟨?_,aa Q (aa w (aa E h.le))⟩;rw [Χ ⟨hi,M,cP.1 (by simpa using J),W⟩]
def jg (g:Gr):Prop:=bG g.qa1/\0<=g.start/\g.start<g.qa1.length
open Classical in
theorem qho {F:PH} {v:Γ} {g:Gr} (hg:GV F v g) (hl:g.qa1.length<=2000):ν 142 #[nL v] F λr E=>r=U (if jg g then 0 else 50)/\F.le E:=by
 obtain ⟨c,n,t,s,p,l,f,rfl,J⟩:=hg;have es:=J.s.len;refine qdc ?_;unfold OR;refine fresh λb1 W K q1 _=> ?_;have J:=J.le K;refine (iw W).mono ?_;rintro _ F2 ⟨G2,bn,m,rfl,X,M,h⟩;refine ⟨_,rfl,_,ld (h.le _ _ (X _ _ q1)) rfl,?_⟩;have bad:∀{E},W.le E->¬jg g->(U 50=U (if jg g then 0 else 50)/\F.le E):=λ{E} l D=>⟨by rw [Υ D],aa K l⟩;refine bC (wS · b1 (zh bn) s _) g.qa1.length (λk E=>∃G,G2.le G/\St G E [seen m (g.qa1.take k).reverse]/\bG (g.qa1.take k))
  ⟨G2,au _,h,by simp [bG]⟩ ?_
 rintro k F3 N hk ⟨G3,P,h,C⟩ next;have A:=aa X P;unfold wS;refine ⟨λB=> ?_,λa0=> ?_⟩
 ·have B:k<g.qa1.length:=by omega
  refine t6 ((J.s.le A).le h.le) (by decide) (by omega) (by omega) λa cc x H L hc=> ?_;rw [N4] at H L;rw [show cc= #[pe x] from hc] at L;refine ⟨_,aE L rfl,?_⟩;refine pY h (aK P M) x λG5 F5 Q h=> ?_;have O:=aa A Q;refine ⟨_,rfl,λw=> ?_,λw=> ?_⟩
  ·refine bad (aa O h.le) λD=> ?_;have:=ml D.1 (k+1);rw [bD H,fC] at this;rw [ε this.2] at w;cases w
  ·rw [aC B];have w:x≠emp/\x ∉ g.qa1.take k:=by simpa using w
   rw [<- bD H] at h;refine next _ B ⟨G5,aa P Q,h,?_⟩;rw [bD H,fC];exact ⟨C,w⟩
 ·have e:k=g.qa1.length:=by omega
  subst e;rw [wy] at C;unfold D1;have q:=h.le _ _ (A _ _ q1);refine ⟨_,ld q rfl,λh0=>bad (aa A h.le) λD=>by have:=D.2.1;omega,λh0=>⟨_,ld q rfl,_,ld q rfl,λh1=>bad (aa A h.le) λD=>by have:=D.2.2;omega,λh1=>⟨?_,aa K (aa A h.le)⟩⟩⟩;rw [Χ ⟨C,by omega,by omega⟩]
inductive Scl:TypeId->Value->Value->Bool->Prop
 |int {t:TypeId} {k:IntKind} {a b:Int}:prog.underlying t=V (.int k)->Scl t (.int k a) (.int k b) (decide (a=b))
 |bool {t:TypeId} {a b:Bool}:prog.underlying t=V .bool->Scl t (.bool a) (.bool b) (decide (a=b))
 |str {t:TypeId} {a b:ο}:prog.underlying t=V .string->Scl t (.string a) (.string b) (decide (a=b))
theorem Scl.eq {t:TypeId} {v w:ξ} {r:Bool} (h:Scl t v w r) (d:Nat) (F:PH):pn prog (Op.equalIn (d+1) t v w) F r:=by
 cases h with
 | @int k a b g=>exact Fo t k g d a b
 | @bool a b g=>simp only [Op.equalIn,am];refine ⟨_,(az g _).2 rfl,?_⟩;show (a==b)=decide (a=b);cases a<;>cases b<;>rfl
 | @str a b g=>simp only [Op.equalIn,am];refine ⟨_,(az g _).2 rfl,?_⟩;show (a==b)=decide (a=b);rw [wi];simp
theorem Scl.part {t:TypeId} {v w:ξ} {r:Bool} (h:Scl t v w r) {cs:Γ} {off:Nat} {x:ξ} (C:cs[off]? =V x) (F:PH):pn prog (part t cs off) F x:=by
 have A:∀d,prog.underlying t=V d->((∃k,d=.int k)\/d=.bool\/d=.string)->pn prog (Go.part t cs off) F x:=λd hd B=>by unfold Go.part;simp only [am];refine ⟨mz,(dr hd _).2 (by rcases B with ⟨k,rfl⟩|rfl|rfl<;>rfl),?_⟩;simp only [VN,if_false,C];rfl
 cases h with
 | @int k a b g=>exact A _ g (.inl ⟨k,rfl⟩)
 | @bool a b g=>exact A _ g (.inr (.inl rfl))
 | @str a b g=>exact A _ g (.inr (.inr rfl))
theorem mq {t:TypeId} {fs:Array Field} (ht:prog.underlying t=V (.struct fs)) (hsi:prog.stoodInHeld t=mz) {cs ds:Γ} (e:Field->Bool)
  (hall:∀f∈fs.toList,f.name≠ "_"/\∃v w,cs[f.offset]? =V v/\ds[f.offset]? =V w/\Scl f.type v w (e f)) (F:PH):
  pn prog (Op.equal t (nL cs) (nL ds)) F (fs.toList.all e):=by
 unfold Op.equal Op.maxDepth;show pn prog (Op.equalIn (9998+1+1) t _ _) _ _;unfold Op.equalIn;simp only [am];refine ⟨_,(az ht _).2 rfl,?_⟩;dsimp only;rw [am];refine ⟨prog,rfl,?_⟩;rw [hsi];simp only [VN,if_false];rw [<- Array.forIn_toList,am];refine ⟨_,Cw _ e _ λf hf=> ?_,?_⟩
 ·obtain ⟨h1,v,w,h2,h3,h4⟩:=hall f hf;rw [Χ h1];simp only [am];refine ⟨_,h4.part h2 F,_,h4.part h3 F,_,h4.eq 9998 F,?_⟩;cases e f<;>rfl
 ·cases fs.toList.all e<;>rfl
theorem MT (x y:Sy) (F:PH):pn prog (Op.equal 130 (nL x.arr) (nL y.arr)) F (decide (x=y)):=by
 have h:=mq (t:=130) underlying130 (by kernel_rfl) (cs:=x.arr) (ds:=y.arr) (λf=>if f.offset=0 then decide (x.t=y.t) else decide (x.i=y.i)) (λf g=>by
  simp only [tD,Wx,or_false] at g;rcases g with rfl|rfl
  ·exact ⟨by decide,_,_,rfl,rfl,.bool underlying4⟩
  ·exact ⟨by decide,_,_,rfl,rfl,.int underlying3⟩) F
 refine cast ?_ h;congr 1;cases x;cases y;rw [wi];simp [Sy.mk.injEq]
abbrev Sco.arr (s:Sco):Γ:= #[nS s.o,U s.d,U s.k,U s.u,U s.a]
theorem Pa (x y:Sco) (F:PH):pn prog (Op.equal 60 (nL x.arr) (nL y.arr)) F (decide (x=y)):=by
 have h:=mq (t:=60) underlying60 (by kernel_rfl) (cs:=x.arr) (ds:=y.arr)
  (λf=>if f.offset=0 then decide (x.o=y.o) else if f.offset=1 then decide (x.d=y.d) else if f.offset=2 then decide (x.k=y.k) else if f.offset=3 then decide (x.u=y.u) else decide (x.a=y.a)) (λf g=>by
  simp only [tD,Wx,or_false] at g;rcases g with rfl|rfl|rfl|rfl|rfl
  ·exact ⟨by decide,_,_,rfl,rfl,.bool underlying4⟩
  all_goals exact ⟨by decide,_,_,rfl,rfl,.int underlying3⟩) F
 refine cast ?_ h;congr 1;cases x;cases y;rw [wi];simp [Sco.mk.injEq]
def mv (g:Gr) (s:Sy):Prop:=0<=s.i/\(s.t=mz->s.i<g.qa1.length)/\(s.t=mY->∃t,g.qa2[s.i.toNat]? =V t/\t.cls=0)
instance (g:Gr) (s:Sy):Decidable (mv g s):=by
 have:Decidable (∃t,g.qa2[s.i.toNat]? =V t/\t.cls=0):=by
  cases h:g.qa2[s.i.toNat]? with
  |none=>exact isFalse λ⟨t,h1,_⟩=>by cases h1
  |some t=>exact decidable_of_iff (t.cls=0) ⟨λe=>⟨t,rfl,e⟩,λ⟨u,h1,h2⟩=>by cases h1;exact h2⟩
 unfold mv;exact inferInstance
theorem qis {F:PH} {v:Γ} {g:Gr} (P:GV F v g) (x:Sy):ν 175 #[nL v,nL x.arr] F λr N=>r=nS (decide (mv g x))/\F.le N:=by
 obtain ⟨c,n,t,s,p,l,f,rfl,G⟩:=P;refine qdl ?_;unfold O0;refine fresh λb2 X C q1 _=> ?_;refine fresh λQ F2 J q2 _=> ?_;have q1:=J _ _ q1;have C:=aa C J;have W:=G.s.len;have et:=G.t.len;obtain ⟨D,H⟩:=x;have no:¬mv g ⟨D,H⟩->(nS mz=nS (decide (mv g ⟨D,H⟩))/\F.le F2):=λh=>⟨by rw [η h],C⟩;refine ⟨_,ld q2 rfl,λh=>⟨_,ld q2 rfl,λA=>⟨_,ld q2 rfl,_,ld q1 rfl,?_,C⟩,λA=>no λw=>A w.1⟩,λh=>⟨_,ld q2 rfl,λA=>⟨_,ld q2 rfl,_,ld q1 rfl,λB=>⟨_,ld q1 rfl,_,ld q2 rfl,?_⟩,λB=>no λw=> ?_⟩,λA=>no λw=>A w.1⟩⟩
 ·have h:D=mz:=by simpa using h
  subst h;congr 1;rw [wi,decide_eq_true_eq,decide_eq_true_eq];exact ⟨λB=>⟨A,λ_=>by dsimp only at B ⊢;omega,λh=>(by cases h)⟩,λw=>by have:=w.2.1 rfl;dsimp only at this ⊢;omega⟩
 ·have h:D=mY:=by simpa using h
  subst h;refine t6 (G.t.le C) (by decide) A B λa cc y K M O=> ?_;obtain ⟨pp,nn,rfl,_,_⟩:=O;refine ⟨_,aM M rfl,?_,C⟩;congr 1;rw [wi,δ,δ]
  exact ⟨λB=>⟨A,λh=>(by cases h),λ_=>⟨y,K,B⟩⟩,λw=>by
   obtain ⟨z,E,L⟩:=w.2.2 rfl;rw [K] at E;cases E
   exact L⟩
 ·have h:D=mY:=by simpa using h
  subst h;obtain ⟨z,E,_⟩:=w.2.2 rfl;have:=(N6.1 E).1;dsimp only at this B;omega
def d6 (r:List Sy) (k v lo hi:Int):Prop:=(k=0/\v=0)\/(0<k/\k<=r.length/\(∃s,r[(k - 1).toNat]? =V s/\s.t=mY)/\lo<=v/\v<=hi)
def BW (r:List Sy) (x:Cn):Prop:=1<=x.k/\x.k<=4/\0<=x.a/\x.a<r.length/\0<=x.b/\x.b<r.length/\(x.k=1->x.b=0)
def kg:Sco:=⟨mz,0,0,0,0⟩
def BX (p:Pr):Prop:=p.right.length=3/\p.rank=0/\p.lay=[]/\p.sco=kg/\(∃s,p.right[0]? =V s/\s.t=mY)/\p.right[1]? =V ⟨mz,p.left⟩/\(∃s,p.right[2]? =V s/\s.t=mY)
def lh (p:Pr):Prop:=(∀x∈p.lay,BW p.right x)/\d6 p.right p.sco.d p.sco.k 1 7/\d6 p.right p.sco.u p.sco.a 0 255/\(p.brk=mY->BX p)
open Classical in
theorem sC {F:PH} {b:Nat} {x:Pr} {r n l:Sl} (G:RL F r x.right) (q:F b=V (Y (x.arr r n l) 64)) (k v lo hi:Int) (O:x.right.length<=16):
  ν 210 #[U k,U v,U lo,U hi,ph (V ⟨b,0,I⟩)] F λres L=>res=nS (decide (d6 x.right k v lo hi))/\F.le L:=by
 refine qc1 ?_;unfold O9;have Q:=G.len;have no:¬d6 x.right k v lo hi->(nS mz=nS (decide (d6 x.right k v lo hi))/\F.le F):=λh=>⟨by rw [η h],au F⟩;have g:F.cell (nR (ou b 0 I) 2)=V r.v:=by rw [aI];exact ld q rfl
 refine ⟨λE=>⟨?_,au F⟩,λE=>⟨λH=>⟨_,rfl,_,g,λK=>⟨_,g,?_⟩,λK=>no ?_⟩,λH=>no ?_⟩⟩
 ·congr 1;rw [wi,δ,δ];exact ⟨λh=> .inl ⟨E,h⟩,λh=>h.elim (λh=>h.2) λh=>by omega⟩
 ·have N:i64.wrap (k - 1)=k - 1:=aJ (by omega);rw [N];refine t6 G (by decide) (by omega) (by omega) λa c s J w M=> ?_;rw [show c=s.arr from M] at w;refine ⟨_,aE w rfl,λD=>⟨λC=>⟨?_,au F⟩,λC=>no ?_⟩,λD=>no ?_⟩
  ·congr 1;rw [wi,δ,δ];exact ⟨λh=> .inr ⟨H,by omega,⟨s,J,D⟩,C,h⟩,λh=>h.elim (λh=>by omega) λh=>h.2.2.2.2⟩
  ·rintro (h|h)
   ·omega
   ·exact C h.2.2.2.1
  ·rintro (h|h)
   ·omega
   ·obtain ⟨P,B,A⟩:=h.2.2.1;rw [J] at B;cases B;rw [D] at A;cases A
 ·rintro (h|h)
  ·omega
  ·omega
 ·rintro (h|h)
  ·omega
  ·omega
theorem sD {F:PH} {b:Nat} {x:Pr} {r n l:Sl} (B:RL F r x.right) (q:F b=V (Y (x.arr r n l) 64)) (i:Int):
  ν 209 #[U i,ph (V ⟨b,0,I⟩)] F λres A=>res=nS (decide (0<=i/\i<x.right.length))/\F.le A:=by
 refine qc0 ?_;unfold O8;have C:=B.len;have g:F.cell (nR (ou b 0 I) 2)=V r.v:=by rw [aI];exact ld q rfl
 refine ⟨λh=>⟨_,rfl,_,g,?_,au F⟩,λh=>⟨?_,au F⟩⟩
 ·congr 1;rw [wi,δ,δ];omega
 ·rw [η (λw=>h w.1)]
open Classical in
theorem qhK {F:PH} {v:Γ} {x:Pr} (A:Mem.rep F x v) (h1:x.right.length<=16) (h2:x.lay.length<=16):ν 177 #[nL v] F λr H=>r=nS (decide (lh x))/\F.le H:=by
 obtain ⟨r,n,l,rfl,W,hn,hl⟩:=A;have er:=W.len;have el:=hl.len;refine qdm ?_;unfold O1;refine fresh λb1 F1 l1 q1 _=>⟨_,ld q1 rfl,?_⟩;have W:=W.le l1;have hl:=hl.le l1;have no:∀{H:PH},F1.le H->¬lh x->(nS mz=nS (decide (lh x))/\F.le H):=λ{H} l h=>⟨by rw [η h],aa l1 l⟩;refine bC (wY · b1 l _) x.lay.length (λk H=>F1.le H/\∀y∈x.lay.take k,BW x.right y) ⟨au _,by simp⟩ ?_;rintro k F2 N hk ⟨l2,hi⟩ next;unfold wY;refine ⟨λa1=> ?_,λa4=> ?_⟩
 ·have a1:k<x.lay.length:=by omega
  refine t6 (hl.le l2) (by decide) (by omega) (by omega) λa c y hy g hc=> ?_;rw [show c=y.arr from hc] at g;rw [N4] at hy g;have a3:y∈x.lay:=vQ hy;refine ⟨_,rfl,g,?_⟩;refine (St.start F2).new λb4 F3 h=> ?_;refine h.put0 (w':=y.arr) rfl rfl (by simp [ak]) λQ h=> ?_;obtain ⟨_,_,q4,h⟩:∃D,F2.le D/\D b4=V (Y y.arr 260)/\D.le Q:=h.pinb (K:=λQ=>∃D,F2.le D/\D b4=V (Y y.arr 260)/\D.le Q) λD l q h=>⟨D,l,q,h.le⟩;have C:F2.le Q:=aa ‹F2.le _› h;have q4:=h _ _ q4;have C:=aa l2 C;have a0:BW x.right y->∀F5,F1.le F5->pW N b1 l (k:Int) (λr H=>r=nS (decide (lh x))/\F.le H) F5:=λhg F5 E=>by
   unfold pW;rw [aC a1];refine next _ a1 ⟨E,λz P=> ?_⟩;rw [bD hy] at P;rcases vd.1 P with P|P
   ·exact hi z P
   ·rw [vy.1 P];exact hg
  have bad:∀{H:PH},F1.le H->¬BW x.right y->(nS mz=nS (decide (lh x))/\F.le H):=λ{H} l h=>no l λhd=>h (hd.1 y a3);refine ⟨_,ld q4 rfl,λh=>bad C λA=>by have:=A.1;omega,λk1=>⟨_,ld q4 rfl,λh=>bad C λA=>by have:=A.2.1;omega,λk2=>⟨_,ld q4 rfl,?_⟩⟩⟩;refine (sD (W.le C) (C _ _ q1) y.a).mono ?_;rintro _ F5 ⟨rfl,E⟩;refine ⟨_,rfl,λh=>bad (aa C E) λA=> ?_,λL=>⟨_,ld (E _ _ q4) rfl,?_⟩⟩
  ·rw [ε ⟨A.2.2.1,A.2.2.2.1⟩] at h;cases h
  refine (sD (W.le (aa C E)) (E _ _ (C _ _ q1)) y.b).mono ?_;rintro _ F6 ⟨rfl,l6⟩;have B:=aa C (aa E l6);have q6:=l6 _ _ (E _ _ q4);refine ⟨_,rfl,λh=>bad B λA=> ?_,λJ=>⟨_,ld q6 rfl,λk5=>⟨_,ld q6 rfl,λk6=>bad B λA=>k6 (A.2.2.2.2.2.2 k5),λk6=>a0 ?_ _ B⟩,λk5=>a0 ?_ _ B⟩⟩
  ·rw [ε ⟨A.2.2.2.2.1,A.2.2.2.2.2.1⟩] at h;cases h
  ·simp at L J;exact ⟨by omega,by omega,L.1,L.2,J.1,J.2,λ_=>by omega⟩
  ·simp at L J;exact ⟨by omega,by omega,L.1,L.2,J.1,J.2,λh=>absurd h k5⟩
 ·have e:k=x.lay.length:=by omega
  subst e;rw [wy] at hi;unfold D7;refine ⟨x.sco.arr,rfl,fX (l2 _ _ q1) rfl,?_⟩;refine (St.start F2).new λb7 F3 h=> ?_;refine h.put0 (w':=x.sco.arr) rfl rfl (by simp [ak]) λQ h=> ?_;obtain ⟨_,_,q4,h⟩:∃D,F2.le D/\D b7=V (Y x.sco.arr 60)/\D.le Q:=h.pinb (K:=λQ=>∃D,F2.le D/\D b7=V (Y x.sco.arr 60)/\D.le Q) λD l q h=>⟨D,l,q,h.le⟩;have C:F2.le Q:=aa ‹F2.le _› h;have q4:=h _ _ q4;have C:=aa l2 C;refine ⟨_,ld q4 rfl,_,ld q4 rfl,?_⟩;refine (sC (W.le C) (C _ _ q1) x.sco.d x.sco.k 1 7 h1).mono ?_;rintro _ F5 ⟨rfl,E⟩;refine ⟨_,rfl,λh=>no (aa C E) λA=> ?_,λL=>⟨_,ld (E _ _ q4) rfl,_,ld (E _ _ q4) rfl,?_⟩⟩
  ·rw [ε A.2.1] at h;cases h
  refine (sC (W.le (aa C E)) (E _ _ (C _ _ q1)) x.sco.u x.sco.a 0 255 h1).mono ?_;rintro _ F6 ⟨rfl,l6⟩;have B:=aa C (aa E l6);have q6:=l6 _ _ (E _ _ q4);have X:=B _ _ q1;refine ⟨_,rfl,λh=>no B λA=> ?_,λJ=> ?_⟩
  ·rw [ε A.2.2.1] at h;cases h
  have L:d6 x.right x.sco.d x.sco.k 1 7:=by simpa using L
  have J:d6 x.right x.sco.u x.sco.a 0 255:=by simpa using J
  refine ⟨_,ld X rfl,λhb=>⟨?_,aa l1 B⟩,λhb=> ?_⟩
  ·rw [ε ⟨hi,L,J,λh=>by rw [h] at hb;cases hb⟩]
  have hb:x.brk=mY:=by simpa using hb
  have G:¬BX x->(nS mz=nS (decide (lh x))/\F.le F6):=λh=>no B λA=>h (A.2.2.2 hb);refine ⟨_,ld X rfl,λh=>G λA=>h (by have:=A.1;omega),λk5=>⟨_,ld X rfl,λh=>G λA=>h A.2.1,λk6=>⟨_,ld X rfl,λh=>G λA=> ?_,λk7=>⟨_,rfl,ai q6,_,λF=>Pa x.sco kg F,λh=>G λA=> ?_,λk8=> ?_⟩⟩⟩⟩
  ·have:=A.2.2.1;rw [this] at el;simp at el;omega
  ·rw [ε A.2.2.2.1] at h;cases h
  have k8:x.sco=kg:=by simpa using k8
  have a2:=W.le B;refine ⟨_,ld X rfl,t6 a2 (by decide) (by omega) (by omega) λa c y hy g hc=> ?_⟩;rw [show c=y.arr from hc] at g;refine ⟨_,aE g rfl,λk9=>⟨_,ld X rfl,t6 a2 (by decide) (by omega) (by omega) λa c z P g hc=> ?_⟩,λk9=>G λA=> ?_⟩
  ·rw [show c=z.arr from hc] at g;refine ⟨_,rfl,g,_,ld X rfl,_,λF=>MT z ⟨mz,x.left⟩ F,λO=>⟨_,ld X rfl,t6 a2 (by decide) (by omega) (by omega) λa c w hw g hc=> ?_⟩,λO=>G λA=> ?_⟩
   ·rw [show c=w.arr from hc] at g;refine ⟨_,aE g rfl,?_,aa l1 B⟩;have O:z=⟨mz,x.left⟩:=by simpa using O
    subst O;congr 1;cases hwt:w.t with
    |true=>refine (ε ⟨hi,L,J,λ_=>⟨by omega,Classical.not_not.1 k6,?_,k8,⟨y,hy,k9⟩,P,⟨w,hw,hwt⟩⟩⟩).symm;exact V5 (by omega)
    |false=>refine (η λA=> ?_).symm;obtain ⟨s,hs,M⟩:=(A.2.2.2 hb).2.2.2.2.2.2;rw [show x.right[2]? =V w from hw] at hs;cases hs;rw [hwt] at M;cases M
   ·have e:V z=_:=P.symm.trans A.2.2.2.2.2.1;cases e;simp at O
  ·obtain ⟨s,hs,M⟩:=A.2.2.2.2.1;have e:V y=_:=hy.symm.trans hs;cases e;rw [k9] at M;cases M
theorem St.var {G F:PH} {As:List (Ψ)} (h:St G F As) {n:Nat} {z w:Γ} {e:TypeId} {K:Nat->Ψ} (r:∀x∈w.toList,ak x)
  (k:∀b g A,G.le g->g b=V (Y w e)->St g A As->K b A) (C:z.size=n:=by rfl) (B:w.size=n:=by rfl):∀b,F b=I->xG (F.set b (Y z e)) λF=>aA F (ou b 0 I) n w (K b):=by
 refine h.new λb D h=> ?_;refine h.put0 B C r λF2 h=> ?_;exact h.pinb λg l q h=>k b g F2 l q h
theorem var1 {F:PH} {n:Nat} {z w:Γ} {e:TypeId} {K:Nat->Ψ} (r:∀x∈w.toList,ak x)
  (k:∀b g,F.le g->g b=V (Y w e)->K b g) (B:z.size=n:=by rfl) (A:w.size=n:=by rfl):∀b,F b=I->xG (F.set b (Y z e)) λF=>aA F (ou b 0 I) n w (K b):=
 (St.start F).var r (λb _ g l q h=>k b g (aa l h.le) (h.le _ _ q)) B A
theorem St.ix {α:Type} [Mem α] {G F:PH} {As:List (Ψ)} (h:St G F As) {s:Sl} {l:List α} (w:RL G s l) (g:0<Mem.n α) {i:Int} (r:0<=i) (B:i<(s.len:Int)) {K:Addr->Prop}
  (k:∀a c x,l[i.toNat]? =V x->F.row (a.add (i.toNat*Mem.n α)) c->Mem.rep G x c->K a):∃a,s.qa5=V a/\0<=i/\i<(s.len:Int)/\K a:=
 t6 w g r B λa c x D A C=>k a c x D (aN h.le A) C
section
variable {K:Type} [DecidableEq K] {enc:K->ξ} {f:K->Option ξ} {m:Nat} {G F:PH} {As:List (Ψ)} {t:TypeId} {z:ξ}
def W2 (m:Nat) (enc:K->ξ) (f:K->Option ξ):Ψ:=λH=>∃o,H m=V o/\dX enc f o
theorem St.newMap (h:St G F As) (enc:K->ξ) {Q:Nat->Ψ} (k:∀b w,St G w (W2 b enc (λ_=>I)::As)->Q b w):∀b,F b=I->xG (F.set b (.map #[] 0)) (Q b):=λb r=>by
 refine tR (k b _ (h.push (H:=PH.set (λ_=>I) b (.map #[] 0)) ⟨_,aq _ _ _,dX.empty enc⟩ (λx g=> ?_) (λx p g=> ?_) (ae _ r)))
 ·by_cases e:x=b
  ·rw [e];exact r
  ·rw [aw _ _ e] at g;exact absurd rfl g
 ·by_cases e:x=b
  ·rw [e,aq] at g ⊢;exact g
  ·rw [aw _ _ e] at g;cases g
theorem St.lookAt (h:St G F As) {i:Nat} (hi:As[i]? =V (W2 m enc f)) (A:fS prog t enc z) (k:K) (ok:Bool):pn prog (Instr.lookup t (.map (V m)) (enc k) ok) F (if ok then .tuple #[(f k).getD z,nS (f k).isSome] else (f k).getD z):=by obtain ⟨H,⟨o,r,g⟩,_,w⟩:=h.get hi;exact bM A (w _ _ r) g k ok
theorem St.updAt (h:St G F As) (i:Nat) (hi:As[i]? =V (W2 m enc f)) (M:fS prog t enc z) (k:K) (v:ξ) {Q:Unit->Ψ} (L:∀C,St G C (As.set i (W2 m enc λk'=>if k'=k then V v else f k'))->Q () C):
  aG prog (Instr.mapUpdate t (.map (V m)) (enc k) v) F Q:=by
 obtain ⟨H,⟨o,w,E⟩,N,B,J⟩:=h.set (A':=W2 m enc λk'=>if k'=k then V v else f k') hi;refine bh M (B _ _ w) E k v λD r=>L _ ?_;refine J (H.set m D) _ ⟨D,aq _ _ _,r⟩ (λx g=> ?_) (λx p g=> ?_) (λx p g A=> ?_)
 ·by_cases e:x=m
  ·rw [e,w];exact .inl (by simp)
  ·rw [aw _ _ e] at g;exact .inl g
 ·by_cases e:x=m
  ·rw [e,aq] at g ⊢;exact g
  ·rw [aw _ _ e] at g ⊢;exact B _ _ g
 ·have e:x≠m:=λe=>by rw [e,w] at A;cases A
  rw [aw _ _ e];exact g
end
def MU (g:Gr) (done:List ο) (p:Pr):Prop:=p.name≠emp/\p.name ∉ done/\iz p.cond g.qa4.length/\-1<=p.rank/\p.rank<=1/\lh p
def jh (g:Gr) (p:Pr):Prop:=mv g ⟨mz,p.left⟩/\∀s∈p.right,mv g s
open Classical in
def eD (g:Gr) (done:List ο):List Pr->Int
 |[]=>0
 |p::l=>if ¬jh g p then 50 else if ¬MU g done p then 52 else eD g (done++[p.name]) l
theorem fG {α:Type} {l:List α} {k:Nat} {x:α} (h:l[k]? =V x):l.drop k=x::l.drop (k+1):=by obtain ⟨g,rfl⟩:=N6.1 h;exact Xi g
theorem MV:aF prog 174=mY:=by kernel_rfl
theorem sE {F:PH} {b:Nat} {v:Γ} {g:Gr} (w:GV F v g) (q:F b=V (Y v 39)) (x:Sy):ν 174 #[nL x.arr,ph (V ⟨b,0,I⟩)] F λr B=>r=nS (!decide (mv g x))/\F.le B:=by refine qdk ?_;unfold OZ;refine fresh λC D h q1 _=>⟨_,rfl,v,w.size,ai (h _ _ q),_,rfl,ai q1,?_⟩;refine (qis (w.le h) x).mono ?_;rintro _ F2 ⟨rfl,A⟩;exact ⟨_,rfl,rfl,aa h A⟩
theorem fH {g:Gr} (h:dN g=mz):g.qa4.length<=64/\g.qa2.length<=256/\g.fils.length<=4096/\g.qa1.length<=2000/\g.qa0.length<=2000/\g.lvs.length<=2000/\∀p∈g.qa0,p.right.length<=16/\p.lay.length<=16:=by unfold dN at h;rw [Bool.or_eq_false_iff,decide_eq_false_iff_not,List.any_eq_false] at h;obtain ⟨A,w⟩:=h;refine ⟨by omega,by omega,by omega,by omega,by omega,by omega,λp r=> ?_⟩;have:=w p r;simp only [δ] at this;omega
open Classical in
theorem qhi {F:PH} {v:Γ} {g:Gr} (hg:GV F v g) (hl:dN g=mz):ν 143 #[nL v] F λr E=>r=U (eD g [] g.qa0)/\F.le E:=by
 obtain ⟨_,_,_,_,b3,_,a2⟩:=fH hl;have K:=hg;obtain ⟨c,n,t,s,p,l,f,rfl,hs⟩:=hg;have ec:=hs.c.len;have ep:=hs.p.len;refine qdd ?_;unfold OS;refine fresh λb1 F1 X q1 _=> ?_;have hs:=hs.le X;have K:=K.le X;refine (iw F1).mono ?_;rintro _ F2 ⟨G2,bn,m,rfl,l2,a7,h⟩;refine ⟨_,rfl,_,ld (h.le _ _ (l2 _ _ q1)) rfl,?_⟩;refine bC (wT · b1 (zh bn) p _) g.qa0.length (λk E=>∃G,G2.le G/\St G E [seen m ((g.qa0.take k).map Pr.name).reverse]/\eD g [] g.qa0=eD g ((g.qa0.take k).map Pr.name) (g.qa0.drop k))
  ⟨G2,au _,h,by simp⟩ ?_
 rintro k F3 N hk ⟨G3,l3,h,hE⟩ next;have C:=aa l2 l3;unfold wT;refine ⟨λO=> ?_,λb0=> ?_⟩
 ·have O:k<g.qa0.length:=by omega
  refine h.ix (hs.p.le C) (by decide) (by omega) (by omega) λa cc x hx hr hc=> ?_;rw [N4] at hx;have a6:x∈g.qa0:=vQ hx;obtain ⟨a4,a1⟩:=a2 x a6;have L:=hE;rw [fG hx,eD] at L;have a5:=Mem.st hc;have a8:=hc;obtain ⟨rr,nn,ll,rfl,h1,h2,h3⟩:=hc;refine ⟨x.arr rr nn ll,rfl,hr,?_⟩;refine h.var a5 λb5 G4 F4 l4 q5 h=> ?_;have J:∀{E},G3.le E->¬jh g x->(U 50=U (eD g [] g.qa0)/\F.le E):=λ{E} l D=>⟨by rw [L,Χ D],aa X (aa C l)⟩;have B:∀{E},G3.le E->jh g x->¬MU g ((g.qa0.take k).map Pr.name) x->(U 52=U (eD g [] g.qa0)/\F.le E):=λ{E} l h1 D=>⟨by rw [L,Υ (λh=>h h1),Χ D],aa X (aa C l)⟩;refine ⟨_,ld (h.le _ _ q5) rfl,?_⟩;refine h.runv (sE (x:=⟨mz,x.left⟩) (K.le (aa C l4)) (l4 _ _ (C _ _ q1))) λG5 F5 l5 h=>⟨_,rfl,λA=>J (aa l4 (aa l5 h.le)) λD=> ?_,λA=>⟨_,ld (h.le _ _ (l5 _ _ q5)) rfl,?_⟩⟩
  ·rw [ε D.1] at A;cases A
  have a3:mv g ⟨mz,x.left⟩:=by simpa using A
  have w:=aa l4 l5;have sp:ν 176 #[rr.v,.func (.func 174) #[] #[ph (V ⟨b1,0,I⟩)]] G5 λr E=>r=nS (x.right.any λs=> !decide (mv g s))/\G5.le E:=by
   refine qfb ?_;unfold Qk
   refine (show ν 208 #[rr.v,.func (.func 174) #[] #[ph (V ⟨b1,0,I⟩)]] G5 (λr E=>∃i,r=U i/\(0<=i↔(x.right.any λs=> !decide (mv g s))=mY)/\G5.le E)
    from qes (BU (h1.le w) (by decide) (by omega) MV (λs=> !decide (mv g s)) λy hy c F6 M hc=> ?_)).mono ?_
   ·rw [show c=y.arr from hc];exact sE (K.le (aa C (aa w M))) (M _ _ (w _ _ (C _ _ q1))) y
   ·rintro _ F6 ⟨i,rfl,hi,M⟩;refine ⟨_,rfl,?_,M⟩;congr 1;rw [wi,δ];exact hi
  refine h.runv sp λG6 F6 M h=>⟨_,rfl,λA=>J (aa w (aa M h.le)) λD=> ?_,λA=> ?_⟩
  ·obtain ⟨y,hy,a0⟩:=XI.1 A;rw [ε (D.2 y hy)] at a0;cases a0
  have H:jh g x:=⟨a3,λy hy=>by
   have:=List.any_eq_false.1 A y hy
   simpa using this⟩
  have w:=aa w M;have q6:=M _ _ (l5 _ _ q5);refine ⟨_,ld (h.le _ _ q6) rfl,?_⟩;refine pY h (aK (aa l3 w) a7) x.name λG7 F7 l7 h=>⟨_,rfl,λA=>B (aa w (aa l7 h.le)) H λD=> ?_,λA=> ?_⟩
  ·rw [ε ⟨D.1,D.2.1⟩] at A;cases A
  have P:x.name≠emp/\x.name ∉ (g.qa0.take k).map Pr.name:=by simpa using A
  have w:=aa w l7;have q7:=l7 _ _ q6;refine ⟨#[nn.v,U x.cond.2],rfl,fX (h.le _ _ q7) rfl,_,ld (h.le _ _ (w _ _ (C _ _ q1))) rfl,?_⟩;dsimp only;rw [ec];refine h.runv (gR (d:=x.cond) (DV.mk (h2.le w))) λG8 F8 l8 h=>⟨_,rfl,λA=>B (aa w (aa l8 h.le)) H λD=> ?_,λA=> ?_⟩
  ·rw [cP.2 D.2.2.1] at A;cases A
  have W:iz x.cond g.qa4.length:=cP.1 (by simpa using A);have w:=aa w l8;have q8:=l8 _ _ q7;refine ⟨_,ld (h.le _ _ q8) rfl,λA=>B (aa w h.le) H λD=>by have:=D.2.2.2.1;omega,λa9=>⟨_,ld (h.le _ _ q8) rfl,λA=>B (aa w h.le) H λD=>by have:=D.2.2.2.2.1;omega,λb2=>⟨_,rfl,ai (h.le _ _ q8),?_⟩⟩⟩;refine h.runv (qhK (Mem.le w a8) a4 a1) λG9 F9 l9 h=>⟨_,rfl,λA=>B (aa w (aa l9 h.le)) H λD=> ?_,λA=> ?_⟩
  ·rw [ε D.2.2.2.2.2] at A;cases A
  have Q:lh x:=by simpa using A
  rw [aC O];have e:(g.qa0.take k).map Pr.name++[x.name]=(g.qa0.take (k+1)).map Pr.name:=by rw [bD hx,yT];rfl
  refine next _ O ⟨G9,aa l3 (aa w l9),by rw [<- e];exact h,?_⟩;rw [L,Υ (λh=>h H),Υ (λh=>h ⟨P.1,P.2,W,by omega,by omega,Q⟩),e]
 ·have e:k=g.qa0.length:=by omega
  subst e;rw [XW,eD] at hE;unfold D2;exact ⟨by rw [hE],aa X (aa C h.le)⟩
def Sm (g:Gr) (done:Φ) (l:Lv):Prop:=0<=l.assoc/\l.assoc<=3/\iz l.cond g.qa4.length/\(∀p∈l.ps,0<=p/\p<g.qa0.length)/\l.ps.Nodup/\∀p∈l.ps,p ∉ done
def eF (g:Gr) (done:Φ):List Lv->Prop
 |[]=>True
 |l::r=>Sm g done l/\eF g (done++l.ps) r
def mw (l:Φ) (i:Int):Option ξ:=if i∈l then V (nS mY) else I
theorem BY (l:Φ) (x:Int):mw (l++[x])=λk=>if k=x then V (nS mY) else mw l k:=by funext k;unfold mw;by_cases e:k=x<;>simp [e]
theorem V6:fS prog 275 be (.bool mz):=⟨_,_,underlying275,V2,M0⟩
open Classical in
theorem qha {F:PH} {v:Γ} {g:Gr} (hg:GV F v g) (hl:dN g=mz) (hz:Sz g):ν 144 #[nL v] F λr J=>r=U (if eF g [] g.lvs then 0 else 53)/\F.le J:=by
 obtain ⟨_,_,_,_,a8,a6,_⟩:=fH hl;obtain ⟨c,n,t,s,p,l,f,rfl,W⟩:=hg;have ec:=W.c.len;have ep:=W.p.len;have el:=W.l.len;refine qde ?_;unfold OT;refine fresh λb1 F1 l1 q1 _=> ?_;have W:=W.le l1;refine (St.start F1).newMap be λb8 F2 h=> ?_;refine ⟨_,ld (h.le _ _ q1) rfl,?_⟩;refine bC (wV · b1 b8 l _) g.lvs.length (λk J=>∃G,F1.le G/\St G J [W2 b8 be (mw ((g.lvs.take k).flatMap Lv.ps))]/\(eF g [] g.lvs↔eF g ((g.lvs.take k).flatMap Lv.ps) (g.lvs.drop k)))
  ⟨F1,au _,by rw [show mw ((g.lvs.take 0).flatMap Lv.ps)=λ_=>I from funext λi=>by simp [mw]];exact h,by simp⟩ ?_
 rintro k F3 N hk ⟨G3,X,h,P⟩ next;unfold wV;refine ⟨λK=> ?_,λa7=> ?_⟩
 ·have K:k<g.lvs.length:=by omega
  refine h.ix (W.l.le X) (by decide) (by omega) (by omega) λa cc x hx hr hc=> ?_;rw [N4] at hx;have a4:x∈g.lvs:=vQ hx;have a9:=hz.l x a4;rw [fG hx,eF] at P;have a3:=Mem.st hc;obtain ⟨pp,nn,rfl,h1,h2⟩:=hc;have b0:=h1.len;refine ⟨x.arr pp nn,rfl,hr,?_⟩;refine h.var a3 λb5 G4 F4 Q q5 h=> ?_;have bad:∀{J},G3.le J->¬Sm g ((g.lvs.take k).flatMap Lv.ps) x->(U 53=U (if eF g [] g.lvs then 0 else 53)/\F.le J):=λ{J} l w=>⟨by rw [if_neg (λh=>w (P.1 h).1)],aa l1 (aa X l)⟩;refine ⟨_,ld (h.le _ _ q5) rfl,λE=>bad (aa Q h.le) λw=>by have:=w.1;omega,λk1=>⟨_,ld (h.le _ _ q5) rfl,λE=>bad (aa Q h.le) λw=>by have:=w.2.1;omega,λk2=>⟨#[nn.v,U x.cond.2],rfl,fX (h.le _ _ q5) rfl,_,ld (h.le _ _ (Q _ _ (X _ _ q1))) rfl,?_⟩⟩⟩;dsimp only;rw [ec];refine h.runv (gR (d:=x.cond) (DV.mk (h2.le Q))) λG5 F5 l5 h=>⟨_,rfl,λE=>bad (aa Q (aa l5 h.le)) λw=> ?_,λE=> ?_⟩
  ·rw [cP.2 w.2.2.1] at E;cases E
  have a0:iz x.cond g.qa4.length:=cP.1 (by simpa using E);have a2:=aa Q l5;refine ⟨_,ld (h.le _ _ (l5 _ _ q5)) rfl,?_⟩;refine bC (wU N · b1 b8 l (k:Int) pp _) x.ps.length (λj J=>∃G,G5.le G/\St G J [W2 b8 be (mw ((g.lvs.take k).flatMap Lv.ps++x.ps.take j))]/\(∀p∈x.ps.take j,0<=p/\p<g.qa0.length)/\(x.ps.take j).Nodup/\∀p∈x.ps.take j,p ∉ (g.lvs.take k).flatMap Lv.ps)
   ⟨G5,au _,by simpa using h,by simp,by simp,by simp⟩ ?_
  rintro j F6 N2 hj ⟨G6,l6,h,i1,i2,i3⟩ M;have B:=aa a2 l6;unfold wU;refine ⟨λC=> ?_,λa5=> ?_⟩
  ·have C:j<x.ps.length:=by omega
   refine h.ix (h1.le B) (by decide) (by omega) (by omega) λa cc y L hr hc=> ?_;rw [N4] at L hr;rw [show cc= #[U y] from hc] at hr;have O:y∈x.ps:=vQ L;have H:=h.lookAt (i:=0) rfl V6 y mz;refine ⟨_,aE hr rfl,λE=>bad (aa B h.le) λw=>by have:=(w.2.2.2.1 y O).1;omega,λy0=>⟨_,ld (h.le _ _ (B _ _ (X _ _ q1))) rfl,λE=>bad (aa B h.le) λw=>by have:=(w.2.2.2.1 y O).2;omega,λy1=> ?_⟩⟩;by_cases D:y∈(g.lvs.take k).flatMap Lv.ps++x.ps.take j
   ·rw [show mw _ y=V (nS mY) from Χ D] at H;refine ⟨mY,H,λ_=>bad (aa B h.le) λw=> ?_,λh=>(by cases h)⟩;rcases vd.1 D with D|D
    ·exact w.2.2.2.2.2 y O D
    ·have a1:=w.2.2.2.2.1.sublist (List.take_sublist (j+1) x.ps);rw [bD L,Vw] at a1;exact a1.2.2 y D y (by simp) rfl
   ·rw [show mw _ y=I from Υ D] at H;refine ⟨mz,H,λh=>(by cases h),λ_=> ?_⟩;refine h.updAt 0 rfl V6 y (nS mY) λF7 h=> ?_;rw [aC C];rw [vd,not_or] at D;refine M _ C ⟨G6,l6,?_,λp A=> ?_,?_,λp A=> ?_⟩
    ·rw [bD L,<- xK,BY];exact h
    ·rw [bD L] at A;rcases vd.1 A with A|A
     ·exact i1 p A
     ·rw [vy.1 A];omega
    ·rw [bD L,Vw];exact ⟨i2,by simp,λa ha b E e=>D.2 (by rw [<- vy.1 E,<- e];exact ha)⟩
    ·rw [bD L] at A;rcases vd.1 A with A|A
     ·exact i3 p A
     ·rw [vy.1 A];exact D.1
  ·have e:j=x.ps.length:=by omega
   subst e;rw [wy] at i1 i2 i3 h;unfold D4;rw [aC K];have e:(g.lvs.take k).flatMap Lv.ps++x.ps=(g.lvs.take (k+1)).flatMap Lv.ps:=by rw [bD hx,XT];simp
   rw [e] at h P;refine next _ K ⟨G6,aa X B,h,P.trans ⟨λh=>h.2,λh=>⟨⟨by omega,by omega,a0,i1,i2,i3⟩,h⟩⟩⟩
 ·have e:k=g.lvs.length:=by omega
  subst e;rw [XW,eF] at P;unfold D3;exact ⟨by rw [Χ (P.2 trivial)],aa l1 (aa X h.le)⟩
def fN (g:Gr) (kd:Tk->Bool) (l:Φ):Prop:=l≠[]/\(∀n∈l,0<=n/\∃t,g.qa2[n.toNat]? =V t/\kd t=mY)/\∀(i:Nat) (x y:Int),l[i]? =V x->l[i+1]? =V y->x<y
open Classical in
theorem ji {F:PH} {v:Γ} {g:Gr} (hg:GV F v g) {sl:Sl} {l:Φ} (hl:RL F sl l) (a4:l.length<=1000000000) {k:Nat} {fst cap:Γ} (hk:aF prog k=mY) (kd:Tk->Bool)
  (a2:∀t c P,F.le P->Mem.rep P t c->aj prog k (fst++([nL c]).toArray++cap) P λr A=>r=nS (kd t)/\P.le A):
  ν 181 #[nL v,sl.v,.func (.func k) fst cap] F λr A=>r=nS (decide (fN g kd l))/\F.le A:=by
 obtain ⟨c,n,t,s,p,lv,f,rfl,hs⟩:=hg;have et:=hs.t.len;have el:=hl.len;refine qdq ?_;unfold O5;refine fresh λb1 P l1 q1 _=> ?_;have hs:=hs.le l1;have hl:=hl.le l1;have no:∀{A:PH},P.le A->¬fN g kd l->(nS mz=nS (decide (fN g kd l))/\F.le A):=λ{A} l h=>⟨by rw [η h],aa l1 l⟩;refine bC (wZ · sl (.func (.func k) fst cap) b1 _) l.length (λj A=>P.le A/\(∀n∈l.take j,0<=n/\∃t,g.qa2[n.toNat]? =V t/\kd t=mY)/\∀(i:Nat) (x y:Int),i+1<j->l[i]? =V x->l[i+1]? =V y->x<y)
  ⟨au _,by simp,λi x y h=>by omega⟩ ?_
 rintro j F2 N hj ⟨H,i1,i2⟩ next;unfold wZ;refine ⟨λQ=> ?_,λa5=> ?_⟩
 ·have Q:j<l.length:=by omega
  refine t6 (hl.le H) (by decide) (by omega) (by omega) λa cc x W J hc=> ?_;rw [N4] at W J;rw [show cc= #[U x] from hc] at J;have a1:x∈l:=vQ W;have p1:=H _ _ q1;have UQ:¬(0<=x/\x<g.qa2.length)->(nS mz=nS (decide (fN g kd l))/\F.le F2):=λh=>no H λhp=>by obtain ⟨h0,t',ht,_⟩:=hp.2.1 x a1;have:=(N6.1 ht).1;exact h ⟨h0,by omega⟩
  refine ⟨_,aE J rfl,λh=>UQ (by omega),λx0=>⟨_,ld p1 rfl,λh=>UQ (by omega),λx1=> ?_⟩⟩;have M:(∀y,0<j->l[j - 1]? =V y->y<x)->∃G:Sl,F2.cell (ou b1 3 I)=V (nE G)/\
   ∃L:Addr,G.qa5=V L/\0<=x/\x<(G.len:Int)/\
   ∃C:Γ,C.size=7/\F2.row (nR L (nT x*7)) C/\
   ∃(X:Nat) (E D:Γ),Value.func (.func k) fst cap=.func (.func X) E D/\aF prog X=mY/\aj prog X (E++([(nL C)]).toArray++D) F2 λv A=>∃B:Bool,v=(nS B)/\
   (((!B)=mY->(nS mz=nS (decide (fN g kd l))/\F.le A))/\
   ((!B)=mz->pX N sl (.func (.func k) fst cap) b1 (j:Int) (λr A=>r=nS (decide (fN g kd l))/\F.le A) A)):=λO=>by
   refine ⟨_,ld p1 rfl,t6 (hs.t.le H) (by decide) (by omega) (by omega) λa cc y K J hc=>⟨cc,Mem.len hc,J,k,fst,cap,rfl,hk,?_⟩⟩;refine (a2 y cc F2 (aa l1 H) hc).mono ?_;rintro _ F3 ⟨rfl,l3⟩;refine ⟨_,rfl,λh=>no (aa H l3) λhp=> ?_,λh=> ?_⟩
   ·obtain ⟨h0,t',ht,a3⟩:=hp.2.1 x a1;rw [K] at ht;cases ht;rw [a3] at h;cases h
   ·unfold pX;rw [aC Q];refine next _ Q ⟨aa H l3,λm hm=> ?_,λi u w hi hu hw=> ?_⟩
    ·rw [bD W] at hm;rcases vd.1 hm with hm|hm
     ·exact i1 m hm
     ·rw [vy.1 hm];exact ⟨by omega,y,K,by simpa using h⟩
    ·by_cases e:i+1<j
     ·exact i2 i u w e hu hw
     ·have e:j=i+1:=by omega
      subst e;rw [W] at hw;cases hw;exact O u (by omega) hu
  refine ⟨λa0=> ?_,λa0=>M λy h=>by omega⟩;have a0:0<j:=by omega
  have ew:i64.wrap ((j:Int) - 1)=((j - 1:Nat):Int):=by rw [aJ (by omega)];omega
  rw [ew];refine t6 (hl.le H) (by decide) (by omega) (by omega) λa cc y K J hc=> ?_;rw [N4] at K J;rw [show cc= #[U y] from hc] at J;refine ⟨_,aE (by rw [N4];exact J) rfl,λh=>no H λhp=> ?_,λh=>M λz _ hz=> ?_⟩
  ·have:=hp.2.2 (j - 1) y x K (by rw [show j - 1+1=j by omega];exact W);omega
  ·rw [K] at hz;cases hz;omega
 ·have e:j=l.length:=by omega
  subst e;rw [wy] at i1;unfold D8;refine ⟨?_,aa l1 H⟩;congr 1;rw [wi,δ,δ];constructor
  ·intro h;refine ⟨λe=>by rw [e] at el;simp at el;omega,i1,λi x y W K=>i2 i x y ?_ W K⟩;exact (N6.1 K).1
  ·intro h;have:l.length≠0:=λe=>h.1 (V5 e);omega
def oK (g:Gr) (x:Fi):Prop:=0<=x.par/\0<=x.ch/\0<=x.pos/\∃p q,g.qa0[x.par.toNat]? =V p/\g.qa0[x.ch.toNat]? =V q/\p.right[x.pos.toNat]? =V ⟨mz,q.left⟩
open Classical in
theorem Gv {F:PH} {v w:Γ} {g:Gr} {x:Fi} (hg:GV F v g) (hx:Mem.rep F x w):ν 180 #[nL v,nL w] F λr F'=>r=nS (decide (oK g x))/\F.le F':=by
 obtain ⟨c,n,t,s,p,lv,f,rfl,hs⟩:=hg;obtain ⟨tt,nn,rfl,_,_⟩:=hx;have ep:=hs.p.len;refine qdp ?_;unfold O4;refine fresh λb2 F1 G q1 _=> ?_;refine fresh λb3 F2 N q2 _=> ?_;have q1:=N _ _ q1;have G:=aa G N;have P:=hs.p.le G;have no:¬oK g x->(nS mz=nS (decide (oK g x))/\F.le F2):=λh=>⟨by rw [η h],G⟩;have UQ:¬(x.par<g.qa0.length/\x.ch<g.qa0.length)->¬oK g x:=λh C=>by obtain ⟨_,_,_,W,X,A,B,_⟩:=C;have:=(N6.1 A).1;have:=(N6.1 B).1;exact h (by omega)
 refine ⟨_,ld q2 rfl,λh=>no λC=>by have:=C.1;omega,λk1=>⟨_,ld q2 rfl,_,ld q1 rfl,λh=>no (UQ (by omega)),λk2=>⟨_,ld q2 rfl,λh=>no λC=>by have:=C.2.1;omega,λk3=>⟨_,ld q2 rfl,_,ld q1 rfl,λh=>no (UQ (by omega)),λk4=>⟨_,ld q1 rfl,_,ld q2 rfl,?_⟩⟩⟩⟩⟩;refine t6 P (by decide) (by omega) (by omega) λa K y L E H=> ?_;obtain ⟨rr,n2,a0,rfl,h1,_,_⟩:=H;have er:=h1.len;have J:¬x.pos<y.right.length->¬oK g x:=λh C=>by obtain ⟨_,_,_,W,X,A,B,D⟩:=C;rw [L] at A;cases A;have:=(N6.1 D).1;omega
 refine ⟨_,aM E rfl,_,ld q2 rfl,λO=>⟨_,ld q2 rfl,λk6=>⟨_,ld q2 rfl,?_⟩,λk6=>no (J (by omega))⟩,λO=>no λC=>O C.2.2.1⟩;refine t6 h1 (by decide) (by omega) (by omega) λa K z Q E H=> ?_;rw [show K=z.arr from H] at E;refine ⟨_,rfl,E,_,ld q1 rfl,_,ld q2 rfl,t6 P (by decide) (by omega) (by omega) λa K u M E H=> ?_⟩;obtain ⟨r3,n3,a1,rfl,_,_,_⟩:=H;refine ⟨_,aM E rfl,_,λF=>MT z ⟨mz,u.left⟩ F,?_,G⟩;congr 1;rw [wi,δ,δ];constructor
 ·rintro rfl;exact ⟨by omega,by omega,by omega,y,u,L,M,Q⟩
 ·rintro ⟨_,_,_,W,X,A,B,D⟩;rw [L] at A;cases A;rw [M] at B;cases B;rw [Q] at D;exact yC D
def co (g:Gr) (x:Fi):Prop:=iz x.cond g.qa4.length/\
  (((x.k=1\/x.k=2)/\oK g x/\x.left=0/\x.tok=0/\x.qa2=[])\/
   ((x.k=3\/x.k=4)/\(0<=x.left/\x.left<g.qa1.length/\fN g (λt=>decide (t.cls=0)) x.qa2)/\x.par=0/\x.pos=0/\x.ch=0/\x.tok=0)\/
   (x.k=5/\(fN g (λt=> !decide (t.lit=emp)) x.qa2/\0<=x.tok/\∃t,g.qa2[x.tok.toNat]? =V t/\t.cls=0/\t.lit=emp)/\x.par=0/\x.pos=0/\x.ch=0/\x.left=0))
theorem qc5:aF prog 178=mY:=by kernel_rfl
theorem qc6:aF prog 179=mY:=by kernel_rfl
theorem kA {F:PH} {t:Tk} {c:Γ} (h:Mem.rep F t c):ν 178 #[nL c] F λr w=>r=nS (decide (t.cls=0))/\F.le w:=by obtain ⟨p,n,rfl,_,_⟩:=h;refine qdn ?_;unfold O2;exact fresh λb A g q1 _=>⟨_,ld q1 rfl,rfl,g⟩
theorem kB {F:PH} {t:Tk} {c:Γ} (h:Mem.rep F t c):ν 179 #[nL c] F λr w=>r=nS (!decide (t.lit=emp))/\F.le w:=by obtain ⟨p,n,rfl,_,_⟩:=h;refine qdo ?_;unfold O3;exact fresh λb A g q1 _=>⟨_,ld q1 rfl,by rw [mj],g⟩
abbrev sF (a0 a1 a2 a3 a4 a5:Int) (s6 s7:Sl) (a8:Int):Γ:= #[U a0,U a1,U a2,U a3,U a4,U a5,s6.v,s7.v,U a8]
open Classical in
theorem qg6 {F:PH} {v:Γ} {g:Gr} (hg:GV F v g) (hl:dN g=mz) (hz:Sz g):ν 145 #[nL v] F λr P=>r=U (if ∀x∈g.fils,co g x then 0 else 53)/\F.le P:=by
 obtain ⟨_,_,d0,_,_,_,_⟩:=fH hl;have W:=hg;obtain ⟨c,n,t,s,p,lv,f,rfl,hs⟩:=hg;have ec:=hs.c.len;have et:=hs.t.len;have es:=hs.s.len;have ef:=hs.f.len;refine qdf ?_;unfold OU;refine fresh λb1 F1 l1 q1 _=> ?_;have hs:=hs.le l1;have W:=W.le l1;refine ⟨_,ld q1 rfl,?_⟩;refine bC (wW · b1 f _) g.fils.length (λk P=>∃G,F1.le G/\St G P []/\∀x∈g.fils.take k,co g x) ⟨F1,au _,.start _,by simp⟩ ?_;rintro k F3 N hk ⟨G3,O,h,hi⟩ next;unfold wW;refine ⟨λb3=> ?_,λc9=> ?_⟩
 ·have b3:k<g.fils.length:=by omega
  refine h.ix (hs.f.le O) (by decide) (by omega) (by omega) λa cc x hx hr Q=> ?_;rw [N4] at hx;have c2:x∈g.fils:=vQ hx;have b5:=hz.f x c2;have b9:=Mem.st Q;have c7:=Q;obtain ⟨tt,nn,rfl,h1,h2⟩:=Q;have c4:=h1.len;refine ⟨x.arr tt nn,rfl,hr,?_⟩;refine h.var b9 λb6 G4 F4 l4 q6 h=> ?_;have bad:∀{P},G3.le P->¬co g x->(U 53=U (if ∀x∈g.fils,co g x then 0 else 53)/\F.le P):=λ{P} l H=>⟨by rw [if_neg (λh=>H (h x c2))],aa l1 (aa O l)⟩;refine ⟨#[nn.v,U x.cond.2],rfl,fX (h.le _ _ q6) rfl,_,ld (h.le _ _ (l4 _ _ (O _ _ q1))) rfl,?_⟩;dsimp only;rw [ec];refine h.runv (gR (d:=x.cond) (DV.mk (h2.le l4))) λG5 F5 l5 h=>⟨_,rfl,_,rfl,ai (h.le _ _ (l5 _ _ q6)),?_⟩;have w:=aa l4 l5;have q6:=l5 _ _ q6;refine h.new λb8 F6 h=> ?_;refine h.put0 (w':=x.arr tt nn) rfl rfl b9 λF7 h=> ?_;refine h.set0 (w':=sF 0 x.par x.pos x.ch x.left x.tok tt nn x.cond.2) (by simp) rfl λF8 h=> ?_;refine h.putR0 (w':=sF 0 x.par x.pos x.ch x.left x.tok tt pi 0) rfl (by simp [ak]) (by simp) rfl λF9 h=> ?_;have j2:∀(a6:Bool) (a1 a2 a3 a4 a5:Int) (s6:Sl) G9 F9,G3.le G9->St G9 F9 [pt b8 (Y (sF 0 a1 a2 a3 a4 a5 s6 pi 0) 233)]->
    ((a6=mY/\a1=0/\a2=0/\a3=0/\a4=0/\a5=0/\s6.len=0)↔co g x)->
    dJ N b1 b8 f (k:Int) a6 (λr P=>r=U (if ∀x∈g.fils,co g x then 0 else 53)/\F.le P) F9:=λa6 a1 a2 a3 a4 a5 s6 G9 F9 l9 h D=>by
   unfold dJ;have l:=aa l9 h.le
   refine ⟨λhb=>bad l λH=>(by rw [(D.2 H).1] at hb;cases hb),λhb=>⟨_,h.ld0 rfl,λe=>bad l λH=>e (D.2 H).2.1,λe1=>⟨_,h.ld0 rfl,λe=>bad l λH=>e (D.2 H).2.2.1,λe2=>⟨_,h.ld0 rfl,λe=>bad l λH=>e (D.2 H).2.2.2.1,λe3=>
    ⟨_,h.ld0 rfl,λe=>bad l λH=>e (D.2 H).2.2.2.2.1,λe4=>⟨_,h.ld0 rfl,λe=>bad l λH=>e (D.2 H).2.2.2.2.2.1,λe5=>⟨_,h.ld0 rfl,λe=>bad l λH=>by have:=(D.2 H).2.2.2.2.2.2;omega,λe6=> ?_⟩⟩⟩⟩⟩⟩⟩
   rw [aC b3];refine next _ b3 ⟨G9,aa O l9,h.tail,λy hy=> ?_⟩;rw [bD hx] at hy;rcases vd.1 hy with hy|hy
   ·exact hi y hy
   ·rw [vy.1 hy];exact D.1 ⟨by simpa using hb,Classical.not_not.1 e1,Classical.not_not.1 e2,Classical.not_not.1 e3,Classical.not_not.1 e4,Classical.not_not.1 e5,by omega⟩
  have hF:=cP (d:=x.cond) (n:=g.qa4.length);generalize sj x.cond g.qa4.length=fit at*;have a9:tt.len=0↔x.qa2=[]:=by rw [c4];exact XY
  refine ⟨_,ld (h.le _ _ q6) rfl,?_⟩;have j4:∀(b:Bool),(b=mY↔x.k=3\/x.k=4)->¬(x.k=1\/x.k=2)->pT N b1 b6 fit b8 f (k:Int) x.k b (λr P=>r=U (if ∀x∈g.fils,co g x then 0 else 53)/\F.le P) F9:=λb hb c8=>by
   unfold pT;refine ⟨λb0=> ?_,λa7=>⟨λk5=> ?_,λk5=> ?_⟩⟩
   ·have hk:=hb.1 b0;refine h.set0 (w':=sF 0 x.par x.pos x.ch 0 x.tok tt pi 0) (by simp) rfl λC h=> ?_;refine h.set0 (w':=sF 0 x.par x.pos x.ch 0 x.tok pi pi 0) (by simp) rfl λL h=> ?_;have J:¬(0<=x.left/\x.left<g.qa1.length/\fN g (λt=>decide (t.cls=0)) x.qa2)->¬co g x:=λH A=>by
     rcases A.2 with B|B|B
     ·omega
     ·exact H B.2.1
     ·omega
    refine ⟨λX=>⟨_,ld (h.le _ _ q6) rfl,λk1=>⟨_,ld (h.le _ _ q6) rfl,_,ld (h.le _ _ (w _ _ (O _ _ q1))) rfl,λk2=>⟨_,rfl,ai (h.le _ _ (w _ _ (O _ _ q1))),_,ld (h.le _ _ q6) rfl,?_⟩,λk2=> ?_⟩,λk1=> ?_⟩,λM=> ?_⟩
    ·refine h.runv (ji (W.le (aa O w)) (h1.le w) b5 qc5 (λt=>decide (t.cls=0)) λt c F1 _ Q=>kA Q) λE C K h=>⟨_,rfl,?_⟩;refine j2 _ _ _ _ _ _ _ E C (aa w K) h ?_;rw [δ];constructor
     ·rintro ⟨ha,e1,e2,e3,_,e5,_⟩;exact ⟨hF.1 X,.inr (.inl ⟨hk,⟨k1,by omega,ha⟩,e1,e2,e3,e5⟩)⟩
     ·intro A;rcases A.2 with B|B|B
      ·omega
      ·exact ⟨B.2.1.2.2,B.2.2.1,B.2.2.2.1,B.2.2.2.2.1,rfl,B.2.2.2.2.2,rfl⟩
      ·omega
    ·exact j2 _ _ _ _ _ _ _ G5 L w h ⟨λh=>(by cases h.1),λA=>absurd A (J λh=>k2 (by omega))⟩
    ·exact j2 _ _ _ _ _ _ _ G5 L w h ⟨λh=>(by cases h.1),λA=>absurd A (J λh=>k1 h.1)⟩
    ·exact j2 _ _ _ _ _ _ _ G5 L w h ⟨λh=>(by cases h.1),λA=>by rw [hF.2 A.1] at M;cases M⟩
   ·refine h.set0 (w':=sF 0 x.par x.pos x.ch x.left 0 tt pi 0) (by simp) rfl λC h=> ?_;refine h.set0 (w':=sF 0 x.par x.pos x.ch x.left 0 pi pi 0) (by simp) rfl λL h=> ?_;have J:¬(fN g (λt=> !decide (t.lit=emp)) x.qa2/\0<=x.tok/\∃t,g.qa2[x.tok.toNat]? =V t/\t.cls=0/\t.lit=emp)->¬co g x:=λH A=>by
     rcases A.2 with B|B|B
     ·omega
     ·omega
     ·exact H B.2.1
    have a8:∀E C,G3.le E->St E C [pt b8 (Y (sF 0 x.par x.pos x.ch x.left 0 pi pi 0) 233)]->¬co g x->iv N b1 b6 b8 f (k:Int) mz (λr P=>r=U (if ∀x∈g.fils,co g x then 0 else 53)/\F.le P) C:=λE C K h H=>by unfold iv;exact ⟨λh=>(by cases h),λ_=>j2 _ _ _ _ _ _ _ E C K h ⟨λh=>(by cases h.1),λA=>absurd A H⟩⟩
    refine ⟨λX=>⟨_,rfl,ai (h.le _ _ (w _ _ (O _ _ q1))),_,ld (h.le _ _ q6) rfl,?_⟩,λM=>a8 G5 L w h λA=>by rw [hF.2 A.1] at M;cases M⟩;refine h.runv (ji (W.le (aa O w)) (h1.le w) b5 qc6 (λt=> !decide (t.lit=emp)) λt c F1 _ Q=>kB Q) λE C K h=>⟨_,rfl,λha=> ?_,λha=>a8 E C (aa w K) h (J λh=>ι ha h.1)⟩;have ha:=ζ ha;have w:=aa w K;have q6:=K _ _ q6;have p1:=w _ _ (O _ _ q1);refine ⟨_,ld (h.le _ _ q6) rfl,λk1=>⟨_,ld (h.le _ _ q6) rfl,_,ld (h.le _ _ p1) rfl,?_⟩,λk1=>a8 E C w h (J λh=>k1 h.2.1)⟩;by_cases k2:x.tok<(t.len:Int)
    ·dsimp only;rw [decide_eq_true k2];unfold iv;refine ⟨λ_=>⟨_,ld (h.le _ _ p1) rfl,_,ld (h.le _ _ q6) rfl,h.ix (hs.t.le (aa O w)) (by decide) k1 k2 λa cc y hy hr Q=>⟨cc,Mem.len Q,hr,?_⟩⟩,λh=>(by cases h)⟩;refine h.runv (kA Q) λc5 L a0 h=>⟨_,rfl,λk3=>⟨_,ld (h.le _ _ (a0 _ _ p1)) rfl,_,ld (h.le _ _ (a0 _ _ q6)) rfl,h.ix (hs.t.le (aa O (aa w a0))) (by decide) k1 k2 λa cc z hz hr Q=>⟨cc,Mem.len Q,hr,?_⟩⟩,λk3=> ?_⟩
     ·rw [hy] at hz;cases hz;refine h.runv (kB Q) λc3 b2 c6 h=>⟨_,rfl,?_⟩;refine j2 _ _ _ _ _ _ _ c3 b2 (aa w (aa a0 c6)) h ?_;rw [Bool.not_not,δ];constructor
      ·rintro ⟨b7,e1,e2,e3,e4,_⟩;exact ⟨hF.1 X,.inr (.inr ⟨k5,⟨ha,k1,y,hy,ζ k3,b7⟩,e1,e2,e3,e4⟩)⟩
      ·intro A;rcases A.2 with B|B|B
       ·omega
       ·omega
       ·obtain ⟨_,_,u,hu,_,b4⟩:=B.2.1;rw [hy] at hu;cases hu;exact ⟨b4,B.2.2.1,B.2.2.2.1,B.2.2.2.2.1,B.2.2.2.2.2,rfl,rfl⟩
     ·refine j2 _ _ _ _ _ _ _ c5 L (aa w a0) h ⟨λh=>(by cases h.1),λA=>absurd A (J λh=> ?_)⟩;obtain ⟨_,_,u,hu,b4,_⟩:=h;rw [hy] at hu;cases hu;exact ι k3 b4
    ·dsimp only;rw [decide_eq_false k2];refine a8 E C w h (J λh=> ?_);obtain ⟨_,_,u,hu,_,_⟩:=h;have:=(N6.1 hu).1;omega
   ·refine j2 _ _ _ _ _ _ _ G5 F9 w h ⟨λh=>(by cases h.1),λA=> ?_⟩;have:¬(x.k=3\/x.k=4):=λh=>by rw [hb.2 h] at a7;cases a7
    rcases A.2 with B|B|B<;>omega
  have j3:∀(b:Bool),(b=mY↔x.k=1\/x.k=2)->pU N b1 b6 fit b8 f (k:Int) x.k b (λr P=>r=U (if ∀x∈g.fils,co g x then 0 else 53)/\F.le P) F9:=λb hb=>by
   unfold pU;refine ⟨λb0=> ?_,λa7=> ?_⟩
   ·have hk:=hb.1 b0;refine h.set0 (w':=sF 0 0 x.pos x.ch x.left x.tok tt pi 0) (by simp) rfl λC h=> ?_;refine h.set0 (w':=sF 0 0 0 x.ch x.left x.tok tt pi 0) (by simp) rfl λL h=> ?_;refine h.set0 (w':=sF 0 0 0 0 x.left x.tok tt pi 0) (by simp) rfl λb2 h=> ?_;refine ⟨λX=>⟨_,rfl,ai (h.le _ _ (w _ _ (O _ _ q1))),_,rfl,ai (h.le _ _ q6),?_⟩,λM=> ?_⟩
    ·refine h.runv (Gv (W.le (aa O w)) (Mem.le w c7)) λE C K h=>⟨_,rfl,?_⟩;refine j2 _ _ _ _ _ _ _ E C (aa w K) h ?_;rw [δ];constructor
     ·rintro ⟨ha,_,_,_,e4,e5,e6⟩;exact ⟨hF.1 X,.inl ⟨hk,ha,e4,e5,a9.1 e6⟩⟩
     ·intro A;rcases A.2 with B|B|B
      ·exact ⟨B.2.1,rfl,rfl,rfl,B.2.2.1,B.2.2.2.1,a9.2 B.2.2.2.2⟩
      ·omega
      ·omega
    ·exact j2 _ _ _ _ _ _ _ G5 b2 w h ⟨λh=>(by cases h.1),λA=>by rw [hF.2 A.1] at M;cases M⟩
   ·have H:¬(x.k=1\/x.k=2):=λh=>by rw [hb.2 h] at a7;cases a7
    exact ⟨λe=>j4 _ (by rw [δ];omega) H,λe=>j4 _ (by rw [δ];omega) H⟩
  exact ⟨λe=>j3 _ (by rw [δ];omega),λe=>j3 _ (by rw [δ];omega)⟩
 ·have e:k=g.fils.length:=by omega
  subst e;rw [wy] at hi;unfold D5;exact ⟨by rw [Χ hi],aa l1 (aa O h.le)⟩
def Jn (n:Nat) (done:List ο) (t:Tk):Prop:=t.name≠emp/\t.name ∉ done/\0<=t.cls/\t.cls<=2/\iz t.cond n/\(t.lit≠emp->t.smp=emp/\t.pat=[])/\
 (t.lit=emp->fE t.pat=0/\(t.cls=0->t.smp≠emp/\Xn t.pat (bs t.smp))/\(t.cls≠0->t.smp=emp))
def fO (n:Nat) (done:List ο):List Tk->Prop
 |[]=>True
 |t::r=>Jn n done t/\fO n (done++[t.name]) r
open Classical in
theorem qhb {F:PH} {v:Γ} {g:Gr} (hT:Tab F) (hg:GV F v g) (hl:dN g=mz) (hz:Sz g):ν 141 #[nL v] F λr M=>r=U (if fO g.qa4.length [] g.qa2 then 0 else 51)/\F.le M:=by
 obtain ⟨_,a4,_⟩:=fH hl;obtain ⟨c,n,t,s,p,lv,f,rfl,hs⟩:=hg;have ec:=hs.c.len;have et:=hs.t.len;refine qdb ?_;unfold OQ;refine fresh λb1 F1 l1 q1 _=> ?_;have hs:=hs.le l1;have hT:=hT.le l1;refine (iw F1).mono ?_;rintro _ F2 ⟨G2,bn,m,rfl,l2,a1,h⟩;refine ⟨_,rfl,_,ld (h.le _ _ (l2 _ _ q1)) rfl,?_⟩;refine bC (wR · b1 (zh bn) t _) g.qa2.length (λk M=>∃G,G2.le G/\St G M [seen m ((g.qa2.take k).map Tk.name).reverse]/\(fO g.qa4.length [] g.qa2↔fO g.qa4.length ((g.qa2.take k).map Tk.name) (g.qa2.drop k)))
  ⟨G2,au _,h,by simp⟩ ?_
 rintro k F3 N hk ⟨G3,l3,h,W⟩ next;have J:=aa l2 l3;unfold wR;refine ⟨λQ=> ?_,λa5=> ?_⟩
 ·have Q:k<g.qa2.length:=by omega
  refine h.ix (hs.t.le J) (by decide) (by omega) (by omega) λa cc x hx hr hc=> ?_;rw [N4] at hx;have a3:x∈g.qa2:=vQ hx;have a6:=hz.t x a3;rw [fG hx,fO] at W;have a2:=Mem.st hc;obtain ⟨pp,nn,rfl,h1,h2⟩:=hc;have a0:=h1.len;refine ⟨x.arr pp nn,rfl,hr,?_⟩;refine h.var a2 λb5 G4 F4 l4 q5 h=> ?_;have bad:∀{M},G3.le M->¬Jn g.qa4.length ((g.qa2.take k).map Tk.name) x->(U 51=U (if fO g.qa4.length [] g.qa2 then 0 else 51)/\F.le M):=λ{M} l H=>⟨by rw [Υ (λh=>H (W.1 h).1)],aa l1 (aa J l)⟩;refine ⟨_,ld (h.le _ _ q5) rfl,?_⟩;refine pY h (aK (aa l3 l4) a1) x.name λG5 F5 l5 h=>⟨_,rfl,λD=>bad (aa l4 (aa l5 h.le)) λH=> ?_,λD=> ?_⟩
  ·rw [ε ⟨H.1,H.2.1⟩] at D;cases D
  have L:x.name≠emp/\x.name ∉ (g.qa2.take k).map Tk.name:=by simpa using D
  have A:=aa l4 l5;have q5:=l5 _ _ q5;refine ⟨_,ld (h.le _ _ q5) rfl,λD=>bad (aa A h.le) λH=>by have:=H.2.2.1;omega,λc0=>⟨_,ld (h.le _ _ q5) rfl,λD=>bad (aa A h.le) λH=>by have:=H.2.2.2.1;omega,λc2=>⟨#[nn.v,U x.cond.2],rfl,fX (h.le _ _ q5) rfl,_,ld (h.le _ _ (A _ _ (J _ _ q1))) rfl,?_⟩⟩⟩;dsimp only;rw [ec];refine h.runv (gR (d:=x.cond) (DV.mk (h2.le A))) λG6 F6 l6 h=>⟨_,rfl,λD=>bad (aa A (aa l6 h.le)) λH=> ?_,λD=> ?_⟩
  ·rw [cP.2 H.2.2.2.2.1] at D;cases D
  have O:iz x.cond g.qa4.length:=cP.1 (by simpa using D);have A:=aa A l6;have q5:=l6 _ _ q5;have e:(g.qa2.take k).map Tk.name++[x.name]=(g.qa2.take (k+1)).map Tk.name:=by rw [bD hx,yT];rfl
  have j2:∀(K:Bool) G9 F9,G3.le G9->St G9 F9 [seen m ((g.qa2.take k).map Tk.name++[x.name]).reverse]->(K=mY↔Jn g.qa4.length ((g.qa2.take k).map Tk.name) x)->
    gi N b1 (zh bn) t (k:Int) K (λr M=>r=U (if fO g.qa4.length [] g.qa2 then 0 else 51)/\F.le M) F9:=λK G9 F9 l9 h P=>by
   unfold gi;refine ⟨λD=>bad (aa l9 h.le) λH=>(by rw [P.2 H] at D;cases D),λD=> ?_⟩;rw [aC Q];have C:=P.1 (by simpa using D);rw [e] at h W;exact next _ Q ⟨G9,aa l3 l9,h,W.trans ⟨λh=>h.2,λh=>⟨C,h⟩⟩⟩
  refine ⟨_,ld (h.le _ _ q5) rfl,_,ld (h.le _ _ q5) rfl,λw=> ?_,λw=> ?_⟩
  ·rw [mj] at w;have w:x.lit≠emp:=by simpa using w
   rw [mj];refine ⟨λB=>⟨_,ld (h.le _ _ q5) rfl,?_⟩,λB=> ?_⟩
   ·have B:=ζ B;refine j2 _ G6 F6 A h ?_;rw [δ];constructor
    ·intro h0;exact ⟨L.1,L.2,by omega,by omega,O,λ_=>⟨B,V5 (by omega)⟩,λh=>absurd h w⟩
    ·intro C;rw [(C.2.2.2.2.2.1 w).2] at a0;simp at a0;omega
   ·have B:=ι B;exact j2 _ G6 F6 A h ⟨λh=>(by cases h),λC=>absurd (C.2.2.2.2.2.1 w).1 B⟩
  ·rw [mj] at w;have w:x.lit=emp:=by simpa using w
   refine ⟨_,ld (h.le _ _ q5) rfl,?_⟩;refine h.runv (oR (RL.nds.1 (h1.le A))) λG7 F7 l7 h=>⟨_,rfl,λX=>j2 _ G7 F7 (aa A l7) h ⟨λh=>(by cases h),λC=>absurd (C.2.2.2.2.2.2 w).1 X⟩,λX=>⟨_,ld (h.le _ _ (l7 _ _ q5)) rfl,?_⟩⟩;have X:=Classical.not_not.1 X;have A:=aa A l7;have q5:=l7 _ _ q5;have mk:((x.cls=0->x.smp≠emp/\Xn x.pat (bs x.smp))/\(x.cls≠0->x.smp=emp))->Jn g.qa4.length ((g.qa2.take k).map Tk.name) x:=λhm=>⟨L.1,L.2,by omega,by omega,O,λh=>absurd w h,λ_=>⟨X,hm⟩⟩;rw [mj];refine ⟨λE=>⟨λB=>⟨_,ld (h.le _ _ q5) rfl,_,ld (h.le _ _ q5) rfl,?_⟩,λB=> ?_⟩,λE=> ?_⟩
   ·have B:x.smp≠emp:=by simpa using B
    refine (h.call (qhp (hT.le (aa J A)) (RL.nds.1 (h1.le A)) x.smp (by omega))).mono ?_;rintro _ F8 ⟨G8,⟨⟨q,rfl,hq⟩,l8⟩,h⟩;refine ⟨_,rfl,j2 _ G8 F8 (aa A l8) h ?_⟩;rw [hq];exact ⟨λhm=>mk ⟨λ_=>⟨B,hm.2⟩,λh=>absurd E h⟩,λC=>⟨X,((C.2.2.2.2.2.2 w).2.1 E).2⟩⟩
   ·have B:x.smp=emp:=by simpa using B
    exact j2 _ G7 F7 A h ⟨λh=>(by cases h),λC=>absurd B ((C.2.2.2.2.2.2 w).2.1 E).1⟩
   ·refine j2 _ G7 F7 A h ?_;rw [δ];exact ⟨λhm=>mk ⟨λh=>absurd h E,λ_=>hm⟩,λC=>(C.2.2.2.2.2.2 w).2.2 E⟩
 ·have e:k=g.qa2.length:=by omega
  subst e;rw [XW,fO] at W;unfold D0;exact ⟨by rw [Χ (W.2 trivial)],aa l1 (aa J h.le)⟩
open Classical in
def BZ (g:Gr):Int:=
 if dN g=mY then 2 else if ¬oJ g then 54 else if ¬fO g.qa4.length [] g.qa2 then 51 else if ¬jg g then 50 else if eD g [] g.qa0≠0 then eD g [] g.qa0
 else if ¬eF g [] g.lvs then 53 else if ¬∀x∈g.fils,co g x then 53 else 0
structure OkG (g:Gr):Prop where
 large:dN g=mz
 fam:oJ g
 qa2:fO g.qa4.length [] g.qa2
 qa1:jg g
 qa0:eD g [] g.qa0=0
 lvs:eF g [] g.lvs
 fils:∀x∈g.fils,co g x
theorem w8 {g:Gr}:BZ g=0↔OkG g:=by
 unfold BZ;constructor
 ·intro h;split at h
  ·cases h
  ·rename_i B;split at h
   ·cases h
   ·rename_i A;split at h
    ·cases h
    ·rename_i C;split at h
     ·cases h
     ·rename_i D;split at h
      ·rename_i r;exact absurd h r
      ·rename_i r;split at h
       ·cases h
       ·rename_i E;split at h
        ·cases h
        ·rename_i w;exact ⟨by simpa using B,Classical.not_not.1 A,Classical.not_not.1 C,Classical.not_not.1 D,Classical.not_not.1 r,Classical.not_not.1 E,Classical.not_not.1 w⟩
 ·rintro ⟨B,A,C,D,r,E,w⟩;rw [Υ (by simp [B]),Υ (λh=>h A),Υ (λh=>h C),Υ (λh=>h D),Υ (λh=>h r),Υ (λh=>h E),Υ (λh=>h w)]
theorem MW:aF prog 140=mY/\aF prog 141=mY/\aF prog 142=mY/\aF prog 143=mY/\aF prog 144=mY/\aF prog 145=mY:=by refine ⟨?_,?_,?_,?_,?_,?_⟩<;>kernel_rfl
open Classical in
def zj (g:Gr) (k:Nat):Int:=match k with
 |0=>if oJ g then 0 else 54
 |1=>if fO g.qa4.length [] g.qa2 then 0 else 51
 |2=>if jg g then 0 else 50
 |3=>eD g [] g.qa0
 |4=>if eF g [] g.lvs then 0 else 53
 |_=>if ∀x∈g.fils,co g x then 0 else 53
def D9 (k:Nat):Nat:=match k with
 |0=>140
 |1=>141
 |2=>142
 |3=>143
 |4=>144
 |_=>145
theorem Gw {F:PH} {v:Γ} {g:Gr} (J:Tab F) (h:GV F v g) (w:dN g=mz) (A:Sz g) (k:Nat):aF prog (D9 k)=mY/\aj prog (D9 k) #[nL v] F λr E=>r=U (zj g k)/\F.le E:=by
 obtain ⟨c1,C,H,D,K,G⟩:=MW;have B:=fH w
 match k with
 |0=>exact ⟨c1,qg9 h A B.1⟩
 |1=>exact ⟨C,qhb J h w A⟩
 |2=>exact ⟨H,qho h B.2.2.2.1⟩
 |3=>exact ⟨D,qhi h w⟩
 |4=>exact ⟨K,qha h w A⟩
 |n+5=>exact ⟨G,qg6 h w A⟩
theorem XH {p:Prop} [Decidable p] {a:Int} (r:a≠0) (h:(if p then 0 else a)=0):p:=by
 by_cases g:p
 ·exact g
 ·rw [Υ g] at h;exact absurd h r
open Classical in
theorem oL {F:PH} {v:Γ} {g:Gr} (hT:Tab F) (L:GV F v g) (hz:Sz g):ν 104 #[nL v] F λr Q=>r=U (BZ g)/\F.le Q:=by
 refine qdE ?_;unfold OM;refine fresh λb1 F1 C q1 _=>⟨v,L.size,ai q1,?_⟩;refine (BV (L.le C)).mono ?_;rintro _ F2 ⟨rfl,l2⟩;have C:=aa C l2;have q1:=l2 _ _ q1;refine ⟨_,rfl,λJ=>⟨?_,C⟩,λJ=> ?_⟩
 ·unfold BZ;rw [Χ J]
 refine fresh λb9 F3 l3 q9 _=> ?_;have C:=aa C l3;have q1:=l3 _ _ q1;have G:∀k,k<6->(∀j,j<k->zj g j=0)->zj g k≠0->BZ g=zj g k:=λk hk E w=>by
  have H:0<k->oJ g:=λh=>XH (a:=54) (by decide) (E 0 h);have K:1<k->fO g.qa4.length [] g.qa2:=λh=>XH (a:=51) (by decide) (E 1 h);have O:2<k->jg g:=λh=>XH (a:=50) (by decide) (E 2 h);have X:3<k->eD g [] g.qa0=0:=λh=>E 3 h;have s4:4<k->eF g [] g.lvs:=λh=>XH (a:=53) (by decide) (E 4 h);unfold BZ;rw [Υ (by simp [J])]
  match k,hk with
  |0,_=>have A:¬oJ g:=λh=>w (Χ h);rw [Χ A];exact (Υ A).symm
  |1,_=>have A:¬fO g.qa4.length [] g.qa2:=λh=>w (Χ h);rw [Υ (λh=>h (H (by decide))),Χ A];exact (Υ A).symm
  |2,_=>have A:¬jg g:=λh=>w (Χ h);rw [Υ (λh=>h (H (by decide))),Υ (λh=>h (K (by decide))),Χ A];exact (Υ A).symm
  |3,_=>rw [Υ (λh=>h (H (by decide))),Υ (λh=>h (K (by decide))),Υ (λh=>h (O (by decide))),Χ (show eD g [] g.qa0≠0 from w)];rfl
  |4,_=>have A:¬eF g [] g.lvs:=λh=>w (Χ h);rw [Υ (λh=>h (H (by decide))),Υ (λh=>h (K (by decide))),Υ (λh=>h (O (by decide))),Υ (λh=>h (X (by decide))),Χ A];exact (Υ A).symm
  |5,_=>have A:¬∀x∈g.fils,co g x:=λh=>w (Χ h);rw [Υ (λh=>h (H (by decide))),Υ (λh=>h (K (by decide))),Υ (λh=>h (O (by decide))),Υ (λh=>h (X (by decide))),Υ (λh=>h (s4 (by decide))),Χ A];exact (Υ A).symm
 refine bC (wP · b1 b9 _) 6 (λk Q=>F3.le Q/\∀j,j<k->zj g j=0) ⟨au _,λj h=>by omega⟩ ?_;rintro k F4 N hk ⟨D,hi⟩ next;unfold wP;refine ⟨λB=> ?_,λM=> ?_⟩
 ·have B:k<6:=by simp only at B;omega
  refine ⟨_,rfl,by omega,by simp only;omega,.func (.func (D9 k)) #[] #[],?_,v,L.size,ai (D _ _ q1),D9 k,#[],#[],rfl,?_⟩
  ·rw [N4,aI,av (D _ _ q9)]
   match k,B with
   |0,_=>rfl
   |1,_=>rfl
   |2,_=>rfl
   |3,_=>rfl
   |4,_=>rfl
   |5,_=>rfl
  ·obtain ⟨h1,h2⟩:=Gw (hT.le (aa C D)) (L.le (aa C D)) J hz k;refine ⟨h1,?_⟩;have e:(#[]:Γ)++[nL v].toArray++ #[]= #[nL v]:=by simp
   dsimp only;rw [e];refine h2.mono ?_;rintro _ F5 ⟨rfl,W⟩;refine ⟨_,rfl,λw=>⟨by rw [G k B hi w],aa C (aa D W)⟩,λP=> ?_⟩;rw [aC B];refine next _ B ⟨aa D W,λj E=> ?_⟩;by_cases e:j=k
   ·rw [e];exact Classical.not_not.1 P
   ·exact hi j (by omega)
 ·have e:k=6:=by simp only at M;omega
  subst e;unfold DY;refine ⟨?_,aa C D⟩;rw [w8.2 ⟨J,XH (a:=54) (by decide) (hi 0 (by decide)),XH (a:=51) (by decide) (hi 1 (by decide)),XH (a:=50) (by decide) (hi 2 (by decide)),hi 3 (by decide),XH (a:=53) (by decide) (hi 4 (by decide)),XH (a:=53) (by decide) (hi 5 (by decide))⟩]
structure SlT (t e:TypeId) (n bytes:Nat) (z:Value):Prop where
 ht:prog.underlying t=V (.slice e)
 hsz:vA prog e=V (n,bytes)
 hz:bu prog e=V z
 hzs:z.cells.size=n
 hn:0<n
 hb:bytes<=250
theorem Ea {n m b:Nat} (g:b<=250) (h:n+m<=500000000000):(n+m)*b<=140737488355328:=
 Wz (Yo h g) (by decide)
theorem St.appAt {G F:PH} {As:List (Ψ)} {t e n bytes:Nat} {z:ξ} (T:SlT t e n bytes z) {s x:Sl} {r news:Ξ} {ty:TypeId} (h:St G F As) (i:Nat) (hi:As[i]? =V (own s e n r)) (g:RdS F x n news) (P:∀v∈news,ak v)
  (C:s.len+x.len<=500000000000) {K:Sl->Ψ} (k:∀w Q,St G Q (As.set i (own w e n (r++news)))->w.len=s.len+x.len->K w Q):
  aG prog (Builtin.append_ #[t,t] ty #[s.v,x.v]) F λv F=>∃w:Sl,v=nE w/\K w F:=by
 obtain ⟨H,N,a2,X,O⟩:=h.set (A':=own s e n r) hi;have ho:=(h.ownAt hi).1;by_cases W:x.len=0
 ·have D:news=[]:=V5 (by rw [g.len,W,V9]);subst D;refine oZ T.ht T.hsz T.hz T.hzs ho g W (by have:=Ea (n:=s.len) (m:=0) T.hb (by omega);simpa using this) (by omega) ⟨s,rfl,k s F ?_ (by omega)⟩;rw [yn];exact O H F N (λb B=> .inl B) X (λb o B _=>B)
 ·refine tH T.ht T.hsz T.hz T.hzs T.hn ho g (by omega) P (Ea T.hb C) (by omega) ?_;rintro w Q b ob rfl J M A B;obtain ⟨H,N,a2,X,O⟩:=h.set (A':=own w e n (r++news)) hi;have E:H b≠I\/F b=I:=by
   rcases B with ⟨a,L,rfl⟩|B
   ·obtain ⟨a0,hc⟩:=bP.elem N L;exact .inl (by rw [hc];simp)
   ·exact .inr B
  refine ⟨w,rfl,k w _ ?_ M⟩;refine O (PH.set (λ_=>I) b ob) _ (J.keep λa L=>by rw [A a L,aq,aq]) (λx g=> ?_) (λx p g=> ?_) (λx p g hn=> ?_)
  ·by_cases e:x=b
   ·rw [e];exact E
   ·rw [aw _ _ e] at g;exact absurd rfl g
  ·by_cases e:x=b
   ·rw [e,aq] at g ⊢;exact g
   ·rw [aw _ _ e] at g;cases g
  ·have e:x≠b:=λe=>by
    subst e;rcases E with h|h
    ·exact h hn
    ·rw [h] at g;cases g
   rw [aw _ _ e];exact g
namespace St
section
variable {G F:PH} {As:List (Ψ)} {t e n bytes:Nat} {z:ξ}
theorem pinOwn {s:Sl} {vs:Ξ} (h:St G F (own s e n vs::As)) {K:Ψ} (k:∀g,G.le g->RdS g s n vs->St g F As->K F):K F:=by obtain ⟨g,A,⟨H,w,B⟩,r⟩:=h.pin;exact k g A ((bP.rd w).le B) r
theorem app0 (T:SlT t e n bytes z) {s x:Sl} {g news:Ξ} {C:TypeId} (h:St G F (own s e n g::As)) (D:RdS F x n news) (A:∀v∈news,ak v) (w:s.len+x.len<=500000000000) {K:Sl->Ψ}
  (k:∀r B,St G B (own r e n (g++news)::As)->r.len=s.len+x.len->K r B):
  aG prog (Builtin.append_ #[t,t] C #[s.v,x.v]) F λv F=>∃r:Sl,v=nE r/\K r F:=h.appAt T 0 rfl D A w k
theorem push0 (T:SlT t e n bytes z) {s:Sl} {r:Ξ} {c:Γ} {J:TypeId} (h:St G F (own s e n r::As)) (E:c.size=n) (C:∀v∈c.toList,ak v) (H:s.len<=400000000000) {K:Sl->Ψ}
  (k:∀g w A,G.le w->St w A (own g e n (r++c.toList)::As)->g.len=s.len+1->K g A):
  ∀b,F b=I->xG (F.set b (Y c e)) λF=>aG prog (Builtin.append_ #[t,t] J #[s.v,nE (ua (V (ou b 0 I)) 1 1)]) F λv F=>∃g:Sl,v=nE g/\K g F:=by
 refine h.newG λb w A l q _ h=> ?_;have M:RdS A (ua (V (ou b 0 I)) 1 1) n c.toList:=RdS.new (h.le _ _ q) (zc (by rw [zN,E,Ww];exact qX _)) (by rw [zN,E,Ww]) (qX _);exact h.app0 T M C (by show s.len+1<=_;omega) λg B L D=>k g w B l L D
theorem app1 {B:Ψ} (T:SlT t e n bytes z) {s x:Sl} {g news:Ξ} {D:TypeId} (h:St G F (B::own s e n g::As)) (E:RdS F x n news) (A:∀v∈news,ak v) (w:s.len+x.len<=500000000000) {K:Sl->Ψ}
  (k:∀r C,St G C (B::own r e n (g++news)::As)->r.len=s.len+x.len->K r C):
  aG prog (Builtin.append_ #[t,t] D #[s.v,x.v]) F λv F=>∃r:Sl,v=nE r/\K r F:=h.appAt T 1 rfl E A w k
theorem push1 {E:Ψ} (T:SlT t e n bytes z) {s:Sl} {r:Ξ} {c:Γ} {L:TypeId} (h:St G F (E::own s e n r::As)) (H:c.size=n) (C:∀v∈c.toList,ak v) (J:s.len<=400000000000) {K:Sl->Ψ}
  (k:∀g w A,G.le w->St w A (E::own g e n (r++c.toList)::As)->g.len=s.len+1->K g A):
  ∀b,F b=I->xG (F.set b (Y c e)) λF=>aG prog (Builtin.append_ #[t,t] L #[s.v,nE (ua (V (ou b 0 I)) 1 1)]) F λv F=>∃g:Sl,v=nE g/\K g F:=by
 refine h.newG λb w A l q _ h=> ?_;have N:RdS A (ua (V (ou b 0 I)) 1 1) n c.toList:=RdS.new (h.le _ _ q) (zc (by rw [zN,H,Ww];exact qX _)) (by rw [zN,H,Ww]) (qX _);exact h.app1 T N C (by show s.len+1<=_;omega) λg B M D=>k g w B l M D
theorem app2 {B D:Ψ} (T:SlT t e n bytes z) {s x:Sl} {g news:Ξ} {E:TypeId} (h:St G F (B::D::own s e n g::As)) (H:RdS F x n news) (A:∀v∈news,ak v) (w:s.len+x.len<=500000000000) {K:Sl->Ψ}
  (k:∀r C,St G C (B::D::own r e n (g++news)::As)->r.len=s.len+x.len->K r C):
  aG prog (Builtin.append_ #[t,t] E #[s.v,x.v]) F λv F=>∃r:Sl,v=nE r/\K r F:=h.appAt T 2 rfl H A w k
theorem push2 {E L:Ψ} (T:SlT t e n bytes z) {s:Sl} {r:Ξ} {c:Γ} {M:TypeId} (h:St G F (E::L::own s e n r::As)) (H:c.size=n) (C:∀v∈c.toList,ak v) (J:s.len<=400000000000) {K:Sl->Ψ}
  (k:∀g w A,G.le w->St w A (E::L::own g e n (r++c.toList)::As)->g.len=s.len+1->K g A):
  ∀b,F b=I->xG (F.set b (Y c e)) λF=>aG prog (Builtin.append_ #[t,t] M #[s.v,nE (ua (V (ou b 0 I)) 1 1)]) F λv F=>∃g:Sl,v=nE g/\K g F:=by
 refine h.newG λb w A l q _ h=> ?_;have N:RdS A (ua (V (ou b 0 I)) 1 1) n c.toList:=RdS.new (h.le _ _ q) (zc (by rw [zN,H,Ww];exact qX _)) (by rw [zN,H,Ww]) (qX _);exact h.app2 T N C (by show s.len+1<=_;omega) λg B O D=>k g w B l O D
theorem app3 {B D E:Ψ} (T:SlT t e n bytes z) {s x:Sl} {g news:Ξ} {H:TypeId} (h:St G F (B::D::E::own s e n g::As)) (J:RdS F x n news) (A:∀v∈news,ak v) (w:s.len+x.len<=500000000000) {K:Sl->Ψ}
  (k:∀r C,St G C (B::D::E::own r e n (g++news)::As)->r.len=s.len+x.len->K r C):
  aG prog (Builtin.append_ #[t,t] H #[s.v,x.v]) F λv F=>∃r:Sl,v=nE r/\K r F:=h.appAt T 3 rfl J A w k
theorem push3 {E L M:Ψ} (T:SlT t e n bytes z) {s:Sl} {r:Ξ} {c:Γ} {N:TypeId} (h:St G F (E::L::M::own s e n r::As)) (H:c.size=n) (C:∀v∈c.toList,ak v) (J:s.len<=400000000000) {K:Sl->Ψ}
  (k:∀g w A,G.le w->St w A (E::L::M::own g e n (r++c.toList)::As)->g.len=s.len+1->K g A):
  ∀b,F b=I->xG (F.set b (Y c e)) λF=>aG prog (Builtin.append_ #[t,t] N #[s.v,nE (ua (V (ou b 0 I)) 1 1)]) F λv F=>∃g:Sl,v=nE g/\K g F:=by
 refine h.newG λb w A l q _ h=> ?_;have O:RdS A (ua (V (ou b 0 I)) 1 1) n c.toList:=RdS.new (h.le _ _ q) (zc (by rw [zN,H,Ww];exact qX _)) (by rw [zN,H,Ww]) (qX _);exact h.app3 T O C (by show s.len+1<=_;omega) λg B P D=>k g w B l P D
end
end St
theorem qc7:SlT 30 9 1 16 (.string ⟨#[]⟩):=⟨underlying30,sz9,zr9,rfl,by decide,by decide⟩
theorem sG:SlT 76 3 1 8 (.int .i64 0):=⟨underlying76,X5,X7,rfl,by decide,by decide⟩
theorem qf7:∃b z,SlT 61 130 2 b z:=⟨_,_,underlying61,Q2,Q4,rfl,by decide,by decide⟩
theorem Wa:∃b z,SlT 34 166 7 b z:=⟨_,_,underlying34,qfv,qfB,rfl,by decide,by decide⟩
theorem Sn:∃b z,SlT 35 64 13 b z:=⟨_,_,underlying35,aaL,aaR,rfl,by decide,by decide⟩
theorem qf8:∃b z,SlT 36 236 4 b z:=⟨_,_,underlying36,qfy,qfE,rfl,by decide,by decide⟩
theorem qf9:∃b z,SlT 37 233 9 b z:=⟨_,_,underlying37,qfx,qfD,rfl,by decide,by decide⟩
theorem qga:SlT 195 41 1 8 (.int .u64 0):=⟨underlying195,aaJ,aaP,rfl,by decide,by decide⟩
end
open Tr
section
def Uh (g:Gr) (c:Int):Bool:=decide (Int.fdiv c (2 ^ min g.qa4.length 64)=0) && jk g.fam c
theorem qhL {F:PH} {v:Γ} {g:Gr} (E:GV F v g) {c:Int} (c0:0<=c) (c1:c<18446744073709551616):ν 105 #[nL v,ru .u64 c] F λr C=>r=nS (Uh g c)/\F.le C:=by
 obtain ⟨G,n,t,s,p,l,f,rfl,A⟩:=E;have D:=A.c.len;refine qc8 ?_;unfold ON;refine fresh λH J w q1 _=>⟨_,ld q1 rfl,by omega,λh=>⟨#[n.v,U g.fam.2],rfl,fX q1 rfl,?_⟩,λh=>⟨?_,w⟩⟩;all_goals rw [N4,D,show u64.bits=64 from rfl] at h
 ·refine (sS (a:=g.fam) (DV.mk (A.n.le w)) c0 c1).mono ?_;rintro _ F2 ⟨rfl,B⟩;refine ⟨_,rfl,?_,aa w B⟩;unfold Uh;rw [ε h,Wy]
 ·unfold Uh;rw [η h,W5]
def Xr (g:Gr) (c:Int):Bool:=decide (BZ g=0) && Uh g c
theorem Jo {F:PH} {v:Γ} {g:Gr} (H:Tab F) (A:GV F v g) (G:Sz g) {c:Int} (c0:0<=c) (c1:c<18446744073709551616):ν 75 #[nL v,ru .u64 c] F λr E=>r=nS (Xr g c)/\F.le E:=by
 refine qgE ?_;unfold Vy;refine fresh λK L B q1 _=>⟨v,A.size,ai q1,?_⟩;refine (oL (H.le B) (A.le B) G).mono ?_;rintro _ F2 ⟨rfl,C⟩;have w:=aa B C;refine ⟨_,rfl,λh=>⟨v,A.size,ai (C _ _ q1),?_⟩,λh=>⟨?_,w⟩⟩
 ·refine (qhL (A.le w) c0 c1).mono ?_;rintro _ J ⟨rfl,D⟩;refine ⟨_,rfl,?_,aa w D⟩;unfold Xr;rw [ε h,Wy]
 ·unfold Xr;rw [η h,W5]
instance (t:Tr):Decidable (t=qa6 mz):=match t with
 |qa6 mY=>isFalse (by simp)
 |qa6 mz=>isTrue rfl
 |qa7 _ _ _=>isFalse (by simp)
theorem uE {d:vE} {n:Nat} (h:iz d n):∃t:Tr,t.ok/\d=pg t/\uc d=t/\(aU t).length<=4096/\dT n t:=by
 obtain ⟨g,B⟩:=h;unfold chk at g;split at g
 ·cases g
 ·rename_i D;split at g
  ·rename_i C;obtain ⟨t,w,rfl⟩:=C;refine ⟨t,w,rfl,mM w,by simpa [pg,aO] using D,?_⟩;refine sT (bv w) (λx A=> ?_) t (bH w);obtain ⟨_,v,l,r,rfl,_,_⟩:=(bv w).mem x A;have:=B (br (aU t) (qa7 v l r)) (w9.2 ⟨_,A,rfl⟩);simp only [br] at this;simp only [top];omega
  ·cases g
abbrev vC (c:Nat):Value:=ru .u64 (c:Int)
abbrev vB (n:Nat):Value:=ru .u8 (n:Int)
theorem Gx (a:Addr) (i j:Nat):nR (nR a i) j=nR a (i+j):=by
 unfold nR;by_cases hi:i=0
 ·simp [hi]
 ·by_cases g:j=0
  ·simp [g]
  ·simp [hi,g,V8]
theorem pZ {F:PH} {a:Addr} {c d:Γ} {o:Nat} (h:F.row a c) (hd:(c.toList.drop o).take d.size=d.toList):F.row (a.add o) d:=by intro i hi;rw [Gx];have:=congrArg (λl=>l[i]?) hd;simp only [YC hi,List.getElem?_drop,YG] at this;exact aM h (this.trans (by simp [hi]))
theorem St.pinO {G F:PH} {As:List (Ψ)} {e n:Nat} {s:Sl} {vs:Ξ} (h:St G F (own s e n vs::As)):∃g,G.le g/\RdS g s n vs/\St g F As:=by obtain ⟨g,A,⟨H,w,B⟩,r⟩:=h.pin;exact ⟨g,A,(bP.rd w).le B,r⟩
variable {R:VR} {F:PH}
set_option maxHeartbeats 4000000
abbrev KC (b1:Nat) (sp:Sl) (f:Nat) (i:Int) (F:PH) (K:Γ->Ψ):Prop:=Ca f #[U i] F λv F=>F.cell (Z b1 5)=V (nE sp)/\K v F
abbrev KT (b1 n:Nat) (nm:ByteArray) (left:Int) (sp:Sl) (C:Ψ) (cs:Γ) (F:PH):Prop:=Nb F (Y cs 130) λb F=>Ca 53 #[pe nm,U left,nE (Sb b n)] F λw F=>F.cell (Z b1 5)=V (nE sp)/\w.size=13/\Nb F (Y w 64) λb F=>Ap 35 #[nE sp,nE (Sb b 1)] F λs' F=>qW F (Z b1 5) (nE s') C
abbrev YO (b1:Nat) (nm:ByteArray) (left:Int) (C:Ψ) (F:PH):Prop:=Ls F (Z b1 5) λsp=>KT b1 0 nm left sp C #[] F
abbrev X9 (b1:Nat) (f1:Nat) (i1:Int) (nm:ByteArray) (left:Int) (C:Ψ) (F:PH):Prop:=Ls F (Z b1 5) λsp=>KC b1 sp f1 i1 F λv1 F=>v1.size=2/\KT b1 1 nm left sp C v1 F
abbrev Xc (b1:Nat) (f1:Nat) (i1:Int) (f2:Nat) (i2:Int) (nm:ByteArray) (left:Int) (C:Ψ) (F:PH):Prop:=Ls F (Z b1 5) λsp=>KC b1 sp f1 i1 F λv1 F=>KC b1 sp f2 i2 F λv2 F=>v1.size=2/\v2.size=2/\KT b1 2 nm left sp C (wr (wr (#[nS mz,U 0,.bool mz,U 0]:Γ) 0 v1.toList) 2 v2.toList) F
abbrev Xm (b1:Nat) (f1:Nat) (i1:Int) (f2:Nat) (i2:Int) (f3:Nat) (i3:Int) (nm:ByteArray) (left:Int) (C:Ψ) (F:PH):Prop:=Ls F (Z b1 5) λsp=>KC b1 sp f1 i1 F λv1 F=>KC b1 sp f2 i2 F λv2 F=>KC b1 sp f3 i3 F λv3 F=>v1.size=2/\v2.size=2/\v3.size=2/\KT b1 3 nm left sp C (wr (wr (wr (#[nS mz,U 0,.bool mz,U 0,.bool mz,U 0]:Γ) 0 v1.toList) 2 v2.toList) 4 v3.toList) F
abbrev Zp (b1:Nat) (f1:Nat) (i1:Int) (f2:Nat) (i2:Int) (f3:Nat) (i3:Int) (f4:Nat) (i4:Int) (nm:ByteArray) (left:Int) (C:Ψ) (F:PH):Prop:=Ls F (Z b1 5) λsp=>KC b1 sp f1 i1 F λv1 F=>KC b1 sp f2 i2 F λv2 F=>KC b1 sp f3 i3 F λv3 F=>KC b1 sp f4 i4 F λv4 F=>v1.size=2/\v2.size=2/\v3.size=2/\v4.size=2/\KT b1 4 nm left sp C (wr (wr (wr (wr (#[nS mz,U 0,.bool mz,U 0,.bool mz,U 0,.bool mz,U 0]:Γ) 0 v1.toList) 2 v2.toList) 4 v3.toList) 6 v4.toList) F
abbrev ZU (b1:Nat) (f1:Nat) (i1:Int) (f2:Nat) (i2:Int) (f3:Nat) (i3:Int) (f4:Nat) (i4:Int) (f5:Nat) (i5:Int) (nm:ByteArray) (left:Int) (C:Ψ) (F:PH):Prop:=Ls F (Z b1 5) λsp=>KC b1 sp f1 i1 F λv1 F=>KC b1 sp f2 i2 F λv2 F=>KC b1 sp f3 i3 F λv3 F=>KC b1 sp f4 i4 F λv4 F=>KC b1 sp f5 i5 F λv5 F=>v1.size=2/\v2.size=2/\v3.size=2/\v4.size=2/\v5.size=2/\KT b1 5 nm left sp C (wr (wr (wr (wr (wr (#[nS mz,U 0,.bool mz,U 0,.bool mz,U 0,.bool mz,U 0,.bool mz,U 0]:Γ) 0 v1.toList) 2 v2.toList) 4 v3.toList) 6 v4.toList) 8 v5.toList) F
def Wb (R:VR) (F:PH):Prop:=Nb F (Y zG 39) λs F=>Nb F (Y #[pe ⟨#[76]⟩,pe ⟨#[73]⟩] 9) λt F=>Ca 52 #[nE (Sb t 2)] F λr F=>Nb F (Y zG 39) λa F=>aA F (Z a 0) 9 r λF=>YO a ⟨#[101,109,112,116,121]⟩ 0 (λF=>Xc a 54 0 54 1 ⟨#[109,111,114,101]⟩ 0 (λF=>Xm a 55 1 55 0 55 7 ⟨#[116,121,112,101]⟩ 1 (λF=>Zp a 55 0 55 2 55 0 55 7 ⟨#[112,111,105,110,116,101,114]⟩ 1 (λF=>Zp a 55 0 55 2 55 0 55 7 ⟨#[112,114,111,100,117,99,116]⟩ 1 (λF=>Xm a 55 3 54 0 55 4 ⟨#[105,110,110,101,114]⟩ 1 (λF=>Xc a 55 0 55 7 ⟨#[115,116,114,105,99,116]⟩ 1 (λF=>Ls F (Z a 5) λf=>Ix f 2 λg=>aA F (nR (nR g (nT 2*13)) 8) 5 (#[nS mz,(U 2),(U 1),U 0,U 0]:Γ) λF=>Ls F (Z a 5) λh=>Ix h 3 λi=>aA F (nR (nR i (nT 3*13)) 8) 5 (#[nS mz,(U 3),(U 2),(U 1),(U 2)]:Γ) λF=>Ls F (Z a 5) λj=>Ix j 4 λk=>aA F (nR (nR k (nT 4*13)) 8) 5 (#[nS mz,U 0,U 0,(U 1),(U 5)]:Γ) λF=>Ls F (Z a 5) λl=>Ix l 5 λm=>aA F (nR (nR m (nT 5*13)) 8) 5 (#[nS mY,U 0,U 0,U 0,U 0]:Γ) λF=>Ls F (Z a 5) λn=>Ix n 6 λo=>aA F (nR (nR o (nT 6*13)) 8) 5 (#[nS mz,U 0,U 0,(U 1),(U 6)]:Γ) λF=>Ls F (Z a 5) λp=>Ix p 4 λq=>qW F (nR (nR q (nT 4*13)) 6) (U (-1:Int)) λF=>Ls F (Z a 5) λb=>Ca 56 #[(U 0)] F λc F=>F.cell (Z a 5)=V (nE b)/\Ix b 6 λd=>aA F (nR (nR d (nT 6*13)) 3) 2 c λF=>Lr F 9 (Z a 0) λe=>aA F (Z s 0) 9 e λF=>Rr 9 (Z s 0) R F) F) F) F) F) F) F) F
theorem qgb (h:Wb R F):ν 27 #[] F R:=Rx.Λ .N h
def Wd (a:Sl) (R:VR) (F:PH):Prop:=Nb F (Y zG 39) λe F=>Ca 85 #[nS mY] F λg F=>Nb F (Y zD 33) λf F=>aA F (Z f 0) 2 g λF=>Lr F 2 (Z f 0) λb=>((Nb F (Y #[pe ⟨#[65]⟩,pe ⟨#[66]⟩] 9) λi F=>Cs 86 #[] F λh F=>F.row (Z f 0) b/\b.size=2/\aA F (Z e 0) 9 (rV (rV (wr (rV zG 0 (nE (Sb i 2))) 1 b.toList) 3 (nE h)) 4 (nE a)) λF=>Rr 9 (Z e 0) R F)/\(Cs 86 #[] F λc F=>F.row (Z f 0) b/\Nb F (Y #[pe ⟨#[65]⟩,pe ⟨#[66]⟩] 9) λd F=>b.size=2/\aA F (Z e 0) 9 (rV (rV (wr (rV zG 0 (nE (Sb d 2))) 1 b.toList) 3 (nE c)) 4 (nE a)) λF=>Rr 9 (Z e 0) R F))
theorem qgc {a:Sl} (h:Wd a R F):ν 52 #[nE a] F R:=Rx.Λ .N h
def So (b:ο) (c:Int) (a:Sl) (R:VR) (F:PH):Prop:=Nb F (Y zP 64) λe F=>Ca 85 #[nS mY] F λd F=>d.size=2/\aA F (Z e 0) 13 (wr (rV (rV (rV zP 0 (pe b)) 1 (U c)) 2 (nE a)) 3 d.toList) λF=>Rr 13 (Z e 0) R F
theorem We {b:ο} {c:Int} {a:Sl} (h:So b c a R F):ν 53 #[pe b,(U c),nE a] F R:=Rx.Λ .N h
def Wf (a:Int) (R:VR) (F:PH):Prop:=Nb F (Y (#[nS mz,U 0]) 130) λb F=>aA F (Z b 0) 2 (#[nS mz,(U a)]:Γ) λF=>Rr 2 (Z b 0) R F
theorem qgd {a:Int} (h:Wf a R F):ν 54 #[(U a)] F R:=Rx.Λ .N h
def Wg (a:Int) (R:VR) (F:PH):Prop:=Nb F (Y (#[nS mz,U 0]) 130) λb F=>aA F (Z b 0) 2 (#[nS mY,(U a)]:Γ) λF=>Rr 2 (Z b 0) R F
theorem qge {a:Int} (h:Wg a R F):ν 55 #[(U a)] F R:=Rx.Λ .N h
def Wh (d:Int) (R:VR) (F:PH):Prop:=Nb F (Y zD 33) λe F=>ν 87 #[(U d)] F λv F=>∃b,∃a,v=(.tuple #[nL b,(U a)])/\Nb F (Y zD 33) λf F=>aA F (Z f 0) 2 b λF=>Lr F 2 (Z f 0) λc=>aA F (Z e 0) 2 c λF=>Rr 2 (Z e 0) R F
theorem aaa {a:Int} (h:Wh a R F):ν 56 #[(U a)] F R:=Rx.Λ .N h
def sH (b c:Nat) (R:VR) (F:PH):Prop:=Lr F 9 (Z c 0) λa=>aA F (Z b 0) 9 a λF=>Rr 9 (Z b 0) R F
def B0 (k:Ω) (i j h:Nat) (R:VR) (a:Int) (F:PH):Prop:=Ls F (Z i 4) λc=>Bc (a<(c.len:Int)) (Bc (a<6) (Lr F 9 (Z h 0) λd=>Ls F (Z i 4) λb=>Ix b a λe=>Lr F 5 (nR e (nT a*5)) λf=>Ca 95 #[nL d,nL f] F λg F=>F.cell (Z i 4)=V (nE b)/\aA F (Z h 0) 9 g λF=>k (i64.wrap (a+1)) F) (sH j h R F)) (sH j h R F)
def sI (b c d:Nat) (R:VR) (F:PH):Prop:=Lp 0 F λN a F=>B0 N b c d R a F
def B1 (m:Ω) (d l:Nat) (e:Int) (k:Nat) (b:Int) (R:VR) (a:Int) (F:PH):Prop:=Ls F (Z d 3) λf=>Bc (a<(f.len:Int)) (Bc (a<b) (Lr F 9 (Z k 0) λg=>Ls F (Z d 3) λc=>Ix c a λh=>Lr F 4 (nR h (nT a*4)) λi=>Ca 94 #[nL g,nL i,nS (decide ((sq e 8)<6))] F λj F=>F.cell (Z d 3)=V (nE c)/\aA F (Z k 0) 9 j λF=>m (i64.wrap (a+1)) F) (sI d l k R F)) (sI d l k R F)
def xa (d e:Nat) (b:Int) (f:Nat) (a:Int) (R:VR) (F:PH):Prop:=Lp 0 F λN c F=>B1 N d e b f a R c F
def sJ (f g:Nat) (b:Int) (e:Nat) (a:Int) (h:Nat) (c:Bool) (R:VR) (F:PH):Prop:=Bb (c) (Lr F 2 (Z h 0) λd=>aA F (Z e 1) 2 d λF=>xa f g b e a R F) (xa f g b e a R F)
def xd (h k:Nat) (b:Int) (j:Nat) (a:Int) (R:VR) (F:PH):Prop:=Ls F (Z h 2) λc=>Ls F (Z j 0) λd=>Ca 93 #[nE c,(U (d.len:Int))] F λe F=>Nb F (Y zD 33) λi F=>aA F (Z i 0) 2 e λF=>Ls F (Z h 2) λf=>Bc ((0:Int)<(f.len:Int)) (Li F (Z i 1) λg=>sJ h k b j a i (decide (g≠0)) R F) (sJ h k b j a i mz R F)
def Wi (o:Γ) (R:VR) (F:PH):Prop:=Nb F (Y o 26) λj F=>Nb F (Y zG 39) λr F=>Lk F .u8 (Z j 0) λc=>Lk F .u8 (Z j 0) λk=>Ca 92 #[ru .u8 (sq k 8)] F λl F=>Nb F (Y zG 39) λe F=>aA F (Z e 0) 9 l λF=>Bc (¬((sq c 8)<6)) (Nb F (Y #[pe ⟨#[83]⟩,pe ⟨#[80]⟩,pe ⟨#[81]⟩] 9) λh F=>Lk F .u8 (Z j 1) λa=>0<=(i64.wrap (1+(sq (i64.wrap (u8.wrap (Int.tdiv a 4))) 3)))/\0<=(nT (i64.wrap (1+(sq (i64.wrap (u8.wrap (Int.tdiv a 4))) 3))))/\(nT (i64.wrap (1+(sq (i64.wrap (u8.wrap (Int.tdiv a 4))) 3))))<=(Sb h 3).cap/\Ca 52 #[nE (Sl.cut (Sb h 3) 1 0 (nT (i64.wrap (1+(sq (i64.wrap (u8.wrap (Int.tdiv a 4))) 3)))) (Sb h 3).cap)] F λm F=>aA F (Z e 0) 9 m λF=>Nb F (Y #[pe ⟨#[65]⟩,pe ⟨#[66]⟩,pe ⟨#[67]⟩] 9) λi F=>Lk F .u8 (Z j 1) λb=>0<=(i64.wrap (sq b 4))/\0<=(nT (i64.wrap (sq b 4)))/\(nT (i64.wrap (sq b 4)))<=(Sb i 3).cap/\qW F (Z e 0) (nE (Sl.cut (Sb i 3) 1 0 (nT (i64.wrap (sq b 4))) (Sb i 3).cap)) λF=>Ls F (Z e 5) λd=>Ca 55 #[(U 0)] F λf F=>F.cell (Z e 5)=V (nE d)/\f.size=2/\Nb F (Y f 130) λp F=>Ca 53 #[pe ⟨#[102,105,114,115,116]⟩,(U 0),nE (Sb p 1)] F λg F=>F.cell (Z e 5)=V (nE d)/\g.size=13/\Nb F (Y g 64) λq F=>Ap 35 #[nE d,nE (Sb q 1)] F λn F=>qW F (Z e 5) (nE n) λF=>xd j r c e 10 R F) (xd j r c e 6 R F)
theorem aab {a:Γ} (h:Wi a R F):ν 64 #[nL a] F R:=Rx.Λ (.qa8 (.qa8 (.qa8 (.qa8 (.J mz [(5,.int .i64)] .N (.qa8 (.J mz [] (.J mz [(57,.bool)] .N .N) (.J mz [] (.qa8 (.L [(7,.int .i64)] .N)) (.J mz [] (.qa8 (.L [(8,.int .i64)] .N)) .N))))))))) h
def Jp (x:Nat) (q:Sl) (R:VR) (F:PH):Prop:=Ca 119 #[(U 9),(U 10)] F λc F=>Ca 119 #[(U 32),(U 32)] F λd F=>Ca 120 #[(U 3),(U 0),(U 1)] F λe F=>Ca 119 #[(U 9),(U 10)] F λf F=>Ca 119 #[(U 32),(U 32)] F λg F=>Ca 120 #[(U 3),(U 3),(U 4)] F λh F=>Ca 120 #[(U 4),(U 5),(U 0)] F λi F=>Ca 120 #[(U 2),(U 2),(U 6)] F λj F=>c.size=5/\d.size=5/\e.size=5/\f.size=5/\g.size=5/\h.size=5/\i.size=5/\j.size=5/\Nb F (Y (wr (wr (wr (wr (wr (wr (wr (wr (#[U 0,U 0,U 0,U 0,U 0,U 0,U 0,U 0,U 0,U 0,U 0,U 0,U 0,U 0,U 0,U 0,U 0,U 0,U 0,U 0,U 0,U 0,U 0,U 0,U 0,U 0,U 0,U 0,U 0,U 0,U 0,U 0,U 0,U 0,U 0,U 0,U 0,U 0,U 0,U 0]:Γ) 0 c.toList) 5 d.toList) 10 e.toList) 15 f.toList) 20 g.toList) 25 h.toList) 30 i.toList) 35 j.toList) 225) λr F=>Ca 119 #[(U 37),(U 37)] F λk F=>Ca 119 #[(U 97),(U 122)] F λl F=>Ca 119 #[(U 32),(U 32)] F λm F=>Ca 120 #[(U 3),(U 1),(U 2)] F λn F=>Ca 120 #[(U 4),(U 3),(U 0)] F λo F=>Ca 120 #[(U 2),(U 0),(U 4)] F λp F=>k.size=5/\l.size=5/\m.size=5/\n.size=5/\o.size=5/\p.size=5/\Nb F (Y (wr (wr (wr (wr (wr (wr (#[U 0,U 0,U 0,U 0,U 0,U 0,U 0,U 0,U 0,U 0,U 0,U 0,U 0,U 0,U 0,U 0,U 0,U 0,U 0,U 0,U 0,U 0,U 0,U 0,U 0,U 0,U 0,U 0,U 0,U 0]:Γ) 0 k.toList) 5 l.toList) 10 m.toList) 15 n.toList) 20 o.toList) 25 p.toList) 225) λs F=>Lr F 2 (Z x 0) λa=>a.size=2/\(wr (rV (rV (rV zT 0 (pe ⟨#[115,112,97,99,101]⟩)) 1 (U 1)) 3 (nE (Sb r 8))) 5 a.toList).size=7/\Nb F (Y (wr (rV (rV (rV zT 0 (pe ⟨#[115,112,97,99,101]⟩)) 1 (U 1)) 3 (nE (Sb r 8))) 5 a.toList) 166) λv F=>Ap 34 #[nE q,nE (Sb v 1)] F λt F=>Lr F 2 (Z x 0) λb=>b.size=2/\(wr (rV (rV (rV zT 0 (pe ⟨#[114,101,109,97,114,107]⟩)) 1 (U 2)) 3 (nE (Sb s 6))) 5 b.toList).size=7/\Nb F (Y (wr (rV (rV (rV zT 0 (pe ⟨#[114,101,109,97,114,107]⟩)) 1 (U 2)) 3 (nE (Sb s 6))) 5 b.toList) 166) λw F=>Ap 34 #[nE t,nE (Sb w 1)] F λu F=>R (nE u) F
def Jq (l:Sl->Ω) (j h:Nat) (R:VR) (a:Sl) (b:Int) (F:PH):Prop:=Bc (b<((Sb h 8).len:Int)) (Ix (Sb h 8) b λf=>Lx F (nR f (nT b*1)) λd=>Ix (Sb h 8) b λg=>Lx F (nR g (nT b*1)) λe=>Lr F 2 (Z j 0) λc=>c.size=2/\(wr (rV (rV zT 0 (pe d)) 2 (pe e)) 5 c.toList).size=7/\Nb F (Y (wr (rV (rV zT 0 (pe d)) 2 (pe e)) 5 c.toList) 166) λk F=>Ap 34 #[nE a,nE (Sb k 1)] F λi F=>F.row (Z j 0) c/\F.cell (nR g (nT b*1))=V (pe e)/\F.cell (nR f (nT b*1))=V (pe d)/\l i (i64.wrap (b+1)) F) (Jp j a R F)
def Wj (R:VR) (F:PH):Prop:=Ca 85 #[nS mY] F λk F=>Nb F (Y zD 33) λl F=>aA F (Z l 0) 2 k λF=>Lr F 2 (Z l 0) λf=>f.size=2/\(wr (rV (rV zT 0 (pe ⟨#[105,100]⟩)) 4 (pe ⟨#[120]⟩)) 5 f.toList).size=7/\Nb F (Y (wr (rV (rV zT 0 (pe ⟨#[105,100]⟩)) 4 (pe ⟨#[120]⟩)) 5 f.toList) 166) λg F=>Ca 119 #[(U 97),(U 122)] F λb F=>Ca 119 #[(U 97),(U 122)] F λc F=>Ca 120 #[(U 4),(U 1),(U 0)] F λd F=>Ca 120 #[(U 2),(U 0),(U 2)] F λe F=>b.size=5/\c.size=5/\d.size=5/\e.size=5/\Nb F (Y (wr (wr (wr (wr (#[U 0,U 0,U 0,U 0,U 0,U 0,U 0,U 0,U 0,U 0,U 0,U 0,U 0,U 0,U 0,U 0,U 0,U 0,U 0,U 0]:Γ) 0 b.toList) 5 c.toList) 10 d.toList) 15 e.toList) 225) λm F=>Ix (Sb g 1) 0 λh=>qW F (nR (nR h (nT 0*7)) 3) (nE (Sb m 4)) λF=>Nb F (Y #[pe ⟨#[43]⟩,pe ⟨#[42]⟩,pe ⟨#[40]⟩,pe ⟨#[41]⟩,pe ⟨#[105,102]⟩,pe ⟨#[101,108,115,101]⟩,pe ⟨#[59]⟩,pe ⟨#[94]⟩] 9) λn F=>(∃(o:Nat->Sl->Ω) (j:Nat),o j (Sb g 1) 0 F/\∀j a i F,o j a i F-> Jq (VL o j) l n R a i F)
theorem aac (h:Wj R F):ν 86 #[] F R:=Rx.Λ (.qa8 (.qa8 (.qa8 (.qa8 (.qa8 (.J mz [(2,.sl)] (.qa8 (.L [(2,.sl),(4,.int .i64)] .N)) .N)))))) h
def Wk (b:Int) (R:VR) (F:PH):Prop:=Nb F (Y zG 39) λa F=>Bc ((sq b 6)=0) (Ca 122 #[] F λh F=>aA F (Z a 0) 9 h λF=>Rr 9 (Z a 0) R F) (Bc ((sq b 6)=1) (Ca 123 #[] F λc F=>aA F (Z a 0) 9 c λF=>Rr 9 (Z a 0) R F) (Bc ((sq b 6)=2) (Ca 27 #[] F λd F=>aA F (Z a 0) 9 d λF=>Rr 9 (Z a 0) R F) (Bc ((sq b 6)=3) (Ca 124 #[] F λe F=>aA F (Z a 0) 9 e λF=>Rr 9 (Z a 0) R F) (Bc ((sq b 6)=4) (Ca 125 #[] F λf F=>aA F (Z a 0) 9 f λF=>Rr 9 (Z a 0) R F) (Ca 126 #[] F λg F=>aA F (Z a 0) 9 g λF=>Rr 9 (Z a 0) R F)))))
theorem aad {a:Int} (h:Wk a R F):ν 92 #[ru .u8 a] F R:=Rx.Λ .N h
def sK (c b:Nat) (R:VR) (F:PH):Prop:=Lr F 9 (Z c 0) λa=>aA F (Z b 0) 9 a λF=>Rr 9 (Z b 0) R F
def gz (h z o:Nat) (y:Θ) (p:Bool) (R:VR) (F:PH):Prop:=Bb (p) (Lr F 9 (Z h 0) λq=>aA F (Z o 0) 9 q λF=>Rr 9 (Z o 0) R F) (Lk F .u8 (Z z 2) λr=>Ls F (Z h 0) λs=>Ca 128 #[ru .u8 r,(U (s.len:Int))] F λt F=>∃b,y=V b/\aA F (nR b 3) 2 t λF=>Lr F 13 b λu=>Lk F .u8 (Z z 3) λv=>Ca 129 #[nL u,ru .u8 v] F λw F=>aA F b 13 w λF=>Ls F (Z h 5) λc=>Lr F 13 b λa=>((Nb F (Y #[] 64) λl F=>((Ap 35 #[nE (Sb l 0),nE c] F λm F=>F.row b a/\a.size=13/\Nb F (Y a 64) λx F=>Ap 35 #[nE m,nE (Sb x 1)] F λn F=>qW F (Z h 5) (nE n) λF=>sK h o R F)/\(a.size=13/\Nb F (Y a 64) λi F=>Ap 35 #[nE (Sb l 0),nE c] F λd F=>Ap 35 #[nE d,nE (Sb i 1)] F λe F=>qW F (Z h 5) (nE e) λF=>sK h o R F)))/\(a.size=13/\Nb F (Y a 64) λj F=>Nb F (Y #[] 64) λk F=>Ap 35 #[nE (Sb k 0),nE c] F λf F=>Ap 35 #[nE f,nE (Sb j 1)] F λg F=>qW F (Z h 5) (nE g) λF=>sK h o R F)))
def sL (c:Bool) (e f g:Nat) (d:Θ) (a:Int) (b:Bool) (R:VR) (F:PH):Prop:=Bc (a=0) (Bb (c) (gz e f g d mY R F) (gz e f g d (!b) R F)) (gz e f g d mz R F)
def sM (f:Int->Bool->Ω) (_:Bool) (_ _ _:Nat) (_:Sl) (_:Θ) (d a:Int) (b:Bool) (_:VR) (F:PH):Prop:=f a b (i64.wrap (d+1)) F
def Jr (w:Int->Bool->Ω) (d:Bool) (o n p:Nat) (f:Sl) (i:Θ) (R:VR) (a:Int) (b:Bool) (g:Int) (F:PH):Prop:=Ls F (Z n 1) λq=>Bc (g<(q.len:Int)) (Bc (g<4) (Ls F (Z n 1) λr=>Ix r g λs=>Lk F .u8 (nR s (nT g*1)) λh=>Bc ((sq (i64.wrap h) 14)<9) (∃e,i=V e/\Ls F (nR e 2) λj=>Ca 55 #[(U (sq (i64.wrap h) 14))] F λk F=>F.cell (nR e 2)=V (nE j)/\k.size=2/\Nb F (Y k 130) λx F=>Ap 61 #[nE j,nE (Sb x 1)] F λt F=>qW F (nR e 2) (nE t) λF=>sM w d o n p f (V e) g (i64.wrap (a+1)) b R F) (∃c,i=V c/\Ls F (nR c 2) λl=>(f.len:Int)≠0/\Ca 54 #[(U (sq (i64.wrap ((sq (i64.wrap h) 14) - 9)) (f.len:Int)))] F λm F=>F.cell (nR c 2)=V (nE l)/\m.size=2/\Nb F (Y m 130) λy F=>Ap 61 #[nE l,nE (Sb y 1)] F λu F=>qW F (nR c 2) (nE u) λF=>Bb (b) ((f.len:Int)≠0/\Li F (nR c 1) λv=>sM w d o n p f (V c) g a (decide (v<(sq (i64.wrap ((sq (i64.wrap h) 14) - 9)) (f.len:Int)))) R F) (sM w d o n p f (V c) g a mz R F))) (sL d o n p i a b R F)) (sL d o n p i a b R F)
def nU (c:Bool) (i j k:Nat) (e:Sl) (g:Θ) (R:VR) (F:PH):Prop:=(∃(h:Nat->Int->Bool->Ω) (f:Nat),h f 0 mY 0 F/\∀f a b d F,h f a b d F-> Jr (Zx h f) c i j k e g R a b d F)
def Wl (p q:Γ) (b:Bool) (R:VR) (F:PH):Prop:=Nb F (Y p 39) λj F=>Nb F (Y q 191) λm F=>Nb F (Y zG 39) λr F=>Ls F (Z j 4) λc=>Ls F (Z j 5) λf=>Lk F .u8 (Z m 0) λd=>(c.len:Int)≠0/\((Nb F (Y #[ru .u8 (u8.wrap (i64.wrap (97+(f.len:Int))))] 5) λn F=>∃e,pn prog (Conv.bytesToString (nE (Sb n 1))) F (pe e)/\(ByteArray.mk #[112]).size+e.size<=9223372036854775807/\((Ca 53 #[pe ((ByteArray.mk #[112])++e),(U (sq (i64.wrap d) (c.len:Int))),nE pi] F λo F=>pn prog (Conv.bytesToString (nE (Sb n 1))) F (pe e)/\F.cell (Z m 0)=V (ru .u8 d)/\F.cell (Z j 5)=V (nE f)/\Nb F (Y zP 64) λs F=>aA F (Z s 0) 13 o λF=>nU b j m r c (V (Z s 0)) R F)/\(Nb F (Y zP 64) λk F=>Ca 53 #[pe ((ByteArray.mk #[112])++e),(U (sq (i64.wrap d) (c.len:Int))),nE pi] F λh F=>pn prog (Conv.bytesToString (nE (Sb n 1))) F (pe e)/\F.cell (Z m 0)=V (ru .u8 d)/\F.cell (Z j 5)=V (nE f)/\aA F (Z k 0) 13 h λF=>nU b j m r c (V (Z k 0)) R F)))/\(Nb F (Y zP 64) λl F=>Nb F (Y #[ru .u8 (u8.wrap (i64.wrap (97+(f.len:Int))))] 5) λg F=>∃a,pn prog (Conv.bytesToString (nE (Sb g 1))) F (pe a)/\(ByteArray.mk #[112]).size+a.size<=9223372036854775807/\Ca 53 #[pe ((ByteArray.mk #[112])++a),(U (sq (i64.wrap d) (c.len:Int))),nE pi] F λi F=>pn prog (Conv.bytesToString (nE (Sb g 1))) F (pe a)/\F.cell (Z m 0)=V (ru .u8 d)/\F.cell (Z j 5)=V (nE f)/\aA F (Z l 0) 13 i λF=>nU b j m r c (V (Z l 0)) R F))
theorem aae {b:Γ} {c:Γ} {a:Bool} (h:Wl b c a R F):ν 94 #[nL b,nL c,nS a] F R:=Rx.Λ (.qa8 (.qa8 (.J mz [(8,.ptr)] .N (.qa8 (.qa8 (.J mz [(9,.int .i64),(10,.bool)] (.qa8 (.L [(9,.int .i64),(10,.bool),(11,.int .i64)] (.qa8 (.J mz [(8,.ptr),(9,.int .i64),(10,.bool)] .N .N)))) (.T (.J mz [(87,.bool)] .N .N) (.qa8 (.qa8 (.J mz [] .N .N)))))))))) h
def nV (c b:Nat) (R:VR) (F:PH):Prop:=Lr F 9 (Z c 0) λa=>aA F (Z b 0) 9 a λF=>Rr 9 (Z b 0) R F
def sN (g r s:Nat) (R:VR) (F:PH):Prop:=Lr F 9 (Z g 0) λl=>Lr F 9 (Z s 0) λm=>ud 131 #[nL l,nL m] F λn F=>Bb (n) (Ls F (Z g 8) λb=>Lr F 9 (Z s 0) λa=>((Nb F (Y #[] 233) λk F=>((Ap 37 #[nE (Sb k 0),nE b] F λo F=>F.row (Z s 0) a/\a.size=9/\Nb F (Y a 233) λq F=>Ap 37 #[nE o,nE (Sb q 1)] F λp F=>qW F (Z g 8) (nE p) λF=>nV g r R F)/\(a.size=9/\Nb F (Y a 233) λh F=>Ap 37 #[nE (Sb k 0),nE b] F λc F=>Ap 37 #[nE c,nE (Sb h 1)] F λd F=>qW F (Z g 8) (nE d) λF=>nV g r R F)))/\(a.size=9/\Nb F (Y a 233) λi F=>Nb F (Y #[] 233) λj F=>Ap 37 #[nE (Sb j 0),nE b] F λe F=>Ap 37 #[nE e,nE (Sb i 1)] F λf F=>qW F (Z g 8) (nE f) λF=>nV g r R F))) (nV g r R F)
def nW (c b:Nat) (R:VR) (F:PH):Prop:=Lr F 9 (Z c 0) λa=>aA F (Z b 0) 9 a λF=>Rr 9 (Z b 0) R F
def xe (g n p:Nat) (R:VR) (F:PH):Prop:=Ls F (Z g 7) λb=>Lr F 4 (Z p 0) λa=>((Nb F (Y #[] 236) λk F=>((Ap 36 #[nE (Sb k 0),nE b] F λl F=>F.row (Z p 0) a/\a.size=4/\Nb F (Y a 236) λo F=>Ap 36 #[nE l,nE (Sb o 1)] F λm F=>qW F (Z g 7) (nE m) λF=>nW g n R F)/\(a.size=4/\Nb F (Y a 236) λh F=>Ap 36 #[nE (Sb k 0),nE b] F λc F=>Ap 36 #[nE c,nE (Sb h 1)] F λd F=>qW F (Z g 7) (nE d) λF=>nW g n R F)))/\(a.size=4/\Nb F (Y a 236) λi F=>Nb F (Y #[] 236) λj F=>Ap 36 #[nE (Sb j 0),nE b] F λe F=>Ap 36 #[nE e,nE (Sb i 1)] F λf F=>qW F (Z g 7) (nE f) λF=>nW g n R F))
def xf (h i f:Nat) (a:Int) (b:Sl) (c:Bool) (R:VR) (F:PH):Prop:=Bb (c) (Ls F (Z f 0) λd=>Nb F (Y #[(U (sq (i64.wrap a) (b.len:Int)))] 3) λg F=>Ap 76 #[nE d,nE (Sb g 1)] F λe F=>qW F (Z f 0) (nE e) λF=>xe h i f R F) (xe h i f R F)
def xg (i q r t d:Nat) (j:Int) (e:Bool) (R:VR) (F:PH):Prop:=Bb (e) (Lk F .u8 (Z q 0) λf=>qW F (Z d 0) (U (i64.wrap ((i64.wrap (3+(i64.wrap (sq f 8)))) - 4))) λF=>Lk F .u8 (Z q 1) λg=>Ls F (Z i 4) λa=>(a.len:Int)≠0/\qW F (Z d 4) (U (sq (i64.wrap g) (a.len:Int))) λF=>Lk F .u8 (Z q 2) λh=>Nb F (Y #[(U (sq (i64.wrap h) 9))] 3) λk F=>qW F (Z d 6) (nE (Sb k 1)) λF=>sN i r d R F) (Bc ((sq j 8)=6) (qW F (Z d 0) (U 5) λF=>Nb F (Y #[(U 5)] 3) λl F=>qW F (Z d 6) (nE (Sb l 1)) λF=>sN i r d R F) (Nb F (Y #[] 166) λs F=>Ls F (Z i 3) λm=>Ap 34 #[nE (Sb s 0),nE m] F λb F=>Lk F .u8 (Z q 1) λc=>Lr F 2 (Z t 0) λn=>Ix b (sq (i64.wrap c) 9) λo=>aA F (nR (nR o (nT (sq (i64.wrap c) 9)*7)) 5) 2 n λF=>qW F (Z i 3) (nE b) λF=>Lr F 9 (Z i 0) λp=>aA F (Z r 0) 9 p λF=>Rr 9 (Z r 0) R F))
def xh (k f l m:Nat) (g:Int) (h:Sl) (c:Nat) (a:Int) (i:Bool) (R:VR) (F:PH):Prop:=Bb (i) (Lk F .u8 (Z f 0) λj=>qW F (Z c 0) (U (i64.wrap ((i64.wrap (1+(i64.wrap (sq j 8)))) - 2))) λF=>qW F (Z c 1) (U (sq (i64.wrap g) (h.len:Int))) λF=>Lk F .u8 (Z f 3) λd=>qW F (Z c 2) (U (sq (i64.wrap d) 16)) λF=>Lk F .u8 (Z f 2) λe=>Ls F (Z k 5) λb=>(b.len:Int)≠0/\qW F (Z c 3) (U (sq (i64.wrap e) (b.len:Int))) λF=>sN k l c R F) (Bc ((sq a 8)=4) (xg k f l m c a (decide ((sq a 8)=4)) R F) (xg k f l m c a (decide ((sq a 8)=5)) R F))
def xj (f o h p:Nat) (a:Int) (b:Sl) (s:Nat) (c:Int) (i:Bool) (R:VR) (F:PH):Prop:=Bb (i) (Lr F 9 (Z f 0) λj=>ud 130 #[nL j,(U (sq (i64.wrap a) (b.len:Int)))] F λk F=>Bb ((!k)) (Nb F (Y #[(U (sq (i64.wrap a) (b.len:Int)))] 3) λq F=>Lk F .u8 (Z o 3) λl=>Lr F 2 (Z p 0) λg=>g.size=2/\Nb F (Y zL 236) λr F=>aA F (Z r 0) 4 (wr (rV (rV zL 0 (nE (Sb q 1))) 1 (U (i64.wrap (sq l 4)))) 2 g.toList) λF=>Lk F .u8 (Z o 2) λe=>Ls F (Z f 5) λd=>(d.len:Int)≠0/\Bc ((sq (i64.wrap e) (d.len:Int))≠(sq (i64.wrap a) (b.len:Int))) (Lr F 9 (Z f 0) λm=>ud 130 #[nL m,(U (sq (i64.wrap e) (d.len:Int)))] F λn F=>xf f h r e d (!n) R F) (xf f h r e d mz R F)) (nW f h R F)) (Bc ((sq c 8)=2) (xh f o h p a b s c (decide ((sq c 8)=2)) R F) (xh f o h p a b s c (decide ((sq c 8)=3)) R F))
def Wm (k l:Γ) (R:VR) (F:PH):Prop:=Nb F (Y k 39) λi F=>Nb F (Y l 194) λe F=>Nb F (Y zG 39) λn F=>Lk F .u8 (Z e 4) λf=>Ls F (Z i 0) λg=>Ca 128 #[ru .u8 f,(U (g.len:Int))] F λh F=>Nb F (Y zD 33) λj F=>aA F (Z j 0) 2 h λF=>Lk F .u8 (Z e 1) λc=>Ls F (Z i 5) λb=>(b.len:Int)≠0/\Lr F 2 (Z j 0) λd=>d.size=2/\Nb F (Y zF 233) λm F=>aA F (Z m 0) 9 (wr zF 7 d.toList) λF=>Lk F .u8 (Z e 0) λa=>Bc ((sq a 8)=0) (xj i e n j c b m a (decide ((sq a 8)=0)) R F) (xj i e n j c b m a (decide ((sq a 8)=1)) R F)
theorem aaf {a:Γ} {b:Γ} (h:Wm a b R F):ν 95 #[nL a,nL b] F R:=Rx.Λ (.qa8 (.qa8 (.qa8 (.qa8 (.J mz [] (.qa8 (.J mz [(44,.bool)] .N (.T (.J mz [] (.qa8 (.T (.qa8 (.qa8 (.J mz [] (.J mz [(74,.bool)] .N .N) .N))) .N)) .N) (.J mz [(90,.bool)] .N (.qa8 (.J mz [(115,.bool)] .N .N)))))) (.J mz [] .N .N)))))) h
def Wn (g:Γ) (c:Int) (R:VR) (F:PH):Prop:=Nb F (Y g 39) λh F=>Ls F (Z h 0) λd=>Bc ((d.len:Int)=64) (Lr F 2 (Z h 1) λe=>ud 132 #[nL e,ru .u64 c] F λf F=>R (nS f) F) (0<=(u64.wrap (d.len:Int))/\Bc ((Int.fdiv c (2 ^ (min (nT (u64.wrap (d.len:Int))) (u64).bits)))=0) (Lr F 2 (Z h 1) λa=>ud 132 #[nL a,ru .u64 c] F λb F=>R (nS b) F) (R (nS mz) F))
theorem aag {a:Γ} {b:Int} (h:Wn a b R F):ν 96 #[nL a,ru .u64 b] F R:=Rx.Λ .N h
def Pb (a b:Int) (R:VR) (F:PH):Prop:=Nb F (Y (#[U 0,U 0,U 0,U 0,U 0]) 225) λc F=>aA F (Z c 0) 5 (#[(U 1),(U a),(U b),U 0,U 0]:Γ) λF=>Rr 5 (Z c 0) R F
theorem qd5 {a:Int} {b:Int} (h:Pb a b R F):ν 119 #[(U a),(U b)] F R:=Rx.Λ .N h
def Pc (a b c:Int) (R:VR) (F:PH):Prop:=Nb F (Y (#[U 0,U 0,U 0,U 0,U 0]) 225) λd F=>aA F (Z d 0) 5 (#[(U a),U 0,U 0,(U b),(U c)]:Γ) λF=>Rr 5 (Z d 0) R F
theorem qd6 {a:Int} {b:Int} {c:Int} (h:Pc a b c R F):ν 120 #[(U a),(U b),(U c)] F R:=Rx.Λ .N h
def Eb (c b:Nat) (R:VR) (F:PH):Prop:=Lr F 9 (Z c 0) λa=>aA F (Z b 0) 9 a λF=>Rr 9 (Z b 0) R F
def mA (b a c:Nat) (R:VR) (F:PH):Prop:=qW F (Z b 7) (nE (Sb a 3)) λF=>Eb b c R F
def jF (a:Γ) (d:Nat) (b:Γ) (e:Nat) (c:Γ) (f h i:Nat) (R:VR) (F:PH):Prop:=a.size=2/\(wr (rV (rV zL 0 (nE (Sb d 1))) 1 (U 2)) 2 b.toList).size=4/\(wr (rV (rV zL 0 (nE (Sb e 1))) 1 (U 1)) 2 c.toList).size=4/\(wr (rV (rV zL 0 (nE (Sb f 1))) 1 (U 1)) 2 a.toList).size=4/\Nb F (Y (wr (wr (wr (#[.slice I 0 0,U 0,.slice I 0 0,U 0,.slice I 0 0,U 0,.slice I 0 0,U 0,.slice I 0 0,U 0,.slice I 0 0,U 0]:Γ) 0 (wr (rV (rV zL 0 (nE (Sb d 1))) 1 (U 2)) 2 b.toList).toList) 4 (wr (rV (rV zL 0 (nE (Sb e 1))) 1 (U 1)) 2 c.toList).toList) 8 (wr (rV (rV zL 0 (nE (Sb f 1))) 1 (U 1)) 2 a.toList).toList) 236) λg F=>mA h g i R F
def jG (c:Γ) (h:Nat) (a b:Γ) (e f g i j:Nat) (R:VR) (F:PH):Prop:=Ca 157 #[nL c] F λd F=>F.row (Z h 0) a/\F.row (Z h 0) b/\jF d e b f a g i j R F
def Ec (d:Nat) (a b:Γ) (e f g h i:Nat) (R:VR) (F:PH):Prop:=Ca 56 #[(U 0)] F λc F=>F.row (Z d 0) a/\F.row (Z d 0) b/\jG c d a b e f g h i R F
def xk (a:Γ) (e:Nat) (c:Γ) (f:Nat) (d:Γ) (g h:Nat) (R:VR) (F:PH):Prop:=Nb F (Y #[(U 0)] 3) λb F=>jF a e c f d b g h R F
def Ed (a:Γ) (h:Nat) (b c:Γ) (f g i j:Nat) (R:VR) (F:PH):Prop:=((Nb F (Y #[(U 0)] 3) λe F=>jG a h b c f g e i j R F)/\(Ca 157 #[nL a] F λd F=>F.row (Z h 0) b/\F.row (Z h 0) c/\xk d f c g b i j R F))
def MX (a:Γ) (f:Nat) (b:Γ) (d e h i:Nat) (R:VR) (F:PH):Prop:=a.size=2/\((Nb F (Y #[(U 0)] 3) λg F=>Ec f a b d e g h i R F)/\(Ca 56 #[(U 0)] F λc F=>F.row (Z f 0) a/\F.row (Z f 0) b/\Ed c f a b d e h i R F))
def zk (a:Γ) (f:Nat) (c:Γ) (g d e h i:Nat) (R:VR) (F:PH):Prop:=a.size=2/\Ca 56 #[(U 0)] F λb F=>F.row (Z f 0) a/\F.row (Z f 0) c/\jG b f a c g d e h i R F
def zl (a b:Γ) (h:Nat) (d:Γ) (g e f i j:Nat) (R:VR) (F:PH):Prop:=a.size=2/\Ca 157 #[nL b] F λc F=>F.row (Z h 0) a/\F.row (Z h 0) d/\jF c g d e a f i j R F
def zo (b:Γ) (g:Nat) (e:Γ) (c d:Nat) (a:Γ) (h i:Nat) (R:VR) (F:PH):Prop:=b.size=2/\(wr (rV (rV zL 0 (nE (Sb g 1))) 1 (U 2)) 2 e.toList).size=4/\(wr (rV (rV zL 0 (nE (Sb c 1))) 1 (U 1)) 2 b.toList).size=4/\(wr (rV (rV zL 0 (nE (Sb d 1))) 1 (U 1)) 2 a.toList).size=4/\Nb F (Y (wr (wr (wr (#[.slice I 0 0,U 0,.slice I 0 0,U 0,.slice I 0 0,U 0,.slice I 0 0,U 0,.slice I 0 0,U 0,.slice I 0 0,U 0]:Γ) 0 (wr (rV (rV zL 0 (nE (Sb g 1))) 1 (U 2)) 2 e.toList).toList) 4 (wr (rV (rV zL 0 (nE (Sb c 1))) 1 (U 1)) 2 b.toList).toList) 8 (wr (rV (rV zL 0 (nE (Sb d 1))) 1 (U 1)) 2 a.toList).toList) 236) λf F=>mA h f i R F
def mB (a d:Γ) (f:Nat) (e:Γ) (b g h:Nat) (R:VR) (F:PH):Prop:=a.size=2/\Nb F (Y #[(U 1)] 3) λc F=>zo d f e c b a g h R F
def mC (b a:Γ) (h:Nat) (c:Γ) (g d i j:Nat) (R:VR) (F:PH):Prop:=((Nb F (Y #[(U 1)] 3) λf F=>zl b a h c g f d i j R F)/\(Ca 157 #[nL a] F λe F=>F.row (Z h 0) b/\F.row (Z h 0) c/\mB e b g c d i j R F))
def Js (a:Γ) (g:Nat) (b:Γ) (f c h i:Nat) (R:VR) (F:PH):Prop:=((Nb F (Y #[(U 1)] 3) λe F=>zk a g b f e c h i R F)/\(Ca 56 #[(U 0)] F λd F=>F.row (Z g 0) a/\F.row (Z g 0) b/\mC a d g b f c h i R F))
def zp (a b:Γ) (h:Nat) (c:Γ) (g d i j:Nat) (R:VR) (F:PH):Prop:=a.size=2/\((Nb F (Y #[(U 0)] 3) λf F=>jG b h a c g d f i j R F)/\(Ca 157 #[nL b] F λe F=>F.row (Z h 0) a/\F.row (Z h 0) c/\xk e g c d a i j R F))
def zq (b a:Γ) (f:Nat) (e:Γ) (c g h:Nat) (R:VR) (F:PH):Prop:=b.size=2/\Nb F (Y #[(U 0)] 3) λd F=>jF a f e c b d g h R F
def zr (b a:Γ) (f:Nat) (c:Γ) (g h:Nat) (R:VR) (F:PH):Prop:=((Nb F (Y #[(U 1)] 3) λd F=>zq b a f c d g h R F)/\(Nb F (Y #[(U 0)] 3) λe F=>mB a b f c e g h R F))
def Jt (b a:Γ) (h:Nat) (c:Γ) (e i j:Nat) (R:VR) (F:PH):Prop:=((Nb F (Y #[(U 1)] 3) λf F=>zp b a h c e f i j R F)/\(Nb F (Y #[(U 0)] 3) λg F=>mC b a h c e g i j R F)/\(Ca 157 #[nL a] F λd F=>F.row (Z h 0) b/\F.row (Z h 0) c/\zr b d e c i j R F))
def MY (a b:Γ) (f d g h:Nat) (R:VR) (F:PH):Prop:=a.size=2/\((Nb F (Y #[(U 1)] 3) λi F=>MX b f a d i g h R F)/\(Nb F (Y #[(U 0)] 3) λe F=>Js b f a d e g h R F)/\(Ca 56 #[(U 0)] F λc F=>F.row (Z f 0) b/\F.row (Z f 0) a/\Jt b c f a d g h R F))
def Ju (a:Γ) (g:Nat) (b:Γ) (c d h i:Nat) (R:VR) (F:PH):Prop:=a.size=2/\((Nb F (Y #[(U 0)] 3) λf F=>Ec g b a c d f h i R F)/\(Ca 56 #[(U 0)] F λe F=>F.row (Z g 0) b/\F.row (Z g 0) a/\Ed e g b a c d h i R F))
def zt (a:Γ) (g:Nat) (c:Γ) (d e f h i:Nat) (R:VR) (F:PH):Prop:=a.size=2/\Ca 56 #[(U 0)] F λb F=>F.row (Z g 0) c/\F.row (Z g 0) a/\jG b g c a d e f h i R F
def zv (a b:Γ) (h:Nat) (d:Γ) (e f g i j:Nat) (R:VR) (F:PH):Prop:=a.size=2/\Ca 157 #[nL b] F λc F=>F.row (Z h 0) d/\F.row (Z h 0) a/\jF c e a f d g i j R F
def zw (b:Γ) (c d:Nat) (f:Γ) (e:Nat) (a:Γ) (h i:Nat) (R:VR) (F:PH):Prop:=b.size=2/\(wr (rV (rV zL 0 (nE (Sb c 1))) 1 (U 2)) 2 b.toList).size=4/\(wr (rV (rV zL 0 (nE (Sb d 1))) 1 (U 1)) 2 f.toList).size=4/\(wr (rV (rV zL 0 (nE (Sb e 1))) 1 (U 1)) 2 a.toList).size=4/\Nb F (Y (wr (wr (wr (#[.slice I 0 0,U 0,.slice I 0 0,U 0,.slice I 0 0,U 0,.slice I 0 0,U 0,.slice I 0 0,U 0,.slice I 0 0,U 0]:Γ) 0 (wr (rV (rV zL 0 (nE (Sb c 1))) 1 (U 2)) 2 b.toList).toList) 4 (wr (rV (rV zL 0 (nE (Sb d 1))) 1 (U 1)) 2 f.toList).toList) 8 (wr (rV (rV zL 0 (nE (Sb e 1))) 1 (U 1)) 2 a.toList).toList) 236) λg F=>mA h g i R F
def mD (a e:Γ) (b:Nat) (f:Γ) (c g h:Nat) (R:VR) (F:PH):Prop:=a.size=2/\Nb F (Y #[(U 4)] 3) λd F=>zw e d b f c a g h R F
def mE (b a:Γ) (h:Nat) (c:Γ) (d e i j:Nat) (R:VR) (F:PH):Prop:=((Nb F (Y #[(U 4)] 3) λg F=>zv b a h c g d e i j R F)/\(Ca 157 #[nL a] F λf F=>F.row (Z h 0) c/\F.row (Z h 0) b/\mD f b d c e i j R F))
def Jv (a:Γ) (g:Nat) (b:Γ) (c d h i:Nat) (R:VR) (F:PH):Prop:=((Nb F (Y #[(U 4)] 3) λf F=>zt a g b f c d h i R F)/\(Ca 56 #[(U 0)] F λe F=>F.row (Z g 0) b/\F.row (Z g 0) a/\mE a e g b c d h i R F))
def zx (a b:Γ) (h:Nat) (c:Γ) (d e i j:Nat) (R:VR) (F:PH):Prop:=a.size=2/\((Nb F (Y #[(U 0)] 3) λf F=>jG b h c a d e f i j R F)/\(Ca 157 #[nL b] F λg F=>F.row (Z h 0) c/\F.row (Z h 0) a/\xk g d a e c i j R F))
def zy (c a:Γ) (d e:Nat) (f:Γ) (g h:Nat) (R:VR) (F:PH):Prop:=c.size=2/\Nb F (Y #[(U 0)] 3) λb F=>jF a d c e f b g h R F
def zA (d a:Γ) (b:Nat) (e:Γ) (g h:Nat) (R:VR) (F:PH):Prop:=((Nb F (Y #[(U 4)] 3) λf F=>zy d a f b e g h R F)/\(Nb F (Y #[(U 0)] 3) λc F=>mD a d b e c g h R F))
def Jw (c a:Γ) (h:Nat) (d:Γ) (b i j:Nat) (R:VR) (F:PH):Prop:=((Nb F (Y #[(U 4)] 3) λg F=>zx c a h d g b i j R F)/\(Nb F (Y #[(U 0)] 3) λe F=>mE c a h d b e i j R F)/\(Ca 157 #[nL a] F λf F=>F.row (Z h 0) d/\F.row (Z h 0) c/\zA c f b d i j R F))
def Jy (a c:Γ) (g b h i:Nat) (R:VR) (F:PH):Prop:=a.size=2/\((Nb F (Y #[(U 4)] 3) λe F=>Ju c g a e b h i R F)/\(Nb F (Y #[(U 0)] 3) λf F=>Jv c g a b f h i R F)/\(Ca 56 #[(U 0)] F λd F=>F.row (Z g 0) a/\F.row (Z g 0) c/\Jw c d g a b h i R F))
def Jz (a c:Γ) (g d b h i:Nat) (R:VR) (F:PH):Prop:=a.size=2/\((Nb F (Y #[(U 1)] 3) λf F=>zk c g a d f b h i R F)/\(Ca 56 #[(U 0)] F λe F=>F.row (Z g 0) c/\F.row (Z g 0) a/\mC c e g a d b h i R F))
def JA (a c:Γ) (g d b h i:Nat) (R:VR) (F:PH):Prop:=a.size=2/\((Nb F (Y #[(U 4)] 3) λf F=>zt c g a f d b h i R F)/\(Ca 56 #[(U 0)] F λe F=>F.row (Z g 0) a/\F.row (Z g 0) c/\mE c e g a d b h i R F))
def JB (b d a:Γ) (h e c i j:Nat) (R:VR) (F:PH):Prop:=b.size=2/\((Nb F (Y #[(U 1)] 3) λg F=>zl d a h b e g c i j R F)/\(Ca 157 #[nL a] F λf F=>F.row (Z h 0) d/\F.row (Z h 0) b/\mB f d e b c i j R F))
def JC (b e a:Γ) (h c d i j:Nat) (R:VR) (F:PH):Prop:=b.size=2/\((Nb F (Y #[(U 4)] 3) λg F=>zv e a h b g c d i j R F)/\(Ca 157 #[nL a] F λf F=>F.row (Z h 0) b/\F.row (Z h 0) e/\mD f e c b d i j R F))
def JD (e f:Γ) (b c:Nat) (a:Γ) (g h:Nat) (R:VR) (F:PH):Prop:=e.size=2/\Nb F (Y #[(U 1)] 3) λd F=>zo f b e d c a g h R F
def JE (e f:Γ) (b c:Nat) (a:Γ) (g h:Nat) (R:VR) (F:PH):Prop:=e.size=2/\Nb F (Y #[(U 4)] 3) λd F=>zw f d b e c a g h R F
def zB (a e f:Γ) (b g h:Nat) (R:VR) (F:PH):Prop:=a.size=2/\((Nb F (Y #[(U 4)] 3) λc F=>JD e f c b a g h R F)/\(Nb F (Y #[(U 1)] 3) λd F=>JE f e d b a g h R F))
def zC (c d a:Γ) (h b i j:Nat) (R:VR) (F:PH):Prop:=((Nb F (Y #[(U 4)] 3) λg F=>JB c d a h g b i j R F)/\(Nb F (Y #[(U 1)] 3) λf F=>JC d c a h f b i j R F)/\(Ca 157 #[nL a] F λe F=>F.row (Z h 0) d/\F.row (Z h 0) c/\zB e c d b i j R F))
def JF (b c:Γ) (g a h i:Nat) (R:VR) (F:PH):Prop:=((Nb F (Y #[(U 4)] 3) λe F=>Jz b c g e a h i R F)/\(Nb F (Y #[(U 1)] 3) λf F=>JA c b g f a h i R F)/\(Ca 56 #[(U 0)] F λd F=>F.row (Z g 0) c/\F.row (Z g 0) b/\zC b c d g a h i R F))
def JG (c d a:Γ) (h b i j:Nat) (R:VR) (F:PH):Prop:=c.size=2/\((Nb F (Y #[(U 1)] 3) λf F=>zp d a h c b f i j R F)/\(Nb F (Y #[(U 0)] 3) λg F=>mC d a h c b g i j R F)/\(Ca 157 #[nL a] F λe F=>F.row (Z h 0) d/\F.row (Z h 0) c/\zr d e b c i j R F))
def JH (c d a:Γ) (h b i j:Nat) (R:VR) (F:PH):Prop:=c.size=2/\((Nb F (Y #[(U 4)] 3) λf F=>zx d a h c f b i j R F)/\(Nb F (Y #[(U 0)] 3) λg F=>mE d a h c b g i j R F)/\(Ca 157 #[nL a] F λe F=>F.row (Z h 0) c/\F.row (Z h 0) d/\zA d e b c i j R F))
def JI (c f a:Γ) (b g h:Nat) (R:VR) (F:PH):Prop:=c.size=2/\((Nb F (Y #[(U 1)] 3) λd F=>zq f a b c d g h R F)/\(Nb F (Y #[(U 0)] 3) λe F=>mB a f b c e g h R F))
def JJ (c f a:Γ) (b g h:Nat) (R:VR) (F:PH):Prop:=c.size=2/\((Nb F (Y #[(U 4)] 3) λd F=>zy f a d b c g h R F)/\(Nb F (Y #[(U 0)] 3) λe F=>mD a f b c e g h R F))
def JK (b c a:Γ) (g h:Nat) (R:VR) (F:PH):Prop:=((Nb F (Y #[(U 4)] 3) λd F=>JI b c a d g h R F)/\(Nb F (Y #[(U 1)] 3) λe F=>JJ c b a e g h R F)/\(Nb F (Y #[(U 0)] 3) λf F=>zB a b c f g h R F))
def JL (b c a:Γ) (h i j:Nat) (R:VR) (F:PH):Prop:=((Nb F (Y #[(U 4)] 3) λe F=>JG b c a h e i j R F)/\(Nb F (Y #[(U 1)] 3) λf F=>JH c b a h f i j R F)/\(Nb F (Y #[(U 0)] 3) λg F=>zC b c a h g i j R F)/\(Ca 157 #[nL a] F λd F=>F.row (Z h 0) c/\F.row (Z h 0) b/\JK b c d i j R F))
def Pd (R:VR) (F:PH):Prop:=Nb F (Y zG 39) λm F=>Nb F (Y #[pe ⟨#[69]⟩] 9) λq F=>Ca 52 #[nE (Sb q 1)] F λn F=>Nb F (Y zG 39) λc F=>aA F (Z c 0) 9 n λF=>Ca 85 #[nS mY] F λo F=>Nb F (Y zD 33) λe F=>aA F (Z e 0) 2 o λF=>Xm c 54 0 55 1 54 0 ⟨#[97,100,100]⟩ 0 (λF=>Xm c 54 0 55 2 54 0 ⟨#[109,117,108]⟩ 0 (λF=>Xm c 55 3 54 0 55 4 ⟨#[98,114,97,99,107,101,116]⟩ 0 (λF=>X9 c 55 0 ⟨#[110,97,109,101]⟩ 0 (λF=>Xm c 54 0 55 8 54 0 ⟨#[112,111,119]⟩ 0 (λF=>Ls F (Z c 5) λi=>Ix i 2 λj=>qW F (nR (nR j (nT 2*13)) 5) (nS mY) λF=>Ls F (Z c 5) λg=>Ca 56 #[(U 1)] F λk F=>F.cell (Z c 5)=V (nE g)/\Ix g 4 λl=>aA F (nR (nR l (nT 4*13)) 3) 2 k λF=>Lr F 2 (Z e 0) λa=>Lr F 2 (Z e 0) λb=>((Nb F (Y #[(U 4)] 3) λp F=>MY a b e p c m R F)/\(Nb F (Y #[(U 1)] 3) λh F=>Jy b a e h c m R F)/\(Nb F (Y #[(U 0)] 3) λf F=>JF a b e f c m R F)/\(Ca 56 #[(U 0)] F λd F=>F.row (Z e 0) b/\F.row (Z e 0) a/\JL a b d e c m R F))) F) F) F) F) F
theorem qd7 (h:Pd R F):ν 122 #[] F R:=Rx.Λ .N h
def p5 (f e:Nat) (R:VR) (F:PH):Prop:=Ls F (Z e 8) λa=>Ca 56 #[(U 1)] F λb F=>F.cell (Z e 8)=V (nE a)/\Ix a 1 λc=>aA F (nR (nR c (nT 1*9)) 7) 2 b λF=>Lr F 9 (Z e 0) λd=>aA F (Z f 0) 9 d λF=>Rr 9 (Z f 0) R F
def Pe (R:VR) (F:PH):Prop:=Nb F (Y zG 39) λn F=>Nb F (Y #[pe ⟨#[83]⟩,pe ⟨#[67]⟩] 9) λo F=>Ca 52 #[nE (Sb o 2)] F λk F=>Nb F (Y zG 39) λc F=>aA F (Z c 0) 9 k λF=>Ca 85 #[nS mY] F λl F=>Nb F (Y zD 33) λj F=>aA F (Z j 0) 2 l λF=>ZU c 55 5 54 1 54 0 55 6 54 0 ⟨#[98,111,116,104]⟩ 0 (λF=>Xm c 55 5 54 1 54 0 ⟨#[116,104,101,110]⟩ 0 (λF=>Xc c 54 1 55 7 ⟨#[99,97,108,108]⟩ 0 (λF=>Xm c 55 3 54 0 55 4 ⟨#[98,108,111,99,107]⟩ 0 (λF=>X9 c 55 0 ⟨#[119,111,114,100]⟩ 1 (λF=>Ls F (Z c 5) λg=>Ix g 3 λh=>qW F (nR (nR h (nT 3*13)) 5) (nS mY) λF=>Lr F 2 (Z j 0) λa=>((Ca 56 #[(U 0)] F λd F=>F.row (Z j 0) a/\d.size=2/\Nb F (Y #[(U 5),(U 6)] 3) λi F=>a.size=2/\(wr (rV (rV (rV zF 0 (U 2)) 2 (U 2)) 3 (U 1)) 7 d.toList).size=9/\(wr (rV (rV zF 0 (U 5)) 6 (nE (Sb i 2))) 7 a.toList).size=9/\Nb F (Y (wr (wr (#[U 0,U 0,U 0,U 0,U 0,U 0,.slice I 0 0,.slice I 0 0,U 0,U 0,U 0,U 0,U 0,U 0,U 0,.slice I 0 0,.slice I 0 0,U 0]:Γ) 0 (wr (rV (rV (rV zF 0 (U 2)) 2 (U 2)) 3 (U 1)) 7 d.toList).toList) 9 (wr (rV (rV zF 0 (U 5)) 6 (nE (Sb i 2))) 7 a.toList).toList) 233) λm F=>qW F (Z c 8) (nE (Sb m 2)) λF=>p5 n c R F)/\(Nb F (Y #[(U 5),(U 6)] 3) λe F=>a.size=2/\Ca 56 #[(U 0)] F λb F=>F.row (Z j 0) a/\b.size=2/\(wr (rV (rV (rV zF 0 (U 2)) 2 (U 2)) 3 (U 1)) 7 b.toList).size=9/\(wr (rV (rV zF 0 (U 5)) 6 (nE (Sb e 2))) 7 a.toList).size=9/\Nb F (Y (wr (wr (#[U 0,U 0,U 0,U 0,U 0,U 0,.slice I 0 0,.slice I 0 0,U 0,U 0,U 0,U 0,U 0,U 0,U 0,.slice I 0 0,.slice I 0 0,U 0]:Γ) 0 (wr (rV (rV (rV zF 0 (U 2)) 2 (U 2)) 3 (U 1)) 7 b.toList).toList) 9 (wr (rV (rV zF 0 (U 5)) 6 (nE (Sb e 2))) 7 a.toList).toList) 233) λf F=>qW F (Z c 8) (nE (Sb f 2)) λF=>p5 n c R F))) F) F) F) F) F
theorem qd8 (h:Pe R F):ν 123 #[] F R:=Rx.Λ (.qa8 (.qa8 (.qa8 (.qa8 (.qa8 (.qa8 (.qa8 (.qa8 (.qa8 (.J mz [] .N .N)))))))))) h
def Pf (R:VR) (F:PH):Prop:=Nb F (Y zG 39) λp F=>Nb F (Y #[pe ⟨#[66]⟩,pe ⟨#[73]⟩] 9) λq F=>Ca 52 #[nE (Sb q 2)] F λl F=>Nb F (Y zG 39) λa F=>aA F (Z a 0) 9 l λF=>X9 a 54 1 ⟨#[111,110,101]⟩ 0 (λF=>Xc a 54 0 54 1 ⟨#[108,105,115,116]⟩ 0 (λF=>X9 a 55 0 ⟨#[119,111,114,100]⟩ 1 (λF=>Xm a 55 5 55 0 54 0 ⟨#[104,101,97,100]⟩ 1 (λF=>Xc a 55 5 54 0 ⟨#[108,105,110,101]⟩ 1 (λF=>Ls F (Z a 5) λc=>(#[(U 2),(U 0),(U 1)]:Γ).size=3/\Nb F (Y (#[(U 2),(U 0),(U 1)]:Γ) 260) λm F=>Ix c 1 λd=>qW F (nR (nR d (nT 1*13)) 7) (nE (Sb m 1)) λF=>Ls F (Z a 5) λe=>(#[(U 3),(U 0),(U 2)]:Γ).size=3/\(#[(U 1),(U 2),U 0]:Γ).size=3/\Nb F (Y (wr (wr (#[U 0,U 0,U 0,U 0,U 0,U 0]:Γ) 0 (#[(U 3),(U 0),(U 2)]:Γ).toList) 3 (#[(U 1),(U 2),U 0]:Γ).toList) 260) λn F=>Ix e 3 λf=>qW F (nR (nR f (nT 3*13)) 7) (nE (Sb n 2)) λF=>Ls F (Z a 5) λg=>(#[(U 4),(U 0),(U 1)]:Γ).size=3/\Nb F (Y (#[(U 4),(U 0),(U 1)]:Γ) 260) λo F=>Ix g 4 λh=>qW F (nR (nR h (nT 4*13)) 7) (nE (Sb o 1)) λF=>Ls F (Z a 5) λb=>Ca 56 #[(U 0)] F λi F=>F.cell (Z a 5)=V (nE b)/\Ix b 4 λj=>aA F (nR (nR j (nT 4*13)) 3) 2 i λF=>Lr F 9 (Z a 0) λk=>aA F (Z p 0) 9 k λF=>Rr 9 (Z p 0) R F) F) F) F) F) F
theorem qd9 (h:Pf R F):ν 124 #[] F R:=Rx.Λ .N h
def Pg (R:VR) (F:PH):Prop:=Nb F (Y zG 39) λo F=>Nb F (Y #[pe ⟨#[83]⟩,pe ⟨#[87]⟩,pe ⟨#[86]⟩] 9) λp F=>Ca 52 #[nE (Sb p 3)] F λm F=>Nb F (Y zG 39) λa F=>aA F (Z a 0) 9 m λF=>Xc a 54 1 54 2 ⟨#[112,97,105,114]⟩ 0 (λF=>X9 a 55 0 ⟨#[115,105,110,103,108,101]⟩ 1 (λF=>Xc a 55 0 55 0 ⟨#[100,111,117,98,108,101]⟩ 1 (λF=>YO a ⟨#[110,111,110,101]⟩ 2 (λF=>Xc a 55 0 54 2 ⟨#[110,101,120,116]⟩ 2 (λF=>Xc a 55 1 54 2 ⟨#[109,97,114,107]⟩ 2 (λF=>Ls F (Z a 5) λe=>Ix e 1 λf=>qW F (nR (nR f (nT 1*13)) 6) (U (-1:Int)) λF=>Ls F (Z a 5) λd=>Ca 56 #[(U 1)] F λg F=>F.cell (Z a 5)=V (nE d)/\Ix d 5 λh=>aA F (nR (nR h (nT 5*13)) 3) 2 g λF=>Nb F (Y #[(U 0)] 3) λi F=>Ca 56 #[(U 0)] F λb F=>b.size=2/\Nb F (Y #[(U 1)] 3) λj F=>Ca 56 #[(U 1)] F λk F=>Ca 157 #[nL k] F λc F=>c.size=2/\(wr (rV (rV (rV zF 0 (U 3)) 4 (U 1)) 6 (nE (Sb i 1))) 7 b.toList).size=9/\(wr (rV (rV (rV zF 0 (U 4)) 4 (U 2)) 6 (nE (Sb j 1))) 7 c.toList).size=9/\Nb F (Y (wr (wr (#[U 0,U 0,U 0,U 0,U 0,U 0,.slice I 0 0,.slice I 0 0,U 0,U 0,U 0,U 0,U 0,U 0,U 0,.slice I 0 0,.slice I 0 0,U 0]:Γ) 0 (wr (rV (rV (rV zF 0 (U 3)) 4 (U 1)) 6 (nE (Sb i 1))) 7 b.toList).toList) 9 (wr (rV (rV (rV zF 0 (U 4)) 4 (U 2)) 6 (nE (Sb j 1))) 7 c.toList).toList) 233) λn F=>qW F (Z a 8) (nE (Sb n 2)) λF=>Lr F 9 (Z a 0) λl=>aA F (Z o 0) 9 l λF=>Rr 9 (Z o 0) R F) F) F) F) F) F) F
theorem qea (h:Pg R F):ν 125 #[] F R:=Rx.Λ .N h
def Ph (R:VR) (F:PH):Prop:=Nb F (Y zG 39) λg F=>Nb F (Y #[pe ⟨#[83]⟩,pe ⟨#[79]⟩,pe ⟨#[80]⟩] 9) λh F=>Ca 52 #[nE (Sb h 3)] F λf F=>Nb F (Y zG 39) λa F=>aA F (Z a 0) 9 f λF=>Zp a 54 1 55 0 54 1 54 2 ⟨#[97,108,108]⟩ 0 (λF=>YO a ⟨#[110,111]⟩ 1 (λF=>X9 a 55 1 ⟨#[121,101,115]⟩ 1 (λF=>YO a ⟨#[101,110,100]⟩ 2 (λF=>Xc a 55 1 54 2 ⟨#[114,101,115,116]⟩ 2 (λF=>Ls F (Z a 5) λb=>Ca 56 #[(U 0)] F λc F=>F.cell (Z a 5)=V (nE b)/\Ix b 4 λd=>aA F (nR (nR d (nT 4*13)) 3) 2 c λF=>Lr F 9 (Z a 0) λe=>aA F (Z g 0) 9 e λF=>Rr 9 (Z g 0) R F) F) F) F) F) F
theorem qeb (h:Ph R F):ν 126 #[] F R:=Rx.Λ .N h
def p6 (a c:Int) (b:Nat) (d:Bool) (R:VR) (F:PH):Prop:=Bb (d) (Ca 85 #[nS mY] F λe F=>aA F (Z b 0) 2 e λF=>Rr 2 (Z b 0) R F) (c≠0/\Ca 56 #[(U (sq (i64.wrap (u8.wrap (Int.tdiv a 6))) c))] F λf F=>Nb F (Y zD 33) λk F=>aA F (Z k 0) 2 f λF=>Bc ((sq a 6)=3) (Lr F 2 (Z k 0) λg=>aA F (Z b 0) 2 g λF=>Rr 2 (Z b 0) R F) (Bc ((sq a 6)=4) (Lr F 2 (Z k 0) λh=>Ca 157 #[nL h] F λi F=>aA F (Z b 0) 2 i λF=>Rr 2 (Z b 0) R F) (Nb F (Y #[ru .u8 a] 5) λl F=>Ca 93 #[nE (Sb l 1),(U c)] F λj F=>aA F (Z b 0) 2 j λF=>Rr 2 (Z b 0) R F)))
def Pj (a b:Int) (R:VR) (F:PH):Prop:=Nb F (Y zD 33) λc F=>Bc (b=0) (p6 a b c mY R F) (p6 a b c (decide ((sq a 6)<3)) R F)
theorem qec {a:Int} {b:Int} (h:Pj a b R F):ν 128 #[ru .u8 a,(U b)] F R:=Rx.Λ (.qa8 (.T (.J mz [(12,.bool)] .N .N) .N)) h
def dp (c b:Nat) (R:VR) (F:PH):Prop:=Lr F 13 (Z c 0) λa=>aA F (Z b 0) 13 a λF=>Rr 13 (Z b 0) R F
def Pk (p:Γ) (a:Int) (R:VR) (F:PH):Prop:=Nb F (Y p 64) λc F=>Nb F (Y zP 64) λd F=>Ls F (Z c 2) λb=>Bc ((b.len:Int)=0) (Lr F 13 (Z c 0) λg=>aA F (Z d 0) 13 g λF=>Rr 13 (Z d 0) R F) (Bc ((sq a 8)=1) (qW F (Z c 6) (U 1) λF=>dp c d R F) (Bc ((sq a 8)=2) (qW F (Z c 6) (U (-1:Int)) λF=>dp c d R F) (Bc ((sq a 8)=3) (qW F (Z c 5) (nS mY) λF=>Lr F 13 (Z c 0) λh=>ud 161 #[nL h] F λi F=>qW F (Z c 5) (nS i) λF=>dp c d R F) (Bc ((sq a 8)=4) ((b.len:Int)≠0/\(#[(U (i64.wrap (1+(sq (i64.wrap (u8.wrap (Int.tdiv a 8))) 4)))),(U (sq (i64.wrap (Int.tdiv (i64.wrap (u8.wrap (Int.tdiv a 8))) 4)) (b.len:Int))),(U (i64.wrap ((b.len:Int) - 1)))]:Γ).size=3/\Nb F (Y (#[(U (i64.wrap (1+(sq (i64.wrap (u8.wrap (Int.tdiv a 8))) 4)))),(U (sq (i64.wrap (Int.tdiv (i64.wrap (u8.wrap (Int.tdiv a 8))) 4)) (b.len:Int))),(U (i64.wrap ((b.len:Int) - 1)))]:Γ) 260) λq F=>qW F (Z c 7) (nE (Sb q 1)) λF=>Bc ((sq (i64.wrap (u8.wrap (Int.tdiv a 8))) 4)=0) (Ls F (Z c 7) λj=>Ix j 0 λk=>qW F (nR (nR k (nT 0*3)) 2) (U 0) λF=>dp c d R F) (dp c d R F)) (Bc ((sq a 8)=5) (qW F (Z c 8) (nS mY) λF=>dp c d R F) (Bc ((sq a 8)=6) (Ls F (Z c 2) λl=>(b.len:Int)≠0/\Ix l (sq (i64.wrap (u8.wrap (Int.tdiv a 8))) (b.len:Int)) λm=>∃e,F.cell (nR m (nT (sq (i64.wrap (u8.wrap (Int.tdiv a 8))) (b.len:Int))*2))=V (nS e)/\Bb (e) ((b.len:Int)≠0/\aA F (Z c 8) 5 (#[nS mz,(U (i64.wrap ((sq (i64.wrap (u8.wrap (Int.tdiv a 8))) (b.len:Int))+1))),(U (i64.wrap (1+(sq (i64.wrap (u8.wrap (Int.tdiv a 8))) 2)))),U 0,U 0]:Γ) λF=>dp c d R F) (dp c d R F)) (Bc ((sq a 8)=7) (Ls F (Z c 2) λn=>(b.len:Int)≠0/\Ix n (sq (i64.wrap (u8.wrap (Int.tdiv a 8))) (b.len:Int)) λo=>∃f,F.cell (nR o (nT (sq (i64.wrap (u8.wrap (Int.tdiv a 8))) (b.len:Int))*2))=V (nS f)/\Bb (f) ((b.len:Int)≠0/\aA F (Z c 8) 5 (#[nS mz,U 0,U 0,(U (i64.wrap ((sq (i64.wrap (u8.wrap (Int.tdiv a 8))) (b.len:Int))+1))),(U (i64.wrap (1+(sq (i64.wrap (u8.wrap (Int.tdiv a 8))) 7))))]:Γ) λF=>dp c d R F) (dp c d R F)) (dp c d R F))))))))
theorem qed {b:Γ} {a:Int} (h:Pk b a R F):ν 129 #[nL b,ru .u8 a] F R:=Rx.Λ (.qa8 (.qa8 (.qa8 (.qa8 (.J mz [] .N .N))))) h
def Ee (R:VR) (F:PH):Prop:=R (nS mz) F
def Ef (b:Ω) (_:Int) (_:Nat) (a:Int) (_:VR) (F:PH):Prop:=b (i64.wrap (a+1)) F
def xm (m n:Ω) (c:Int) (l:Nat) (a:Int) (R:VR) (b:Int) (F:PH):Prop:=Ls F (Z l 7) λd=>Ix d a λe=>Ls F (nR e (nT a*4)) λf=>Bc (b<(f.len:Int)) (Ls F (Z l 7) λg=>Ix g a λh=>Ls F (nR h (nT a*4)) λi=>Ix i b λj=>Li F (nR j (nT b*1)) λk=>Bc (k=c) (R (nS mY) F) (n (i64.wrap (b+1)) F)) (Ef m c l a R F)
def xn (h:Ω) (d:Int) (g:Nat) (R:VR) (a:Int) (F:PH):Prop:=Ls F (Z g 7) λe=>Bc (a<(e.len:Int)) ((∃(f:Nat->Ω) (c:Nat),f c 0 F/\∀c b F,f c b F-> xm h (Xg f c) d g a R b F)) (Ee R F)
def Pm (a:Γ) (b:Int) (R:VR) (F:PH):Prop:=Nb F (Y a 39) λd F=>Lp 0 F λN c F=>xn N b d R c F
theorem qee {a:Γ} {b:Int} (h:Pm a b R F):ν 130 #[nL a,(U b)] F R:=Rx.Λ (.qa8 (.J mz [] (.qa8 (.L [(5,.int .i64)] (.qa8 (.J mz [] (.qa8 (.L [(6,.int .i64)] .N)) .N)))) .N)) h
def p7 (u b:Nat) (c:Bool) (R:VR) (F:PH):Prop:=Bb (c) (Li F (Z b 4) λd=>Bc (0<=d) (Li F (Z b 4) λe=>Ls F (Z u 4) λf=>Bc (e<(f.len:Int)) (Lr F 9 (Z u 0) λg=>Ls F (Z b 6) λh=>ud 164 #[nL g,nE h,nS mz] F λi F=>R (nS i) F) (R (nS mz) F)) (R (nS mz) F)) (Li F (Z b 5) λj=>Bc (j<0) (R (nS mz) F) (Li F (Z b 5) λk=>Ls F (Z u 3) λl=>Bc ((l.len:Int)<=k) (R (nS mz) F) (Lr F 9 (Z u 0) λm=>Ls F (Z b 6) λn=>ud 164 #[nL m,nE n,nS mY] F λo F=>Bb ((!o)) (R (nS mz) F) (Ls F (Z u 3) λp=>Li F (Z b 5) λa=>Ix p a λq=>Lr F 7 (nR q (nT a*7)) λr=>Nb F (Y zT 166) λv F=>aA F (Z v 0) 7 r λF=>Li F (Z v 1) λs=>Bc (s=0) (Lx F (Z v 2) λt=>R (nS (t.toList==(ByteArray.mk #[]).toList)) F) (R (nS mz) F)))))
def qe (h a:Nat) (b:Int) (i:Bool) (R:VR) (F:PH):Prop:=Bb (i) (Li F (Z a 1) λj=>Bc (j<0) (R (nS mz) F) (Li F (Z a 1) λk=>Ls F (Z h 5) λl=>Bc ((l.len:Int)<=k) (R (nS mz) F) (Li F (Z a 3) λm=>Bc (m<0) (R (nS mz) F) (Li F (Z a 3) λn=>Ls F (Z h 5) λo=>Bc ((o.len:Int)<=n) (R (nS mz) F) (Ls F (Z h 5) λp=>Li F (Z a 1) λd=>Ix p d λq=>Ls F (nR (nR q (nT d*13)) 2) λc=>Li F (Z a 2) λr=>Bc (0<=r) (Li F (Z a 2) λs=>Bc (s<(c.len:Int)) (Li F (Z a 2) λe=>Ix c e λt=>Lb F (nR t (nT e*2)) λu=>Bb ((!u)) (Li F (Z a 2) λf=>Ix c f λv=>Li F (nR (nR v (nT f*2)) 1) λw=>Ls F (Z h 5) λx=>Li F (Z a 3) λg=>Ix x g λy=>Li F (nR (nR y (nT g*13)) 1) λz=>R (nS (decide (w=z))) F) (R (nS mz) F)) (R (nS mz) F)) (R (nS mz) F)))))) (Bc (b=3) (p7 h a (decide (b=3)) R F) (p7 h a (decide (b=4)) R F))
def Po (i j:Γ) (R:VR) (F:PH):Prop:=Nb F (Y i 39) λk F=>Nb F (Y j 233) λb F=>Li F (Z b 0) λl=>Bc (l<1) (R (nS mz) F) (Li F (Z b 0) λc=>Bc (5<c) (R (nS mz) F) (Lr F 2 (Z b 7) λd=>Ls F (Z k 0) λe=>ud 162 #[nL d,(U (e.len:Int))] F λf F=>Bb ((!f)) (R (nS mz) F) (Lr F 9 (Z b 0) λg=>ud 163 #[nL g] F λh F=>Bb ((!h)) (R (nS mz) F) (Li F (Z b 0) λa=>Bc (a=1) (qe k b a (decide (a=1)) R F) (qe k b a (decide (a=2)) R F)))))
theorem qef {a:Γ} {b:Γ} (h:Po a b R F):ν 131 #[nL a,nL b] F R:=Rx.Λ (.qa8 (.qa8 (.T (.qa8 (.J mz [(31,.bool)] .N (.qa8 (.J mz [(100,.bool)] .N .N)))) .N))) h
def Eg (c:Int) (d:Nat) (R:VR) (F:PH):Prop:=Lr F 2 (Z d 3) λa=>ud 132 #[nL a,ru .u64 c] F λb F=>R (nS b) F
def qh (b:Ω) (_:Int) (_ _:Nat) (a:Int) (_:VR) (F:PH):Prop:=b (i64.wrap (a+1)) F
def xo (p:Ω) (c:Int) (o d:Nat) (R:VR) (a:Int) (F:PH):Prop:=Ls F (Z d 2) λk=>Bc (a<(k.len:Int)) (Ls F (Z d 2) λe=>Ix e a λf=>Lb F (nR f (nT a*2)) λg=>Bb (g) (Ls F (Z o 3) λh=>Ls F (Z d 2) λi=>Ix i a λj=>Li F (nR (nR j (nT a*2)) 1) λb=>Ix h b λl=>Lr F 2 (nR (nR l (nT b*7)) 5) λm=>ud 132 #[nL m,ru .u64 c] F λn F=>F.cell (nR (nR j (nT a*2)) 1)=V (U b)/\F.cell (Z d 2)=V (nE i)/\F.cell (Z o 3)=V (nE h)/\F.cell (nR f (nT a*2))=V (nS g)/\F.cell (Z d 2)=V (nE e)/\Bb ((!n)) (R (nS mz) F) (qh p c o d a R F)) (qh p c o d a R F)) (Eg c d R F)
def Pq (e:Γ) (f a:Int) (R:VR) (F:PH):Prop:=Nb F (Y e 39) λh F=>Ls F (Z h 5) λb=>Ix b a λc=>Lr F 13 (nR c (nT a*13)) λd=>Nb F (Y zP 64) λi F=>aA F (Z i 0) 13 d λF=>Lp 0 F λN g F=>xo N f h i R g F
theorem qeg {a:Γ} {b:Int} {c:Int} (h:Pq a b c R F):ν 138 #[nL a,ru .u64 b,(U c)] F R:=Rx.Λ (.qa8 (.qa8 (.J mz [] (.qa8 (.L [(8,.int .i64)] (.qa8 (.J mz [] .N .N)))) .N))) h
def Pt (r:Γ) (R:VR) (F:PH):Prop:=Nb F (Y r 64) λa F=>Ls F (Z a 2) λs=>Bc ((s.len:Int)≠3) (R (nS mz) F) (Li F (Z a 6) λt=>Bc (t≠0) (R (nS mz) F) (Ls F (Z a 7) λd=>Bc ((0:Int)<(d.len:Int)) (R (nS mz) F) (Lr F 5 (Z a 8) λe=>∃b,(∀F,pn prog (Op.equal 60 (nL e) (nL (#[nS mz,U 0,U 0,U 0,U 0]:Γ))) F b)/\Bb ((!b)) (R (nS mz) F) (Ls F (Z a 2) λf=>Ix f 0 λg=>Lb F (nR g (nT 0*2)) λh=>Bb (h) (Ls F (Z a 2) λi=>Ix i 2 λj=>Lb F (nR j (nT 2*2)) λk=>Bb (k) (Ls F (Z a 2) λl=>Ix l 1 λm=>Lb F (nR m (nT 1*2)) λn=>Bb ((!n)) (Ls F (Z a 2) λo=>Ix o 1 λp=>∃c,F.cell (nR (nR p (nT 1*2)) 1)=V (U c)/\Li F (Z a 1) λq=>R (nS (decide (c=q))) F) (R (nS mz) F)) (R (nS mz) F)) (R (nS mz) F)))))
theorem qdN {a:Γ} (h:Pt a R F):ν 161 #[nL a] F R:=Rx.Λ .N h
def Eh (R:VR) (F:PH):Prop:=R (nS mY) F
def xp (h:Ω) (f:Int) (g:Nat) (R:VR) (a:Int) (F:PH):Prop:=Ls F (Z g 0) λb=>Bc (a<(b.len:Int)) (Ls F (Z g 0) λc=>Ix c a λd=>Li F (nR d (nT a*3)) λe=>Bc (f<=e) (R (nS mz) F) (h (i64.wrap (a+1)) F)) (Eh R F)
def Pu (a:Γ) (b:Int) (R:VR) (F:PH):Prop:=Nb F (Y a 33) λf F=>Lr F 2 (Z f 0) λc=>Ci 192 #[nL c] F λd F=>Bc (d≠0) (R (nS mz) F) (Lp 0 F λN e F=>xp N b f R e F)
theorem qdO {a:Γ} {b:Int} (h:Pu a b R F):ν 162 #[nL a,(U b)] F R:=Rx.Λ (.qa8 (.qa8 (.J mz [] (.qa8 (.L [(5,.int .i64)] .N)) .N))) h
def qi (d:Nat) (a:Bool) (R:VR) (F:PH):Prop:=Bb (a) (Li F (Z d 0) λe=>Bc (e=5) (R (nS mY) F) (Li F (Z d 5) λf=>R (nS (decide (f=0))) F)) (Li F (Z d 4) λg=>Bc (g=0) (Li F (Z d 0) λb=>Bc (b=5) (R (nS mY) F) (Li F (Z d 5) λc=>R (nS (decide (c=0))) F)) (R (nS mz) F))
def jH (c:Nat) (R:VR) (F:PH):Prop:=Li F (Z c 0) λa=>Bc (a=3) (qi c mY R F) (Li F (Z c 0) λb=>qi c (decide (b=4)) R F)
def qj (b:Nat) (a:Bool) (R:VR) (F:PH):Prop:=Bb ((!a)) (Li F (Z b 1) λd=>Bc (d≠0) (R (nS mz) F) (Li F (Z b 2) λe=>Bc (e≠0) (R (nS mz) F) (Li F (Z b 3) λf=>Bc (f≠0) (R (nS mz) F) (Bb (a) (Ls F (Z b 6) λg=>Bc ((0:Int)<(g.len:Int)) (R (nS mz) F) (jH b R F)) (jH b R F))))) (Bb (a) (Ls F (Z b 6) λc=>Bc ((0:Int)<(c.len:Int)) (R (nS mz) F) (jH b R F)) (jH b R F))
def Pv (c:Γ) (R:VR) (F:PH):Prop:=Nb F (Y c 233) λb F=>Li F (Z b 0) λd=>Bc (d=1) (qj b mY R F) (Li F (Z b 0) λa=>qj b (decide (a=2)) R F)
theorem qdP {a:Γ} (h:Pv a R F):ν 163 #[nL a] F R:=Rx.Λ (.qa8 (.J mz [(3,.bool)] .N (.J mz [] .N (.J mz [(4,.bool)] .N .N)))) h
def Ei (a:Sl) (R:VR) (F:PH):Prop:=R (nS (decide ((0:Int)<(a.len:Int)))) F
def qk (c:Ω) (_:Sl) (_:Bool) (_:Nat) (b:Int) (_:VR) (F:PH):Prop:=c (i64.wrap (b+1)) F
def ql (m:Ω) (d:Sl) (a:Bool) (k:Nat) (b:Int) (R:VR) (F:PH):Prop:=Ls F (Z k 3) λe=>Ix d b λf=>Li F (nR f (nT b*1)) λc=>Ix e c λg=>Lr F 7 (nR g (nT c*7)) λh=>Nb F (Y zT 166) λl F=>aA F (Z l 0) 7 h λF=>Bb (a) (Lx F (Z l 2) λi=>Bb ((i.toList==(ByteArray.mk #[]).toList)) (R (nS mz) F) (qk m d a k b R F)) (Li F (Z l 1) λj=>Bc (j≠0) (R (nS mz) F) (qk m d a k b R F))
def xq (n:Ω) (c:Sl) (a:Bool) (m:Nat) (R:VR) (b:Int) (F:PH):Prop:=Bc (b<(c.len:Int)) (Ix c b λe=>Li F (nR e (nT b*1)) λf=>Bc (f<0) (R (nS mz) F) (Ix c b λg=>Li F (nR g (nT b*1)) λh=>Ls F (Z m 3) λi=>Bc ((i.len:Int)<=h) (R (nS mz) F) (Bc (0<b) (Ix c b λj=>Li F (nR j (nT b*1)) λk=>Ix c (i64.wrap (b - 1)) λl=>∃d,F.cell (nR l (nT (i64.wrap (b - 1))*1))=V (U d)/\Bc (k<=d) (R (nS mz) F) (ql n c a m b R F)) (ql n c a m b R F)))) (Ei c R F)
def Pw (b:Γ) (c:Sl) (a:Bool) (R:VR) (F:PH):Prop:=Nb F (Y b 39) λe F=>Lp 0 F λN d F=>xq N c a e R d F
theorem qdQ {b:Γ} {c:Sl} {a:Bool} (h:Pw b c a R F):ν 164 #[nL b,nE c,nS a] F R:=Rx.Λ (.qa8 (.J mz [] (.qa8 (.L [(7,.int .i64)] (.qa8 (.J mz [] (.J mz [] .N .N) .N)))) .N)) h
variable {F:PH}
theorem JM (i:Int) (F:PH):ν 54 #[U i] F λr g=>r=nL (Sy.arr ⟨mz,i⟩)/\F.le g:=by refine qgd ?_;unfold Wf;refine (St.start F).new λb w h=> ?_;refine h.put0 (w':=(Sy.arr ⟨mz,i⟩)) rfl rfl (by simp [ak]) λF2 h=> ?_;exact ⟨_,rfl,h.whole0,rfl,h.le⟩
theorem B2 (i:Int) (F:PH):ν 55 #[U i] F λr g=>r=nL (Sy.arr ⟨mY,i⟩)/\F.le g:=by refine qge ?_;unfold Wg;refine (St.start F).new λb w h=> ?_;refine h.put0 (w':=(Sy.arr ⟨mY,i⟩)) rfl rfl (by simp [ak]) λF2 h=> ?_;exact ⟨_,rfl,h.whole0,rfl,h.le⟩
theorem dq (lo hi:Int) (F:PH):ν 119 #[U lo,U hi] F λr g=>r=nL (Nd.arr ⟨1,lo,hi,0,0⟩)/\F.le g:=by refine qd5 ?_;unfold Pb;refine (St.start F).new λb w h=> ?_;refine h.put0 (w':=(Nd.arr ⟨1,lo,hi,0,0⟩)) rfl rfl (by simp [ak]) λF2 h=> ?_;exact ⟨_,rfl,h.whole0,rfl,h.le⟩
theorem cd (k x y:Int) (F:PH):ν 120 #[U k,U x,U y] F λr g=>r=nL (Nd.arr ⟨k,0,0,x,y⟩)/\F.le g:=by refine qd6 ?_;unfold Pc;refine (St.start F).new λb w h=> ?_;refine h.put0 (w':=(Nd.arr ⟨k,0,0,x,y⟩)) rfl rfl (by simp [ak]) λF2 h=> ?_;exact ⟨_,rfl,h.whole0,rfl,h.le⟩
theorem DV.out {v:Γ} {d:vE} (h:DV F v d):∃s,v= #[s.v,U d.2]/\RL F s d.1:=by obtain ⟨s,g,r⟩:=h;exact ⟨s,g,RL.brs.2 r⟩
abbrev dx:vE:=pg (qa6 mY)
abbrev B3 (d:vE) (r:Value) (F:PH):Prop:=∃w,r=nL w/\DV F w d
theorem gS (F:PH):ν 85 #[nS mY] F λr g=>B3 dx r g/\F.le g:=
 (d8 mY).mono λ_ _ ⟨w,A,h,B⟩=>⟨⟨w,A,h⟩,B⟩
abbrev bz (nm:ByteArray) (left:Int) (right:List Sy):Pr:=⟨nm,left,right,dx,mz,0,[],⟨mz,0,0,0,0⟩⟩
theorem uF (g:ο) (left:Int) {s:Sl} {right:List Sy} {F:PH} (E:RL F s right):ν 53 #[pe g,U left,s.v] F λr A=>(∃w,r=nL w/\Mem.rep A (bz g left right) w)/\F.le A:=by refine We ?_;unfold So;refine (St.start F).new λb H h=> ?_;refine h.run (gS _) λ_ G F2 D l h=> ?_;obtain ⟨w,rfl,C⟩:=D;obtain ⟨n,rfl,B⟩:=C.out;refine ⟨_,rfl,rfl,?_⟩;refine h.put0 (w':=(bz g left right).arr s n pi) rfl rfl (by simp [ak,nE]) λF2 h=> ?_;exact ⟨_,rfl,h.whole0,⟨_,rfl,s,n,pi,rfl,(E.le l).le h.le,B.le h.le,.nil _⟩,aa l h.le⟩
theorem bR (v:Nat) (H:v<=63) (F:PH):ν 56 #[U v] F λr g=>B3 (pg (tv v)) r g/\F.le g:=by
 refine aaa ?_;unfold Wh;refine (St.start F).new λb J h=> ?_;refine h.run (uJ (v:Int)) λ_ G F2 C l h=> ?_;obtain ⟨w,rfl,A⟩:=C;have e:t7 (v:Int)=(pg (tv v),0):=by unfold t7;rw [Υ (by omega)];simp
 rw [e] at A ⊢;obtain ⟨n,rfl,B⟩:=A.out;refine ⟨_,_,rfl,?_⟩;refine h.new λE D h=> ?_;refine h.put0 (w':= #[n.v,U (pg (tv v)).2]) rfl rfl (by simp [ak,nE]) λF2 h=> ?_;refine ⟨_,rfl,h.whole0,?_⟩;refine h.put1 (w':= #[n.v,U (pg (tv v)).2]) rfl rfl (by simp [ak,nE]) λF2 h=> ?_;exact ⟨_,rfl,h.whole1,⟨_,rfl,DV.mk (B.le h.le)⟩,aa l h.le⟩
theorem JN {n:Nat}:∀{vs:List Γ} {k:Nat} {c:Γ},(∀d∈vs,d.size=n)->vs[k]? =V c->∀{off:Nat} {v:Ξ},off+v.length<=n->
  tZ (vs.set k (wr c off v))=(tZ vs).take (k*n+off)++v++(tZ vs).drop (k*n+off+v.length)
 |[],k,c,_,hk,off,v,_=>by simp at hk
 |d::vs,0,c,hn,hk,off,v,ho=>by simp at hk;subst hk;have hd:d.size=n:=hn d (by simp);rw [List.set_cons_zero,cH,cH,V9,ye];have g:=jS v d.toList off (by rw [zN (xs:=d)];omega);rw [show d.toList.toArray=d by simp] at g;have r:d.toList.length=d.size:=zN;rw [g,Xh (by omega),List.drop_append_of_le_length (by omega)];simp []
 |d::vs,k+1,c,hn,hk,off,v,ho=>by
  have hd:d.toList.length=n:=by rw [zN];exact hn d (by simp)
  rw [List.set_cons_succ,cH,cH,JN (λx A=>hn x (by simp [A])) (by simpa using hk) ho];have w:(k+1)*n+off=d.toList.length+(k*n+off):=by rw [hd,WL];omega
  have h:(k+1)*n+off+v.length=d.toList.length+(k*n+off+v.length):=by rw [hd,WL];omega
  rw [h,w,List.take_length_add_append,List.drop_length_add_append];simp []
theorem MZ {α:Type} (L v:List α) {o M:Nat} (h:o+v.length<=M) (r:M<=L.length):(L.take o++v++L.drop (o+v.length)).take M=(L.take M).take o++v++(L.take M).drop (o+v.length):=by
 have g:(L.take o++v).length=o+v.length:=by rw [tT,zZ];omega
 rw [List.take_append,g,zc (l:=L.take o++v) (by omega),List.take_take,X2 (by omega),List.drop_take]
theorem St.elAt {G F:PH} {As:List (Ψ)} {s:Sl} {e n k:Nat} {vs:List Γ} {c:Γ} (h:St G F As) (i:Nat) (hi:As[i]? =V (own s e n (tZ vs))) (E:∀d∈vs,d.size=n) (L:vs[k]? =V c) (Q:0<n):
  ∃b g,s.qa5=V ⟨b,0,I⟩/\k<s.len/\F b=V (Y g e)/\k*n+n<=g.size/\
   ∀r (v:Ξ),r+v.length<=n->St G (F.set b (Y (wr g (k*n+r) v) e)) (As.set i (own s e n (tZ (vs.set k (wr c r v))))):=by
 have a6:k<vs.length:=(N6.1 L).1;have B:∀(l:List Γ),(∀d∈l,d.size=n)->(tZ l).length=l.length*n:=by
  intro l;induction l with
  |nil=>intro _;simp [tZ]
  |cons d l ih=>intro hd;rw [cH,tT,ih (λx w=>hd x (by simp [w])),zN,hd d (by simp),wc,WL,XK]
 have N:=B vs E;obtain ⟨ho,-⟩:=h.ownAt hi;rcases ho with ⟨rfl,M⟩|⟨b,g,J,h2,h3,P,O,h6⟩
 ·rw [M] at N;have h:=Nat.mul_pos (show 0<vs.length by omega) Q;simp at N;omega
 ·have e1:s.len=vs.length:=by rw [N] at O;exact (Nat.eq_of_mul_eq_mul_right Q O).symm
  have a5:k*n+n<=s.len*n:=by rw [<- WL];exact Xj _ (by omega)
  have a0:s.len*n<=g.size:=by rw [h3];exact Xj _ P
  refine ⟨b,g,J,by omega,h2,by omega,λr v M=> ?_⟩;obtain ⟨H,a1,a2,a3,a4⟩:=h.set (A':=own s e n (tZ (vs.set k (wr c r v)))) hi;have D:H b≠I:=by
   rcases a1 with ⟨rfl,_⟩|⟨b',X,g1,g2,_⟩
   ·cases J
   ·rw [J] at g1;cases g1;rw [g2];simp
  have C:∀d∈vs.set k (wr c r v),d.size=n:=by
   intro d hd;rcases List.mem_or_eq_of_mem_set hd with hd|rfl
   ·exact E d hd
   ·rw [dK];exact E c (vQ L)
  refine a4 (PH.set (λ_=>I) b (Y (wr g (k*n+r) v) e)) _ (.inr ⟨b,_,J,aq _ _ _,by rw [dK,h3],P,?_,?_⟩) (λx w=> ?_) (λx p w=> ?_) (λx p w K=> ?_)
  ·rw [B _ C,Yn,e1]
  ·have W:=jS v g.toList (k*n+r) (by rw [zN (xs:=g)];omega);rw [show g.toList.toArray=g by simp] at W;rw [W,JN E L M,<- h6];exact MZ _ _ (by omega) (by rw [zN (xs:=g)];omega)
  ·by_cases A:x=b
   ·rw [A];exact .inl D
   ·rw [aw _ _ A] at w;exact absurd rfl w
  ·by_cases A:x=b
   ·rw [A,aq] at w ⊢;exact w
   ·rw [aw _ _ A] at w;cases w
  ·have A:x≠b:=λA=>by subst A;exact D K
   rw [aw _ _ A];exact w
theorem St.elN {G F:PH} {As:List (Ψ)} {s:Sl} {e n k:Nat} {vs:List Γ} {c:Γ} (h:St G F As) (i:Nat) (hi:As[i]? =V (own s e n (tZ vs))) (B:∀d∈vs,d.size=n) (D:vs[k]? =V c) (H:0<n)
  {off m:Nat} {v:Γ} (E:v.size=m) (O:off+m<=n) (r:∀x∈v.toList,ak x) {C:Ψ} (M:∀w,St G w (As.set i (own s e n (tZ (vs.set k (wr c off v.toList)))))->C w):
  ∃a:Addr,s.qa5=V a/\0<=(k:Int)/\(k:Int)<(s.len:Int)/\aA F (nR (nR a (nT (k:Int)*n)) off) m v C:=by
 obtain ⟨b,g,K,N,A,P,J⟩:=h.elAt i hi B D H;have L:nR (nR ⟨b,0,I⟩ (nT (k:Int)*n)) off=⟨b,k*n+off,I⟩:=by simp only [aI,N4,ye]
 refine ⟨_,K,by omega,by omega,?_⟩;rw [L];exact ⟨E,r,g,e,A,rfl,(by show k*n+off+m<=g.size;omega),tR (M _ (J off v.toList (by rw [zN];omega)))⟩
theorem St.el1 {G F:PH} {As:List (Ψ)} {s:Sl} {e n k:Nat} {vs:List Γ} {c:Γ} (h:St G F As) (i:Nat) (hi:As[i]? =V (own s e n (tZ vs))) (A:∀d∈vs,d.size=n) (B:vs[k]? =V c) (D:0<n)
  {off:Nat} {v:ξ} (M:off<n) {C:Ψ} (K:∀r,St G r (As.set i (own s e n (tZ (vs.set k (c.setIfInBounds off v)))))->C r):
  ∃a:Addr,s.qa5=V a/\0<=(k:Int)/\(k:Int)<(s.len:Int)/\qW F (nR (nR a (nT (k:Int)*n)) off) v C:=by
 obtain ⟨b,g,H,L,w,N,E⟩:=h.elAt i hi A B D;have J:nR (nR ⟨b,0,I⟩ (nT (k:Int)*n)) off=⟨b,k*n+off,I⟩:=by simp only [aI,N4,ye]
 refine ⟨_,H,by omega,by omega,?_⟩;rw [J];exact ⟨g,e,w,rfl,(by show k*n+off<g.size;omega),tR (K _ (E off [v] (by show off+1<=n;omega)))⟩
structure KF (K G F:PH) (b0 b1:Nat) (g:Gr) (c n t s sp l f:Sl) (vs:List Γ):Prop where
 k:K.le G
 st:St G F [pt b1 (Y (g.arr c n t s sp l f) 39),own sp 64 13 (tZ vs),pt b0 (Y zG 39)]
 r:bS G g.qa0 vs
 c:RL G c g.qa4
 n:RL G n g.fam.1
 t:RL G t g.qa2
 s:RL G s g.qa1
 l:RL G l g.lvs
 f:RL G f g.fils
def KS (K F:PH) (b0 b1:Nat) (g:Gr):Prop:=∃G c n t s sp l f vs,KF K G F b0 b1 g c n t s sp l f vs
section
variable {K G F:PH} {b0 b1:Nat} {g:Gr} {c n t s sp l f:Sl} {vs:List Γ}
theorem KF.up {A B:PH} (h:KF K G F b0 b1 g c n t s sp l f vs) (w:G.le A) (st:St A B [pt b1 (Y (g.arr c n t s sp l f) 39),own sp 64 13 (tZ vs),pt b0 (Y zG 39)]):KF K A B b0 b1 g c n t s sp l f vs:=
 ⟨aa h.k w,st,h.r.le w,h.c.le w,h.n.le w,h.t.le w,h.s.le w,h.l.le w,h.f.le w⟩
theorem KF.sz (h:KF K G F b0 b1 g c n t s sp l f vs):∀d∈vs,d.size=13:=by
 have:∀{l:List Pr} {vs:List Γ},bS G l vs->∀d∈vs,d.size=13:=by
  intro l vs h;induction h with
  |nil=>intro d hd;cases hd
  |cons h _ ih=>
   intro d hd;rcases tD.1 hd with rfl|hd
   ·exact Mem.len h
   ·exact ih d hd
 exact this h.r
theorem KF.len (h:KF K G F b0 b1 g c n t s sp l f vs):sp.len=g.qa0.length:=by obtain ⟨A,-⟩:=h.st.ownAt (i:=1) rfl;have w:=A.rd.len;have B:=h.r.cat_len;rw [B] at w;have:g.qa0.length*13=sp.len*13:=w;omega
def jj (fn:FuncId) (i:Int) (x:Sy):Prop:=∀F:PH,aj prog fn #[U i] F λr F'=>r=nL x.arr/\F.le F'
theorem dW (i:Int):jj 54 i ⟨mz,i⟩:=JM i
theorem cS (i:Int):jj 55 i ⟨mY,i⟩:=B2 i
theorem KF.add (h:KF K G F b0 b1 g c n t s sp l f vs) {H:ο} {left:Int} {sx:Sl} {right:List Sy} (W:RL G sx right) (hl:g.qa0.length<=1000) {C:Ψ}
  (k:∀J,KS K J b0 b1 {g with qa0:=g.qa0++[bz H left right]}->C J):
  ν 53 #[pe H,U left,sx.v] F λv F=>∃w:Γ,v=nL w/\F.cell (ou b1 5 I)=V (nE sp)/\w.size=13/\∀b,F b=I->xG (F.set b (Y w 64)) λF=>
   aG prog (Builtin.append_ #[35,35] 35 #[nE sp,nE (ua (V (ou b 0 I)) 1 1)]) F λv F=>∃B:Sl,v=nE B/\qW F (ou b1 5 I) (nE B) C:=by
 obtain ⟨_,_,T⟩:=Sn;refine h.st.run (uF H left W) λ_ X J Q P st=> ?_;obtain ⟨w,rfl,E⟩:=Q;refine ⟨w,rfl,st.ld0 rfl,Mem.len E,st.push1 T (Mem.len E) (Mem.st E) (by have:=h.len;omega) λB L O M D N=> ?_⟩;rw [show tZ vs++w.toList=tZ (vs++[w]) by rw [ba,cI]] at D;refine D.set0 (w':=Gr.arr {g with qa0:=g.qa0++[bz H left right]} c n t s B l f) (vx rfl) rfl λF3 st=>k _ ?_;have A:=aa P M;exact ⟨L,c,n,t,s,B,l,f,_,aa h.k A,st,(h.r.le A).append (.cons (Mem.le M E) .nil),h.c.le A,h.n.le A,h.t.le A,h.s.le A,h.l.le A,h.f.le A⟩
theorem KF.el1 (h:KF K G F b0 b1 g c n t s sp l f vs) {k:Nat} {p p':Pr} (H:g.qa0[k]? =V p) {off:Nat} {v:ξ} (E:off<13) (D:∀w,Mem.rep G p w->Mem.rep G p' (w.setIfInBounds off v)) {C:Ψ}
  (L:∀A,KS K A b0 b1 {g with qa0:=g.qa0.set k p'}->C A):
  ∃a:Addr,sp.qa5=V a/\0<=(k:Int)/\(k:Int)<(sp.len:Int)/\qW F (nR (nR a (nT (k:Int)*13)) off) v C:=by
 obtain ⟨w,J,B,_⟩:=h.r.get H;refine h.st.el1 1 rfl h.sz J (by decide) E λA st=>L _ ?_;exact ⟨G,c,n,t,s,sp,l,f,_,h.k,st,h.r.set (D w B),h.c,h.n,h.t,h.s,h.l,h.f⟩
theorem KF.elN (h:KF K G F b0 b1 g c n t s sp l f vs) {k:Nat} {p p':Pr} (J:g.qa0[k]? =V p) {off m:Nat} {v:Γ} (N:v.size=m) (H:off+m<=13) (B:∀x∈v.toList,ak x) (E:∀w,Mem.rep G p w->Mem.rep G p' (wr w off v.toList)) {C:Ψ}
  (M:∀A,KS K A b0 b1 {g with qa0:=g.qa0.set k p'}->C A):
  ∃a:Addr,sp.qa5=V a/\0<=(k:Int)/\(k:Int)<(sp.len:Int)/\aA F (nR (nR a (nT (k:Int)*13)) off) m v C:=by
 obtain ⟨w,L,D,_⟩:=h.r.get J;refine h.st.elN 1 rfl h.sz L (by decide) N H B λA st=>M _ ?_;exact ⟨G,c,n,t,s,sp,l,f,_,h.k,st,h.r.set (E w D),h.c,h.n,h.t,h.s,h.l,h.f⟩
theorem KS.set1 (h:KS K F b0 b1 g) (k:Nat) {p:Pr} (p':Pr) (D:g.qa0[k]? =V p) {off:Nat} {v:ξ} (B:off<13) (A:∀(G:PH) w,Mem.rep G p w->Mem.rep G p' (w.setIfInBounds off v)) {C:Ψ}
  (E:∀r,KS K r b0 b1 {g with qa0:=g.qa0.set k p'}->C r):
  ∃sp:Sl,F.cell (ou b1 5 I)=V (nE sp)/\∃a:Addr,sp.qa5=V a/\0<=(k:Int)/\(k:Int)<(sp.len:Int)/\qW F (nR (nR a (nT (k:Int)*13)) off) v C:=by
 obtain ⟨G,c,n,t,s,sp,l,f,vs,h⟩:=h;exact ⟨sp,h.st.ld0 rfl,h.el1 D B (A G) E⟩
theorem KS.setN (h:KS K F b0 b1 g) (k:Nat) {p:Pr} (p':Pr) (E:g.qa0[k]? =V p) {off m:Nat} {v:Γ} (J:v.size=m) (D:off+m<=13) (r:∀x∈v.toList,ak x) (B:∀(G:PH) w,Mem.rep G p w->Mem.rep G p' (wr w off v.toList)) {C:Ψ}
  (H:∀A,KS K A b0 b1 {g with qa0:=g.qa0.set k p'}->C A):
  ∃sp:Sl,F.cell (ou b1 5 I)=V (nE sp)/\∃a:Addr,sp.qa5=V a/\0<=(k:Int)/\(k:Int)<(sp.len:Int)/\aA F (nR (nR a (nT (k:Int)*13)) off) m v C:=by
 obtain ⟨G,c,n,t,s,sp,l,f,vs,h⟩:=h;exact ⟨sp,h.st.ld0 rfl,h.elN E J D r (B G) H⟩
theorem KS.brk (h:KS K F b0 b1 g) (k:Nat) {p:Pr} (D:g.qa0[k]? =V p) {C:Ψ} (J:∀A,KS K A b0 b1 {g with qa0:=g.qa0.set k {p with brk:=mY}}->C A):
  ∃sp:Sl,F.cell (ou b1 5 I)=V (nE sp)/\∃a:Addr,sp.qa5=V a/\0<=(k:Int)/\(k:Int)<(sp.len:Int)/\qW F (nR (nR a (nT (k:Int)*13)) 5) (nS mY) C:=
 h.set1 k {p with brk:=mY} D (by decide) (λG w ⟨r,n,l,e,E,B,H⟩=>⟨r,n,l,by rw [e];rfl,E,B,H⟩) J
theorem KS.rank (h:KS K F b0 b1 g) (k:Nat) {p:Pr} (D:g.qa0[k]? =V p) {x:Int} {C:Ψ} (J:∀A,KS K A b0 b1 {g with qa0:=g.qa0.set k {p with rank:=x}}->C A):
  ∃sp:Sl,F.cell (ou b1 5 I)=V (nE sp)/\∃a:Addr,sp.qa5=V a/\0<=(k:Int)/\(k:Int)<(sp.len:Int)/\qW F (nR (nR a (nT (k:Int)*13)) 6) (U x) C:=
 h.set1 k {p with rank:=x} D (by decide) (λG w ⟨r,n,l,e,E,B,H⟩=>⟨r,n,l,by rw [e];rfl,E,B,H⟩) J
theorem KS.sco (h:KS K F b0 b1 g) (k:Nat) {p:Pr} (M:g.qa0[k]? =V p) {H:Bool} {D E B A:Int} {C:Ψ} (P:∀J,KS K J b0 b1 {g with qa0:=g.qa0.set k {p with sco:=⟨H,D,E,B,A⟩}}->C J):
  ∃sp:Sl,F.cell (ou b1 5 I)=V (nE sp)/\∃a:Addr,sp.qa5=V a/\0<=(k:Int)/\(k:Int)<(sp.len:Int)/\aA F (nR (nR a (nT (k:Int)*13)) 8) 5 #[nS H,U D,U E,U B,U A] C:=
 h.setN k {p with sco:=⟨H,D,E,B,A⟩} M rfl (by show 8+5<=13;decide) (by simp [ak]) (λG w ⟨r,n,l,e,N,L,O⟩=>⟨r,n,l,by rw [e];rfl,N,L,O⟩) P
theorem KS.cnd (h:KS K F b0 b1 g) (k:Nat) {p:Pr} (H:g.qa0[k]? =V p) (v:Nat) (M:v<=63) {C:Ψ} (O:∀A,KS K A b0 b1 {g with qa0:=g.qa0.set k {p with cond:=pg (tv v)}}->C A):
  ∃sp:Sl,F.cell (ou b1 5 I)=V (nE sp)/\ν 56 #[U v] F λr F=>∃w:Γ,r=nL w/\F.cell (ou b1 5 I)=V (nE sp)/\
   ∃a:Addr,sp.qa5=V a/\0<=(k:Int)/\(k:Int)<(sp.len:Int)/\aA F (nR (nR a (nT (k:Int)*13)) 3) 2 w C:=by
 obtain ⟨G,c,n,t,s,sp,l,f,vs,h⟩:=h;refine ⟨sp,h.st.ld0 rfl,h.st.run (bR v M _) λ_ Q A J E st=> ?_⟩;obtain ⟨w,rfl,D⟩:=J;obtain ⟨m,rfl,B⟩:=D.out;refine ⟨_,rfl,st.ld0 rfl,(h.up E st).elN (p':={p with cond:=pg (tv v)}) H rfl (by show 3+2<=13;decide) (by simp [ak,nE]) (λw ⟨r,n,l,e,L,P,N⟩=>⟨r,m,l,by rw [e];rfl,L,B,N⟩) O⟩
theorem B4 {F:PH} {b:Nat} {e:TypeId} {x:Cn} (q:F b=V (Y x.arr e)):RL F (ua (V (ou b 0 I)) 1 1) [x]:=⟨[x.arr],.cons rfl .nil,RdS.new q rfl rfl (qX _)⟩
theorem Sq {F:PH} {b:Nat} {e:TypeId} {x y:Cn} (q:F b=V (Y (wr (wr (#[ru .i64 0,.int .i64 0,.int .i64 0,.int .i64 0,.int .i64 0,.int .i64 0]:Γ) 0 x.arr.toList) 3 y.arr.toList) e)):RL F (ua (V (ou b 0 I)) 2 2) [x,y]:=⟨[x.arr,y.arr],.cons rfl (.cons rfl .nil),RdS.new q rfl rfl (qX _)⟩
theorem KS.lay1 (h:KS K F b0 b1 g) (k:Nat) {p:Pr} (L:g.qa0[k]? =V p) {B D A:Int} {C:Ψ} (N:∀E,KS K E b0 b1 {g with qa0:=g.qa0.set k {p with lay:=[⟨B,D,A⟩]}}->C E):
  ∃sp:Sl,F.cell (ou b1 5 I)=V (nE sp)/\(#[U B,U D,U A]:Γ).size=3/\∀b,F b=I->xG (F.set b (Y (#[U B,U D,U A]:Γ) 260)) λF=>
   ∃a:Addr,sp.qa5=V a/\0<=(k:Int)/\(k:Int)<(sp.len:Int)/\qW F (nR (nR a (nT (k:Int)*13)) 7) (nE (ua (V (ou b 0 I)) 1 1)) C:=by
 obtain ⟨G,c,n,t,s,sp,l,f,vs,h⟩:=h;refine ⟨sp,h.st.ld0 rfl,rfl,h.st.newG λb O E J q _ st=> ?_⟩;exact (h.up J st).el1 (p':={p with lay:=[⟨B,D,A⟩]}) L (by decide) (λw ⟨r,n,l,e,M,H,P⟩=>⟨r,n,_,by rw [e];rfl,M,H,B4 (x:=⟨B,D,A⟩) q⟩) N
theorem KS.lay2 (h:KS K F b0 b1 g) (k:Nat) {p:Pr} (O:g.qa0[k]? =V p) {D E B A H J:Int} {C:Ψ} (Q:∀L,KS K L b0 b1 {g with qa0:=g.qa0.set k {p with lay:=[⟨D,E,B⟩,⟨A,H,J⟩]}}->C L):
  ∃sp:Sl,F.cell (ou b1 5 I)=V (nE sp)/\(#[U D,U E,U B]:Γ).size=3/\(#[U A,U H,U J]:Γ).size=3/\
   ∀b,F b=I->xG (F.set b (Y (wr (wr (#[ru .i64 0,.int .i64 0,.int .i64 0,.int .i64 0,.int .i64 0,.int .i64 0]:Γ) 0 (#[U D,U E,U B]:Γ).toList) 3 (#[U A,U H,U J]:Γ).toList) 260)) λF=>
   ∃a:Addr,sp.qa5=V a/\0<=(k:Int)/\(k:Int)<(sp.len:Int)/\qW F (nR (nR a (nT (k:Int)*13)) 7) (nE (ua (V (ou b 0 I)) 2 2)) C:=by
 obtain ⟨G,c,n,t,s,sp,l,f,vs,h⟩:=h;refine ⟨sp,h.st.ld0 rfl,rfl,rfl,h.st.newG λb W L N q _ st=> ?_⟩;exact (h.up N st).el1 (p':={p with lay:=[⟨D,E,B⟩,⟨A,H,J⟩]}) O (by decide) (λw ⟨r,n,l,e,P,M,X⟩=>⟨r,n,_,by rw [e];rfl,P,M,Sq (x:=⟨D,E,B⟩) (y:=⟨A,H,J⟩) q⟩) Q
theorem KS.fin (h:KS K F b0 b1 g) {R:VR} (k:∀w A,GV A w g->K.le A->R (nL w) A):
  ∃v:Γ,v.size=9/\F.row (ou b1 0 I) v/\aA F (ou b0 0 I) 9 v λF=>∃w:Γ,w.size=9/\F.row (ou b0 0 I) w/\R (nL w) F:=by
 obtain ⟨G,c,n,t,s,sp,l,f,vs,h⟩:=h;refine ⟨_,rfl,h.st.whole0,?_⟩;refine h.st.put2 (w':=g.arr c n t s sp l f) rfl rfl (by simp [ak,nE]) λA st=> ?_;obtain ⟨B,-⟩:=st.ownAt (i:=1) rfl;refine ⟨_,rfl,st.whole2,k _ _ ⟨c,n,t,s,sp,l,f,rfl,h.c.le st.le,h.n.le st.le,h.t.le st.le,h.s.le st.le,⟨vs,h.r.le st.le,B.rd⟩,h.l.le st.le,h.f.le st.le⟩ (aa h.k st.le)⟩
theorem KS.lvs (h:KS K F b0 b1 g) {sx:Sl} {x:List Lv} (B:RL K sx x) {C:Ψ} (A:∀w,KS K w b0 b1 {g with lvs:=x}->C w):qW F (ou b1 7 I) (nE sx) C:=by obtain ⟨G,c,n,t,s,sp,l,f,vs,h⟩:=h;refine h.st.set0 (w':=Gr.arr {g with lvs:=x} c n t s sp sx f) (vx rfl) rfl λw st=>A _ ?_;exact ⟨G,c,n,t,s,sp,sx,f,vs,h.k,st,h.r,h.c,h.n,h.t,h.s,B.le h.k,h.f⟩
theorem KS.fils (h:KS K F b0 b1 g) {sx:Sl} {x:List Fi} (B:RL K sx x) {C:Ψ} (A:∀w,KS K w b0 b1 {g with fils:=x}->C w):qW F (ou b1 8 I) (nE sx) C:=by obtain ⟨G,c,n,t,s,sp,l,f,vs,h⟩:=h;refine h.st.set0 (w':=Gr.arr {g with fils:=x} c n t s sp l sx) (vx rfl) rfl λw st=>A _ ?_;exact ⟨G,c,n,t,s,sp,l,sx,vs,h.k,st,h.r,h.c,h.n,h.t,h.s,h.l,B.le h.k⟩
theorem KS.new (h:KS K F b0 b1 g) {o:Obj} {C:Nat->Ψ} (k:∀b B A,K.le B->B b=V o->KS B A b0 b1 g->C b A):∀b,F b=I->xG (F.set b o) (C b):=by obtain ⟨G,c,n,t,s,sp,l,f,vs,h⟩:=h;exact h.st.newG λb D A w q _ st=>k b D A (aa h.k w) q ⟨D,c,n,t,s,sp,l,f,vs,au _,st,h.r.le w,h.c.le w,h.n.le w,h.t.le w,h.s.le w,h.l.le w,h.f.le w⟩
theorem KS.run (h:KS K F b0 b1 g) {D:FuncId} {args:Γ} {P:ξ->Ψ} {Q:ξ->Ψ} (sp:∀G,K.le G->aj prog D args G λr A=>P r A/\G.le A) (k:∀r C B,P r C->K.le C->KS C B b0 b1 g->Q r B):aj prog D args F Q:=by obtain ⟨G,c,n,t,s,E,l,f,vs,h⟩:=h;exact h.st.run (sp G h.k) λr A B H w st=>k r A B H (aa h.k w) ⟨A,c,n,t,s,E,l,f,vs,au _,st,h.r.le w,h.c.le w,h.n.le w,h.t.le w,h.s.le w,h.l.le w,h.f.le w⟩
theorem KS.le (h:KS K F b0 b1 g):K.le F:=by obtain ⟨G,c,n,t,s,sp,l,f,vs,h⟩:=h;exact aa h.k h.st.le
theorem KS.rule0 (h:KS K F b0 b1 g) (B:g.qa0.length<=1000) {w:ο} {left:Int} {C:Ψ} (k:∀r,KS K r b0 b1 {g with qa0:=g.qa0++[bz w left []]}->C r):
  YO b1 w left C F:=by
 obtain ⟨G,c,n,t,s,sp,l,f,vs,h⟩:=h;refine ⟨sp,h.st.ld0 rfl,?_⟩;refine h.st.newG λb E D A q _ st=> ?_;exact (h.up A st).add ⟨[],.nil,RdS.new q (by kernel_rfl) rfl (qX _)⟩ B k
theorem KS.rule1 (h:KS K F b0 b1 g) {A:FuncId} {w:Int} {r:Sy} (s1:jj A w r) (J:g.qa0.length<=1000) {D:ο} {left:Int} {C:Ψ} (k:∀B,KS K B b0 b1 {g with qa0:=g.qa0++[bz D left [r]]}->C B):
  X9 b1 A w D left C F:=by
 obtain ⟨G,c,n,t,s,sp,l,f,vs,h⟩:=h;refine ⟨sp,h.st.ld0 rfl,?_⟩;refine h.st.runv (s1 _) λN O E st=> ?_;refine ⟨_,rfl,st.ld0 rfl,rfl,?_⟩;refine st.newG λb M L H q _ st=> ?_;exact (h.up (aa E H) st).add ⟨[r.arr],(.cons rfl .nil),RdS.new q (by kernel_rfl) rfl (qX _)⟩ J k
theorem KS.rule2 (h:KS K F b0 b1 g) {B f2:FuncId} {A H:Int} {r w:Sy} (s1:jj B A r) (s2:jj f2 H w) (N:g.qa0.length<=1000) {E:ο} {left:Int} {C:Ψ} (k:∀D,KS K D b0 b1 {g with qa0:=g.qa0++[bz E left [r,w]]}->C D):
  Xc b1 B A f2 H E left C F:=by
 obtain ⟨G,c,n,t,s,sp,l,f,vs,h⟩:=h;refine ⟨sp,h.st.ld0 rfl,?_⟩;refine h.st.runv (s1 _) λW X L st=> ?_;refine ⟨_,rfl,st.ld0 rfl,?_⟩;refine st.runv (s2 _) λP F2 J st=> ?_;refine ⟨_,rfl,st.ld0 rfl,rfl,rfl,?_⟩;refine st.newG λb Q O M q _ st=> ?_;exact (h.up (aa L (aa J M)) st).add ⟨[r.arr,w.arr],(.cons rfl (.cons rfl .nil)),RdS.new q (by kernel_rfl) rfl (qX _)⟩ N k
theorem KS.rule3 (h:KS K F b0 b1 g) {D f2 L:FuncId} {B H M:Int} {A w r:Sy} (s1:jj D B A) (s2:jj f2 H w) (O:jj L M r) (X:g.qa0.length<=1000) {E:ο} {left:Int} {C:Ψ} (k:∀J,KS K J b0 b1 {g with qa0:=g.qa0++[bz E left [A,w,r]]}->C J):
  Xm b1 D B f2 H L M E left C F:=by
 obtain ⟨G,c,n,t,s,sp,l,f,vs,h⟩:=h;refine ⟨sp,h.st.ld0 rfl,?_⟩;refine h.st.runv (s1 _) λG1 F1 N st=> ?_;refine ⟨_,rfl,st.ld0 rfl,?_⟩;refine st.runv (s2 _) λG2 F2 P st=> ?_;refine ⟨_,rfl,st.ld0 rfl,?_⟩;refine st.runv (O _) λG3 F3 W st=> ?_;refine ⟨_,rfl,st.ld0 rfl,rfl,rfl,rfl,?_⟩;refine st.newG λb G9 F9 Q q _ st=> ?_;exact (h.up (aa N (aa P (aa W Q))) st).add ⟨[A.arr,w.arr,r.arr],(.cons rfl (.cons rfl (.cons rfl .nil))),RdS.new q (by kernel_rfl) rfl (qX _)⟩ X k
theorem KS.rule4 (h:KS K F b0 b1 g) {E f2 O H:FuncId} {D L P M:Int} {B w r A:Sy} (s1:jj E D B) (s2:jj f2 L w) (W:jj O P r) (X:jj H M A) (hl:g.qa0.length<=1000) {J:ο} {left:Int} {C:Ψ} (k:∀N,KS K N b0 b1 {g with qa0:=g.qa0++[bz J left [B,w,r,A]]}->C N):
  Zp b1 E D f2 L O P H M J left C F:=by
 obtain ⟨G,c,n,t,s,sp,l,f,vs,h⟩:=h;refine ⟨sp,h.st.ld0 rfl,?_⟩;refine h.st.runv (s1 _) λG1 F1 Q st=> ?_;refine ⟨_,rfl,st.ld0 rfl,?_⟩;refine st.runv (s2 _) λG2 F2 l2 st=> ?_;refine ⟨_,rfl,st.ld0 rfl,?_⟩;refine st.runv (W _) λG3 F3 l3 st=> ?_;refine ⟨_,rfl,st.ld0 rfl,?_⟩;refine st.runv (X _) λG4 F4 l4 st=> ?_;refine ⟨_,rfl,st.ld0 rfl,rfl,rfl,rfl,rfl,?_⟩;refine st.newG λb G9 F9 l9 q _ st=> ?_;exact (h.up (aa Q (aa l2 (aa l3 (aa l4 l9)))) st).add ⟨[B.arr,w.arr,r.arr,A.arr],(.cons rfl (.cons rfl (.cons rfl (.cons rfl .nil)))),RdS.new q (by kernel_rfl) rfl (qX _)⟩ hl k
theorem KS.rule5 (h:KS K F b0 b1 g) {J f2 W L H:FuncId} {E O X P N:Int} {D A w B r:Sy} (s1:jj J E D) (s2:jj f2 O A) (s3:jj W X w) (s4:jj L P B) (s5:jj H N r) (hl:g.qa0.length<=1000) {M:ο} {left:Int} {C:Ψ} (k:∀Q,KS K Q b0 b1 {g with qa0:=g.qa0++[bz M left [D,A,w,B,r]]}->C Q):
  ZU b1 J E f2 O W X L P H N M left C F:=by
 obtain ⟨G,c,n,t,s,sp,l,f,vs,h⟩:=h;refine ⟨sp,h.st.ld0 rfl,?_⟩;refine h.st.runv (s1 _) λG1 F1 l1 st=> ?_;refine ⟨_,rfl,st.ld0 rfl,?_⟩;refine st.runv (s2 _) λG2 F2 l2 st=> ?_;refine ⟨_,rfl,st.ld0 rfl,?_⟩;refine st.runv (s3 _) λG3 F3 l3 st=> ?_;refine ⟨_,rfl,st.ld0 rfl,?_⟩;refine st.runv (s4 _) λG4 F4 l4 st=> ?_;refine ⟨_,rfl,st.ld0 rfl,?_⟩;refine st.runv (s5 _) λG5 F5 l5 st=> ?_;refine ⟨_,rfl,st.ld0 rfl,rfl,rfl,rfl,rfl,rfl,?_⟩;refine st.newG λb G9 F9 l9 q _ st=> ?_;exact (h.up (aa l1 (aa l2 (aa l3 (aa l4 (aa l5 l9))))) st).add ⟨[D.arr,A.arr,w.arr,B.arr,r.arr],(.cons rfl (.cons rfl (.cons rfl (.cons rfl (.cons rfl .nil))))),RdS.new q (by kernel_rfl) rfl (qX _)⟩ hl k
end
end
