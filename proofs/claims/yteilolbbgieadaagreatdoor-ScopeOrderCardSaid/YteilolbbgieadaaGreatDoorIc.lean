/-
  A grammar that is made step by step: one lemma for each kind of statement. Printed by a program (mkIc.py).
-/
import Derived.Test.YteilolbbgieadaaGreatDoorHb
set_option maxRecDepth 10000
open Option renaming some->V,none->I
open Go.Obj renaming cells->Y
open Bool renaming false->mD,true->nk
open Go.Value renaming agg->nQ,bool->nW,int->rV,pointer->pk,string->ph
open Go.Addr renaming add->nV,mk->oB
open Int renaming toNat->nX,tmod->sj
open Array renaming setIfInBounds->tC
noncomputable section
namespace Go.Proofs.YteilolbbgieadaaGreatDoor
open Go.IntKind (i64 u8 u64)
open Sl renaming v->nI,nil->pm,mk->t7
open Go Go.Proofs.Tryz
section
namespace St
section
variable {G F:PH} {As:List (Ψ)} {b:Nat} {w:Γ} {e:TypeId}
theorem ld0 (h:St G F (pt b (Y w e)::As)) {i:Nat} {v:ξ} (g:w[i]? =V v):F.cell (oB b i I)=V v:=ld (h.ptAt (i:=0) rfl) g
theorem row0 (h:St G F (pt b (Y w e)::As)) {o:Nat} {d:Γ} (hd:(w.toList.drop o).take d.size=d.toList):F.row (oB b o I) d:=ga (h.ptAt (i:=0) rfl) hd
theorem whole0 (h:St G F (pt b (Y w e)::As)):F.row (oB b 0 I) w:=ai (h.ptAt (i:=0) rfl)
theorem put0 (h:St G F (pt b (Y w e)::As)) {n:Nat} {w':Γ} (A:w'.size=n) (B:w.size=n) (g:∀v∈w'.toList,ak v) {K:Ψ} (C:∀r,St G r (pt b (Y w' e)::As)->K r):
  aA F (oB b 0 I) n w' K:=Uc (h.ptAt (i:=0) rfl) A B g (C _ (h.putAt 0 _ rfl))
theorem set0 (h:St G F (pt b (Y w e)::As)) {i:Nat} {v:ξ} {w':Γ} (hi:i<w.size) (A:w.setIfInBounds i v=w') {K:Ψ} (r:∀g,St G g (pt b (Y w' e)::As)->K g):
  pv F (oB b i I) v K:=Wq (h.ptAt (i:=0) rfl) hi (by subst A;exact r _ (h.putAt 0 _ rfl))
theorem putR0 (h:St G F (pt b (Y w e)::As)) {o n:Nat} {v w':Γ} (A:v.size=n) (g:∀x∈v.toList,ak x) (D:o+n<=w.size) (B:wr w o v.toList=w') {K:Ψ} (C:∀r,St G r (pt b (Y w' e)::As)->K r):
  aA F (oB b o I) n v K:=⟨A,g,w,e,h.ptAt (i:=0) rfl,rfl,D,tR (by subst B;exact C _ (h.putAt 0 _ rfl))⟩
theorem ld1 {g:Ψ} (h:St G F (g::pt b (Y w e)::As)) {i:Nat} {v:ξ} (r:w[i]? =V v):F.cell (oB b i I)=V v:=ld (h.ptAt (i:=1) rfl) r
theorem whole1 {g:Ψ} (h:St G F (g::pt b (Y w e)::As)):F.row (oB b 0 I) w:=ai (h.ptAt (i:=1) rfl)
theorem put1 {r:Ψ} (h:St G F (r::pt b (Y w e)::As)) {n:Nat} {w':Γ} (B:w'.size=n) (C:w.size=n) (g:∀v∈w'.toList,ak v) {K:Ψ} (D:∀A,St G A (r::pt b (Y w' e)::As)->K A):
  aA F (oB b 0 I) n w' K:=Uc (h.ptAt (i:=1) rfl) B C g (D _ (h.putAt 1 _ rfl))
theorem set1 {g:Ψ} (h:St G F (g::pt b (Y w e)::As)) {i:Nat} {v:ξ} {w':Γ} (hi:i<w.size) (B:w.setIfInBounds i v=w') {K:Ψ} (A:∀r,St G r (g::pt b (Y w' e)::As)->K r):
  pv F (oB b i I) v K:=Wq (h.ptAt (i:=1) rfl) hi (by subst B;exact A _ (h.putAt 1 _ rfl))
theorem putR1 {r:Ψ} (h:St G F (r::pt b (Y w e)::As)) {o n:Nat} {v w':Γ} (B:v.size=n) (g:∀x∈v.toList,ak x) (E:o+n<=w.size) (C:wr w o v.toList=w') {K:Ψ} (D:∀A,St G A (r::pt b (Y w' e)::As)->K A):
  aA F (oB b o I) n v K:=⟨B,g,w,e,h.ptAt (i:=1) rfl,rfl,E,tR (by subst C;exact D _ (h.putAt 1 _ rfl))⟩
theorem front1 {g:Ψ} {A:Ψ} (h:St G F (g::A::As)):St G F (A::g::As):=by
 refine h.pick (λi=>if i=0 then 1 else if i<=1 then i - 1 else i) (λi j _ _ e=> ?_) (λi _=> ?_)
 ·repeat' split at e
  all_goals omega
 ·match i with
  |0=>rfl
  |1=>rfl
  |i+2=>rfl
theorem ld2 {g r:Ψ} (h:St G F (g::r::pt b (Y w e)::As)) {i:Nat} {v:ξ} (A:w[i]? =V v):F.cell (oB b i I)=V v:=ld (h.ptAt (i:=2) rfl) A
theorem whole2 {g r:Ψ} (h:St G F (g::r::pt b (Y w e)::As)):F.row (oB b 0 I) w:=ai (h.ptAt (i:=2) rfl)
theorem put2 {r A:Ψ} (h:St G F (r::A::pt b (Y w e)::As)) {n:Nat} {w':Γ} (C:w'.size=n) (D:w.size=n) (g:∀v∈w'.toList,ak v) {K:Ψ} (E:∀B,St G B (r::A::pt b (Y w' e)::As)->K B):
  aA F (oB b 0 I) n w' K:=Uc (h.ptAt (i:=2) rfl) C D g (E _ (h.putAt 2 _ rfl))
theorem set2 {g r:Ψ} (h:St G F (g::r::pt b (Y w e)::As)) {i:Nat} {v:ξ} {w':Γ} (hi:i<w.size) (B:w.setIfInBounds i v=w') {K:Ψ} (C:∀A,St G A (g::r::pt b (Y w' e)::As)->K A):
  pv F (oB b i I) v K:=Wq (h.ptAt (i:=2) rfl) hi (by subst B;exact C _ (h.putAt 2 _ rfl))
theorem front2 {g r:Ψ} {A:Ψ} (h:St G F (g::r::A::As)):St G F (A::g::r::As):=by
 refine h.pick (λi=>if i=0 then 2 else if i<=2 then i - 1 else i) (λi j _ _ e=> ?_) (λi _=> ?_)
 ·repeat' split at e
  all_goals omega
 ·match i with
  |0=>rfl
  |1=>rfl
  |2=>rfl
  |i+3=>rfl
theorem back2 {g r:Ψ} {A:Ψ} (h:St G F (A::g::r::As)):St G F (g::r::A::As):=by
 refine h.pick (λi=>if i=2 then 0 else if i<2 then i+1 else i) (λi j _ _ e=> ?_) (λi _=> ?_)
 ·repeat' split at e
  all_goals omega
 ·match i with
  |0=>rfl
  |1=>rfl
  |2=>rfl
  |i+3=>show (A::g::r::As)[if i+3=2 then 0 else if i+3<2 then i+3+1 else i+3]? =_;rw [Υ (by omega),Υ (by omega)];rfl
theorem ld3 {g r A:Ψ} (h:St G F (g::r::A::pt b (Y w e)::As)) {i:Nat} {v:ξ} (B:w[i]? =V v):F.cell (oB b i I)=V v:=ld (h.ptAt (i:=3) rfl) B
theorem whole3 {g r A:Ψ} (h:St G F (g::r::A::pt b (Y w e)::As)):F.row (oB b 0 I) w:=ai (h.ptAt (i:=3) rfl)
theorem put3 {r A C:Ψ} (h:St G F (r::A::C::pt b (Y w e)::As)) {n:Nat} {w':Γ} (D:w'.size=n) (E:w.size=n) (g:∀v∈w'.toList,ak v) {K:Ψ} (H:∀B,St G B (r::A::C::pt b (Y w' e)::As)->K B):
  aA F (oB b 0 I) n w' K:=Uc (h.ptAt (i:=3) rfl) D E g (H _ (h.putAt 3 _ rfl))
theorem front3 {g r B:Ψ} {A:Ψ} (h:St G F (g::r::B::A::As)):St G F (A::g::r::B::As):=by
 refine h.pick (λi=>if i=0 then 3 else if i<=3 then i - 1 else i) (λi j _ _ e=> ?_) (λi _=> ?_)
 ·repeat' split at e
  all_goals omega
 ·match i with
  |0=>rfl
  |1=>rfl
  |2=>rfl
  |3=>rfl
  |i+4=>rfl
theorem ld4 {g A C r:Ψ} (h:St G F (g::A::C::r::pt b (Y w e)::As)) {i:Nat} {v:ξ} (B:w[i]? =V v):F.cell (oB b i I)=V v:=ld (h.ptAt (i:=4) rfl) B
theorem whole4 {g r B A:Ψ} (h:St G F (g::r::B::A::pt b (Y w e)::As)):F.row (oB b 0 I) w:=ai (h.ptAt (i:=4) rfl)
end
end St
variable {R:VR} {F:PH}
set_option maxHeartbeats 4000000
def Vv (b:Γ) (c:Int) (R:VR) (F:PH):Prop:=Nb F (Y b 39) λg F=>Lr F 9 (Z g 0) λd=>Ci 104 #[nQ d] F λe F=>Bc (e=0) (Lr F 9 (Z g 0) λf=>vf 105 #[nQ f,rV .u64 c] F λa F=>R (nW a) F) (R (nW mD) F)
theorem qgt {a:Γ} {b:Int} (h:Vv a b R F):ν 75 #[nQ a,rV .u64 b] F R:=Rx.Λ .N h
def DW (R:VR) (F:PH):Prop:=R (U 0) F
def wO (j:Ω) (k i:Nat) (R:VR) (a:Int) (F:PH):Prop:=Bc (a<((Sb i 6).len:Int)) (Ix (Sb i 6) a λf=>∃c:ξ,F.cell (nV f (nX a*1))=V c/\Lr F 9 (Z k 0) λg=>Fn c λh d e=>aj prog h (d++([(nQ g)]).toArray++e) F λv F=>∃b,v=(U b)/\Bc (b≠0) (R (U b) F) (j (i64.wrap (a+1)) F)) (DW R F)
def OJ (b:Γ) (R:VR) (F:PH):Prop:=Nb F (Y b 39) λe F=>Lr F 9 (Z e 0) λc=>vf 139 #[nQ c] F λd F=>Bb (d) (R (U 2) F) (Nb F (Y #[.func (.func 140) #[] #[],.func (.func 141) #[] #[],.func (.func 142) #[] #[],.func (.func 143) #[] #[],.func (.func 144) #[] #[],.func (.func 145) #[] #[]] 120) λf F=>Lp 0 F λN a F=>wO N e f R a F)
theorem qdq {a:Γ} (h:OJ a R F):ν 104 #[nQ a] F R:=Rx.Λ (.qa8 (.qa8 (.qa8 (.J mD [] (.qa8 (.L [(12,.int .i64)] .N)) .N)))) h
def OK (e:Γ) (a:Int) (R:VR) (F:PH):Prop:=Nb F (Y e 39) λf F=>Ls F (Z f 0) λb=>0<=(b.len:Int)/\Bc ((Int.fdiv a (2 ^ (min (nX (b.len:Int)) (u64).bits)))=0) (Lr F 2 (Z f 1) λc=>vf 76 #[nQ c,rV .u64 a] F λd F=>R (nW d) F) (R (nW mD) F)
theorem qdr {a:Γ} {b:Int} (h:OK a b R F):ν 105 #[nQ a,rV .u64 b] F R:=Rx.Λ .N h
def OL (h:Γ) (R:VR) (F:PH):Prop:=Nb F (Y h 39) λa F=>Ls F (Z a 0) λi=>Bc ((64:Int)<(i.len:Int)) (R (nW nk) F) (Ls F (Z a 3) λj=>Bc ((256:Int)<(j.len:Int)) (R (nW nk) F) (Ls F (Z a 8) λb=>Bc ((4096:Int)<(b.len:Int)) (R (nW nk) F) (Ls F (Z a 4) λc=>Ls F (Z a 5) λd=>Ls F (Z a 7) λe=>Bc ((2000:Int)<(max (max (c.len:Int) (d.len:Int)) (e.len:Int))) (R (nW nk) F) (Ls F (Z a 5) λf=>vf 167 #[nI f,.func (.func 168) #[] #[]] F λg F=>R (nW g) F))))
theorem qds {a:Γ} (h:OL a R F):ν 139 #[nQ a] F R:=Rx.Λ .N h
def DX (e:Nat) (R:VR) (F:PH):Prop:=Lr F 2 (Z e 1) λa=>Ls F (Z e 0) λb=>vf 171 #[nQ a,(U (b.len:Int))] F λc F=>Bb ((!c)) (R (U 54) F) (Li F (Z e 2) λd=>Bc (d=0) (R (U 54) F) (R (U 0) F))
def wP (k:Ω) (l:Nat) (i:ξ) (f:Sl) (R:VR) (a:Int) (F:PH):Prop:=Bc (a<(f.len:Int)) (Ix f a λg=>Lx F (nV g (nX a*1)) λb=>vf 170 #[ph b] F λh F=>Bb ((!h)) (R (U 54) F) (Bb ((b.toList==(ByteArray.mk #[116,114,117,101]).toList)) (R (U 54) F) (Bb ((b.toList==(ByteArray.mk #[102,97,108,115,101]).toList)) (R (U 54) F) (Fn i λj d e=>aj prog j (d++([(ph b)]).toArray++e) F λv F=>∃c,v=(nW c)/\Bb ((!c)) (R (U 54) F) (k (i64.wrap (a+1)) F))))) (DX l R F)
def OM (c:Γ) (R:VR) (F:PH):Prop:=Nb F (Y c 39) λe F=>ν 169 #[] F λv F=>∃a:ξ,v=a/\Ls F (Z e 0) λd=>Lp 0 F λN b F=>wP N e a d R b F
theorem qdt {a:Γ} (h:OM a R F):ν 140 #[nQ a] F R:=Rx.Λ (.qa8 (.qa8 (.J mD [] (.qa8 (.L [(10,.int .i64)] .N)) .N))) h
def DY (R:VR) (F:PH):Prop:=R (U 0) F
def gm (c:Ω) (_:Nat) (_:ξ) (_:Sl) (b:Int) (a:Bool) (R:VR) (F:PH):Prop:=Bb ((!a)) (R (U 51) F) (c (i64.wrap (b+1)) F)
def wQ (j:Ω) (g:Nat) (c:ξ) (b:Sl) (R:VR) (a:Int) (F:PH):Prop:=Bc (a<(b.len:Int)) (Ix b a λk=>Lr F 7 (nV k (nX a*7)) λl=>Nb F (Y zT 166) λd F=>aA F (Z d 0) 7 l λF=>Lx F (Z d 0) λm=>Fn c λB h i=>aj prog B (h++([(ph m)]).toArray++i) F λv F=>∃f,v=(nW f)/\Bb ((!f)) (R (U 51) F) (Li F (Z d 1) λn=>Bc (n<0) (R (U 51) F) (Li F (Z d 1) λo=>Bc (2<o) (R (U 51) F) (Lr F 2 (Z d 5) λp=>Ls F (Z g 0) λq=>vf 171 #[nQ p,(U (q.len:Int))] F λr F=>Bb ((!r)) (R (U 51) F) (Lx F (Z d 4) λe=>Lx F (Z d 2) λs=>Bb ((!(s.toList==(ByteArray.mk #[]).toList))) (Bb ((e.toList==(ByteArray.mk #[]).toList)) (Ls F (Z d 3) λt=>gm j g c b a (decide ((t.len:Int)=0)) R F) (gm j g c b a mD R F)) (Ls F (Z d 3) λu=>Ci 172 #[nI u] F λw F=>Bc (w≠0) (gm j g c b a mD R F) (Li F (Z d 1) λx=>Bc (x=0) (Bb ((!(e.toList==(ByteArray.mk #[]).toList))) (Ls F (Z d 3) λy=>Lx F (Z d 4) λz=>vf 173 #[nI y,ph z] F λA F=>gm j g c b a A R F) (gm j g c b a mD R F)) (gm j g c b a (e.toList==(ByteArray.mk #[]).toList) R F)))))))) (DY R F)
def ON (c:Γ) (R:VR) (F:PH):Prop:=Nb F (Y c 39) λe F=>ν 169 #[] F λv F=>∃a:ξ,v=a/\Ls F (Z e 3) λd=>Lp 0 F λN b F=>wQ N e a d R b F
theorem qcY {a:Γ} (h:ON a R F):ν 141 #[nQ a] F R:=Rx.Λ (.qa8 (.qa8 (.J mD [] (.qa8 (.L [(11,.int .i64)] (.qa8 (.qa8 (.T (.qa8 (.qa8 (.qa8 (.J mD [(6,.bool)] .N .N)))) .N))))) .N))) h
def DZ (d:Nat) (R:VR) (F:PH):Prop:=Li F (Z d 6) λa=>Bc (a<0) (R (U 50) F) (Li F (Z d 6) λb=>Ls F (Z d 4) λc=>Bc ((c.len:Int)<=b) (R (U 50) F) (R (U 0) F))
def wR (j:Ω) (k:Nat) (h:ξ) (e:Sl) (R:VR) (a:Int) (F:PH):Prop:=Bc (a<(e.len:Int)) (Ix e a λf=>Lx F (nV f (nX a*1)) λg=>Fn h λi c d=>aj prog i (c++([(ph g)]).toArray++d) F λv F=>∃b,v=(nW b)/\Bb ((!b)) (R (U 50) F) (j (i64.wrap (a+1)) F)) (DZ k R F)
def OO (c:Γ) (R:VR) (F:PH):Prop:=Nb F (Y c 39) λe F=>ν 169 #[] F λv F=>∃a:ξ,v=a/\Ls F (Z e 4) λd=>Lp 0 F λN b F=>wR N e a d R b F
theorem qcZ {a:Γ} (h:OO a R F):ν 142 #[nQ a] F R:=Rx.Λ (.qa8 (.qa8 (.J mD [] (.qa8 (.L [(10,.int .i64)] .N)) .N))) h
def D0 (R:VR) (F:PH):Prop:=R (U 0) F
def wS (y:Ω) (u:Nat) (w:ξ) (f:Sl) (R:VR) (a:Int) (F:PH):Prop:=Bc (a<(f.len:Int)) (Ix f a λg=>Lr F 13 (nV g (nX a*13)) λh=>Nb F (Y zP 64) λb F=>aA F (Z b 0) 13 h λF=>Li F (Z b 1) λi=>vf 174 #[nQ (#[nW mD,(U i)]:Γ),(Pp u)] F λj F=>Bb (j) (R (U 50) F) (Ls F (Z b 2) λk=>vf 176 #[nI k,.func (.func 174) #[] #[(Pp u)]] F λl F=>Bb (l) (R (U 50) F) (Lx F (Z b 0) λm=>Fn w λx d e=>aj prog x (d++([(ph m)]).toArray++e) F λv F=>∃c,v=(nW c)/\Bb ((!c)) (R (U 52) F) (Lr F 2 (Z b 3) λn=>Ls F (Z u 0) λo=>vf 171 #[nQ n,(U (o.len:Int))] F λp F=>Bb ((!p)) (R (U 52) F) (Li F (Z b 6) λq=>Bc (q<(-1:Int)) (R (U 52) F) (Li F (Z b 6) λr=>Bc (1<r) (R (U 52) F) (Lr F 13 (Z b 0) λs=>vf 177 #[nQ s] F λt F=>Bb ((!t)) (R (U 52) F) (y (i64.wrap (a+1)) F)))))))) (D0 R F)
def OP (c:Γ) (R:VR) (F:PH):Prop:=Nb F (Y c 39) λe F=>ν 169 #[] F λv F=>∃a:ξ,v=a/\Ls F (Z e 5) λd=>Lp 0 F λN b F=>wS N e a d R b F
theorem qc0 {a:Γ} (h:OP a R F):ν 143 #[nQ a] F R:=Rx.Λ (.qa8 (.qa8 (.J mD [] (.qa8 (.L [(11,.int .i64)] .N)) .N))) h
def D1 (R:VR) (F:PH):Prop:=R (U 0) F
def D2 (c:Ω) (_ _:Nat) (_:Sl) (a:Int) (_:VR) (F:PH):Prop:=c (i64.wrap (a+1)) F
def wT (k l:Ω) (j i:Nat) (e:Sl) (f:Int) (c:Sl) (R:VR) (a:Int) (F:PH):Prop:=Bc (a<(c.len:Int)) (Ix c a λg=>Li F (nV g (nX a*1)) λb=>Bc (b<0) (R (U 53) F) (Ls F (Z j 5) λh=>Bc ((h.len:Int)<=b) (R (U 53) F) (∃d,qX prog (Instr.lookup 275 (.map (V i)) (U b) mD) F (nW d)/\Bb (d) (R (U 53) F) (aG prog (Instr.mapUpdate 275 (.map (V i)) (U b) (nW nk)) F λ_ F=>l (i64.wrap (a+1)) F)))) (D2 k j i e f R F)
def wU (p:Ω) (o q:Nat) (b:Sl) (R:VR) (a:Int) (F:PH):Prop:=Bc (a<(b.len:Int)) (Ix b a λd=>Lr F 4 (nV d (nX a*4)) λe=>Nb F (Y zL 236) λf F=>aA F (Z f 0) 4 e λF=>Li F (Z f 1) λg=>Bc (g<0) (R (U 53) F) (Li F (Z f 1) λh=>Bc (3<h) (R (U 53) F) (Lr F 2 (Z f 2) λi=>Ls F (Z o 0) λj=>vf 171 #[nQ i,(U (j.len:Int))] F λk F=>Bb ((!k)) (R (U 53) F) (Ls F (Z f 0) λl=>(∃(n:Nat->Ω) (m:Nat),n m 0 F/\∀m c F,n m c F-> wT p (Xh n m) o q b a l R c F))))) (D1 R F)
def OQ (c:Γ) (R:VR) (F:PH):Prop:=Nb F (Y c 39) λd F=>Nb F (.map #[] 0) λe F=>Ls F (Z d 7) λa=>Lp 0 F λN b F=>wU N d e a R b F
theorem qc1 {a:Γ} (h:OQ a R F):ν 144 #[nQ a] F R:=Rx.Λ (.qa8 (.qa8 (.J mD [] (.qa8 (.L [(12,.int .i64)] (.qa8 (.qa8 (.J mD [] (.qa8 (.qa8 (.qa8 (.L [(36,.int .i64)] .N)))) .N))))) .N))) h
def D3 (R:VR) (F:PH):Prop:=R (U 0) F
def dI (k:Ω) (_ h:Nat) (_:Sl) (i:Int) (a:Bool) (R:VR) (F:PH):Prop:=Bb ((!a)) (R (U 53) F) (Li F (Z h 1) λb=>Bc (b≠0) (R (U 53) F) (Li F (Z h 2) λc=>Bc (c≠0) (R (U 53) F) (Li F (Z h 3) λd=>Bc (d≠0) (R (U 53) F) (Li F (Z h 4) λe=>Bc (e≠0) (R (U 53) F) (Li F (Z h 5) λf=>Bc (f≠0) (R (U 53) F) (Ls F (Z h 6) λg=>Bc ((0:Int)<(g.len:Int)) (R (U 53) F) (k (i64.wrap (i+1)) F)))))))
def iz (o:Ω) (k q p:Nat) (b:Sl) (c:Int) (a:Bool) (R:VR) (F:PH):Prop:=Bb (a) (Ls F (Z k 3) λl=>Li F (Z q 5) λe=>Ix l e λm=>Lr F 7 (nV m (nX e*7)) λn=>vf 178 #[nQ n] F λf F=>Bb (f) (Ls F (Z k 3) λg=>Li F (Z q 5) λd=>Ix g d λh=>Lr F 7 (nV h (nX d*7)) λi=>vf 179 #[nQ i] F λj F=>dI o k p b c (!j) R F) (dI o k p b c mD R F)) (dI o k p b c mD R F)
def pV (f:Ω) (c e:Nat) (g:Bool) (d:Nat) (a:Sl) (b h:Int) (i:Bool) (R:VR) (F:PH):Prop:=Bb (i) (pv F (Z d 4) (U 0) λF=>pv F (Z d 6) (nI pm) λF=>Bb (g) (Li F (Z e 4) λj=>Bc (0<=j) (Li F (Z e 4) λk=>Ls F (Z c 4) λl=>Bc (k<(l.len:Int)) (Lr F 9 (Z c 0) λm=>Ls F (Z e 6) λn=>vf 181 #[nQ m,nI n,.func (.func 178) #[] #[]] F λo F=>dI f c d a b o R F) (dI f c d a b mD R F)) (dI f c d a b mD R F)) (dI f c d a b mD R F)) (Bc (h=5) (pv F (Z d 5) (U 0) λF=>pv F (Z d 6) (nI pm) λF=>Bb (g) (Lr F 9 (Z c 0) λp=>Ls F (Z e 6) λq=>vf 181 #[nQ p,nI q,.func (.func 179) #[] #[]] F λr F=>Bb (r) (Li F (Z e 5) λs=>Bc (0<=s) (Li F (Z e 5) λt=>Ls F (Z c 3) λu=>iz f c e d a b (decide (t<(u.len:Int))) R F) (iz f c e d a b mD R F)) (iz f c e d a b mD R F)) (iz f c e d a b mD R F)) (dI f c d a b mD R F))
def pW (k:Ω) (f l:Nat) (d:Bool) (e:Nat) (b:Sl) (c a:Int) (g:Bool) (R:VR) (F:PH):Prop:=Bb (g) (pv F (Z e 1) (U 0) λF=>pv F (Z e 2) (U 0) λF=>pv F (Z e 3) (U 0) λF=>Bb (d) (Lr F 9 (Z f 0) λh=>Lr F 9 (Z l 0) λi=>vf 180 #[nQ h,nQ i] F λj F=>dI k f e b c j R F) (dI k f e b c mD R F)) (Bc (a=3) (pV k f l d e b c a (decide (a=3)) R F) (pV k f l d e b c a (decide (a=4)) R F))
def wV (m:Ω) (l:Nat) (c:Sl) (R:VR) (a:Int) (F:PH):Prop:=Bc (a<(c.len:Int)) (Ix c a λf=>Lr F 9 (nV f (nX a*9)) λg=>Nb F (Y zF 233) λe F=>aA F (Z e 0) 9 g λF=>Lr F 2 (Z e 7) λh=>Ls F (Z l 0) λi=>vf 171 #[nQ h,(U (i.len:Int))] F λd F=>Lr F 9 (Z e 0) λj=>Nb F (Y zF 233) λk F=>aA F (Z k 0) 9 j λF=>pv F (Z k 0) (U 0) λF=>aA F (Z k 7) 2 zD λF=>Li F (Z e 0) λb=>Bc (b=1) (pW m l e d k c a b (decide (b=1)) R F) (pW m l e d k c a b (decide (b=2)) R F)) (D3 R F)
def OR (c:Γ) (R:VR) (F:PH):Prop:=Nb F (Y c 39) λd F=>Ls F (Z d 8) λa=>Lp 0 F λN b F=>wV N d a R b F
theorem qc2 {a:Γ} (h:OR a R F):ν 145 #[nQ a] F R:=Rx.Λ (.qa8 (.qa8 (.qa8 (.J mD [] (.qa8 (.L [(12,.int .i64)] (.qa8 (.qa8 (.T (.qa8 (.qa8 (.qa8 (.qa8 (.J mD [(7,.bool)] (.qa8 (.J mD [(28,.bool)] .N (.qa8 (.J mD [(40,.bool)] .N (.qa8 (.qa8 (.T (.qa8 (.J mD [(7,.bool)] .N .N)) .N))))))) .N))))) .N))))) .N)))) h
def OS (a:Γ) (R:VR) (F:PH):Prop:=Nb F (Y a 64) λd F=>Ls F (Z d 2) λb=>Ls F (Z d 7) λc=>R (nW (decide ((16:Int)<(max (b.len:Int) (c.len:Int))))) F
theorem qc3 {a:Γ} (h:OS a R F):ν 168 #[nQ a] F R:=Rx.Λ .N h
def OT (R:VR) (F:PH):Prop:=Nb F (.map #[] 0) λa F=>aG prog (Instr.mapUpdate 294 (.map (V a)) (ph ⟨#[]⟩) (nW nk)) F λ_ F=>Nb F (Y (#[.map I]) 294) λb F=>pv F (Z b 0) (.map (V a)) λF=>R (.func (.func 200) #[] #[(Pp b)]) F
theorem qc4 (h:OT R F):ν 169 #[] F R:=Rx.Λ .N h
def D4 (a:ο) (R:VR) (F:PH):Prop:=R (nW (!(a.toList==(ByteArray.mk #[]).toList))) F
def pX (b:Ω) (_:ο) (a:Int) (_:VR) (F:PH):Prop:=b (i64.wrap (a+1)) F
def fG (e:Ω) (d:ο) (c b:Int) (a:Bool) (R:VR) (F:PH):Prop:=Bb ((!a)) (Bc (c=0) (R (nW mD) F) (Bc (b<48) (R (nW mD) F) (Bc (57<b) (R (nW mD) F) (pX e d c R F)))) (pX e d c R F)
def wW (d:Ω) (b:ο) (R:VR) (c:Int) (F:PH):Prop:=Bc (c<(b.size:Int)) (0<=c/\c<(b.size:Int)/\∃(hx:nX c<b.size) (a:Int),a=((b[nX c]'hx).toNat:Int)/\Bc (97<=a) (Bc (a<=(122:Int)) (fG d b c a nk R F) (Bc (65<=a) (Bc (a<=(90:Int)) (fG d b c a nk R F) (fG d b c a (decide (a=95)) R F)) (fG d b c a (decide (a=95)) R F))) (Bc (65<=a) (Bc (a<=(90:Int)) (fG d b c a nk R F) (fG d b c a (decide (a=95)) R F)) (fG d b c a (decide (a=95)) R F))) (D4 b R F)
def OU (a:ο) (R:VR) (F:PH):Prop:=Lp 0 F λN b F=>wW N a R b F
theorem qc5 {a:ο} (h:OU a R F):ν 170 #[ph a] F R:=Rx.Λ (.qa8 (.J mD [] (.qa8 (.L [(8,.int .i64)] (.qa8 (.qa8 (.J mD [] (.qa8 (.qa8 (.J mD [(5,.bool)] .N .N))) .N))))) .N)) h
def OV (b:Γ) (c:Int) (R:VR) (F:PH):Prop:=Nb F (Y b 33) λg F=>Nb F (Y #[(U c)] 3) λh F=>Lr F 2 (Z g 0) λd=>Ci 106 #[nQ d] F λe F=>Bc (e≠0) (R (nW mD) F) (Ls F (Z g 0) λf=>vf 201 #[nI f,.func (.func 202) #[] #[(Pp h)]] F λa F=>R (nW (!a)) F)
theorem qc6 {a:Γ} {b:Int} (h:OV a b R F):ν 171 #[nQ a,(U b)] F R:=Rx.Λ .N h
def OW (b:Γ) (c:Θ) (R:VR) (F:PH):Prop:=Nb F (Y b 130) λg F=>∃a,c=V a/\Lr F 9 a λd=>Lr F 2 (Z g 0) λe=>vf 175 #[nQ d,nQ e] F λf F=>R (nW (!f)) F
theorem qc7 {a:Γ} {b:Θ} (h:OW a b R F):ν 174 #[nQ a,pk b] F R:=Rx.Λ .N h
def OX (k l:Γ) (R:VR) (F:PH):Prop:=Nb F (Y k 39) λm F=>Nb F (Y l 130) λb F=>Lb F (Z b 0) λn=>Bb ((!n)) (Li F (Z b 1) λo=>Bc (0<=o) (Li F (Z b 1) λc=>Ls F (Z m 4) λd=>R (nW (decide (c<(d.len:Int)))) F) (R (nW mD) F)) (Li F (Z b 1) λe=>Bc (0<=e) (Li F (Z b 1) λf=>Ls F (Z m 3) λg=>Bc (f<(g.len:Int)) (Ls F (Z m 3) λh=>Li F (Z b 1) λa=>Ix h a λi=>Li F (nV (nV i (nX a*7)) 1) λj=>R (nW (decide (j=0))) F) (R (nW mD) F)) (R (nW mD) F))
theorem qc8 {a:Γ} {b:Γ} (h:OX a b R F):ν 175 #[nQ a,nQ b] F R:=Rx.Λ .N h
def D5 (a:Nat) (R:VR) (F:PH):Prop:=Lr F 5 (Z a 8) λj=>Nb F (Y (#[nW mD,U 0,U 0,U 0,U 0]) 60) λi F=>aA F (Z i 0) 5 j λF=>Li F (Z i 1) λk=>Li F (Z i 2) λl=>vf 210 #[(U k),(U l),(U 1),(U 7),(Pp a)] F λm F=>Bb ((!m)) (R (nW mD) F) (Li F (Z i 3) λn=>Li F (Z i 4) λo=>vf 210 #[(U n),(U o),(U 0),(U 255),(Pp a)] F λp F=>Bb ((!p)) (R (nW mD) F) (Lb F (Z a 5) λq=>Bb ((!q)) (R (nW nk) F) (Ls F (Z a 2) λr=>Bc ((r.len:Int)≠3) (R (nW mD) F) (Li F (Z a 6) λs=>Bc (s≠0) (R (nW mD) F) (Ls F (Z a 7) λt=>Bc ((0:Int)<(t.len:Int)) (R (nW mD) F) (Lr F 5 (Z i 0) λu=>∃c,(∀F,qX prog (Op.equal 60 (nQ u) (nQ (#[nW mD,U 0,U 0,U 0,U 0]:Γ))) F c)/\Bb ((!c)) (R (nW mD) F) (Ls F (Z a 2) λv=>Ix v 0 λw=>Lb F (nV w (nX 0*2)) λx=>Bb (x) (Ls F (Z a 2) λy=>Ix y 1 λz=>Lr F 2 (nV z (nX 1*2)) λd=>Li F (Z a 1) λe=>∃b,(∀F,qX prog (Op.equal 130 (nQ d) (nQ (#[nW mD,(U e)]:Γ))) F b)/\Bb (b) (Ls F (Z a 2) λf=>Ix f 2 λg=>Lb F (nV g (nX 2*2)) λh=>R (nW h) F) (R (nW mD) F)) (R (nW mD) F))))))))
def pY (b:Ω) (_:Nat) (_:Sl) (a:Int) (_:VR) (F:PH):Prop:=b (i64.wrap (a+1)) F
def wX (o:Ω) (d:Nat) (b:Sl) (R:VR) (a:Int) (F:PH):Prop:=Bc (a<(b.len:Int)) (Ix b a λe=>Lr F 3 (nV e (nX a*3)) λf=>Nb F (Y (#[U 0,U 0,U 0]) 260) λc F=>aA F (Z c 0) 3 f λF=>Li F (Z c 0) λg=>Bc (g<1) (R (nW mD) F) (Li F (Z c 0) λh=>Bc (4<h) (R (nW mD) F) (Li F (Z c 1) λi=>vf 209 #[(U i),(Pp d)] F λj F=>Bb ((!j)) (R (nW mD) F) (Li F (Z c 2) λk=>vf 209 #[(U k),(Pp d)] F λl F=>Bb ((!l)) (R (nW mD) F) (Li F (Z c 0) λm=>Bc (m=1) (Li F (Z c 2) λn=>Bc (n≠0) (R (nW mD) F) (pY o d b a R F)) (pY o d b a R F)))))) (D5 d R F)
def OY (b:Γ) (R:VR) (F:PH):Prop:=Nb F (Y b 64) λd F=>Ls F (Z d 7) λc=>Lp 0 F λN a F=>wX N d c R a F
theorem qc9 {a:Γ} (h:OY a R F):ν 177 #[nQ a] F R:=Rx.Λ (.qa8 (.J mD [] (.qa8 (.L [(11,.int .i64)] (.qa8 (.qa8 (.J mD [] .N .N))))) .N)) h
def OZ (a:Γ) (R:VR) (F:PH):Prop:=Nb F (Y a 166) λc F=>Li F (Z c 1) λb=>R (nW (decide (b=0))) F
theorem qda {a:Γ} (h:OZ a R F):ν 178 #[nQ a] F R:=Rx.Λ .N h
def O0 (a:Γ) (R:VR) (F:PH):Prop:=Nb F (Y a 166) λc F=>Lx F (Z c 2) λb=>R (nW (!(b.toList==(ByteArray.mk #[]).toList))) F
theorem qdb {a:Γ} (h:O0 a R F):ν 179 #[nQ a] F R:=Rx.Λ .N h
def O1 (v w:Γ) (R:VR) (F:PH):Prop:=Nb F (Y v 39) λu F=>Nb F (Y w 233) λa F=>Li F (Z a 1) λx=>Bc (x<0) (R (nW mD) F) (Li F (Z a 1) λg=>Ls F (Z u 5) λh=>Bc ((h.len:Int)<=g) (R (nW mD) F) (Li F (Z a 3) λi=>Bc (i<0) (R (nW mD) F) (Li F (Z a 3) λj=>Ls F (Z u 5) λk=>Bc ((k.len:Int)<=j) (R (nW mD) F) (Ls F (Z u 5) λl=>Li F (Z a 1) λb=>Ix l b λm=>Ls F (nV (nV m (nX b*13)) 2) λc=>Li F (Z a 2) λn=>Bc (0<=n) (Li F (Z a 2) λo=>Bc (o<(c.len:Int)) (Li F (Z a 2) λd=>Ix c d λp=>Lr F 2 (nV p (nX d*2)) λq=>Ls F (Z u 5) λr=>Li F (Z a 3) λe=>Ix r e λs=>Li F (nV (nV s (nX e*13)) 1) λt=>∃f,(∀F,qX prog (Op.equal 130 (nQ q) (nQ (#[nW mD,(U t)]:Γ))) F f)/\R (nW f) F) (R (nW mD) F)) (R (nW mD) F)))))
theorem qdc {a:Γ} {b:Γ} (h:O1 a b R F):ν 180 #[nQ a,nQ b] F R:=Rx.Λ .N h
def D6 (a:Sl) (R:VR) (F:PH):Prop:=R (nW (decide ((0:Int)<(a.len:Int)))) F
def pZ (c:Ω) (_:Sl) (_:ξ) (_:Nat) (a:Int) (_:VR) (F:PH):Prop:=c (i64.wrap (a+1)) F
def wY (u:Ω) (g:Sl) (b:ξ) (n:Nat) (R:VR) (a:Int) (F:PH):Prop:=Bc (a<(g.len:Int)) (Ix g a λo=>Li F (nV o (nX a*1)) λc=>Bc (c<0) (R (nW mD) F) (Ls F (Z n 3) λp=>Bc ((p.len:Int)<=c) (R (nW mD) F) (Bc (0<a) (Ix g (i64.wrap (a - 1)) λq=>∃k,F.cell (nV q (nX (i64.wrap (a - 1))*1))=V (U k)/\Bc (c<=k) (R (nW mD) F) (Ls F (Z n 3) λr=>Ix r c λs=>Lr F 7 (nV s (nX c*7)) λt=>Fn b λm d e=>aj prog m (d++([(nQ t)]).toArray++e) F λv F=>∃l,v=(nW l)/\Bb ((!l)) (R (nW mD) F) (pZ u g b n a R F))) (Ls F (Z n 3) λh=>Ix h c λi=>Lr F 7 (nV i (nX c*7)) λj=>Fn b λm d e=>aj prog m (d++([(nQ j)]).toArray++e) F λv F=>∃f,v=(nW f)/\Bb ((!f)) (R (nW mD) F) (pZ u g b n a R F))))) (D6 g R F)
def O2 (c:Γ) (d:Sl) (a:ξ) (R:VR) (F:PH):Prop:=Nb F (Y c 39) λe F=>Lp 0 F λN b F=>wY N d a e R b F
theorem qdd {b:Γ} {c:Sl} {a:ξ} (h:O2 b c a R F):ν 181 #[nQ b,nI c,a] F R:=Rx.Λ (.qa8 (.J mD [] (.qa8 (.L [(11,.int .i64)] (.qa8 (.qa8 (.J mD [] .N .N))))) .N)) h
def O3 (b:ο) (f:Θ) (R:VR) (F:PH):Prop:=∃a,f=V a/\∃c:Option Nat,F.cell a=V (.map c)/\∃d,qX prog (Instr.lookup 294 (.map c) (ph b) mD) F (nW d)/\Bb (d) (R (nW mD) F) (∃e:Option Nat,F.cell a=V (.map e)/\aG prog (Instr.mapUpdate 294 (.map e) (ph b) (nW nk)) F λ_ F=>R (nW nk) F)
theorem qde {a:ο} {b:Θ} (h:O3 a b R F):ν 200 #[ph a,pk b] F R:=Rx.Λ .N h
def O4 (b:Γ) (c:Θ) (R:VR) (F:PH):Prop:=Nb F (Y b 201) λf F=>Li F (Z f 0) λd=>∃a,c=V a/\Li F a λe=>R (nW (decide (e<=d))) F
theorem qdf {a:Γ} {b:Θ} (h:O4 a b R F):ν 202 #[nQ a,pk b] F R:=Rx.Λ .N h
def O5 (b:Int) (c:Θ) (R:VR) (F:PH):Prop:=Bc (0<=b) (∃a,c=V a/\Ls F (nV a 2) λd=>R (nW (decide (b<(d.len:Int)))) F) (R (nW mD) F)
theorem qdg {a:Int} {b:Θ} (h:O5 a b R F):ν 209 #[(U a),pk b] F R:=Rx.Λ .N h
def O6 (b a f d:Int) (j:Θ) (R:VR) (F:PH):Prop:=Bc (b=0) (R (nW (decide (a=0))) F) (Bc (0<b) (∃c,j=V c/\Ls F (nV c 2) λg=>Bc (b<=(g.len:Int)) (Ls F (nV c 2) λh=>Ix h (i64.wrap (b - 1)) λi=>∃e,F.cell (nV i (nX (i64.wrap (b - 1))*2))=V (nW e)/\Bb (e) (Bc (f<=a) (R (nW (decide (a<=d))) F) (R (nW mD) F)) (R (nW mD) F)) (R (nW mD) F)) (R (nW mD) F))
theorem qdh {d:Int} {a:Int} {c:Int} {b:Int} {e:Θ} (h:O6 d a c b e R F):ν 210 #[(U d),(U a),(U c),(U b),pk e] F R:=Rx.Λ .N h
theorem mz (a b:ο):(a.toList==b.toList)=decide (a=b):=by rw [Km,wm,δ,δ];exact ⟨Ck,λh=>by rw [h]⟩
theorem ze (a b:ο):(a==b)=decide (a=b):=by show (a.data==b.data)=_;rw [wm,beq_iff_eq,δ];exact ⟨λh=>by cases a;cases b;cases h;rfl,λh=>by rw [h]⟩
instance:LawfulBEq ο where
 eq_of_beq {a b} h:=by rw [ze] at h;exact ζ h
 rfl {a}:=by rw [ze];exact ε rfl
abbrev emp:ByteArray:=ByteArray.mk #[]
theorem qgu:pd prog 9 ph:=by
 refine ⟨λF a b=> ?_,λF e a=> ?_,λa=> ?_,_,underlying9,.inl λa b=> ?_⟩
 ·unfold Op.equal Op.maxDepth;show qX prog (Op.equalIn (9999+1) 9 (.string a) (.string b)) F _;unfold Op.equalIn;simp only [am];refine ⟨_,(az underlying9 _).2 rfl,?_⟩;exact ze a b
 ·show qX prog (Instr.checkKey e (9999+1) 9 (.string a)) F ();unfold Instr.checkKey;simp only [am];exact ⟨_,(az underlying9 _).2 rfl,rfl⟩
 ·show (a==a)=nk;rw [ze];simp
 ·show V (a==b)=_;rw [ze]
theorem VZ:bv prog 4=V (nW mD):=by kernel_rfl
theorem Sg:fY prog 294 Value.string (.bool mD):=⟨_,_,underlying294,VZ,qgu⟩
def gU (l:List ο) (s:ο):Option ξ:=if s=emp\/s∈l then V (nW nk) else I
def seen (m:Nat) (l:List ο):Ψ:=λH=>∃o,H m=V o/\dW ph (gU l) o
theorem St.mapAt {G F:PH} {As:List (Ψ)} {m:Nat} {l:List ο} (h:St G F (seen m l::As)):∃o,F m=V o/\dW ph (gU l) o:=by obtain ⟨H,⟨o,g,w⟩,_,r⟩:=h.get (i:=0) rfl;exact ⟨o,r _ _ g,w⟩
theorem St.mapSet {G F:PH} {As:List (Ψ)} {m:Nat} {l l':List ο} {o':Obj} (h:St G F (seen m l::As)) (C:dW ph (gU l') o'):St G (F.set m o') (seen m l'::As):=by
 obtain ⟨H,⟨o,w,_⟩,D,A,B⟩:=h.set (i:=0) (A':=seen m l') rfl;refine B (H.set m o') _ ⟨o',aq _ _ _,C⟩ (λx g=> ?_) (λx p g=> ?_) (λx p g r=> ?_)
 ·by_cases e:x=m
  ·rw [e,w];exact .inl (by simp)
  ·rw [aw _ _ e] at g;exact .inl g
 ·by_cases e:x=m
  ·rw [e,aq] at g ⊢;exact g
  ·rw [aw _ _ e] at g ⊢;exact A _ _ g
 ·have e:x≠m:=λe=>by rw [e,w] at r;cases r
  rw [aw _ _ e];exact g
abbrev zg (b:Nat):Value:=.func (.func 200) #[] #[pk (V ⟨b,0,I⟩)]
theorem iA (F:PH):ν 169 #[] F λr M=>∃g b m,r=zg b/\F.le g/\g.cell ⟨b,0,I⟩=V (.map (V m))/\St g M [seen m []]:=by
 refine qc4 ?_;unfold OT;intro m D;refine tR ?_;refine bj Sg (aq _ _ _) (dW.empty _) emp (nW nk) λA B=> ?_;rw [aR];have N:St F (F.set m A) [seen m []]:=by
  have C:dW ph (gU []) A:=by obtain ⟨G,c,L,E,J,P⟩:=B;refine ⟨G,c,L,E,J,λk=> ?_⟩;rw [<- P k];unfold gU;by_cases e:k=emp<;>simp [e]
  refine (St.start F).push (H:=PH.set (λ_=>I) m A) ⟨A,aq _ _ _,C⟩ (λx w=> ?_) (λx p w=> ?_) (ae A D)
  ·by_cases e:x=m
   ·rw [e];exact D
   ·rw [aw _ _ e] at w;exact absurd rfl w
  ·by_cases e:x=m
   ·rw [e,aq] at w ⊢;exact w
   ·rw [aw _ _ e] at w;cases w
 refine N.new λO Q h=> ?_;refine h.set0 (by decide) rfl λF2 h=> ?_;refine h.pinb (K:=λF2=>∃g b m,_=zg b/\F.le g/\g.cell ⟨b,0,I⟩=V (.map (V m))/\St g F2 [seen m []]) λg l q h=> ?_;exact ⟨g,O,m,rfl,l,ld q rfl,h⟩
theorem BO {G F:PH} {b m:Nat} {l:List ο} (h:St G F [seen m l]) (N:G.cell ⟨b,0,I⟩=V (.map (V m))) (s:ο):
  ν 200 #[ph s,pk (V ⟨b,0,I⟩)] F λr O=>∃K,r=nW (decide (s≠emp/\s ∉ l))/\G.le K/\St K O [seen m (s::l)]:=by
 refine qde ?_;unfold O3;obtain ⟨o,J,A⟩:=h.mapAt;have w:=aK h.le N;have g:=bL (F:=F) Sg J A s mD;have B:∀k,gU (s::l) k=if k=s then V (nW nk) else gU l k:=λk=>by
  unfold gU;by_cases e:k=s
  ·simp [e]
  ·simp [e]
 by_cases C:s=emp\/s∈l
 ·have D:gU l s=V (nW nk):=Χ C;rw [D] at g;refine ⟨_,rfl,V m,w,nk,g,λ_=> ?_,λh=>(by cases h)⟩;have hd:decide (s≠emp/\s ∉ l)=mD:=by
   rw [decide_eq_false_iff_not];rintro ⟨L,M⟩;rcases C with h|h
   ·exact L h
   ·exact M h
  refine ⟨G,by rw [hd],au G,?_⟩;have:seen m (s::l)=seen m l:=by
   unfold seen;funext H
   rw [show gU (s::l)=gU l from funext λk=>by
    rw [B];by_cases e:k=s
    ·rw [Χ e,e,D]
    ·rw [Υ e]]
  rw [this];exact h
 ·have D:gU l s=I:=Υ C;rw [D] at g;refine ⟨_,rfl,V m,w,mD,g,λh=>(by cases h),λ_=>⟨V m,w,?_⟩⟩;refine bj Sg J A s (nW nk) λP E=> ?_;have hd:decide (s≠emp/\s ∉ l)=nk:=by rw [δ];exact ⟨λe=>C (.inl e),λe=>C (.inr e)⟩
  refine ⟨G,by rw [hd],au G,h.mapSet ?_⟩;rw [show gU (s::l)=_ from funext B];exact E
theorem qcS:aF prog 200=nk:=by kernel_rfl
def pn (b:Nat):Prop:=(97<=b/\b<=122)\/(65<=b/\b<=90)\/b=95
def wZ (b:Nat):Prop:=48<=b/\b<=57
instance (b:Nat):Decidable (pn b):=inferInstanceAs (Decidable (_\/_))
instance (b:Nat):Decidable (wZ b):=inferInstanceAs (Decidable (_/\_))
def BP (l:Δ):Bool:=(List.range l.length).all (λi=>decide (pn (l.getD i 0)) || (i !=0 && decide (wZ (l.getD i 0)))) && !l.isEmpty
def oL (s:ο):Bool:=BP (bs s)
theorem Sh (s:ο) (i:Nat) (h:i<s.size):(s[i]'h).toNat=(bs s).getD i 0:=by rw [<- Kl];unfold cb;rw [dif_pos h]
theorem qg9 {F:PH} (s:ο) (hs:s.size<=1000000000):ν 170 #[ph s] F λr A=>r=nW (oL s)/\F.le A:=by
 refine qc5 ?_;unfold OU;have G:=de s;refine bD (wW · s _) s.size (λk A=>F.le A/\∀i,i<k->(pn ((bs s).getD i 0)\/(i≠0/\wZ ((bs s).getD i 0)))) ⟨au F,λi h=>by omega⟩ ?_;rintro k H N hk ⟨K,hi⟩ next;unfold wW;refine ⟨λg=> ?_,λX=> ?_⟩
 ·have g:k<s.size:=by omega
  refine ⟨by omega,by omega,by simpa using g,((bs s).getD k 0:Nat),?_,?_⟩
  ·rw [<- Sh s k g];rfl
  generalize P:(bs s).getD k 0=c;have bad:¬(pn c\/(k≠0/\wZ c))->nW mD=nW (oL s)/\F.le H:=λhn=>by
   refine ⟨?_,K⟩;have:oL s=mD:=by unfold oL BP;rw [Bool.and_eq_false_iff];refine .inl ?_;rw [List.all_eq_false];refine ⟨k,WU.2 (by omega),?_⟩;rw [P];simp only [Xa,δ,VT,bne_iff_ne,ne_eq];exact hn
   rw [this]
  have w:(pn c\/(k≠0/\wZ c))->pX N s (k:Int) (λr A=>r=nW (oL s)/\F.le A) H:=λW=>by
   unfold pX;rw [aC g];refine next _ g ⟨K,λi D=> ?_⟩;by_cases e:i=k
   ·rw [e,P];exact W
   ·exact hi i (by omega)
  have C:∀t:Bool,(t=nk↔pn c)->fG N s (k:Int) (c:Int) t (λr A=>r=nW (oL s)/\F.le A) H:=λt Q=>by
   unfold fG;refine ⟨λh=> ?_,λh=>w (.inl (Q.1 (by simpa using h)))⟩;have B:¬pn c:=λL=>by rw [Q.2 L] at h;cases h
   refine ⟨λh0=>bad ?_,λh0=>⟨λE=>bad ?_,λE=>⟨λJ=>bad ?_,λJ=>w ?_⟩⟩⟩
   ·rintro (h|h)
    ·exact B h
    ·omega
   ·rintro (h|h)
    ·exact B h
    ·unfold wZ at h;omega
   ·rintro (h|h)
    ·exact B h
    ·unfold wZ at h;omega
   ·exact .inr ⟨by omega,by unfold wZ;omega⟩
  refine ⟨λE=>⟨λJ=>C _ ⟨λ_=>by unfold pn;omega,λ_=>rfl⟩,λJ=>⟨λO=>⟨λM=>C _ ⟨λ_=>by unfold pn;omega,λ_=>rfl⟩,λM=>C _ ?_⟩,λO=>C _ ?_⟩⟩,
   λE=>⟨λO=>⟨λM=>C _ ⟨λ_=>by unfold pn;omega,λ_=>rfl⟩,λM=>C _ ?_⟩,λO=>C _ ?_⟩⟩
  all_goals (rw [δ];unfold pn;omega)
 ·have e:k=s.size:=by omega
  subst e;unfold D4;refine ⟨?_,K⟩;congr 1;rw [mz];unfold oL BP;have E:(List.range (bs s).length).all (λi=>decide (pn ((bs s).getD i 0)) || (i !=0 && decide (wZ ((bs s).getD i 0))))=nk:=by rw [VA];intro i D;rw [G] at D;have:=hi i (WU.1 D);simp only [Xa,δ,VT,bne_iff_ne,ne_eq];exact this
  rw [E,Wz,wm];simp only [Bool.not_eq_true',decide_eq_false_iff_not,List.isEmpty_eq_false_iff];refine not_congr ⟨λe=>by rw [e];rfl,λe=>Ck (e.trans rfl)⟩
section
variable {α:Type} [Mem α] {F:PH}
def Si (n:Nat) (j:Ω) (f:Sl) (i:ξ) (R:VR) (a:Int) (F:PH):Prop:=((a<(f.len:Int)-> ∃g:Addr,f.qa5=V g/\0<=a/\a<(f.len:Int)/\∃b:Γ,b.size=n/\F.row (nV g (nX a*n)) b/\∃(h:Nat) (c d:Γ),i=.func (.func h) c d/\aF prog h=nk/\aj prog h (c++([nQ b]).toArray++d) F λv F=>∃e:Bool,v=(nW e)/\((e=nk-> R (rV .i64 a) F)/\(e=mD-> j (i64.wrap (a+(1:Int))) F)))/\(¬(a<(f.len:Int))-> R (rV .i64 (-1:Int)) F))
def qgv (n:Nat) (d:Sl) (e:ξ) (R:VR) (F:PH):Prop:=(∃(f:Nat->Ω) (c:Nat),f c (0:Int) F/\∀c a F,f c a F-> Si n (λb F=>∃g,g<c/\f g b F) d e R a F)
theorem BQ {s:Sl} {l:List α} (J:RL F s l) (E:0<Mem.n α) (Q:l.length<=1000000000) {k:Nat} {fst cap:Γ} (M:aF prog k=nk) (p:α->Bool)
  (O:∀x∈l,∀c B,F.le B->Mem.rep B x c->aj prog k (fst++([nQ c]).toArray++cap) B λr C=>r=nW (p x)/\B.le C):
  qgv (Mem.n α) s (.func (.func k) fst cap) (λr C=>∃i,r=U i/\(0<=i↔l.any p=nk)/\F.le C) F:=by
 have H:=J.len E;refine bD (Si (Mem.n α) · s (.func (.func k) fst cap) _) l.length (λk C=>F.le C/\(l.take k).any p=mD) ⟨au F,by simp⟩ ?_;rintro i B N hi ⟨w,A⟩ next;unfold Si;refine ⟨λg=> ?_,λK=> ?_⟩
 ·have g:i<l.length:=by omega
  obtain ⟨a,c,L,P,G⟩:=(J.le w).get E (N5 g);refine ⟨a,L,by omega,by omega,c,Mem.len G,by rw [N4];exact P,k,fst,cap,rfl,M,?_⟩;refine (O _ (Vc g) c B w G).mono ?_;rintro _ F2 ⟨rfl,D⟩;refine ⟨_,rfl,λh=> ?_,λh=> ?_⟩
  ·exact ⟨_,rfl,⟨λ_=>XK.2 ⟨_,Vc g,h⟩,λ_=>by omega⟩,aa w D⟩
  ·rw [aC g];refine next _ g ⟨aa w D,?_⟩;rw [W4 g,List.any_append,A];simp [h]
 ·have e:i=l.length:=by omega
  subst e;rw [wB] at A;exact ⟨_,rfl,⟨λh=>by omega,λh=>by rw [A] at h;cases h⟩,w⟩
end
theorem t8 {α:Type} [Mem α] {F:PH} {s:Sl} {l:List α} (h:RL F s l) (r:0<Mem.n α) {i:Int} (D:0<=i) (A:i<(s.len:Int)) {K:Addr->Prop}
  (k:∀a c x,l[i.toNat]? =V x->F.row (a.add (i.toNat*Mem.n α)) c->Mem.rep F x c->K a):∃a,s.qa5=V a/\0<=i/\i<(s.len:Int)/\K a:=by
 have w:=h.len r;have g:i.toNat<l.length:=by omega
 obtain ⟨a,c,B,E,C⟩:=h.get r (N5 g);exact ⟨a,B,D,A,k a c _ (N5 g) E C⟩
def iB (d:wa) (n:Nat):Prop:=chk d=0/\∀b∈d.1,b.v<n
open Classical in
def se (d:wa) (n:Nat):Bool:=decide (iB d n)
theorem cO {d:wa} {n:Nat}:se d n=nk↔iB d n:=by unfold se;simp
theorem w5 {d:wa} {n:Nat}:se d n=mD↔¬iB d n:=by unfold se;simp
theorem qcT:aF prog 202=nk:=by kernel_rfl
theorem gV {F:PH} {v:Γ} {d:wa} {n:Nat} (hd:DV F v d):ν 171 #[nQ v,U n] F λr D=>r=nW (se d n)/\F.le D:=by
 obtain ⟨s,rfl,A⟩:=hd;refine qc6 ?_;unfold OV;refine fresh λb2 F1 w q1 _=> ?_;refine fresh λW F2 G q2 _=> ?_;have q1:=G _ _ q1;have A:=A.le (aa w G);have w:=aa w G;refine ⟨_,rfl,ai q1,?_⟩;refine (lw (d:=d) ⟨s,rfl,A⟩).mono ?_;rintro _ E ⟨rfl,g⟩;refine ⟨_,rfl,λh=>⟨?_,aa w g⟩,λh=> ?_⟩
 ·have:se d n=mD:=w5.2 λM=>h M.1;rw [this]
 ·have h:chk d=0:=Classical.not_not.1 h;have Q:d.1.length<=4096:=by apply Classical.byContradiction;intro B;unfold chk at h;rw [Χ (by omega)] at h;omega
  refine ⟨_,ld (g _ _ q1) rfl,?_⟩;refine qe3 ?_;unfold Qi;have N:RL E s d.1:=(RL.brs.2 A).le g
  refine (show ν 231 #[s.v,.func (.func 202) #[] #[pk (V ⟨W,0,I⟩)]] E (λr D=>∃i,r=U i/\(0<=i↔d.1.any (λb=>decide ((n:Int)<=b.v))=nk)/\E.le D)
   from qei (BQ N (by decide) (by omega) qcT (λb=>decide ((n:Int)<=b.v)) λx hx c X C P=> ?_)).mono ?_
  ·rw [show c=aW x from P];refine qdf ?_;unfold O4;refine fresh λb F5 L q5 _=> ?_;exact ⟨_,ld q5 rfl,_,rfl,_,ld (L _ _ (C _ _ (g _ _ q2))) rfl,rfl,L⟩
  ·rintro _ X ⟨i,rfl,hi,C⟩;refine ⟨_,rfl,_,rfl,?_,aa w (aa g C)⟩;congr 1;rw [wm,cO];simp only [Bool.not_eq_true',decide_eq_false_iff_not];rw [hi,XK];constructor
   ·intro O;refine ⟨h,λb B=>Int.not_le.1 λK=>O ⟨b,B,by simpa using K⟩⟩
   ·rintro ⟨_,B⟩ ⟨b,H,J⟩;have:=B b H;simp at J;omega
def dM (g:Gr):Bool:=decide (64<g.qa4.length\/256<g.qa2.length\/4096<g.fils.length\/2000<g.qa1.length\/2000<g.qa0.length\/2000<g.lvs.length) || g.qa0.any λp=>decide (16<p.right.length\/16<p.lay.length)
theorem MS:aF prog 168=nk:=by kernel_rfl
theorem BR {F:PH} {v:Γ} {g:Gr} (J:GV F v g):ν 139 #[nQ v] F λr B=>r=nW (dM g)/\F.le B:=by
 obtain ⟨c,n,t,s,p,l,f,rfl,w⟩:=J;refine qds ?_;unfold OL;refine fresh λb1 A D q1 _=> ?_;have O:=w.c.len;have N:=w.t.len;have e3:=w.s.len;have W:=w.p.len;have Q:=w.l.len;have X:=w.f.len;have bad:(64<g.qa4.length\/256<g.qa2.length\/4096<g.fils.length\/2000<g.qa1.length\/2000<g.qa0.length\/2000<g.lvs.length)->(nW nk=nW (dM g)/\F.le A):=λh=>by refine ⟨?_,D⟩;unfold dM;rw [ε h,Bool.true_or]
 refine ⟨_,ld q1 rfl,λh=>bad (by omega),λE=>⟨_,ld q1 rfl,λh=>bad (by omega),λK=>⟨_,ld q1 rfl,λh=>bad (by omega),λH=>⟨_,ld q1 rfl,_,ld q1 rfl,_,ld q1 rfl,λh=>bad (by omega),λh4=>⟨_,ld q1 rfl,?_⟩⟩⟩⟩⟩;refine qeZ ?_;unfold Qg
 refine (show ν 199 #[p.v,.func (.func 168) #[] #[]] A (λr B=>∃i,r=U i/\(0<=i↔g.qa0.any (λp=>decide (16<p.right.length\/16<p.lay.length))=nk)/\A.le B)
  from qe2 (BQ (w.p.le D) (by decide) (by omega) MS (λp=>decide (16<p.right.length\/16<p.lay.length)) λx hx c P G L=> ?_)).mono ?_
 ·obtain ⟨r,n',l',rfl,E,K,H⟩:=L;refine qc3 ?_;unfold OS;refine fresh λb F5 M q5 _=> ?_;have O:=E.len;have N:=H.len;refine ⟨_,ld q5 rfl,_,ld q5 rfl,?_,M⟩;congr 1;rw [wm];simp only [δ];omega
 ·rintro _ P ⟨i,rfl,hi,G⟩;refine ⟨_,rfl,_,rfl,?_,aa D G⟩;congr 1;unfold dM;have C:¬(64<g.qa4.length\/256<g.qa2.length\/4096<g.fils.length\/2000<g.qa1.length\/2000<g.qa0.length\/2000<g.lvs.length):=by omega
  rw [η C,Bool.false_or,wm,δ];exact hi
structure Sz (g:Gr):Prop where
 c:∀s∈g.qa4,s.size<=1000000000
 t:∀t∈g.qa2,t.smp.size<=100000
 l:∀l∈g.lvs,l.ps.length<=1000000000
 f:∀f∈g.fils,f.qa2.length<=1000000000
def bG (l:List ο):Prop:=l.Nodup/\emp ∉ l
theorem fH {l:List ο} {s:ο}:bG (l++[s])↔bG l/\s≠emp/\s ∉ l:=by
 unfold bG;rw [VB];simp only [vj,vu,not_or];constructor
 ·rintro ⟨⟨g,_,h⟩,w,r⟩;exact ⟨⟨g,w⟩,λe=>r e.symm,λA=>h s A s rfl rfl⟩
 ·rintro ⟨⟨g,h⟩,w,r⟩;exact ⟨⟨g,by simp,λa C b B e=>r (by rw [<- B,<- e];exact C)⟩,h,λe=>w e.symm⟩
theorem mA {l:List ο} (h:bG l) (k:Nat):bG (l.take k):=⟨h.1.sublist (List.take_sublist k l),λg=>h.2 (YK g)⟩
theorem bE {α:Type} {l:List α} {k:Nat} {x:α} (h:l[k]? =V x):l.take (k+1)=l.take k++[x]:=by obtain ⟨g,rfl⟩:=N6.1 h;exact W4 g
theorem p5 {G F:PH} {As:List (Ψ)} {b m:Nat} {l:List ο} (h:St G F (seen m l.reverse::As)) (K:G.cell ⟨b,0,I⟩=V (.map (V m))) (s:ο) {R:VR}
  (k:∀C D,G.le C->St C D (seen m (l++[s]).reverse::As)->R (nW (decide (s≠emp/\s ∉ l))) D):
  ∃(A:Nat) (w g:Γ),zg b=.func (.func A) w g/\aF prog A=nk/\aj prog A (w++([(ph s)]).toArray++g) F R:=by
 refine ⟨_,_,_,rfl,qcS,?_⟩;have J:=St.callL (Bs:=[seen m l.reverse]) (Cs:=As) (Bs':=λ_ _=>[seen m (s::l.reverse)]) (P:=λr _=>r=nW (decide (s≠emp/\s ∉ l.reverse))) h λM H=>(BO H K s).mono λr D ⟨C,L,E,B⟩=>⟨C,L,E,B⟩;refine J.mono ?_;rintro r D ⟨C,rfl,E,B⟩;have:=k C D E (by rw [List.reverse_append];exact B);rw [show decide (s≠emp/\s ∉ l.reverse)=decide (s≠emp/\s ∉ l) by simp];exact this
def qcU:ο:=ByteArray.mk #[116,114,117,101]
def Sj:ο:=ByteArray.mk #[102,97,108,115,101]
def sg (s:ο):Prop:=oL s=nk/\s≠qcU/\s≠Sj
def oM (g:Gr):Prop:=(∀s∈g.qa4,sg s)/\bG g.qa4/\iB g.fam g.qa4.length/\g.fam.2≠0
open Classical in
theorem qg0 {F:PH} {v:Γ} {g:Gr} (hg:GV F v g) (hz:Sz g) (hl:g.qa4.length<=64):ν 140 #[nQ v] F λr L=>r=U (if oM g then 0 else 54)/\F.le L:=by
 obtain ⟨c,n,t,s,p,l,f,rfl,C⟩:=hg;have ec:=C.c.len;refine qdt ?_;unfold OM;refine fresh λb1 F1 l1 q1 _=> ?_;have C:=C.le l1;refine (iA F1).mono ?_;rintro _ F2 ⟨G2,bn,m,rfl,l2,a0,h⟩;refine ⟨_,rfl,_,ld (h.le _ _ (l2 _ _ q1)) rfl,?_⟩;have bad:∀{L},F1.le L->¬oM g->(U 54=U (if oM g then 0 else 54)/\F.le L):=λ{L} l A=>⟨by rw [Υ A],aa l1 l⟩;refine bD (wP · b1 (zg bn) c _) g.qa4.length (λk L=>∃G,G2.le G/\St G L [seen m (g.qa4.take k).reverse]/\(∀s∈g.qa4.take k,sg s)/\bG (g.qa4.take k))
  ⟨G2,au _,h,by simp,by simp [bG]⟩ ?_
 rintro k F3 N hk ⟨G3,Q,h,hi,O⟩ next;have w:=aa l2 Q;unfold wP;refine ⟨λM=> ?_,λa1=> ?_⟩
 ·have M:k<g.qa4.length:=by omega
  refine t8 ((C.c.le w).le h.le) (by decide) (by omega) (by omega) λa cc x P X hc=> ?_;rw [N4] at P X;rw [show cc= #[ph x] from hc] at X;have J:x∈g.qa4:=vO P;refine ⟨_,aE X rfl,?_⟩;refine h.runv (qg9 x (hz.c x J)) λG4 F4 E h=>⟨_,rfl,λK=> ?_,λK=>⟨λH=> ?_,λH=>⟨λD=> ?_,λD=> ?_⟩⟩⟩
  ·exact bad (aa w (aa E h.le)) λA=>by rw [(A.1 x J).1] at K;cases K
  ·exact bad (aa w (aa E h.le)) λA=>(A.1 x J).2.1 (by rw [mz] at H;exact ζ H)
  ·exact bad (aa w (aa E h.le)) λA=>(A.1 x J).2.2 (by rw [mz] at D;exact ζ D)
  ·refine p5 h (aK (aa Q E) a0) x λG5 F5 l5 h=> ?_;have W:=aa w (aa E l5);refine ⟨_,rfl,λB=> ?_,λB=> ?_⟩
   ·refine bad (aa W h.le) λA=> ?_;have:=mA A.2.1 (k+1);rw [bE P,fH] at this;rw [ε this.2] at B;cases B
   ·rw [aC M];have B:x≠emp/\x ∉ g.qa4.take k:=by simpa using B
    rw [<- bE P] at h;refine next _ M ⟨G5,aa Q (aa E l5),h,λs C=> ?_,?_⟩
    ·rw [bE P] at C;rcases vj.1 C with C|C
     ·exact hi s C
     ·rw [vu.1 C];rw [mz] at H D;exact ⟨by simpa using K,ι H,ι D⟩
    ·rw [bE P,fH];exact ⟨O,B⟩
 ·have e:k=g.qa4.length:=by omega
  subst e;rw [wB] at hi O;unfold DX;refine ⟨#[n.v,U g.fam.2],rfl,ga (h.le _ _ (w _ _ q1)) rfl,_,ld (h.le _ _ (w _ _ q1)) rfl,?_⟩;dsimp only;rw [ec];refine h.runv (gV (d:=g.fam) (DV.mk (C.n.le w))) λG4 F4 E h=>⟨_,rfl,λK=> ?_,λK=> ?_⟩
  ·refine bad (aa w (aa E h.le)) λA=> ?_;have:se g.fam g.qa4.length=nk:=cO.2 A.2.2.1;rw [this] at K;cases K
  ·refine ⟨_,ld (h.le _ _ (E _ _ (w _ _ q1))) rfl,λh0=> ?_,λh0=> ?_⟩
   ·exact bad (aa w (aa E h.le)) λA=>A.2.2.2 h0
   ·refine ⟨?_,aa l1 (aa w (aa E h.le))⟩;rw [Χ ⟨hi,O,cO.1 (by simpa using K),h0⟩]
def ji (g:Gr):Prop:=bG g.qa1/\0<=g.start/\g.start<g.qa1.length
open Classical in
theorem qhf {F:PH} {v:Γ} {g:Gr} (hg:GV F v g) (hl:g.qa1.length<=2000):ν 142 #[nQ v] F λr B=>r=U (if ji g then 0 else 50)/\F.le B:=by
 obtain ⟨c,n,t,s,p,l,f,rfl,H⟩:=hg;have es:=H.s.len;refine qcZ ?_;unfold OO;refine fresh λb1 Q P q1 _=> ?_;have H:=H.le P;refine (iA Q).mono ?_;rintro _ F2 ⟨G2,bn,m,rfl,X,O,h⟩;refine ⟨_,rfl,_,ld (h.le _ _ (X _ _ q1)) rfl,?_⟩;have bad:∀{B},Q.le B->¬ji g->(U 50=U (if ji g then 0 else 50)/\F.le B):=λ{B} l C=>⟨by rw [Υ C],aa P l⟩;refine bD (wR · b1 (zg bn) s _) g.qa1.length (λk B=>∃G,G2.le G/\St G B [seen m (g.qa1.take k).reverse]/\bG (g.qa1.take k))
  ⟨G2,au _,h,by simp [bG]⟩ ?_
 rintro k F3 N hk ⟨G3,K,h,E⟩ next;have A:=aa X K;unfold wR;refine ⟨λD=> ?_,λa0=> ?_⟩
 ·have D:k<g.qa1.length:=by omega
  refine t8 ((H.s.le A).le h.le) (by decide) (by omega) (by omega) λa cc x J M hc=> ?_;rw [N4] at J M;rw [show cc= #[ph x] from hc] at M;refine ⟨_,aE M rfl,?_⟩;refine p5 h (aK K O) x λG5 F5 W h=> ?_;have L:=aa A W;refine ⟨_,rfl,λw=> ?_,λw=> ?_⟩
  ·refine bad (aa L h.le) λC=> ?_;have:=mA C.1 (k+1);rw [bE J,fH] at this;rw [ε this.2] at w;cases w
  ·rw [aC D];have w:x≠emp/\x ∉ g.qa1.take k:=by simpa using w
   rw [<- bE J] at h;refine next _ D ⟨G5,aa K W,h,?_⟩;rw [bE J,fH];exact ⟨E,w⟩
 ·have e:k=g.qa1.length:=by omega
  subst e;rw [wB] at E;unfold DZ;have q:=h.le _ _ (A _ _ q1);refine ⟨_,ld q rfl,λh0=>bad (aa A h.le) λC=>by have:=C.2.1;omega,λh0=>⟨_,ld q rfl,_,ld q rfl,λh1=>bad (aa A h.le) λC=>by have:=C.2.2;omega,λh1=>⟨?_,aa P (aa A h.le)⟩⟩⟩;rw [Χ ⟨E,by omega,by omega⟩]
inductive Scl:TypeId->Value->Value->Bool->Prop
 |int {t:TypeId} {k:IntKind} {a b:Int}:prog.underlying t=V (.int k)->Scl t (.int k a) (.int k b) (decide (a=b))
 |bool {t:TypeId} {a b:Bool}:prog.underlying t=V .bool->Scl t (.bool a) (.bool b) (decide (a=b))
 |str {t:TypeId} {a b:ο}:prog.underlying t=V .string->Scl t (.string a) (.string b) (decide (a=b))
theorem Scl.eq {t:TypeId} {v w:ξ} {r:Bool} (h:Scl t v w r) (d:Nat) (F:PH):qX prog (Op.equalIn (d+1) t v w) F r:=by
 cases h with
 | @int k a b g=>exact Fl t k g d a b
 | @bool a b g=>simp only [Op.equalIn,am];refine ⟨_,(az g _).2 rfl,?_⟩;show (a==b)=decide (a=b);cases a<;>cases b<;>rfl
 | @str a b g=>simp only [Op.equalIn,am];refine ⟨_,(az g _).2 rfl,?_⟩;show (a==b)=decide (a=b);rw [wm];simp
theorem Scl.part {t:TypeId} {v w:ξ} {r:Bool} (h:Scl t v w r) {cs:Γ} {off:Nat} {x:ξ} (B:cs[off]? =V x) (F:PH):qX prog (part t cs off) F x:=by
 have A:∀d,prog.underlying t=V d->((∃k,d=.int k)\/d=.bool\/d=.string)->qX prog (Go.part t cs off) F x:=λd hd C=>by unfold Go.part;simp only [am];refine ⟨mD,(dr hd _).2 (by rcases C with ⟨k,rfl⟩|rfl|rfl<;>rfl),?_⟩;simp only [VQ,if_false,B];rfl
 cases h with
 | @int k a b g=>exact A _ g (.inl ⟨k,rfl⟩)
 | @bool a b g=>exact A _ g (.inr (.inl rfl))
 | @str a b g=>exact A _ g (.inr (.inr rfl))
theorem sq {t:TypeId} {fs:Array Field} (ht:prog.underlying t=V (.struct fs)) (hsi:prog.stoodInHeld t=mD) {cs ds:Γ} (e:Field->Bool)
  (hall:∀f∈fs.toList,f.name≠ "_"/\∃v w,cs[f.offset]? =V v/\ds[f.offset]? =V w/\Scl f.type v w (e f)) (F:PH):
  qX prog (Op.equal t (nQ cs) (nQ ds)) F (fs.toList.all e):=by
 unfold Op.equal Op.maxDepth;show qX prog (Op.equalIn (9998+1+1) t _ _) _ _;unfold Op.equalIn;simp only [am];refine ⟨_,(az ht _).2 rfl,?_⟩;dsimp only;rw [am];refine ⟨prog,rfl,?_⟩;rw [hsi];simp only [VQ,if_false];rw [<- Array.forIn_toList,am];refine ⟨_,Cq _ e _ λf hf=> ?_,?_⟩
 ·obtain ⟨h1,v,w,h2,h3,h4⟩:=hall f hf;rw [Χ h1];simp only [am];refine ⟨_,h4.part h2 F,_,h4.part h3 F,_,h4.eq 9998 F,?_⟩;cases e f<;>rfl
 ·cases fs.toList.all e<;>rfl
theorem MT (x y:Sy) (F:PH):qX prog (Op.equal 130 (nQ x.arr) (nQ y.arr)) F (decide (x=y)):=by
 have h:=sq (t:=130) underlying130 (by kernel_rfl) (cs:=x.arr) (ds:=y.arr) (λf=>if f.offset=0 then decide (x.t=y.t) else decide (x.i=y.i)) (λf g=>by
  simp only [tS,WO,or_false] at g;rcases g with rfl|rfl
  ·exact ⟨by decide,_,_,rfl,rfl,.bool underlying4⟩
  ·exact ⟨by decide,_,_,rfl,rfl,.int underlying3⟩) F
 refine cast ?_ h;congr 1;cases x;cases y;rw [wm];simp [Sy.mk.injEq]
abbrev Sco.arr (s:Sco):Γ:= #[nW s.o,U s.d,U s.k,U s.u,U s.a]
theorem O7 (x y:Sco) (F:PH):qX prog (Op.equal 60 (nQ x.arr) (nQ y.arr)) F (decide (x=y)):=by
 have h:=sq (t:=60) underlying60 (by kernel_rfl) (cs:=x.arr) (ds:=y.arr)
  (λf=>if f.offset=0 then decide (x.o=y.o) else if f.offset=1 then decide (x.d=y.d) else if f.offset=2 then decide (x.k=y.k) else if f.offset=3 then decide (x.u=y.u) else decide (x.a=y.a)) (λf g=>by
  simp only [tS,WO,or_false] at g;rcases g with rfl|rfl|rfl|rfl|rfl
  ·exact ⟨by decide,_,_,rfl,rfl,.bool underlying4⟩
  all_goals exact ⟨by decide,_,_,rfl,rfl,.int underlying3⟩) F
 refine cast ?_ h;congr 1;cases x;cases y;rw [wm];simp [Sco.mk.injEq]
def mB (g:Gr) (s:Sy):Prop:=0<=s.i/\(s.t=mD->s.i<g.qa1.length)/\(s.t=nk->∃t,g.qa2[s.i.toNat]? =V t/\t.cls=0)
instance (g:Gr) (s:Sy):Decidable (mB g s):=by
 have:Decidable (∃t,g.qa2[s.i.toNat]? =V t/\t.cls=0):=by
  cases h:g.qa2[s.i.toNat]? with
  |none=>exact isFalse λ⟨t,h1,_⟩=>by cases h1
  |some t=>exact decidable_of_iff (t.cls=0) ⟨λe=>⟨t,rfl,e⟩,λ⟨u,h1,h2⟩=>by cases h1;exact h2⟩
 unfold mB;exact inferInstance
theorem qim {F:PH} {v:Γ} {g:Gr} (L:GV F v g) (x:Sy):ν 175 #[nQ v,nQ x.arr] F λr N=>r=nW (decide (mB g x))/\F.le N:=by
 obtain ⟨c,n,t,s,p,l,f,rfl,G⟩:=L;refine qc8 ?_;unfold OX;refine fresh λb2 Q C q1 _=> ?_;refine fresh λb3 F2 K q2 _=> ?_;have q1:=K _ _ q1;have C:=aa C K;have es:=G.s.len;have W:=G.t.len;obtain ⟨D,H⟩:=x;have no:¬mB g ⟨D,H⟩->(nW mD=nW (decide (mB g ⟨D,H⟩))/\F.le F2):=λh=>⟨by rw [η h],C⟩;refine ⟨_,ld q2 rfl,λh=>⟨_,ld q2 rfl,λA=>⟨_,ld q2 rfl,_,ld q1 rfl,?_,C⟩,λA=>no λw=>A w.1⟩,λh=>⟨_,ld q2 rfl,λA=>⟨_,ld q2 rfl,_,ld q1 rfl,λB=>⟨_,ld q1 rfl,_,ld q2 rfl,?_⟩,λB=>no λw=> ?_⟩,λA=>no λw=>A w.1⟩⟩
 ·have h:D=mD:=by simpa using h
  subst h;congr 1;rw [wm,decide_eq_true_eq,decide_eq_true_eq];exact ⟨λB=>⟨A,λ_=>by dsimp only at B ⊢;omega,λh=>(by cases h)⟩,λw=>by have:=w.2.1 rfl;dsimp only at this ⊢;omega⟩
 ·have h:D=nk:=by simpa using h
  subst h;refine t8 (G.t.le C) (by decide) A B λa cc y J P O=> ?_;obtain ⟨X,nn,rfl,_,_⟩:=O;refine ⟨_,aM P rfl,?_,C⟩;congr 1;rw [wm,δ,δ]
  exact ⟨λB=>⟨A,λh=>(by cases h),λ_=>⟨y,J,B⟩⟩,λw=>by
   obtain ⟨z,E,M⟩:=w.2.2 rfl;rw [J] at E;cases E
   exact M⟩
 ·have h:D=nk:=by simpa using h
  subst h;obtain ⟨z,E,_⟩:=w.2.2 rfl;have:=(N6.1 E).1;dsimp only at this B;omega
def d7 (r:List Sy) (k v lo hi:Int):Prop:=(k=0/\v=0)\/(0<k/\k<=r.length/\(∃s,r[(k - 1).toNat]? =V s/\s.t=nk)/\lo<=v/\v<=hi)
def BS (r:List Sy) (x:Cn):Prop:=1<=x.k/\x.k<=4/\0<=x.a/\x.a<r.length/\0<=x.b/\x.b<r.length/\(x.k=1->x.b=0)
def km:Sco:=⟨mD,0,0,0,0⟩
def BT (p:Pr):Prop:=p.right.length=3/\p.rank=0/\p.lay=[]/\p.sco=km/\(∃s,p.right[0]? =V s/\s.t=nk)/\p.right[1]? =V ⟨mD,p.left⟩/\(∃s,p.right[2]? =V s/\s.t=nk)
def lu (p:Pr):Prop:=(∀x∈p.lay,BS p.right x)/\d7 p.right p.sco.d p.sco.k 1 7/\d7 p.right p.sco.u p.sco.a 0 255/\(p.brk=nk->BT p)
open Classical in
theorem sC {F:PH} {b:Nat} {x:Pr} {r n l:Sl} (J:RL F r x.right) (q:F b=V (Y (x.arr r n l) 64)) (k v lo hi:Int) (Q:x.right.length<=16):
  ν 210 #[U k,U v,U lo,U hi,pk (V ⟨b,0,I⟩)] F λres N=>res=nW (decide (d7 x.right k v lo hi))/\F.le N:=by
 refine qdh ?_;unfold O6;have P:=J.len;have no:¬d7 x.right k v lo hi->(nW mD=nW (decide (d7 x.right k v lo hi))/\F.le F):=λh=>⟨by rw [η h],au F⟩;have g:F.cell (nV (oB b 0 I) 2)=V r.v:=by rw [aI];exact ld q rfl
 refine ⟨λG=>⟨?_,au F⟩,λG=>⟨λE=>⟨_,rfl,_,g,λK=>⟨_,g,?_⟩,λK=>no ?_⟩,λE=>no ?_⟩⟩
 ·congr 1;rw [wm,δ,δ];exact ⟨λh=> .inl ⟨G,h⟩,λh=>h.elim (λh=>h.2) λh=>by omega⟩
 ·have L:i64.wrap (k - 1)=k - 1:=aJ (by omega);rw [L];refine t8 J (by decide) (by omega) (by omega) λa c s H w M=> ?_;rw [show c=s.arr from M] at w;refine ⟨_,aE w rfl,λC=>⟨λD=>⟨?_,au F⟩,λD=>no ?_⟩,λC=>no ?_⟩
  ·congr 1;rw [wm,δ,δ];exact ⟨λh=> .inr ⟨E,by omega,⟨s,H,C⟩,D,h⟩,λh=>h.elim (λh=>by omega) λh=>h.2.2.2.2⟩
  ·rintro (h|h)
   ·omega
   ·exact D h.2.2.2.1
  ·rintro (h|h)
   ·omega
   ·obtain ⟨O,A,B⟩:=h.2.2.1;rw [H] at A;cases A;rw [C] at B;cases B
 ·rintro (h|h)
  ·omega
  ·omega
 ·rintro (h|h)
  ·omega
  ·omega
theorem sD {F:PH} {b:Nat} {x:Pr} {r n l:Sl} (B:RL F r x.right) (q:F b=V (Y (x.arr r n l) 64)) (i:Int):
  ν 209 #[U i,pk (V ⟨b,0,I⟩)] F λres A=>res=nW (decide (0<=i/\i<x.right.length))/\F.le A:=by
 refine qdg ?_;unfold O5;have C:=B.len;have g:F.cell (nV (oB b 0 I) 2)=V r.v:=by rw [aI];exact ld q rfl
 refine ⟨λh=>⟨_,rfl,_,g,?_,au F⟩,λh=>⟨?_,au F⟩⟩
 ·congr 1;rw [wm,δ,δ];omega
 ·rw [η (λw=>h w.1)]
open Classical in
theorem qhC {F:PH} {v:Γ} {x:Pr} (A:Mem.rep F x v) (h1:x.right.length<=16) (h2:x.lay.length<=16):ν 177 #[nQ v] F λr G=>r=nW (decide (lu x))/\F.le G:=by
 obtain ⟨r,n,l,rfl,X,hn,hl⟩:=A;have er:=X.len;have el:=hl.len;refine qc9 ?_;unfold OY;refine fresh λb1 F1 l1 q1 _=>⟨_,ld q1 rfl,?_⟩;have X:=X.le l1;have hl:=hl.le l1;have no:∀{G:PH},F1.le G->¬lu x->(nW mD=nW (decide (lu x))/\F.le G):=λ{G} l h=>⟨by rw [η h],aa l1 l⟩;refine bD (wX · b1 l _) x.lay.length (λk G=>F1.le G/\∀y∈x.lay.take k,BS x.right y) ⟨au _,by simp⟩ ?_;rintro k F2 N hk ⟨l2,hi⟩ next;unfold wX;refine ⟨λa1=> ?_,λa3=> ?_⟩
 ·have a1:k<x.lay.length:=by omega
  refine t8 (hl.le l2) (by decide) (by omega) (by omega) λa c y hy g hc=> ?_;rw [show c=y.arr from hc] at g;rw [N4] at hy g;have a2:y∈x.lay:=vO hy;refine ⟨_,rfl,g,?_⟩;refine (St.start F2).new λb4 F3 h=> ?_;refine h.put0 (w':=y.arr) rfl rfl (by simp [ak]) λQ h=> ?_;obtain ⟨_,_,q4,h⟩:∃D,F2.le D/\D b4=V (Y y.arr 260)/\D.le Q:=h.pinb (K:=λQ=>∃D,F2.le D/\D b4=V (Y y.arr 260)/\D.le Q) λD l q h=>⟨D,l,q,h.le⟩;have C:F2.le Q:=aa ‹F2.le _› h;have q4:=h _ _ q4;have C:=aa l2 C;have W:BS x.right y->∀F5,F1.le F5->pY N b1 l (k:Int) (λr G=>r=nW (decide (lu x))/\F.le G) F5:=λhg F5 E=>by
   unfold pY;rw [aC a1];refine next _ a1 ⟨E,λz P=> ?_⟩;rw [bE hy] at P;rcases vj.1 P with P|P
   ·exact hi z P
   ·rw [vu.1 P];exact hg
  have bad:∀{G:PH},F1.le G->¬BS x.right y->(nW mD=nW (decide (lu x))/\F.le G):=λ{G} l h=>no l λhd=>h (hd.1 y a2);refine ⟨_,ld q4 rfl,λh=>bad C λA=>by have:=A.1;omega,λk1=>⟨_,ld q4 rfl,λh=>bad C λA=>by have:=A.2.1;omega,λk2=>⟨_,ld q4 rfl,?_⟩⟩⟩;refine (sD (X.le C) (C _ _ q1) y.a).mono ?_;rintro _ F5 ⟨rfl,E⟩;refine ⟨_,rfl,λh=>bad (aa C E) λA=> ?_,λM=>⟨_,ld (E _ _ q4) rfl,?_⟩⟩
  ·rw [ε ⟨A.2.2.1,A.2.2.2.1⟩] at h;cases h
  refine (sD (X.le (aa C E)) (E _ _ (C _ _ q1)) y.b).mono ?_;rintro _ F6 ⟨rfl,l6⟩;have B:=aa C (aa E l6);have q6:=l6 _ _ (E _ _ q4);refine ⟨_,rfl,λh=>bad B λA=> ?_,λJ=>⟨_,ld q6 rfl,λk5=>⟨_,ld q6 rfl,λk6=>bad B λA=>k6 (A.2.2.2.2.2.2 k5),λk6=>W ?_ _ B⟩,λk5=>W ?_ _ B⟩⟩
  ·rw [ε ⟨A.2.2.2.2.1,A.2.2.2.2.2.1⟩] at h;cases h
  ·simp at M J;exact ⟨by omega,by omega,M.1,M.2,J.1,J.2,λ_=>by omega⟩
  ·simp at M J;exact ⟨by omega,by omega,M.1,M.2,J.1,J.2,λh=>absurd h k5⟩
 ·have e:k=x.lay.length:=by omega
  subst e;rw [wB] at hi;unfold D5;refine ⟨x.sco.arr,rfl,ga (l2 _ _ q1) rfl,?_⟩;refine (St.start F2).new λb7 F3 h=> ?_;refine h.put0 (w':=x.sco.arr) rfl rfl (by simp [ak]) λQ h=> ?_;obtain ⟨_,_,q4,h⟩:∃D,F2.le D/\D b7=V (Y x.sco.arr 60)/\D.le Q:=h.pinb (K:=λQ=>∃D,F2.le D/\D b7=V (Y x.sco.arr 60)/\D.le Q) λD l q h=>⟨D,l,q,h.le⟩;have C:F2.le Q:=aa ‹F2.le _› h;have q4:=h _ _ q4;have C:=aa l2 C;refine ⟨_,ld q4 rfl,_,ld q4 rfl,?_⟩;refine (sC (X.le C) (C _ _ q1) x.sco.d x.sco.k 1 7 h1).mono ?_;rintro _ F5 ⟨rfl,E⟩;refine ⟨_,rfl,λh=>no (aa C E) λA=> ?_,λM=>⟨_,ld (E _ _ q4) rfl,_,ld (E _ _ q4) rfl,?_⟩⟩
  ·rw [ε A.2.1] at h;cases h
  refine (sC (X.le (aa C E)) (E _ _ (C _ _ q1)) x.sco.u x.sco.a 0 255 h1).mono ?_;rintro _ F6 ⟨rfl,l6⟩;have B:=aa C (aa E l6);have q6:=l6 _ _ (E _ _ q4);have p1:=B _ _ q1;refine ⟨_,rfl,λh=>no B λA=> ?_,λJ=> ?_⟩
  ·rw [ε A.2.2.1] at h;cases h
  have M:d7 x.right x.sco.d x.sco.k 1 7:=by simpa using M
  have J:d7 x.right x.sco.u x.sco.a 0 255:=by simpa using J
  refine ⟨_,ld p1 rfl,λhb=>⟨?_,aa l1 B⟩,λhb=> ?_⟩
  ·rw [ε ⟨hi,M,J,λh=>by rw [h] at hb;cases hb⟩]
  have hb:x.brk=nk:=by simpa using hb
  have H:¬BT x->(nW mD=nW (decide (lu x))/\F.le F6):=λh=>no B λA=>h (A.2.2.2 hb);refine ⟨_,ld p1 rfl,λh=>H λA=>h (by have:=A.1;omega),λk5=>⟨_,ld p1 rfl,λh=>H λA=>h A.2.1,λk6=>⟨_,ld p1 rfl,λh=>H λA=> ?_,λk7=>⟨_,rfl,ai q6,_,λF=>O7 x.sco km F,λh=>H λA=> ?_,λk8=> ?_⟩⟩⟩⟩
  ·have:=A.2.2.1;rw [this] at el;simp at el;omega
  ·rw [ε A.2.2.2.1] at h;cases h
  have k8:x.sco=km:=by simpa using k8
  have a0:=X.le B;refine ⟨_,ld p1 rfl,t8 a0 (by decide) (by omega) (by omega) λa c y hy g hc=> ?_⟩;rw [show c=y.arr from hc] at g;refine ⟨_,aE g rfl,λk9=>⟨_,ld p1 rfl,t8 a0 (by decide) (by omega) (by omega) λa c z P g hc=> ?_⟩,λk9=>H λA=> ?_⟩
  ·rw [show c=z.arr from hc] at g;refine ⟨_,rfl,g,_,ld p1 rfl,_,λF=>MT z ⟨mD,x.left⟩ F,λO=>⟨_,ld p1 rfl,t8 a0 (by decide) (by omega) (by omega) λa c w hw g hc=> ?_⟩,λO=>H λA=> ?_⟩
   ·rw [show c=w.arr from hc] at g;refine ⟨_,aE g rfl,?_,aa l1 B⟩;have O:z=⟨mD,x.left⟩:=by simpa using O
    subst O;congr 1;cases hwt:w.t with
    |true=>refine (ε ⟨hi,M,J,λ_=>⟨by omega,Classical.not_not.1 k6,?_,k8,⟨y,hy,k9⟩,P,⟨w,hw,hwt⟩⟩⟩).symm;exact Wm (by omega)
    |false=>refine (η λA=> ?_).symm;obtain ⟨s,hs,L⟩:=(A.2.2.2 hb).2.2.2.2.2.2;rw [show x.right[2]? =V w from hw] at hs;cases hs;rw [hwt] at L;cases L
   ·have e:V z=_:=P.symm.trans A.2.2.2.2.2.1;cases e;simp at O
  ·obtain ⟨s,hs,L⟩:=A.2.2.2.2.1;have e:V y=_:=hy.symm.trans hs;cases e;rw [k9] at L;cases L
theorem St.var {G F:PH} {As:List (Ψ)} (h:St G F As) {n:Nat} {z w:Γ} {e:TypeId} {K:Nat->Ψ} (r:∀x∈w.toList,ak x)
  (k:∀b g A,G.le g->g b=V (Y w e)->St g A As->K b A) (C:z.size=n:=by rfl) (B:w.size=n:=by rfl):∀b,F b=I->xJ (F.set b (Y z e)) λF=>aA F (oB b 0 I) n w (K b):=by
 refine h.new λb D h=> ?_;refine h.put0 B C r λF2 h=> ?_;exact h.pinb λg l q h=>k b g F2 l q h
theorem var1 {F:PH} {n:Nat} {z w:Γ} {e:TypeId} {K:Nat->Ψ} (r:∀x∈w.toList,ak x)
  (k:∀b g,F.le g->g b=V (Y w e)->K b g) (B:z.size=n:=by rfl) (A:w.size=n:=by rfl):∀b,F b=I->xJ (F.set b (Y z e)) λF=>aA F (oB b 0 I) n w (K b):=
 (St.start F).var r (λb _ g l q h=>k b g (aa l h.le) (h.le _ _ q)) B A
theorem St.ix {α:Type} [Mem α] {G F:PH} {As:List (Ψ)} (h:St G F As) {s:Sl} {l:List α} (D:RL G s l) (w:0<Mem.n α) {i:Int} (B:0<=i) (g:i<(s.len:Int)) {K:Addr->Prop}
  (k:∀a c x,l[i.toNat]? =V x->F.row (a.add (i.toNat*Mem.n α)) c->Mem.rep G x c->K a):∃a,s.qa5=V a/\0<=i/\i<(s.len:Int)/\K a:=
 t8 D w B g λa c x r C A=>k a c x r (aN h.le C) A
section
variable {K:Type} [DecidableEq K] {enc:K->ξ} {f:K->Option ξ} {m:Nat} {G F:PH} {As:List (Ψ)} {t:TypeId} {z:ξ}
def W2 (m:Nat) (enc:K->ξ) (f:K->Option ξ):Ψ:=λH=>∃o,H m=V o/\dW enc f o
theorem St.newMap (h:St G F As) (enc:K->ξ) {Q:Nat->Ψ} (k:∀b w,St G w (W2 b enc (λ_=>I)::As)->Q b w):∀b,F b=I->xJ (F.set b (.map #[] 0)) (Q b):=λb r=>by
 refine tR (k b _ (h.push (H:=PH.set (λ_=>I) b (.map #[] 0)) ⟨_,aq _ _ _,dW.empty enc⟩ (λx g=> ?_) (λx p g=> ?_) (ae _ r)))
 ·by_cases e:x=b
  ·rw [e];exact r
  ·rw [aw _ _ e] at g;exact absurd rfl g
 ·by_cases e:x=b
  ·rw [e,aq] at g ⊢;exact g
  ·rw [aw _ _ e] at g;cases g
theorem St.lookAt (h:St G F As) {i:Nat} (hi:As[i]? =V (W2 m enc f)) (r:fY prog t enc z) (k:K) (ok:Bool):qX prog (Instr.lookup t (.map (V m)) (enc k) ok) F (if ok then .tuple #[(f k).getD z,nW (f k).isSome] else (f k).getD z):=by obtain ⟨H,⟨o,g,w⟩,_,A⟩:=h.get hi;exact bL r (A _ _ g) w k ok
theorem St.updAt (h:St G F As) (i:Nat) (hi:As[i]? =V (W2 m enc f)) (E:fY prog t enc z) (k:K) (v:ξ) {Q:Unit->Ψ} (J:∀D,St G D (As.set i (W2 m enc λk'=>if k'=k then V v else f k'))->Q () D):
  aG prog (Instr.mapUpdate t (.map (V m)) (enc k) v) F Q:=by
 obtain ⟨H,⟨o,w,L⟩,N,C,M⟩:=h.set (A':=W2 m enc λk'=>if k'=k then V v else f k') hi;refine bj E (C _ _ w) L k v λA r=>J _ ?_;refine M (H.set m A) _ ⟨A,aq _ _ _,r⟩ (λx g=> ?_) (λx p g=> ?_) (λx p g B=> ?_)
 ·by_cases e:x=m
  ·rw [e,w];exact .inl (by simp)
  ·rw [aw _ _ e] at g;exact .inl g
 ·by_cases e:x=m
  ·rw [e,aq] at g ⊢;exact g
  ·rw [aw _ _ e] at g ⊢;exact C _ _ g
 ·have e:x≠m:=λe=>by rw [e,w] at B;cases B
  rw [aw _ _ e];exact g
end
def MU (g:Gr) (done:List ο) (p:Pr):Prop:=p.name≠emp/\p.name ∉ done/\iB p.cond g.qa4.length/\-1<=p.rank/\p.rank<=1/\lu p
def jj (g:Gr) (p:Pr):Prop:=mB g ⟨mD,p.left⟩/\∀s∈p.right,mB g s
open Classical in
def eG (g:Gr) (done:List ο):List Pr->Int
 |[]=>0
 |p::l=>if ¬jj g p then 50 else if ¬MU g done p then 52 else eG g (done++[p.name]) l
theorem fK {α:Type} {l:List α} {k:Nat} {x:α} (h:l[k]? =V x):l.drop k=x::l.drop (k+1):=by obtain ⟨g,rfl⟩:=N6.1 h;exact XJ g
theorem MV:aF prog 174=nk:=by kernel_rfl
theorem sE {F:PH} {b:Nat} {v:Γ} {g:Gr} (w:GV F v g) (q:F b=V (Y v 39)) (x:Sy):ν 174 #[nQ x.arr,pk (V ⟨b,0,I⟩)] F λr B=>r=nW (!decide (mB g x))/\F.le B:=by refine qc7 ?_;unfold OW;refine fresh λD C h q1 _=>⟨_,rfl,v,w.size,ai (h _ _ q),_,rfl,ai q1,?_⟩;refine (qim (w.le h) x).mono ?_;rintro _ F2 ⟨rfl,A⟩;exact ⟨_,rfl,rfl,aa h A⟩
theorem fL {g:Gr} (h:dM g=mD):g.qa4.length<=64/\g.qa2.length<=256/\g.fils.length<=4096/\g.qa1.length<=2000/\g.qa0.length<=2000/\g.lvs.length<=2000/\∀p∈g.qa0,p.right.length<=16/\p.lay.length<=16:=by unfold dM at h;rw [Bool.or_eq_false_iff,decide_eq_false_iff_not,List.any_eq_false] at h;obtain ⟨A,w⟩:=h;refine ⟨by omega,by omega,by omega,by omega,by omega,by omega,λp r=> ?_⟩;have:=w p r;simp only [δ] at this;omega
open Classical in
theorem qha {F:PH} {v:Γ} {g:Gr} (hg:GV F v g) (hl:dM g=mD):ν 143 #[nQ v] F λr E=>r=U (eG g [] g.qa0)/\F.le E:=by
 obtain ⟨_,_,_,_,b2,_,a5⟩:=fL hl;have L:=hg;obtain ⟨c,n,t,s,p,l,f,rfl,hs⟩:=hg;have ec:=hs.c.len;have ep:=hs.p.len;refine qc0 ?_;unfold OP;refine fresh λb1 F1 l1 q1 _=> ?_;have hs:=hs.le l1;have L:=L.le l1;refine (iA F1).mono ?_;rintro _ F2 ⟨G2,bn,m,rfl,l2,a3,h⟩;refine ⟨_,rfl,_,ld (h.le _ _ (l2 _ _ q1)) rfl,?_⟩;refine bD (wS · b1 (zg bn) p _) g.qa0.length (λk E=>∃G,G2.le G/\St G E [seen m ((g.qa0.take k).map Pr.name).reverse]/\eG g [] g.qa0=eG g ((g.qa0.take k).map Pr.name) (g.qa0.drop k))
  ⟨G2,au _,h,by simp⟩ ?_
 rintro k F3 N hk ⟨G3,l3,h,hE⟩ next;have C:=aa l2 l3;unfold wS;refine ⟨λO=> ?_,λa8=> ?_⟩
 ·have O:k<g.qa0.length:=by omega
  refine h.ix (hs.p.le C) (by decide) (by omega) (by omega) λa cc x hx hr hc=> ?_;rw [N4] at hx;have a1:x∈g.qa0:=vO hx;obtain ⟨a7,a4⟩:=a5 x a1;have K:=hE;rw [fK hx,eG] at K;have a0:=Mem.st hc;have a2:=hc;obtain ⟨rr,nn,ll,rfl,h1,h2,h3⟩:=hc;refine ⟨x.arr rr nn ll,rfl,hr,?_⟩;refine h.var a0 λb5 G4 F4 l4 q5 h=> ?_;have J:∀{E},G3.le E->¬jj g x->(U 50=U (eG g [] g.qa0)/\F.le E):=λ{E} l D=>⟨by rw [K,Χ D],aa l1 (aa C l)⟩;have B:∀{E},G3.le E->jj g x->¬MU g ((g.qa0.take k).map Pr.name) x->(U 52=U (eG g [] g.qa0)/\F.le E):=λ{E} l h1 D=>⟨by rw [K,Υ (λh=>h h1),Χ D],aa l1 (aa C l)⟩;refine ⟨_,ld (h.le _ _ q5) rfl,?_⟩;refine h.runv (sE (x:=⟨mD,x.left⟩) (L.le (aa C l4)) (l4 _ _ (C _ _ q1))) λG5 F5 l5 h=>⟨_,rfl,λA=>J (aa l4 (aa l5 h.le)) λD=> ?_,λA=>⟨_,ld (h.le _ _ (l5 _ _ q5)) rfl,?_⟩⟩
  ·rw [ε D.1] at A;cases A
  have a6:mB g ⟨mD,x.left⟩:=by simpa using A
  have w:=aa l4 l5;have sp:ν 176 #[rr.v,.func (.func 174) #[] #[pk (V ⟨b1,0,I⟩)]] G5 λr E=>r=nW (x.right.any λs=> !decide (mB g s))/\G5.le E:=by
   refine qe0 ?_;unfold Qh
   refine (show ν 208 #[rr.v,.func (.func 174) #[] #[pk (V ⟨b1,0,I⟩)]] G5 (λr E=>∃i,r=U i/\(0<=i↔(x.right.any λs=> !decide (mB g s))=nk)/\G5.le E)
    from qe5 (BQ (h1.le w) (by decide) (by omega) MV (λs=> !decide (mB g s)) λy hy c F6 M hc=> ?_)).mono ?_
   ·rw [show c=y.arr from hc];exact sE (L.le (aa C (aa w M))) (M _ _ (w _ _ (C _ _ q1))) y
   ·rintro _ F6 ⟨i,rfl,hi,M⟩;refine ⟨_,rfl,?_,M⟩;congr 1;rw [wm,δ];exact hi
  refine h.runv sp λG6 F6 M h=>⟨_,rfl,λA=>J (aa w (aa M h.le)) λD=> ?_,λA=> ?_⟩
  ·obtain ⟨y,hy,W⟩:=XK.1 A;rw [ε (D.2 y hy)] at W;cases W
  have H:jj g x:=⟨a6,λy hy=>by
   have:=List.any_eq_false.1 A y hy
   simpa using this⟩
  have w:=aa w M;have q6:=M _ _ (l5 _ _ q5);refine ⟨_,ld (h.le _ _ q6) rfl,?_⟩;refine p5 h (aK (aa l3 w) a3) x.name λG7 F7 l7 h=>⟨_,rfl,λA=>B (aa w (aa l7 h.le)) H λD=> ?_,λA=> ?_⟩
  ·rw [ε ⟨D.1,D.2.1⟩] at A;cases A
  have X:x.name≠emp/\x.name ∉ (g.qa0.take k).map Pr.name:=by simpa using A
  have w:=aa w l7;have q7:=l7 _ _ q6;refine ⟨#[nn.v,U x.cond.2],rfl,ga (h.le _ _ q7) rfl,_,ld (h.le _ _ (w _ _ (C _ _ q1))) rfl,?_⟩;dsimp only;rw [ec];refine h.runv (gV (d:=x.cond) (DV.mk (h2.le w))) λG8 F8 l8 h=>⟨_,rfl,λA=>B (aa w (aa l8 h.le)) H λD=> ?_,λA=> ?_⟩
  ·rw [cO.2 D.2.2.1] at A;cases A
  have P:iB x.cond g.qa4.length:=cO.1 (by simpa using A);have w:=aa w l8;have q8:=l8 _ _ q7;refine ⟨_,ld (h.le _ _ q8) rfl,λA=>B (aa w h.le) H λD=>by have:=D.2.2.2.1;omega,λb0=>⟨_,ld (h.le _ _ q8) rfl,λA=>B (aa w h.le) H λD=>by have:=D.2.2.2.2.1;omega,λa9=>⟨_,rfl,ai (h.le _ _ q8),?_⟩⟩⟩;refine h.runv (qhC (Mem.le w a2) a7 a4) λG9 F9 l9 h=>⟨_,rfl,λA=>B (aa w (aa l9 h.le)) H λD=> ?_,λA=> ?_⟩
  ·rw [ε D.2.2.2.2.2] at A;cases A
  have Q:lu x:=by simpa using A
  rw [aC O];have e:(g.qa0.take k).map Pr.name++[x.name]=(g.qa0.take (k+1)).map Pr.name:=by rw [bE hx,yW];rfl
  refine next _ O ⟨G9,aa l3 (aa w l9),by rw [<- e];exact h,?_⟩;rw [K,Υ (λh=>h H),Υ (λh=>h ⟨X.1,X.2,P,by omega,by omega,Q⟩),e]
 ·have e:k=g.qa0.length:=by omega
  subst e;rw [XX,eG] at hE;unfold D0;exact ⟨by rw [hE],aa l1 (aa C h.le)⟩
def Sk (g:Gr) (done:Φ) (l:Lv):Prop:=0<=l.assoc/\l.assoc<=3/\iB l.cond g.qa4.length/\(∀p∈l.ps,0<=p/\p<g.qa0.length)/\l.ps.Nodup/\∀p∈l.ps,p ∉ done
def eH (g:Gr) (done:Φ):List Lv->Prop
 |[]=>True
 |l::r=>Sk g done l/\eH g (done++l.ps) r
def mC (l:Φ) (i:Int):Option ξ:=if i∈l then V (nW nk) else I
theorem BU (l:Φ) (x:Int):mC (l++[x])=λk=>if k=x then V (nW nk) else mC l k:=by funext k;unfold mC;by_cases e:k=x<;>simp [e]
theorem V3:fY prog 275 be (.bool mD):=⟨_,_,underlying275,VZ,M0⟩
open Classical in
theorem qg1 {F:PH} {v:Γ} {g:Gr} (hg:GV F v g) (hl:dM g=mD) (hz:Sz g):ν 144 #[nQ v] F λr H=>r=U (if eH g [] g.lvs then 0 else 53)/\F.le H:=by
 obtain ⟨_,_,_,_,a7,b0,_⟩:=fL hl;obtain ⟨c,n,t,s,p,l,f,rfl,Q⟩:=hg;have ec:=Q.c.len;have ep:=Q.p.len;have el:=Q.l.len;refine qc1 ?_;unfold OQ;refine fresh λb1 F1 l1 q1 _=> ?_;have Q:=Q.le l1;refine (St.start F1).newMap be λb8 F2 h=> ?_;refine ⟨_,ld (h.le _ _ q1) rfl,?_⟩;refine bD (wU · b1 b8 l _) g.lvs.length (λk H=>∃G,F1.le G/\St G H [W2 b8 be (mC ((g.lvs.take k).flatMap Lv.ps))]/\(eH g [] g.lvs↔eH g ((g.lvs.take k).flatMap Lv.ps) (g.lvs.drop k)))
  ⟨F1,au _,by rw [show mC ((g.lvs.take 0).flatMap Lv.ps)=λ_=>I from funext λi=>by simp [mC]];exact h,by simp⟩ ?_
 rintro k F3 N hk ⟨G3,W,h,X⟩ next;unfold wU;refine ⟨λO=> ?_,λa6=> ?_⟩
 ·have O:k<g.lvs.length:=by omega
  refine h.ix (Q.l.le W) (by decide) (by omega) (by omega) λa cc x hx hr hc=> ?_;rw [N4] at hx;have a2:x∈g.lvs:=vO hx;have a8:=hz.l x a2;rw [fK hx,eH] at X;have a3:=Mem.st hc;obtain ⟨pp,nn,rfl,h1,h2⟩:=hc;have a9:=h1.len;refine ⟨x.arr pp nn,rfl,hr,?_⟩;refine h.var a3 λb5 G4 F4 P q5 h=> ?_;have bad:∀{H},G3.le H->¬Sk g ((g.lvs.take k).flatMap Lv.ps) x->(U 53=U (if eH g [] g.lvs then 0 else 53)/\F.le H):=λ{H} l w=>⟨by rw [if_neg (λh=>w (X.1 h).1)],aa l1 (aa W l)⟩;refine ⟨_,ld (h.le _ _ q5) rfl,λE=>bad (aa P h.le) λw=>by have:=w.1;omega,λk1=>⟨_,ld (h.le _ _ q5) rfl,λE=>bad (aa P h.le) λw=>by have:=w.2.1;omega,λk2=>⟨#[nn.v,U x.cond.2],rfl,ga (h.le _ _ q5) rfl,_,ld (h.le _ _ (P _ _ (W _ _ q1))) rfl,?_⟩⟩⟩;dsimp only;rw [ec];refine h.runv (gV (d:=x.cond) (DV.mk (h2.le P))) λG5 F5 l5 h=>⟨_,rfl,λE=>bad (aa P (aa l5 h.le)) λw=> ?_,λE=> ?_⟩
  ·rw [cO.2 w.2.2.1] at E;cases E
  have a0:iB x.cond g.qa4.length:=cO.1 (by simpa using E);have a4:=aa P l5;refine ⟨_,ld (h.le _ _ (l5 _ _ q5)) rfl,?_⟩;refine bD (wT N · b1 b8 l (k:Int) pp _) x.ps.length (λj H=>∃G,G5.le G/\St G H [W2 b8 be (mC ((g.lvs.take k).flatMap Lv.ps++x.ps.take j))]/\(∀p∈x.ps.take j,0<=p/\p<g.qa0.length)/\(x.ps.take j).Nodup/\∀p∈x.ps.take j,p ∉ (g.lvs.take k).flatMap Lv.ps)
   ⟨G5,au _,by simpa using h,by simp,by simp,by simp⟩ ?_
  rintro j F6 N2 hj ⟨G6,l6,h,i1,i2,i3⟩ M;have A:=aa a4 l6;unfold wT;refine ⟨λC=> ?_,λa5=> ?_⟩
  ·have C:j<x.ps.length:=by omega
   refine h.ix (h1.le A) (by decide) (by omega) (by omega) λa cc y K hr hc=> ?_;rw [N4] at K hr;rw [show cc= #[U y] from hc] at hr;have L:y∈x.ps:=vO K;have J:=h.lookAt (i:=0) rfl V3 y mD;refine ⟨_,aE hr rfl,λE=>bad (aa A h.le) λw=>by have:=(w.2.2.2.1 y L).1;omega,λy0=>⟨_,ld (h.le _ _ (A _ _ (W _ _ q1))) rfl,λE=>bad (aa A h.le) λw=>by have:=(w.2.2.2.1 y L).2;omega,λy1=> ?_⟩⟩;by_cases D:y∈(g.lvs.take k).flatMap Lv.ps++x.ps.take j
   ·rw [show mC _ y=V (nW nk) from Χ D] at J;refine ⟨nk,J,λ_=>bad (aa A h.le) λw=> ?_,λh=>(by cases h)⟩;rcases vj.1 D with D|D
    ·exact w.2.2.2.2.2 y L D
    ·have a1:=w.2.2.2.2.1.sublist (List.take_sublist (j+1) x.ps);rw [bE K,VB] at a1;exact a1.2.2 y D y (by simp) rfl
   ·rw [show mC _ y=I from Υ D] at J;refine ⟨mD,J,λh=>(by cases h),λ_=> ?_⟩;refine h.updAt 0 rfl V3 y (nW nk) λF7 h=> ?_;rw [aC C];rw [vj,not_or] at D;refine M _ C ⟨G6,l6,?_,λp B=> ?_,?_,λp B=> ?_⟩
    ·rw [bE K,<- xZ,BU];exact h
    ·rw [bE K] at B;rcases vj.1 B with B|B
     ·exact i1 p B
     ·rw [vu.1 B];omega
    ·rw [bE K,VB];exact ⟨i2,by simp,λa ha b E e=>D.2 (by rw [<- vu.1 E,<- e];exact ha)⟩
    ·rw [bE K] at B;rcases vj.1 B with B|B
     ·exact i3 p B
     ·rw [vu.1 B];exact D.1
  ·have e:j=x.ps.length:=by omega
   subst e;rw [wB] at i1 i2 i3 h;unfold D2;rw [aC O];have e:(g.lvs.take k).flatMap Lv.ps++x.ps=(g.lvs.take (k+1)).flatMap Lv.ps:=by rw [bE hx,XV];simp
   rw [e] at h X;refine next _ O ⟨G6,aa W A,h,X.trans ⟨λh=>h.2,λh=>⟨⟨by omega,by omega,a0,i1,i2,i3⟩,h⟩⟩⟩
 ·have e:k=g.lvs.length:=by omega
  subst e;rw [XX,eH] at X;unfold D1;exact ⟨by rw [Χ (X.2 trivial)],aa l1 (aa W h.le)⟩
def fU (g:Gr) (kd:Tk->Bool) (l:Φ):Prop:=l≠[]/\(∀n∈l,0<=n/\∃t,g.qa2[n.toNat]? =V t/\kd t=nk)/\∀(i:Nat) (x y:Int),l[i]? =V x->l[i+1]? =V y->x<y
open Classical in
theorem jk {F:PH} {v:Γ} {g:Gr} (hg:GV F v g) {sl:Sl} {l:Φ} (hl:RL F sl l) (a5:l.length<=1000000000) {k:Nat} {fst cap:Γ} (hk:aF prog k=nk) (kd:Tk->Bool)
  (a3:∀t c O,F.le O->Mem.rep O t c->aj prog k (fst++([nQ c]).toArray++cap) O λr A=>r=nW (kd t)/\O.le A):
  ν 181 #[nQ v,sl.v,.func (.func k) fst cap] F λr A=>r=nW (decide (fU g kd l))/\F.le A:=by
 obtain ⟨c,n,t,s,p,lv,f,rfl,hs⟩:=hg;have et:=hs.t.len;have el:=hl.len;refine qdd ?_;unfold O2;refine fresh λb1 O l1 q1 _=> ?_;have hs:=hs.le l1;have hl:=hl.le l1;have no:∀{A:PH},O.le A->¬fU g kd l->(nW mD=nW (decide (fU g kd l))/\F.le A):=λ{A} l h=>⟨by rw [η h],aa l1 l⟩;refine bD (wY · sl (.func (.func k) fst cap) b1 _) l.length (λj A=>O.le A/\(∀n∈l.take j,0<=n/\∃t,g.qa2[n.toNat]? =V t/\kd t=nk)/\∀(i:Nat) (x y:Int),i+1<j->l[i]? =V x->l[i+1]? =V y->x<y)
  ⟨au _,by simp,λi x y h=>by omega⟩ ?_
 rintro j F2 N hj ⟨H,i1,i2⟩ next;unfold wY;refine ⟨λX=> ?_,λa4=> ?_⟩
 ·have X:j<l.length:=by omega
  refine t8 (hl.le H) (by decide) (by omega) (by omega) λa cc x Q K hc=> ?_;rw [N4] at Q K;rw [show cc= #[U x] from hc] at K;have a0:x∈l:=vO Q;have p1:=H _ _ q1;have UV:¬(0<=x/\x<g.qa2.length)->(nW mD=nW (decide (fU g kd l))/\F.le F2):=λh=>no H λhp=>by obtain ⟨h0,t',ht,_⟩:=hp.2.1 x a0;have:=(N6.1 ht).1;exact h ⟨h0,by omega⟩
  refine ⟨_,aE K rfl,λh=>UV (by omega),λx0=>⟨_,ld p1 rfl,λh=>UV (by omega),λx1=> ?_⟩⟩;have M:(∀y,0<j->l[j - 1]? =V y->y<x)->∃C:Sl,F2.cell (oB b1 3 I)=V (nI C)/\
   ∃L:Addr,C.qa5=V L/\0<=x/\x<(C.len:Int)/\
   ∃E:Γ,E.size=7/\F2.row (nV L (nX x*7)) E/\
   ∃(P:Nat) (B D:Γ),Value.func (.func k) fst cap=.func (.func P) B D/\aF prog P=nk/\aj prog P (B++([(nQ E)]).toArray++D) F2 λv A=>∃G:Bool,v=(nW G)/\
   (((!G)=nk->(nW mD=nW (decide (fU g kd l))/\F.le A))/\
   ((!G)=mD->pZ N sl (.func (.func k) fst cap) b1 (j:Int) (λr A=>r=nW (decide (fU g kd l))/\F.le A) A)):=λW=>by
   refine ⟨_,ld p1 rfl,t8 (hs.t.le H) (by decide) (by omega) (by omega) λa cc y J K hc=>⟨cc,Mem.len hc,K,k,fst,cap,rfl,hk,?_⟩⟩;refine (a3 y cc F2 (aa l1 H) hc).mono ?_;rintro _ F3 ⟨rfl,l3⟩;refine ⟨_,rfl,λh=>no (aa H l3) λhp=> ?_,λh=> ?_⟩
   ·obtain ⟨h0,t',ht,a2⟩:=hp.2.1 x a0;rw [J] at ht;cases ht;rw [a2] at h;cases h
   ·unfold pZ;rw [aC X];refine next _ X ⟨aa H l3,λm hm=> ?_,λi u w hi hu hw=> ?_⟩
    ·rw [bE Q] at hm;rcases vj.1 hm with hm|hm
     ·exact i1 m hm
     ·rw [vu.1 hm];exact ⟨by omega,y,J,by simpa using h⟩
    ·by_cases e:i+1<j
     ·exact i2 i u w e hu hw
     ·have e:j=i+1:=by omega
      subst e;rw [Q] at hw;cases hw;exact W u (by omega) hu
  refine ⟨λa1=> ?_,λa1=>M λy h=>by omega⟩;have a1:0<j:=by omega
  have ew:i64.wrap ((j:Int) - 1)=((j - 1:Nat):Int):=by rw [aJ (by omega)];omega
  rw [ew];refine t8 (hl.le H) (by decide) (by omega) (by omega) λa cc y J K hc=> ?_;rw [N4] at J K;rw [show cc= #[U y] from hc] at K;refine ⟨_,aE (by rw [N4];exact K) rfl,λh=>no H λhp=> ?_,λh=>M λz _ hz=> ?_⟩
  ·have:=hp.2.2 (j - 1) y x J (by rw [show j - 1+1=j by omega];exact Q);omega
  ·rw [J] at hz;cases hz;omega
 ·have e:j=l.length:=by omega
  subst e;rw [wB] at i1;unfold D6;refine ⟨?_,aa l1 H⟩;congr 1;rw [wm,δ,δ];constructor
  ·intro h;refine ⟨λe=>by rw [e] at el;simp at el;omega,i1,λi x y Q J=>i2 i x y ?_ Q J⟩;exact (N6.1 J).1
  ·intro h;have:l.length≠0:=λe=>h.1 (Wm e);omega
def oN (g:Gr) (x:Fi):Prop:=0<=x.par/\0<=x.ch/\0<=x.pos/\∃p q,g.qa0[x.par.toNat]? =V p/\g.qa0[x.ch.toNat]? =V q/\p.right[x.pos.toNat]? =V ⟨mD,q.left⟩
open Classical in
theorem Gq {F:PH} {v w:Γ} {g:Gr} {x:Fi} (hg:GV F v g) (hx:Mem.rep F x w):ν 180 #[nQ v,nQ w] F λr F'=>r=nW (decide (oN g x))/\F.le F':=by
 obtain ⟨c,n,t,s,p,lv,f,rfl,O⟩:=hg;obtain ⟨tt,nn,rfl,_,_⟩:=hx;have ep:=O.p.len;refine qdc ?_;unfold O1;refine fresh λb2 F1 H q1 _=> ?_;refine fresh λb3 F2 Q q2 _=> ?_;have q1:=Q _ _ q1;have H:=aa H Q;have X:=O.p.le H;have no:¬oN g x->(nW mD=nW (decide (oN g x))/\F.le F2):=λh=>⟨by rw [η h],H⟩;have UV:¬(x.par<g.qa0.length/\x.ch<g.qa0.length)->¬oN g x:=λh D=>by obtain ⟨_,_,_,N,q',A,B,_⟩:=D;have:=(N6.1 A).1;have:=(N6.1 B).1;exact h (by omega)
 refine ⟨_,ld q2 rfl,λh=>no λD=>by have:=D.1;omega,λk1=>⟨_,ld q2 rfl,_,ld q1 rfl,λh=>no (UV (by omega)),λk2=>⟨_,ld q2 rfl,λh=>no λD=>by have:=D.2.1;omega,λk3=>⟨_,ld q2 rfl,_,ld q1 rfl,λh=>no (UV (by omega)),λk4=>⟨_,ld q1 rfl,_,ld q2 rfl,?_⟩⟩⟩⟩⟩;refine t8 X (by decide) (by omega) (by omega) λa L y J E G=> ?_;obtain ⟨rr,n2,a0,rfl,M,_,_⟩:=G;have er:=M.len;have K:¬x.pos<y.right.length->¬oN g x:=λh D=>by obtain ⟨_,_,_,N,q',A,B,C⟩:=D;rw [J] at A;cases A;have:=(N6.1 C).1;omega
 refine ⟨_,aM E rfl,_,ld q2 rfl,λW=>⟨_,ld q2 rfl,λk6=>⟨_,ld q2 rfl,?_⟩,λk6=>no (K (by omega))⟩,λW=>no λD=>W D.2.2.1⟩;refine t8 M (by decide) (by omega) (by omega) λa L z P E G=> ?_;rw [show L=z.arr from G] at E;refine ⟨_,rfl,E,_,ld q1 rfl,_,ld q2 rfl,t8 X (by decide) (by omega) (by omega) λa L u hu E G=> ?_⟩;obtain ⟨r3,n3,a1,rfl,_,_,_⟩:=G;refine ⟨_,aM E rfl,_,λF=>MT z ⟨mD,u.left⟩ F,?_,H⟩;congr 1;rw [wm,δ,δ];constructor
 ·rintro rfl;exact ⟨by omega,by omega,by omega,y,u,J,hu,P⟩
 ·rintro ⟨_,_,_,N,q',A,B,C⟩;rw [J] at A;cases A;rw [hu] at B;cases B;rw [P] at C;exact yR C
def cq (g:Gr) (x:Fi):Prop:=iB x.cond g.qa4.length/\
  (((x.k=1\/x.k=2)/\oN g x/\x.left=0/\x.tok=0/\x.qa2=[])\/
   ((x.k=3\/x.k=4)/\(0<=x.left/\x.left<g.qa1.length/\fU g (λt=>decide (t.cls=0)) x.qa2)/\x.par=0/\x.pos=0/\x.ch=0/\x.tok=0)\/
   (x.k=5/\(fU g (λt=> !decide (t.lit=emp)) x.qa2/\0<=x.tok/\∃t,g.qa2[x.tok.toNat]? =V t/\t.cls=0/\t.lit=emp)/\x.par=0/\x.pos=0/\x.ch=0/\x.left=0))
theorem qcV:aF prog 178=nk:=by kernel_rfl
theorem qcW:aF prog 179=nk:=by kernel_rfl
theorem kC {F:PH} {t:Tk} {c:Γ} (h:Mem.rep F t c):ν 178 #[nQ c] F λr g=>r=nW (decide (t.cls=0))/\F.le g:=by obtain ⟨p,n,rfl,_,_⟩:=h;refine qda ?_;unfold OZ;exact fresh λb A w q1 _=>⟨_,ld q1 rfl,rfl,w⟩
theorem kD {F:PH} {t:Tk} {c:Γ} (h:Mem.rep F t c):ν 179 #[nQ c] F λr g=>r=nW (!decide (t.lit=emp))/\F.le g:=by obtain ⟨p,n,rfl,_,_⟩:=h;refine qdb ?_;unfold O0;exact fresh λb A w q1 _=>⟨_,ld q1 rfl,by rw [mz],w⟩
abbrev sF (a0 a1 a2 a3 a4 a5:Int) (s6 s7:Sl) (a8:Int):Γ:= #[U a0,U a1,U a2,U a3,U a4,U a5,s6.v,s7.v,U a8]
open Classical in
theorem qgX {F:PH} {v:Γ} {g:Gr} (hg:GV F v g) (hl:dM g=mD) (hz:Sz g):ν 145 #[nQ v] F λr O=>r=U (if ∀x∈g.fils,cq g x then 0 else 53)/\F.le O:=by
 obtain ⟨_,_,d0,_,_,_,_⟩:=fL hl;have a6:=hg;obtain ⟨c,n,t,s,p,lv,f,rfl,hs⟩:=hg;have ec:=hs.c.len;have et:=hs.t.len;have es:=hs.s.len;have ef:=hs.f.len;refine qc2 ?_;unfold OR;refine fresh λb1 F1 l1 q1 _=> ?_;have hs:=hs.le l1;have a6:=a6.le l1;refine ⟨_,ld q1 rfl,?_⟩;refine bD (wV · b1 f _) g.fils.length (λk O=>∃G,F1.le G/\St G O []/\∀x∈g.fils.take k,cq g x) ⟨F1,au _,.start _,by simp⟩ ?_;rintro k F3 N hk ⟨G3,P,h,hi⟩ next;unfold wV;refine ⟨λb2=> ?_,λc9=> ?_⟩
 ·have b2:k<g.fils.length:=by omega
  refine h.ix (hs.f.le P) (by decide) (by omega) (by omega) λa cc x hx hr Q=> ?_;rw [N4] at hx;have b7:x∈g.fils:=vO hx;have b9:=hz.f x b7;have b5:=Mem.st Q;have c5:=Q;obtain ⟨tt,nn,rfl,h1,h2⟩:=Q;have c6:=h1.len;refine ⟨x.arr tt nn,rfl,hr,?_⟩;refine h.var b5 λb6 G4 F4 l4 q6 h=> ?_;have bad:∀{O},G3.le O->¬cq g x->(U 53=U (if ∀x∈g.fils,cq g x then 0 else 53)/\F.le O):=λ{O} l H=>⟨by rw [if_neg (λh=>H (h x b7))],aa l1 (aa P l)⟩;refine ⟨#[nn.v,U x.cond.2],rfl,ga (h.le _ _ q6) rfl,_,ld (h.le _ _ (l4 _ _ (P _ _ q1))) rfl,?_⟩;dsimp only;rw [ec];refine h.runv (gV (d:=x.cond) (DV.mk (h2.le l4))) λG5 F5 l5 h=>⟨_,rfl,_,rfl,ai (h.le _ _ (l5 _ _ q6)),?_⟩;have w:=aa l4 l5;have q6:=l5 _ _ q6;refine h.new λb8 F6 h=> ?_;refine h.put0 (w':=x.arr tt nn) rfl rfl b5 λF7 h=> ?_;refine h.set0 (w':=sF 0 x.par x.pos x.ch x.left x.tok tt nn x.cond.2) (by simp) rfl λF8 h=> ?_;refine h.putR0 (w':=sF 0 x.par x.pos x.ch x.left x.tok tt pm 0) rfl (by simp [ak]) (by simp) rfl λF9 h=> ?_;have j2:∀(W:Bool) (a1 a2 a3 a4 a5:Int) (s6:Sl) G9 F9,G3.le G9->St G9 F9 [pt b8 (Y (sF 0 a1 a2 a3 a4 a5 s6 pm 0) 233)]->
    ((W=nk/\a1=0/\a2=0/\a3=0/\a4=0/\a5=0/\s6.len=0)↔cq g x)->
    dI N b1 b8 f (k:Int) W (λr O=>r=U (if ∀x∈g.fils,cq g x then 0 else 53)/\F.le O) F9:=λW a1 a2 a3 a4 a5 s6 G9 F9 l9 h D=>by
   unfold dI;have l:=aa l9 h.le
   refine ⟨λhb=>bad l λH=>(by rw [(D.2 H).1] at hb;cases hb),λhb=>⟨_,h.ld0 rfl,λe=>bad l λH=>e (D.2 H).2.1,λe1=>⟨_,h.ld0 rfl,λe=>bad l λH=>e (D.2 H).2.2.1,λe2=>⟨_,h.ld0 rfl,λe=>bad l λH=>e (D.2 H).2.2.2.1,λe3=>
    ⟨_,h.ld0 rfl,λe=>bad l λH=>e (D.2 H).2.2.2.2.1,λe4=>⟨_,h.ld0 rfl,λe=>bad l λH=>e (D.2 H).2.2.2.2.2.1,λe5=>⟨_,h.ld0 rfl,λe=>bad l λH=>by have:=(D.2 H).2.2.2.2.2.2;omega,λe6=> ?_⟩⟩⟩⟩⟩⟩⟩
   rw [aC b2];refine next _ b2 ⟨G9,aa P l9,h.tail,λy hy=> ?_⟩;rw [bE hx] at hy;rcases vj.1 hy with hy|hy
   ·exact hi y hy
   ·rw [vu.1 hy];exact D.1 ⟨by simpa using hb,Classical.not_not.1 e1,Classical.not_not.1 e2,Classical.not_not.1 e3,Classical.not_not.1 e4,Classical.not_not.1 e5,by omega⟩
  have hF:=cO (d:=x.cond) (n:=g.qa4.length);generalize se x.cond g.qa4.length=fit at*;have a9:tt.len=0↔x.qa2=[]:=by rw [c6];exact XZ
  refine ⟨_,ld (h.le _ _ q6) rfl,?_⟩;have j4:∀(b:Bool),(b=nk↔x.k=3\/x.k=4)->¬(x.k=1\/x.k=2)->pV N b1 b6 fit b8 f (k:Int) x.k b (λr O=>r=U (if ∀x∈g.fils,cq g x then 0 else 53)/\F.le O) F9:=λb hb c8=>by
   unfold pV;refine ⟨λb3=> ?_,λX=>⟨λk5=> ?_,λk5=> ?_⟩⟩
   ·have hk:=hb.1 b3;refine h.set0 (w':=sF 0 x.par x.pos x.ch 0 x.tok tt pm 0) (by simp) rfl λC h=> ?_;refine h.set0 (w':=sF 0 x.par x.pos x.ch 0 x.tok pm pm 0) (by simp) rfl λL h=> ?_;have J:¬(0<=x.left/\x.left<g.qa1.length/\fU g (λt=>decide (t.cls=0)) x.qa2)->¬cq g x:=λH A=>by
     rcases A.2 with B|B|B
     ·omega
     ·exact H B.2.1
     ·omega
    refine ⟨λa0=>⟨_,ld (h.le _ _ q6) rfl,λk1=>⟨_,ld (h.le _ _ q6) rfl,_,ld (h.le _ _ (w _ _ (P _ _ q1))) rfl,λk2=>⟨_,rfl,ai (h.le _ _ (w _ _ (P _ _ q1))),_,ld (h.le _ _ q6) rfl,?_⟩,λk2=> ?_⟩,λk1=> ?_⟩,λM=> ?_⟩
    ·refine h.runv (jk (a6.le (aa P w)) (h1.le w) b9 qcV (λt=>decide (t.cls=0)) λt c F1 _ Q=>kC Q) λE C K h=>⟨_,rfl,?_⟩;refine j2 _ _ _ _ _ _ _ E C (aa w K) h ?_;rw [δ];constructor
     ·rintro ⟨ha,e1,e2,e3,_,e5,_⟩;exact ⟨hF.1 a0,.inr (.inl ⟨hk,⟨k1,by omega,ha⟩,e1,e2,e3,e5⟩)⟩
     ·intro A;rcases A.2 with B|B|B
      ·omega
      ·exact ⟨B.2.1.2.2,B.2.2.1,B.2.2.2.1,B.2.2.2.2.1,rfl,B.2.2.2.2.2,rfl⟩
      ·omega
    ·exact j2 _ _ _ _ _ _ _ G5 L w h ⟨λh=>(by cases h.1),λA=>absurd A (J λh=>k2 (by omega))⟩
    ·exact j2 _ _ _ _ _ _ _ G5 L w h ⟨λh=>(by cases h.1),λA=>absurd A (J λh=>k1 h.1)⟩
    ·exact j2 _ _ _ _ _ _ _ G5 L w h ⟨λh=>(by cases h.1),λA=>by rw [hF.2 A.1] at M;cases M⟩
   ·refine h.set0 (w':=sF 0 x.par x.pos x.ch x.left 0 tt pm 0) (by simp) rfl λC h=> ?_;refine h.set0 (w':=sF 0 x.par x.pos x.ch x.left 0 pm pm 0) (by simp) rfl λL h=> ?_;have J:¬(fU g (λt=> !decide (t.lit=emp)) x.qa2/\0<=x.tok/\∃t,g.qa2[x.tok.toNat]? =V t/\t.cls=0/\t.lit=emp)->¬cq g x:=λH A=>by
     rcases A.2 with B|B|B
     ·omega
     ·omega
     ·exact H B.2.1
    have a8:∀E C,G3.le E->St E C [pt b8 (Y (sF 0 x.par x.pos x.ch x.left 0 pm pm 0) 233)]->¬cq g x->iz N b1 b6 b8 f (k:Int) mD (λr O=>r=U (if ∀x∈g.fils,cq g x then 0 else 53)/\F.le O) C:=λE C K h H=>by unfold iz;exact ⟨λh=>(by cases h),λ_=>j2 _ _ _ _ _ _ _ E C K h ⟨λh=>(by cases h.1),λA=>absurd A H⟩⟩
    refine ⟨λa0=>⟨_,rfl,ai (h.le _ _ (w _ _ (P _ _ q1))),_,ld (h.le _ _ q6) rfl,?_⟩,λM=>a8 G5 L w h λA=>by rw [hF.2 A.1] at M;cases M⟩;refine h.runv (jk (a6.le (aa P w)) (h1.le w) b9 qcW (λt=> !decide (t.lit=emp)) λt c F1 _ Q=>kD Q) λE C K h=>⟨_,rfl,λha=> ?_,λha=>a8 E C (aa w K) h (J λh=>ι ha h.1)⟩;have ha:=ζ ha;have w:=aa w K;have q6:=K _ _ q6;have p1:=w _ _ (P _ _ q1);refine ⟨_,ld (h.le _ _ q6) rfl,λk1=>⟨_,ld (h.le _ _ q6) rfl,_,ld (h.le _ _ p1) rfl,?_⟩,λk1=>a8 E C w h (J λh=>k1 h.2.1)⟩;by_cases k2:x.tok<(t.len:Int)
    ·dsimp only;rw [decide_eq_true k2];unfold iz;refine ⟨λ_=>⟨_,ld (h.le _ _ p1) rfl,_,ld (h.le _ _ q6) rfl,h.ix (hs.t.le (aa P w)) (by decide) k1 k2 λa cc y hy hr Q=>⟨cc,Mem.len Q,hr,?_⟩⟩,λh=>(by cases h)⟩;refine h.runv (kC Q) λc3 L a7 h=>⟨_,rfl,λk3=>⟨_,ld (h.le _ _ (a7 _ _ p1)) rfl,_,ld (h.le _ _ (a7 _ _ q6)) rfl,h.ix (hs.t.le (aa P (aa w a7))) (by decide) k1 k2 λa cc z hz hr Q=>⟨cc,Mem.len Q,hr,?_⟩⟩,λk3=> ?_⟩
     ·rw [hy] at hz;cases hz;refine h.runv (kD Q) λc4 b0 c7 h=>⟨_,rfl,?_⟩;refine j2 _ _ _ _ _ _ _ c4 b0 (aa w (aa a7 c7)) h ?_;rw [Bool.not_not,δ];constructor
      ·rintro ⟨c2,e1,e2,e3,e4,_⟩;exact ⟨hF.1 a0,.inr (.inr ⟨k5,⟨ha,k1,y,hy,ζ k3,c2⟩,e1,e2,e3,e4⟩)⟩
      ·intro A;rcases A.2 with B|B|B
       ·omega
       ·omega
       ·obtain ⟨_,_,u,hu,_,b4⟩:=B.2.1;rw [hy] at hu;cases hu;exact ⟨b4,B.2.2.1,B.2.2.2.1,B.2.2.2.2.1,B.2.2.2.2.2,rfl,rfl⟩
     ·refine j2 _ _ _ _ _ _ _ c3 L (aa w a7) h ⟨λh=>(by cases h.1),λA=>absurd A (J λh=> ?_)⟩;obtain ⟨_,_,u,hu,b4,_⟩:=h;rw [hy] at hu;cases hu;exact ι k3 b4
    ·dsimp only;rw [decide_eq_false k2];refine a8 E C w h (J λh=> ?_);obtain ⟨_,_,u,hu,_,_⟩:=h;have:=(N6.1 hu).1;omega
   ·refine j2 _ _ _ _ _ _ _ G5 F9 w h ⟨λh=>(by cases h.1),λA=> ?_⟩;have:¬(x.k=3\/x.k=4):=λh=>by rw [hb.2 h] at X;cases X
    rcases A.2 with B|B|B<;>omega
  have j3:∀(b:Bool),(b=nk↔x.k=1\/x.k=2)->pW N b1 b6 fit b8 f (k:Int) x.k b (λr O=>r=U (if ∀x∈g.fils,cq g x then 0 else 53)/\F.le O) F9:=λb hb=>by
   unfold pW;refine ⟨λb3=> ?_,λX=> ?_⟩
   ·have hk:=hb.1 b3;refine h.set0 (w':=sF 0 0 x.pos x.ch x.left x.tok tt pm 0) (by simp) rfl λC h=> ?_;refine h.set0 (w':=sF 0 0 0 x.ch x.left x.tok tt pm 0) (by simp) rfl λL h=> ?_;refine h.set0 (w':=sF 0 0 0 0 x.left x.tok tt pm 0) (by simp) rfl λb0 h=> ?_;refine ⟨λa0=>⟨_,rfl,ai (h.le _ _ (w _ _ (P _ _ q1))),_,rfl,ai (h.le _ _ q6),?_⟩,λM=> ?_⟩
    ·refine h.runv (Gq (a6.le (aa P w)) (Mem.le w c5)) λE C K h=>⟨_,rfl,?_⟩;refine j2 _ _ _ _ _ _ _ E C (aa w K) h ?_;rw [δ];constructor
     ·rintro ⟨ha,_,_,_,e4,e5,e6⟩;exact ⟨hF.1 a0,.inl ⟨hk,ha,e4,e5,a9.1 e6⟩⟩
     ·intro A;rcases A.2 with B|B|B
      ·exact ⟨B.2.1,rfl,rfl,rfl,B.2.2.1,B.2.2.2.1,a9.2 B.2.2.2.2⟩
      ·omega
      ·omega
    ·exact j2 _ _ _ _ _ _ _ G5 b0 w h ⟨λh=>(by cases h.1),λA=>by rw [hF.2 A.1] at M;cases M⟩
   ·have H:¬(x.k=1\/x.k=2):=λh=>by rw [hb.2 h] at X;cases X
    exact ⟨λe=>j4 _ (by rw [δ];omega) H,λe=>j4 _ (by rw [δ];omega) H⟩
  exact ⟨λe=>j3 _ (by rw [δ];omega),λe=>j3 _ (by rw [δ];omega)⟩
 ·have e:k=g.fils.length:=by omega
  subst e;rw [wB] at hi;unfold D3;exact ⟨by rw [Χ hi],aa l1 (aa P h.le)⟩
def Jn (n:Nat) (done:List ο) (t:Tk):Prop:=t.name≠emp/\t.name ∉ done/\0<=t.cls/\t.cls<=2/\iB t.cond n/\(t.lit≠emp->t.smp=emp/\t.pat=[])/\
 (t.lit=emp->fJ t.pat=0/\(t.cls=0->t.smp≠emp/\Xn t.pat (bs t.smp))/\(t.cls≠0->t.smp=emp))
def fV (n:Nat) (done:List ο):List Tk->Prop
 |[]=>True
 |t::r=>Jn n done t/\fV n (done++[t.name]) r
open Classical in
theorem qg2 {F:PH} {v:Γ} {g:Gr} (hT:Tab F) (hg:GV F v g) (hl:dM g=mD) (hz:Sz g):ν 141 #[nQ v] F λr L=>r=U (if fV g.qa4.length [] g.qa2 then 0 else 51)/\F.le L:=by
 obtain ⟨_,a4,_⟩:=fL hl;obtain ⟨c,n,t,s,p,lv,f,rfl,hs⟩:=hg;have ec:=hs.c.len;have et:=hs.t.len;refine qcY ?_;unfold ON;refine fresh λb1 F1 l1 q1 _=> ?_;have hs:=hs.le l1;have hT:=hT.le l1;refine (iA F1).mono ?_;rintro _ F2 ⟨G2,bn,m,rfl,l2,a3,h⟩;refine ⟨_,rfl,_,ld (h.le _ _ (l2 _ _ q1)) rfl,?_⟩;refine bD (wQ · b1 (zg bn) t _) g.qa2.length (λk L=>∃G,G2.le G/\St G L [seen m ((g.qa2.take k).map Tk.name).reverse]/\(fV g.qa4.length [] g.qa2↔fV g.qa4.length ((g.qa2.take k).map Tk.name) (g.qa2.drop k)))
  ⟨G2,au _,h,by simp⟩ ?_
 rintro k F3 N hk ⟨G3,l3,h,W⟩ next;have K:=aa l2 l3;unfold wQ;refine ⟨λQ=> ?_,λa5=> ?_⟩
 ·have Q:k<g.qa2.length:=by omega
  refine h.ix (hs.t.le K) (by decide) (by omega) (by omega) λa cc x hx hr hc=> ?_;rw [N4] at hx;have a1:x∈g.qa2:=vO hx;have a6:=hz.t x a1;rw [fK hx,fV] at W;have a2:=Mem.st hc;obtain ⟨pp,nn,rfl,h1,h2⟩:=hc;have a0:=h1.len;refine ⟨x.arr pp nn,rfl,hr,?_⟩;refine h.var a2 λb5 G4 F4 l4 q5 h=> ?_;have bad:∀{L},G3.le L->¬Jn g.qa4.length ((g.qa2.take k).map Tk.name) x->(U 51=U (if fV g.qa4.length [] g.qa2 then 0 else 51)/\F.le L):=λ{L} l H=>⟨by rw [Υ (λh=>H (W.1 h).1)],aa l1 (aa K l)⟩;refine ⟨_,ld (h.le _ _ q5) rfl,?_⟩;refine p5 h (aK (aa l3 l4) a3) x.name λG5 F5 l5 h=>⟨_,rfl,λD=>bad (aa l4 (aa l5 h.le)) λH=> ?_,λD=> ?_⟩
  ·rw [ε ⟨H.1,H.2.1⟩] at D;cases D
  have M:x.name≠emp/\x.name ∉ (g.qa2.take k).map Tk.name:=by simpa using D
  have A:=aa l4 l5;have q5:=l5 _ _ q5;refine ⟨_,ld (h.le _ _ q5) rfl,λD=>bad (aa A h.le) λH=>by have:=H.2.2.1;omega,λc0=>⟨_,ld (h.le _ _ q5) rfl,λD=>bad (aa A h.le) λH=>by have:=H.2.2.2.1;omega,λc2=>⟨#[nn.v,U x.cond.2],rfl,ga (h.le _ _ q5) rfl,_,ld (h.le _ _ (A _ _ (K _ _ q1))) rfl,?_⟩⟩⟩;dsimp only;rw [ec];refine h.runv (gV (d:=x.cond) (DV.mk (h2.le A))) λG6 F6 l6 h=>⟨_,rfl,λD=>bad (aa A (aa l6 h.le)) λH=> ?_,λD=> ?_⟩
  ·rw [cO.2 H.2.2.2.2.1] at D;cases D
  have O:iB x.cond g.qa4.length:=cO.1 (by simpa using D);have A:=aa A l6;have q5:=l6 _ _ q5;have e:(g.qa2.take k).map Tk.name++[x.name]=(g.qa2.take (k+1)).map Tk.name:=by rw [bE hx,yW];rfl
  have j2:∀(J:Bool) G9 F9,G3.le G9->St G9 F9 [seen m ((g.qa2.take k).map Tk.name++[x.name]).reverse]->(J=nk↔Jn g.qa4.length ((g.qa2.take k).map Tk.name) x)->
    gm N b1 (zg bn) t (k:Int) J (λr L=>r=U (if fV g.qa4.length [] g.qa2 then 0 else 51)/\F.le L) F9:=λJ G9 F9 l9 h P=>by
   unfold gm;refine ⟨λD=>bad (aa l9 h.le) λH=>(by rw [P.2 H] at D;cases D),λD=> ?_⟩;rw [aC Q];have C:=P.1 (by simpa using D);rw [e] at h W;exact next _ Q ⟨G9,aa l3 l9,h,W.trans ⟨λh=>h.2,λh=>⟨C,h⟩⟩⟩
  refine ⟨_,ld (h.le _ _ q5) rfl,_,ld (h.le _ _ q5) rfl,λw=> ?_,λw=> ?_⟩
  ·rw [mz] at w;have w:x.lit≠emp:=by simpa using w
   rw [mz];refine ⟨λB=>⟨_,ld (h.le _ _ q5) rfl,?_⟩,λB=> ?_⟩
   ·have B:=ζ B;refine j2 _ G6 F6 A h ?_;rw [δ];constructor
    ·intro h0;exact ⟨M.1,M.2,by omega,by omega,O,λ_=>⟨B,Wm (by omega)⟩,λh=>absurd h w⟩
    ·intro C;rw [(C.2.2.2.2.2.1 w).2] at a0;simp at a0;omega
   ·have B:=ι B;exact j2 _ G6 F6 A h ⟨λh=>(by cases h),λC=>absurd (C.2.2.2.2.2.1 w).1 B⟩
  ·rw [mz] at w;have w:x.lit=emp:=by simpa using w
   refine ⟨_,ld (h.le _ _ q5) rfl,?_⟩;refine h.runv (oU (RL.nds.1 (h1.le A))) λG7 F7 l7 h=>⟨_,rfl,λX=>j2 _ G7 F7 (aa A l7) h ⟨λh=>(by cases h),λC=>absurd (C.2.2.2.2.2.2 w).1 X⟩,λX=>⟨_,ld (h.le _ _ (l7 _ _ q5)) rfl,?_⟩⟩;have X:=Classical.not_not.1 X;have A:=aa A l7;have q5:=l7 _ _ q5;have mk:((x.cls=0->x.smp≠emp/\Xn x.pat (bs x.smp))/\(x.cls≠0->x.smp=emp))->Jn g.qa4.length ((g.qa2.take k).map Tk.name) x:=λhm=>⟨M.1,M.2,by omega,by omega,O,λh=>absurd w h,λ_=>⟨X,hm⟩⟩;rw [mz];refine ⟨λE=>⟨λB=>⟨_,ld (h.le _ _ q5) rfl,_,ld (h.le _ _ q5) rfl,?_⟩,λB=> ?_⟩,λE=> ?_⟩
   ·have B:x.smp≠emp:=by simpa using B
    refine (h.call (qhp (hT.le (aa K A)) (RL.nds.1 (h1.le A)) x.smp (by omega))).mono ?_;rintro _ F8 ⟨G8,⟨⟨q,rfl,hq⟩,l8⟩,h⟩;refine ⟨_,rfl,j2 _ G8 F8 (aa A l8) h ?_⟩;rw [hq];exact ⟨λhm=>mk ⟨λ_=>⟨B,hm.2⟩,λh=>absurd E h⟩,λC=>⟨X,((C.2.2.2.2.2.2 w).2.1 E).2⟩⟩
   ·have B:x.smp=emp:=by simpa using B
    exact j2 _ G7 F7 A h ⟨λh=>(by cases h),λC=>absurd B ((C.2.2.2.2.2.2 w).2.1 E).1⟩
   ·refine j2 _ G7 F7 A h ?_;rw [δ];exact ⟨λhm=>mk ⟨λh=>absurd h E,λ_=>hm⟩,λC=>(C.2.2.2.2.2.2 w).2.2 E⟩
 ·have e:k=g.qa2.length:=by omega
  subst e;rw [XX,fV] at W;unfold DY;exact ⟨by rw [Χ (W.2 trivial)],aa l1 (aa K h.le)⟩
open Classical in
def BV (g:Gr):Int:=
 if dM g=nk then 2 else if ¬oM g then 54 else if ¬fV g.qa4.length [] g.qa2 then 51 else if ¬ji g then 50 else if eG g [] g.qa0≠0 then eG g [] g.qa0
 else if ¬eH g [] g.lvs then 53 else if ¬∀x∈g.fils,cq g x then 53 else 0
structure OkG (g:Gr):Prop where
 large:dM g=mD
 fam:oM g
 qa2:fV g.qa4.length [] g.qa2
 qa1:ji g
 qa0:eG g [] g.qa0=0
 lvs:eH g [] g.lvs
 fils:∀x∈g.fils,cq g x
theorem w7 {g:Gr}:BV g=0↔OkG g:=by
 unfold BV;constructor
 ·intro h;split at h
  ·cases h
  ·rename_i w;split at h
   ·cases h
   ·rename_i A;split at h
    ·cases h
    ·rename_i E;split at h
     ·cases h
     ·rename_i D;split at h
      ·rename_i r;exact absurd h r
      ·rename_i r;split at h
       ·cases h
       ·rename_i B;split at h
        ·cases h
        ·rename_i C;exact ⟨by simpa using w,Classical.not_not.1 A,Classical.not_not.1 E,Classical.not_not.1 D,Classical.not_not.1 r,Classical.not_not.1 B,Classical.not_not.1 C⟩
 ·rintro ⟨w,A,E,D,r,B,C⟩;rw [Υ (by simp [w]),Υ (λh=>h A),Υ (λh=>h E),Υ (λh=>h D),Υ (λh=>h r),Υ (λh=>h B),Υ (λh=>h C)]
theorem MW:aF prog 140=nk/\aF prog 141=nk/\aF prog 142=nk/\aF prog 143=nk/\aF prog 144=nk/\aF prog 145=nk:=by refine ⟨?_,?_,?_,?_,?_,?_⟩<;>kernel_rfl
open Classical in
def zi (g:Gr) (k:Nat):Int:=match k with
 |0=>if oM g then 0 else 54
 |1=>if fV g.qa4.length [] g.qa2 then 0 else 51
 |2=>if ji g then 0 else 50
 |3=>eG g [] g.qa0
 |4=>if eH g [] g.lvs then 0 else 53
 |_=>if ∀x∈g.fils,cq g x then 0 else 53
def D7 (k:Nat):Nat:=match k with
 |0=>140
 |1=>141
 |2=>142
 |3=>143
 |4=>144
 |_=>145
theorem Gs {F:PH} {v:Γ} {g:Gr} (C:Tab F) (h:GV F v g) (w:dM g=mD) (A:Sz g) (k:Nat):aF prog (D7 k)=nk/\aj prog (D7 k) #[nQ v] F λr H=>r=U (zi g k)/\F.le H:=by
 obtain ⟨c1,G,K,J,D,E⟩:=MW;have B:=fL w
 match k with
 |0=>exact ⟨c1,qg0 h A B.1⟩
 |1=>exact ⟨G,qg2 C h w A⟩
 |2=>exact ⟨K,qhf h B.2.2.2.1⟩
 |3=>exact ⟨J,qha h w⟩
 |4=>exact ⟨D,qg1 h w A⟩
 |n+5=>exact ⟨E,qgX h w A⟩
theorem XI {p:Prop} [Decidable p] {a:Int} (r:a≠0) (h:(if p then 0 else a)=0):p:=by
 by_cases g:p
 ·exact g
 ·rw [Υ g] at h;exact absurd h r
open Classical in
theorem oO {F:PH} {v:Γ} {g:Gr} (hT:Tab F) (K:GV F v g) (hz:Sz g):ν 104 #[nQ v] F λr O=>r=U (BV g)/\F.le O:=by
 refine qdq ?_;unfold OJ;refine fresh λb1 F1 C q1 _=>⟨v,K.size,ai q1,?_⟩;refine (BR (K.le C)).mono ?_;rintro _ F2 ⟨rfl,l2⟩;have C:=aa C l2;have q1:=l2 _ _ q1;refine ⟨_,rfl,λJ=>⟨?_,C⟩,λJ=> ?_⟩
 ·unfold BV;rw [Χ J]
 refine fresh λb9 F3 l3 q9 _=> ?_;have C:=aa C l3;have q1:=l3 _ _ q1;have G:∀k,k<6->(∀j,j<k->zi g j=0)->zi g k≠0->BV g=zi g k:=λk W E w=>by
  have H:0<k->oM g:=λh=>XI (a:=54) (by decide) (E 0 h);have L:1<k->fV g.qa4.length [] g.qa2:=λh=>XI (a:=51) (by decide) (E 1 h);have P:2<k->ji g:=λh=>XI (a:=50) (by decide) (E 2 h);have X:3<k->eG g [] g.qa0=0:=λh=>E 3 h;have s4:4<k->eH g [] g.lvs:=λh=>XI (a:=53) (by decide) (E 4 h);unfold BV;rw [Υ (by simp [J])]
  match k,W with
  |0,_=>have A:¬oM g:=λh=>w (Χ h);rw [Χ A];exact (Υ A).symm
  |1,_=>have A:¬fV g.qa4.length [] g.qa2:=λh=>w (Χ h);rw [Υ (λh=>h (H (by decide))),Χ A];exact (Υ A).symm
  |2,_=>have A:¬ji g:=λh=>w (Χ h);rw [Υ (λh=>h (H (by decide))),Υ (λh=>h (L (by decide))),Χ A];exact (Υ A).symm
  |3,_=>rw [Υ (λh=>h (H (by decide))),Υ (λh=>h (L (by decide))),Υ (λh=>h (P (by decide))),Χ (show eG g [] g.qa0≠0 from w)];rfl
  |4,_=>have A:¬eH g [] g.lvs:=λh=>w (Χ h);rw [Υ (λh=>h (H (by decide))),Υ (λh=>h (L (by decide))),Υ (λh=>h (P (by decide))),Υ (λh=>h (X (by decide))),Χ A];exact (Υ A).symm
  |5,_=>have A:¬∀x∈g.fils,cq g x:=λh=>w (Χ h);rw [Υ (λh=>h (H (by decide))),Υ (λh=>h (L (by decide))),Υ (λh=>h (P (by decide))),Υ (λh=>h (X (by decide))),Υ (λh=>h (s4 (by decide))),Χ A];exact (Υ A).symm
 refine bD (wO · b1 b9 _) 6 (λk O=>F3.le O/\∀j,j<k->zi g j=0) ⟨au _,λj h=>by omega⟩ ?_;rintro k F4 N W ⟨D,hi⟩ next;unfold wO;refine ⟨λB=> ?_,λM=> ?_⟩
 ·have B:k<6:=by simp only at B;omega
  refine ⟨_,rfl,by omega,by simp only;omega,.func (.func (D7 k)) #[] #[],?_,v,K.size,ai (D _ _ q1),D7 k,#[],#[],rfl,?_⟩
  ·rw [N4,aI,av (D _ _ q9)]
   match k,B with
   |0,_=>rfl
   |1,_=>rfl
   |2,_=>rfl
   |3,_=>rfl
   |4,_=>rfl
   |5,_=>rfl
  ·obtain ⟨h1,h2⟩:=Gs (hT.le (aa C D)) (K.le (aa C D)) J hz k;refine ⟨h1,?_⟩;have e:(#[]:Γ)++[nQ v].toArray++ #[]= #[nQ v]:=by simp
   dsimp only;rw [e];refine h2.mono ?_;rintro _ F5 ⟨rfl,l5⟩;refine ⟨_,rfl,λw=>⟨by rw [G k B hi w],aa C (aa D l5)⟩,λQ=> ?_⟩;rw [aC B];refine next _ B ⟨aa D l5,λj E=> ?_⟩;by_cases e:j=k
   ·rw [e];exact Classical.not_not.1 Q
   ·exact hi j (by omega)
 ·have e:k=6:=by simp only at M;omega
  subst e;unfold DW;refine ⟨?_,aa C D⟩;rw [w7.2 ⟨J,XI (a:=54) (by decide) (hi 0 (by decide)),XI (a:=51) (by decide) (hi 1 (by decide)),XI (a:=50) (by decide) (hi 2 (by decide)),hi 3 (by decide),XI (a:=53) (by decide) (hi 4 (by decide)),XI (a:=53) (by decide) (hi 5 (by decide))⟩]
structure SlT (t e:TypeId) (n bytes:Nat) (z:Value):Prop where
 ht:prog.underlying t=V (.slice e)
 hsz:vy prog e=V (n,bytes)
 hz:bv prog e=V z
 hzs:z.cells.size=n
 hn:0<n
 hb:bytes<=250
theorem D8 {n m b:Nat} (g:b<=250) (h:n+m<=500000000000):(n+m)*b<=140737488355328:=
 WA (Yq h g) (by decide)
theorem St.appAt {G F:PH} {As:List (Ψ)} {t e n bytes:Nat} {z:ξ} (T:SlT t e n bytes z) {s x:Sl} {r news:Ξ} {ty:TypeId} (h:St G F As) (i:Nat) (hi:As[i]? =V (own s e n r)) (g:RdS F x n news) (M:∀v∈news,ak v)
  (D:s.len+x.len<=500000000000) {K:Sl->Ψ} (k:∀w L,St G L (As.set i (own w e n (r++news)))->w.len=s.len+x.len->K w L):
  aG prog (Builtin.append_ #[t,t] ty #[s.v,x.v]) F λv F=>∃w:Sl,v=nI w/\K w F:=by
 obtain ⟨H,P,a2,X,Q⟩:=h.set (A':=own s e n r) hi;have W:=(h.ownAt hi).1;by_cases h0:x.len=0
 ·have C:news=[]:=Wm (by rw [g.len,h0,Wp]);subst C;refine pe T.ht T.hsz T.hz T.hzs W g h0 (by have:=D8 (n:=s.len) (m:=0) T.hb (by omega);simpa using this) (by omega) ⟨s,rfl,k s F ?_ (by omega)⟩;rw [yt];exact Q H F P (λb B=> .inl B) X (λb o B _=>B)
 ·refine tG T.ht T.hsz T.hz T.hzs T.hn W g (by omega) M (D8 T.hb D) (by omega) ?_;rintro w L b ob rfl J O A B;obtain ⟨H,P,a2,X,Q⟩:=h.set (A':=own w e n (r++news)) hi;have E:H b≠I\/F b=I:=by
   rcases B with ⟨a,N,rfl⟩|B
   ·obtain ⟨a0,hc⟩:=bO.elem P N;exact .inl (by rw [hc];simp)
   ·exact .inr B
  refine ⟨w,rfl,k w _ ?_ O⟩;refine Q (PH.set (λ_=>I) b ob) _ (J.keep λa N=>by rw [A a N,aq,aq]) (λx g=> ?_) (λx p g=> ?_) (λx p g hn=> ?_)
  ·by_cases e:x=b
   ·rw [e];exact E
   ·rw [aw _ _ e] at g;exact absurd rfl g
  ·by_cases e:x=b
   ·rw [e,aq] at g ⊢;exact g
   ·rw [aw _ _ e] at g;cases g
  ·have e:x≠b:=λe=>by
    subst e;rcases E with h|h
    ·exact h hn
    ·rw [h] at g;cases g
   rw [aw _ _ e];exact g
namespace St
section
variable {G F:PH} {As:List (Ψ)} {t e n bytes:Nat} {z:ξ}
theorem pinOwn {s:Sl} {vs:Ξ} (h:St G F (own s e n vs::As)) {K:Ψ} (k:∀g,G.le g->RdS g s n vs->St g F As->K F):K F:=by obtain ⟨g,r,⟨H,A,B⟩,w⟩:=h.pin;exact k g r ((bO.rd A).le B) w
theorem app0 (T:SlT t e n bytes z) {s x:Sl} {g news:Ξ} {D:TypeId} (h:St G F (own s e n g::As)) (C:RdS F x n news) (A:∀v∈news,ak v) (w:s.len+x.len<=500000000000) {K:Sl->Ψ}
  (k:∀r B,St G B (own r e n (g++news)::As)->r.len=s.len+x.len->K r B):
  aG prog (Builtin.append_ #[t,t] D #[s.v,x.v]) F λv F=>∃r:Sl,v=nI r/\K r F:=h.appAt T 0 rfl C A w k
theorem push0 (T:SlT t e n bytes z) {s:Sl} {g:Ξ} {c:Γ} {M:TypeId} (h:St G F (own s e n g::As)) (E:c.size=n) (B:∀v∈c.toList,ak v) (H:s.len<=400000000000) {K:Sl->Ψ}
  (k:∀r A w,G.le A->St A w (own r e n (g++c.toList)::As)->r.len=s.len+1->K r w):
  ∀b,F b=I->xJ (F.set b (Y c e)) λF=>aG prog (Builtin.append_ #[t,t] M #[s.v,nI (t7 (V (oB b 0 I)) 1 1)]) F λv F=>∃r:Sl,v=nI r/\K r F:=by
 refine h.newG λb A w l q _ h=> ?_;have J:RdS w (t7 (V (oB b 0 I)) 1 1) n c.toList:=RdS.new (h.le _ _ q) (zh (by rw [zQ,E,Wy];exact ru _)) (by rw [zQ,E,Wy]) (ru _);exact h.app0 T J B (by show s.len+1<=_;omega) λr C L D=>k r A C l L D
theorem app1 {B:Ψ} (T:SlT t e n bytes z) {s x:Sl} {g news:Ξ} {E:TypeId} (h:St G F (B::own s e n g::As)) (D:RdS F x n news) (A:∀v∈news,ak v) (w:s.len+x.len<=500000000000) {K:Sl->Ψ}
  (k:∀r C,St G C (B::own r e n (g++news)::As)->r.len=s.len+x.len->K r C):
  aG prog (Builtin.append_ #[t,t] E #[s.v,x.v]) F λv F=>∃r:Sl,v=nI r/\K r F:=h.appAt T 1 rfl D A w k
theorem push1 {E:Ψ} (T:SlT t e n bytes z) {s:Sl} {g:Ξ} {c:Γ} {N:TypeId} (h:St G F (E::own s e n g::As)) (H:c.size=n) (B:∀v∈c.toList,ak v) (J:s.len<=400000000000) {K:Sl->Ψ}
  (k:∀r A w,G.le A->St A w (E::own r e n (g++c.toList)::As)->r.len=s.len+1->K r w):
  ∀b,F b=I->xJ (F.set b (Y c e)) λF=>aG prog (Builtin.append_ #[t,t] N #[s.v,nI (t7 (V (oB b 0 I)) 1 1)]) F λv F=>∃r:Sl,v=nI r/\K r F:=by
 refine h.newG λb A w l q _ h=> ?_;have L:RdS w (t7 (V (oB b 0 I)) 1 1) n c.toList:=RdS.new (h.le _ _ q) (zh (by rw [zQ,H,Wy];exact ru _)) (by rw [zQ,H,Wy]) (ru _);exact h.app1 T L B (by show s.len+1<=_;omega) λr C M D=>k r A C l M D
theorem app2 {B C:Ψ} (T:SlT t e n bytes z) {s x:Sl} {g news:Ξ} {H:TypeId} (h:St G F (B::C::own s e n g::As)) (E:RdS F x n news) (A:∀v∈news,ak v) (w:s.len+x.len<=500000000000) {K:Sl->Ψ}
  (k:∀r D,St G D (B::C::own r e n (g++news)::As)->r.len=s.len+x.len->K r D):
  aG prog (Builtin.append_ #[t,t] H #[s.v,x.v]) F λv F=>∃r:Sl,v=nI r/\K r F:=h.appAt T 2 rfl E A w k
theorem push2 {E H:Ψ} (T:SlT t e n bytes z) {s:Sl} {g:Ξ} {c:Γ} {O:TypeId} (h:St G F (E::H::own s e n g::As)) (J:c.size=n) (B:∀v∈c.toList,ak v) (L:s.len<=400000000000) {K:Sl->Ψ}
  (k:∀r A w,G.le A->St A w (E::H::own r e n (g++c.toList)::As)->r.len=s.len+1->K r w):
  ∀b,F b=I->xJ (F.set b (Y c e)) λF=>aG prog (Builtin.append_ #[t,t] O #[s.v,nI (t7 (V (oB b 0 I)) 1 1)]) F λv F=>∃r:Sl,v=nI r/\K r F:=by
 refine h.newG λb A w l q _ h=> ?_;have M:RdS w (t7 (V (oB b 0 I)) 1 1) n c.toList:=RdS.new (h.le _ _ q) (zh (by rw [zQ,J,Wy];exact ru _)) (by rw [zQ,J,Wy]) (ru _);exact h.app2 T M B (by show s.len+1<=_;omega) λr C N D=>k r A C l N D
theorem app3 {B C E:Ψ} (T:SlT t e n bytes z) {s x:Sl} {g news:Ξ} {J:TypeId} (h:St G F (B::C::E::own s e n g::As)) (H:RdS F x n news) (A:∀v∈news,ak v) (w:s.len+x.len<=500000000000) {K:Sl->Ψ}
  (k:∀r D,St G D (B::C::E::own r e n (g++news)::As)->r.len=s.len+x.len->K r D):
  aG prog (Builtin.append_ #[t,t] J #[s.v,x.v]) F λv F=>∃r:Sl,v=nI r/\K r F:=h.appAt T 3 rfl H A w k
theorem push3 {E H M:Ψ} (T:SlT t e n bytes z) {s:Sl} {g:Ξ} {c:Γ} {P:TypeId} (h:St G F (E::H::M::own s e n g::As)) (J:c.size=n) (B:∀v∈c.toList,ak v) (L:s.len<=400000000000) {K:Sl->Ψ}
  (k:∀r A w,G.le A->St A w (E::H::M::own r e n (g++c.toList)::As)->r.len=s.len+1->K r w):
  ∀b,F b=I->xJ (F.set b (Y c e)) λF=>aG prog (Builtin.append_ #[t,t] P #[s.v,nI (t7 (V (oB b 0 I)) 1 1)]) F λv F=>∃r:Sl,v=nI r/\K r F:=by
 refine h.newG λb A w l q _ h=> ?_;have N:RdS w (t7 (V (oB b 0 I)) 1 1) n c.toList:=RdS.new (h.le _ _ q) (zh (by rw [zQ,J,Wy];exact ru _)) (by rw [zQ,J,Wy]) (ru _);exact h.app3 T N B (by show s.len+1<=_;omega) λr C O D=>k r A C l O D
end
end St
theorem qcX:SlT 30 9 1 16 (.string ⟨#[]⟩):=⟨underlying30,sz9,zr9,rfl,by decide,by decide⟩
theorem sG:SlT 76 3 1 8 (.int .i64 0):=⟨underlying76,X6,X8,rfl,by decide,by decide⟩
theorem qgw:∃b z,SlT 61 130 2 b z:=⟨_,_,underlying61,QZ,Q1,rfl,by decide,by decide⟩
theorem V7:∃b z,SlT 34 166 7 b z:=⟨_,_,underlying34,qfl,qfr,rfl,by decide,by decide⟩
theorem Sm:∃b z,SlT 35 64 13 b z:=⟨_,_,underlying35,aaI,aaO,rfl,by decide,by decide⟩
theorem qfW:∃b z,SlT 36 236 4 b z:=⟨_,_,underlying36,qfo,qfu,rfl,by decide,by decide⟩
theorem qfX:∃b z,SlT 37 233 9 b z:=⟨_,_,underlying37,qfn,qft,rfl,by decide,by decide⟩
theorem qfY:SlT 195 41 1 8 (.int .u64 0):=⟨underlying195,aaG,aaM,rfl,by decide,by decide⟩
end
open Tr
section
def Uw (g:Gr) (c:Int):Bool:=decide (Int.fdiv c (2 ^ min g.qa4.length 64)=0) && jm g.fam c
theorem qhD {F:PH} {v:Γ} {g:Gr} (C:GV F v g) {c:Int} (c0:0<=c) (c1:c<18446744073709551616):ν 105 #[nQ v,rV .u64 c] F λr E=>r=nW (Uw g c)/\F.le E:=by
 obtain ⟨G,n,t,s,p,l,f,rfl,A⟩:=C;have D:=A.c.len;refine qdr ?_;unfold OK;refine fresh λJ H w q1 _=>⟨_,ld q1 rfl,by omega,λh=>⟨#[n.v,U g.fam.2],rfl,ga q1 rfl,?_⟩,λh=>⟨?_,w⟩⟩;all_goals rw [N4,D,show u64.bits=64 from rfl] at h
 ·refine (sS (a:=g.fam) (DV.mk (A.n.le w)) c0 c1).mono ?_;rintro _ F2 ⟨rfl,B⟩;refine ⟨_,rfl,?_,aa w B⟩;unfold Uw;rw [ε h,Wz]
 ·unfold Uw;rw [η h,W6]
def Xs (g:Gr) (c:Int):Bool:=decide (BV g=0) && Uw g c
theorem Jo {F:PH} {v:Γ} {g:Gr} (D:Tab F) (A:GV F v g) (H:Sz g) {c:Int} (c0:0<=c) (c1:c<18446744073709551616):ν 75 #[nQ v,rV .u64 c] F λr G=>r=nW (Xs g c)/\F.le G:=by
 refine qgt ?_;unfold Vv;refine fresh λL J B q1 _=>⟨v,A.size,ai q1,?_⟩;refine (oO (D.le B) (A.le B) H).mono ?_;rintro _ F2 ⟨rfl,C⟩;have w:=aa B C;refine ⟨_,rfl,λh=>⟨v,A.size,ai (C _ _ q1),?_⟩,λh=>⟨?_,w⟩⟩
 ·refine (qhD (A.le w) c0 c1).mono ?_;rintro _ K ⟨rfl,E⟩;refine ⟨_,rfl,?_,aa w E⟩;unfold Xs;rw [ε h,Wz]
 ·unfold Xs;rw [η h,W6]
instance (t:Tr):Decidable (t=qa6 mD):=match t with
 |qa6 nk=>isFalse (by simp)
 |qa6 mD=>isTrue rfl
 |qa7 _ _ _=>isFalse (by simp)
theorem uA {d:wa} {n:Nat} (h:iB d n):∃t:Tr,t.ok/\d=pj t/\vi d=t/\(aU t).length<=4096/\dS n t:=by
 obtain ⟨g,B⟩:=h;unfold chk at g;split at g
 ·cases g
 ·rename_i D;split at g
  ·rename_i C;obtain ⟨t,w,rfl⟩:=C;refine ⟨t,w,rfl,mQ w,by simpa [pj,aO] using D,?_⟩;refine sT (bz w) (λx A=> ?_) t (bH w);obtain ⟨_,v,l,r,rfl,_,_⟩:=(bz w).mem x A;have:=B (br (aU t) (qa7 v l r)) (xv.2 ⟨_,A,rfl⟩);simp only [br] at this;simp only [top];omega
  ·cases g
abbrev vC (c:Nat):Value:=rV .u64 (c:Int)
abbrev vB (n:Nat):Value:=rV .u8 (n:Int)
theorem Gt (a:Addr) (i j:Nat):nV (nV a i) j=nV a (i+j):=by
 unfold nV;by_cases hi:i=0
 ·simp [hi]
 ·by_cases g:j=0
  ·simp [g]
  ·simp [hi,g,Wo]
theorem p6 {F:PH} {a:Addr} {c d:Γ} {o:Nat} (h:F.row a c) (hd:(c.toList.drop o).take d.size=d.toList):F.row (a.add o) d:=by intro i hi;rw [Gt];have:=congrArg (λl=>l[i]?) hd;simp only [YF hi,List.getElem?_drop,YI] at this;exact aM h (this.trans (by simp [hi]))
theorem St.pinO {G F:PH} {As:List (Ψ)} {e n:Nat} {s:Sl} {vs:Ξ} (h:St G F (own s e n vs::As)):∃g,G.le g/\RdS g s n vs/\St g F As:=by obtain ⟨g,r,⟨H,A,B⟩,w⟩:=h.pin;exact ⟨g,r,(bO.rd A).le B,w⟩
variable {R:VR} {F:PH}
set_option maxHeartbeats 4000000
abbrev KC (b1:Nat) (sp:Sl) (f:Nat) (i:Int) (F:PH) (K:Γ->Ψ):Prop:=Ca f #[U i] F λv F=>F.cell (Z b1 5)=V (nI sp)/\K v F
abbrev KT (b1 n:Nat) (nm:ByteArray) (left:Int) (sp:Sl) (C:Ψ) (cs:Γ) (F:PH):Prop:=Nb F (Y cs 130) λb F=>Ca 53 #[ph nm,U left,nI (Sb b n)] F λw F=>F.cell (Z b1 5)=V (nI sp)/\w.size=13/\Nb F (Y w 64) λb F=>Ap 35 #[nI sp,nI (Sb b 1)] F λs' F=>pv F (Z b1 5) (nI s') C
abbrev YX (b1:Nat) (nm:ByteArray) (left:Int) (C:Ψ) (F:PH):Prop:=Ls F (Z b1 5) λsp=>KT b1 0 nm left sp C #[] F
abbrev Ya (b1:Nat) (f1:Nat) (i1:Int) (nm:ByteArray) (left:Int) (C:Ψ) (F:PH):Prop:=Ls F (Z b1 5) λsp=>KC b1 sp f1 i1 F λv1 F=>v1.size=2/\KT b1 1 nm left sp C v1 F
abbrev Xd (b1:Nat) (f1:Nat) (i1:Int) (f2:Nat) (i2:Int) (nm:ByteArray) (left:Int) (C:Ψ) (F:PH):Prop:=Ls F (Z b1 5) λsp=>KC b1 sp f1 i1 F λv1 F=>KC b1 sp f2 i2 F λv2 F=>v1.size=2/\v2.size=2/\KT b1 2 nm left sp C (wr (wr (#[nW mD,U 0,.bool mD,U 0]:Γ) 0 v1.toList) 2 v2.toList) F
abbrev Xm (b1:Nat) (f1:Nat) (i1:Int) (f2:Nat) (i2:Int) (f3:Nat) (i3:Int) (nm:ByteArray) (left:Int) (C:Ψ) (F:PH):Prop:=Ls F (Z b1 5) λsp=>KC b1 sp f1 i1 F λv1 F=>KC b1 sp f2 i2 F λv2 F=>KC b1 sp f3 i3 F λv3 F=>v1.size=2/\v2.size=2/\v3.size=2/\KT b1 3 nm left sp C (wr (wr (wr (#[nW mD,U 0,.bool mD,U 0,.bool mD,U 0]:Γ) 0 v1.toList) 2 v2.toList) 4 v3.toList) F
abbrev Zp (b1:Nat) (f1:Nat) (i1:Int) (f2:Nat) (i2:Int) (f3:Nat) (i3:Int) (f4:Nat) (i4:Int) (nm:ByteArray) (left:Int) (C:Ψ) (F:PH):Prop:=Ls F (Z b1 5) λsp=>KC b1 sp f1 i1 F λv1 F=>KC b1 sp f2 i2 F λv2 F=>KC b1 sp f3 i3 F λv3 F=>KC b1 sp f4 i4 F λv4 F=>v1.size=2/\v2.size=2/\v3.size=2/\v4.size=2/\KT b1 4 nm left sp C (wr (wr (wr (wr (#[nW mD,U 0,.bool mD,U 0,.bool mD,U 0,.bool mD,U 0]:Γ) 0 v1.toList) 2 v2.toList) 4 v3.toList) 6 v4.toList) F
abbrev ZU (b1:Nat) (f1:Nat) (i1:Int) (f2:Nat) (i2:Int) (f3:Nat) (i3:Int) (f4:Nat) (i4:Int) (f5:Nat) (i5:Int) (nm:ByteArray) (left:Int) (C:Ψ) (F:PH):Prop:=Ls F (Z b1 5) λsp=>KC b1 sp f1 i1 F λv1 F=>KC b1 sp f2 i2 F λv2 F=>KC b1 sp f3 i3 F λv3 F=>KC b1 sp f4 i4 F λv4 F=>KC b1 sp f5 i5 F λv5 F=>v1.size=2/\v2.size=2/\v3.size=2/\v4.size=2/\v5.size=2/\KT b1 5 nm left sp C (wr (wr (wr (wr (wr (#[nW mD,U 0,.bool mD,U 0,.bool mD,U 0,.bool mD,U 0,.bool mD,U 0]:Γ) 0 v1.toList) 2 v2.toList) 4 v3.toList) 6 v4.toList) 8 v5.toList) F
def V8 (R:VR) (F:PH):Prop:=Nb F (Y zG 39) λs F=>Nb F (Y #[ph ⟨#[76]⟩,ph ⟨#[73]⟩] 9) λt F=>Ca 52 #[nI (Sb t 2)] F λr F=>Nb F (Y zG 39) λa F=>aA F (Z a 0) 9 r λF=>YX a ⟨#[101,109,112,116,121]⟩ 0 (λF=>Xd a 54 0 54 1 ⟨#[109,111,114,101]⟩ 0 (λF=>Xm a 55 1 55 0 55 7 ⟨#[116,121,112,101]⟩ 1 (λF=>Zp a 55 0 55 2 55 0 55 7 ⟨#[112,111,105,110,116,101,114]⟩ 1 (λF=>Zp a 55 0 55 2 55 0 55 7 ⟨#[112,114,111,100,117,99,116]⟩ 1 (λF=>Xm a 55 3 54 0 55 4 ⟨#[105,110,110,101,114]⟩ 1 (λF=>Xd a 55 0 55 7 ⟨#[115,116,114,105,99,116]⟩ 1 (λF=>Ls F (Z a 5) λf=>Ix f 2 λg=>aA F (nV (nV g (nX 2*13)) 8) 5 (#[nW mD,(U 2),(U 1),U 0,U 0]:Γ) λF=>Ls F (Z a 5) λh=>Ix h 3 λi=>aA F (nV (nV i (nX 3*13)) 8) 5 (#[nW mD,(U 3),(U 2),(U 1),(U 2)]:Γ) λF=>Ls F (Z a 5) λj=>Ix j 4 λk=>aA F (nV (nV k (nX 4*13)) 8) 5 (#[nW mD,U 0,U 0,(U 1),(U 5)]:Γ) λF=>Ls F (Z a 5) λl=>Ix l 5 λm=>aA F (nV (nV m (nX 5*13)) 8) 5 (#[nW nk,U 0,U 0,U 0,U 0]:Γ) λF=>Ls F (Z a 5) λn=>Ix n 6 λo=>aA F (nV (nV o (nX 6*13)) 8) 5 (#[nW mD,U 0,U 0,(U 1),(U 6)]:Γ) λF=>Ls F (Z a 5) λp=>Ix p 4 λq=>pv F (nV (nV q (nX 4*13)) 6) (U (-1:Int)) λF=>Ls F (Z a 5) λb=>Ca 56 #[(U 0)] F λc F=>F.cell (Z a 5)=V (nI b)/\Ix b 6 λd=>aA F (nV (nV d (nX 6*13)) 3) 2 c λF=>Lr F 9 (Z a 0) λe=>aA F (Z s 0) 9 e λF=>Rr 9 (Z s 0) R F) F) F) F) F) F) F) F
theorem qfZ (h:V8 R F):ν 27 #[] F R:=Rx.Λ .N h
def V9 (a:Sl) (R:VR) (F:PH):Prop:=Nb F (Y zG 39) λe F=>Ca 85 #[nW nk] F λg F=>Nb F (Y zD 33) λf F=>aA F (Z f 0) 2 g λF=>Lr F 2 (Z f 0) λb=>((Nb F (Y #[ph ⟨#[65]⟩,ph ⟨#[66]⟩] 9) λi F=>Cs 86 #[] F λh F=>F.row (Z f 0) b/\b.size=2/\aA F (Z e 0) 9 (tC (tC (wr (tC zG 0 (nI (Sb i 2))) 1 b.toList) 3 (nI h)) 4 (nI a)) λF=>Rr 9 (Z e 0) R F)/\(Cs 86 #[] F λc F=>F.row (Z f 0) b/\Nb F (Y #[ph ⟨#[65]⟩,ph ⟨#[66]⟩] 9) λd F=>b.size=2/\aA F (Z e 0) 9 (tC (tC (wr (tC zG 0 (nI (Sb d 2))) 1 b.toList) 3 (nI c)) 4 (nI a)) λF=>Rr 9 (Z e 0) R F))
theorem qf0 {a:Sl} (h:V9 a R F):ν 52 #[nI a] F R:=Rx.Λ .N h
def Sn (b:ο) (c:Int) (a:Sl) (R:VR) (F:PH):Prop:=Nb F (Y zP 64) λe F=>Ca 85 #[nW nk] F λd F=>d.size=2/\aA F (Z e 0) 13 (wr (tC (tC (tC zP 0 (ph b)) 1 (U c)) 2 (nI a)) 3 d.toList) λF=>Rr 13 (Z e 0) R F
theorem Wa {b:ο} {c:Int} {a:Sl} (h:Sn b c a R F):ν 53 #[ph b,(U c),nI a] F R:=Rx.Λ .N h
def Wb (a:Int) (R:VR) (F:PH):Prop:=Nb F (Y (#[nW mD,U 0]) 130) λb F=>aA F (Z b 0) 2 (#[nW mD,(U a)]:Γ) λF=>Rr 2 (Z b 0) R F
theorem qf1 {a:Int} (h:Wb a R F):ν 54 #[(U a)] F R:=Rx.Λ .N h
def Wd (a:Int) (R:VR) (F:PH):Prop:=Nb F (Y (#[nW mD,U 0]) 130) λb F=>aA F (Z b 0) 2 (#[nW nk,(U a)]:Γ) λF=>Rr 2 (Z b 0) R F
theorem qf3 {a:Int} (h:Wd a R F):ν 55 #[(U a)] F R:=Rx.Λ .N h
def We (d:Int) (R:VR) (F:PH):Prop:=Nb F (Y zD 33) λe F=>ν 87 #[(U d)] F λv F=>∃b,∃a,v=(.tuple #[nQ b,(U a)])/\Nb F (Y zD 33) λf F=>aA F (Z f 0) 2 b λF=>Lr F 2 (Z f 0) λc=>aA F (Z e 0) 2 c λF=>Rr 2 (Z e 0) R F
theorem qf4 {a:Int} (h:We a R F):ν 56 #[(U a)] F R:=Rx.Λ .N h
def sH (b c:Nat) (R:VR) (F:PH):Prop:=Lr F 9 (Z c 0) λa=>aA F (Z b 0) 9 a λF=>Rr 9 (Z b 0) R F
def BW (k:Ω) (i j h:Nat) (R:VR) (a:Int) (F:PH):Prop:=Ls F (Z i 4) λc=>Bc (a<(c.len:Int)) (Bc (a<6) (Lr F 9 (Z h 0) λd=>Ls F (Z i 4) λb=>Ix b a λe=>Lr F 5 (nV e (nX a*5)) λf=>Ca 95 #[nQ d,nQ f] F λg F=>F.cell (Z i 4)=V (nI b)/\aA F (Z h 0) 9 g λF=>k (i64.wrap (a+1)) F) (sH j h R F)) (sH j h R F)
def sI (b c d:Nat) (R:VR) (F:PH):Prop:=Lp 0 F λN a F=>BW N b c d R a F
def BX (m:Ω) (d l:Nat) (e:Int) (k:Nat) (b:Int) (R:VR) (a:Int) (F:PH):Prop:=Ls F (Z d 3) λf=>Bc (a<(f.len:Int)) (Bc (a<b) (Lr F 9 (Z k 0) λg=>Ls F (Z d 3) λc=>Ix c a λh=>Lr F 4 (nV h (nX a*4)) λi=>Ca 94 #[nQ g,nQ i,nW (decide ((sj e 8)<6))] F λj F=>F.cell (Z d 3)=V (nI c)/\aA F (Z k 0) 9 j λF=>m (i64.wrap (a+1)) F) (sI d l k R F)) (sI d l k R F)
def w9 (d e:Nat) (b:Int) (f:Nat) (a:Int) (R:VR) (F:PH):Prop:=Lp 0 F λN c F=>BX N d e b f a R c F
def sJ (f g:Nat) (b:Int) (e:Nat) (a:Int) (h:Nat) (c:Bool) (R:VR) (F:PH):Prop:=Bb (c) (Lr F 2 (Z h 0) λd=>aA F (Z e 1) 2 d λF=>w9 f g b e a R F) (w9 f g b e a R F)
def xa (h k:Nat) (b:Int) (j:Nat) (a:Int) (R:VR) (F:PH):Prop:=Ls F (Z h 2) λc=>Ls F (Z j 0) λd=>Ca 93 #[nI c,(U (d.len:Int))] F λe F=>Nb F (Y zD 33) λi F=>aA F (Z i 0) 2 e λF=>Ls F (Z h 2) λf=>Bc ((0:Int)<(f.len:Int)) (Li F (Z i 1) λg=>sJ h k b j a i (decide (g≠0)) R F) (sJ h k b j a i mD R F)
def Wf (o:Γ) (R:VR) (F:PH):Prop:=Nb F (Y o 26) λj F=>Nb F (Y zG 39) λr F=>Lk F .u8 (Z j 0) λc=>Lk F .u8 (Z j 0) λk=>Ca 92 #[rV .u8 (sj k 8)] F λl F=>Nb F (Y zG 39) λe F=>aA F (Z e 0) 9 l λF=>Bc (¬((sj c 8)<6)) (Nb F (Y #[ph ⟨#[83]⟩,ph ⟨#[80]⟩,ph ⟨#[81]⟩] 9) λh F=>Lk F .u8 (Z j 1) λa=>0<=(i64.wrap (1+(sj (i64.wrap (u8.wrap (Int.tdiv a 4))) 3)))/\0<=(nX (i64.wrap (1+(sj (i64.wrap (u8.wrap (Int.tdiv a 4))) 3))))/\(nX (i64.wrap (1+(sj (i64.wrap (u8.wrap (Int.tdiv a 4))) 3))))<=(Sb h 3).cap/\Ca 52 #[nI (Sl.cut (Sb h 3) 1 0 (nX (i64.wrap (1+(sj (i64.wrap (u8.wrap (Int.tdiv a 4))) 3)))) (Sb h 3).cap)] F λm F=>aA F (Z e 0) 9 m λF=>Nb F (Y #[ph ⟨#[65]⟩,ph ⟨#[66]⟩,ph ⟨#[67]⟩] 9) λi F=>Lk F .u8 (Z j 1) λb=>0<=(i64.wrap (sj b 4))/\0<=(nX (i64.wrap (sj b 4)))/\(nX (i64.wrap (sj b 4)))<=(Sb i 3).cap/\pv F (Z e 0) (nI (Sl.cut (Sb i 3) 1 0 (nX (i64.wrap (sj b 4))) (Sb i 3).cap)) λF=>Ls F (Z e 5) λd=>Ca 55 #[(U 0)] F λf F=>F.cell (Z e 5)=V (nI d)/\f.size=2/\Nb F (Y f 130) λp F=>Ca 53 #[ph ⟨#[102,105,114,115,116]⟩,(U 0),nI (Sb p 1)] F λg F=>F.cell (Z e 5)=V (nI d)/\g.size=13/\Nb F (Y g 64) λq F=>Ap 35 #[nI d,nI (Sb q 1)] F λn F=>pv F (Z e 5) (nI n) λF=>xa j r c e 10 R F) (xa j r c e 6 R F)
theorem qf5 {a:Γ} (h:Wf a R F):ν 64 #[nQ a] F R:=Rx.Λ (.qa8 (.qa8 (.qa8 (.qa8 (.J mD [(5,.int .i64)] .N (.qa8 (.J mD [] (.J mD [(57,.bool)] .N .N) (.J mD [] (.qa8 (.L [(7,.int .i64)] .N)) (.J mD [] (.qa8 (.L [(8,.int .i64)] .N)) .N))))))))) h
def Jp (x:Nat) (q:Sl) (R:VR) (F:PH):Prop:=Ca 119 #[(U 9),(U 10)] F λc F=>Ca 119 #[(U 32),(U 32)] F λd F=>Ca 120 #[(U 3),(U 0),(U 1)] F λe F=>Ca 119 #[(U 9),(U 10)] F λf F=>Ca 119 #[(U 32),(U 32)] F λg F=>Ca 120 #[(U 3),(U 3),(U 4)] F λh F=>Ca 120 #[(U 4),(U 5),(U 0)] F λi F=>Ca 120 #[(U 2),(U 2),(U 6)] F λj F=>c.size=5/\d.size=5/\e.size=5/\f.size=5/\g.size=5/\h.size=5/\i.size=5/\j.size=5/\Nb F (Y (wr (wr (wr (wr (wr (wr (wr (wr (#[U 0,U 0,U 0,U 0,U 0,U 0,U 0,U 0,U 0,U 0,U 0,U 0,U 0,U 0,U 0,U 0,U 0,U 0,U 0,U 0,U 0,U 0,U 0,U 0,U 0,U 0,U 0,U 0,U 0,U 0,U 0,U 0,U 0,U 0,U 0,U 0,U 0,U 0,U 0,U 0]:Γ) 0 c.toList) 5 d.toList) 10 e.toList) 15 f.toList) 20 g.toList) 25 h.toList) 30 i.toList) 35 j.toList) 225) λr F=>Ca 119 #[(U 37),(U 37)] F λk F=>Ca 119 #[(U 97),(U 122)] F λl F=>Ca 119 #[(U 32),(U 32)] F λm F=>Ca 120 #[(U 3),(U 1),(U 2)] F λn F=>Ca 120 #[(U 4),(U 3),(U 0)] F λo F=>Ca 120 #[(U 2),(U 0),(U 4)] F λp F=>k.size=5/\l.size=5/\m.size=5/\n.size=5/\o.size=5/\p.size=5/\Nb F (Y (wr (wr (wr (wr (wr (wr (#[U 0,U 0,U 0,U 0,U 0,U 0,U 0,U 0,U 0,U 0,U 0,U 0,U 0,U 0,U 0,U 0,U 0,U 0,U 0,U 0,U 0,U 0,U 0,U 0,U 0,U 0,U 0,U 0,U 0,U 0]:Γ) 0 k.toList) 5 l.toList) 10 m.toList) 15 n.toList) 20 o.toList) 25 p.toList) 225) λs F=>Lr F 2 (Z x 0) λa=>a.size=2/\(wr (tC (tC (tC zT 0 (ph ⟨#[115,112,97,99,101]⟩)) 1 (U 1)) 3 (nI (Sb r 8))) 5 a.toList).size=7/\Nb F (Y (wr (tC (tC (tC zT 0 (ph ⟨#[115,112,97,99,101]⟩)) 1 (U 1)) 3 (nI (Sb r 8))) 5 a.toList) 166) λv F=>Ap 34 #[nI q,nI (Sb v 1)] F λt F=>Lr F 2 (Z x 0) λb=>b.size=2/\(wr (tC (tC (tC zT 0 (ph ⟨#[114,101,109,97,114,107]⟩)) 1 (U 2)) 3 (nI (Sb s 6))) 5 b.toList).size=7/\Nb F (Y (wr (tC (tC (tC zT 0 (ph ⟨#[114,101,109,97,114,107]⟩)) 1 (U 2)) 3 (nI (Sb s 6))) 5 b.toList) 166) λw F=>Ap 34 #[nI t,nI (Sb w 1)] F λu F=>R (nI u) F
def Jq (l:Sl->Ω) (j h:Nat) (R:VR) (a:Sl) (b:Int) (F:PH):Prop:=Bc (b<((Sb h 8).len:Int)) (Ix (Sb h 8) b λf=>Lx F (nV f (nX b*1)) λd=>Ix (Sb h 8) b λg=>Lx F (nV g (nX b*1)) λe=>Lr F 2 (Z j 0) λc=>c.size=2/\(wr (tC (tC zT 0 (ph d)) 2 (ph e)) 5 c.toList).size=7/\Nb F (Y (wr (tC (tC zT 0 (ph d)) 2 (ph e)) 5 c.toList) 166) λk F=>Ap 34 #[nI a,nI (Sb k 1)] F λi F=>F.row (Z j 0) c/\F.cell (nV g (nX b*1))=V (ph e)/\F.cell (nV f (nX b*1))=V (ph d)/\l i (i64.wrap (b+1)) F) (Jp j a R F)
def Wg (R:VR) (F:PH):Prop:=Ca 85 #[nW nk] F λk F=>Nb F (Y zD 33) λl F=>aA F (Z l 0) 2 k λF=>Lr F 2 (Z l 0) λf=>f.size=2/\(wr (tC (tC zT 0 (ph ⟨#[105,100]⟩)) 4 (ph ⟨#[120]⟩)) 5 f.toList).size=7/\Nb F (Y (wr (tC (tC zT 0 (ph ⟨#[105,100]⟩)) 4 (ph ⟨#[120]⟩)) 5 f.toList) 166) λg F=>Ca 119 #[(U 97),(U 122)] F λb F=>Ca 119 #[(U 97),(U 122)] F λc F=>Ca 120 #[(U 4),(U 1),(U 0)] F λd F=>Ca 120 #[(U 2),(U 0),(U 2)] F λe F=>b.size=5/\c.size=5/\d.size=5/\e.size=5/\Nb F (Y (wr (wr (wr (wr (#[U 0,U 0,U 0,U 0,U 0,U 0,U 0,U 0,U 0,U 0,U 0,U 0,U 0,U 0,U 0,U 0,U 0,U 0,U 0,U 0]:Γ) 0 b.toList) 5 c.toList) 10 d.toList) 15 e.toList) 225) λm F=>Ix (Sb g 1) 0 λh=>pv F (nV (nV h (nX 0*7)) 3) (nI (Sb m 4)) λF=>Nb F (Y #[ph ⟨#[43]⟩,ph ⟨#[42]⟩,ph ⟨#[40]⟩,ph ⟨#[41]⟩,ph ⟨#[105,102]⟩,ph ⟨#[101,108,115,101]⟩,ph ⟨#[59]⟩,ph ⟨#[94]⟩] 9) λn F=>(∃(o:Nat->Sl->Ω) (j:Nat),o j (Sb g 1) 0 F/\∀j a i F,o j a i F-> Jq (V6 o j) l n R a i F)
theorem qf6 (h:Wg R F):ν 86 #[] F R:=Rx.Λ (.qa8 (.qa8 (.qa8 (.qa8 (.qa8 (.J mD [(2,.sl)] (.qa8 (.L [(2,.sl),(4,.int .i64)] .N)) .N)))))) h
def Wh (b:Int) (R:VR) (F:PH):Prop:=Nb F (Y zG 39) λa F=>Bc ((sj b 6)=0) (Ca 122 #[] F λh F=>aA F (Z a 0) 9 h λF=>Rr 9 (Z a 0) R F) (Bc ((sj b 6)=1) (Ca 123 #[] F λc F=>aA F (Z a 0) 9 c λF=>Rr 9 (Z a 0) R F) (Bc ((sj b 6)=2) (Ca 27 #[] F λd F=>aA F (Z a 0) 9 d λF=>Rr 9 (Z a 0) R F) (Bc ((sj b 6)=3) (Ca 124 #[] F λe F=>aA F (Z a 0) 9 e λF=>Rr 9 (Z a 0) R F) (Bc ((sj b 6)=4) (Ca 125 #[] F λf F=>aA F (Z a 0) 9 f λF=>Rr 9 (Z a 0) R F) (Ca 126 #[] F λg F=>aA F (Z a 0) 9 g λF=>Rr 9 (Z a 0) R F)))))
theorem aaa {a:Int} (h:Wh a R F):ν 92 #[rV .u8 a] F R:=Rx.Λ .N h
def sK (c b:Nat) (R:VR) (F:PH):Prop:=Lr F 9 (Z c 0) λa=>aA F (Z b 0) 9 a λF=>Rr 9 (Z b 0) R F
def gC (h z o:Nat) (y:Θ) (p:Bool) (R:VR) (F:PH):Prop:=Bb (p) (Lr F 9 (Z h 0) λq=>aA F (Z o 0) 9 q λF=>Rr 9 (Z o 0) R F) (Lk F .u8 (Z z 2) λr=>Ls F (Z h 0) λs=>Ca 128 #[rV .u8 r,(U (s.len:Int))] F λt F=>∃b,y=V b/\aA F (nV b 3) 2 t λF=>Lr F 13 b λu=>Lk F .u8 (Z z 3) λv=>Ca 129 #[nQ u,rV .u8 v] F λw F=>aA F b 13 w λF=>Ls F (Z h 5) λc=>Lr F 13 b λa=>((Nb F (Y #[] 64) λl F=>((Ap 35 #[nI (Sb l 0),nI c] F λm F=>F.row b a/\a.size=13/\Nb F (Y a 64) λx F=>Ap 35 #[nI m,nI (Sb x 1)] F λn F=>pv F (Z h 5) (nI n) λF=>sK h o R F)/\(a.size=13/\Nb F (Y a 64) λi F=>Ap 35 #[nI (Sb l 0),nI c] F λd F=>Ap 35 #[nI d,nI (Sb i 1)] F λe F=>pv F (Z h 5) (nI e) λF=>sK h o R F)))/\(a.size=13/\Nb F (Y a 64) λj F=>Nb F (Y #[] 64) λk F=>Ap 35 #[nI (Sb k 0),nI c] F λf F=>Ap 35 #[nI f,nI (Sb j 1)] F λg F=>pv F (Z h 5) (nI g) λF=>sK h o R F)))
def sL (c:Bool) (e f g:Nat) (d:Θ) (a:Int) (b:Bool) (R:VR) (F:PH):Prop:=Bc (a=0) (Bb (c) (gC e f g d nk R F) (gC e f g d (!b) R F)) (gC e f g d mD R F)
def sM (f:Int->Bool->Ω) (_:Bool) (_ _ _:Nat) (_:Sl) (_:Θ) (d a:Int) (b:Bool) (_:VR) (F:PH):Prop:=f a b (i64.wrap (d+1)) F
def Jr (w:Int->Bool->Ω) (d:Bool) (o n p:Nat) (f:Sl) (i:Θ) (R:VR) (a:Int) (b:Bool) (g:Int) (F:PH):Prop:=Ls F (Z n 1) λq=>Bc (g<(q.len:Int)) (Bc (g<4) (Ls F (Z n 1) λr=>Ix r g λs=>Lk F .u8 (nV s (nX g*1)) λh=>Bc ((sj (i64.wrap h) 14)<9) (∃e,i=V e/\Ls F (nV e 2) λj=>Ca 55 #[(U (sj (i64.wrap h) 14))] F λk F=>F.cell (nV e 2)=V (nI j)/\k.size=2/\Nb F (Y k 130) λx F=>Ap 61 #[nI j,nI (Sb x 1)] F λt F=>pv F (nV e 2) (nI t) λF=>sM w d o n p f (V e) g (i64.wrap (a+1)) b R F) (∃c,i=V c/\Ls F (nV c 2) λl=>(f.len:Int)≠0/\Ca 54 #[(U (sj (i64.wrap ((sj (i64.wrap h) 14) - 9)) (f.len:Int)))] F λm F=>F.cell (nV c 2)=V (nI l)/\m.size=2/\Nb F (Y m 130) λy F=>Ap 61 #[nI l,nI (Sb y 1)] F λu F=>pv F (nV c 2) (nI u) λF=>Bb (b) ((f.len:Int)≠0/\Li F (nV c 1) λv=>sM w d o n p f (V c) g a (decide (v<(sj (i64.wrap ((sj (i64.wrap h) 14) - 9)) (f.len:Int)))) R F) (sM w d o n p f (V c) g a mD R F))) (sL d o n p i a b R F)) (sL d o n p i a b R F)
def nY (c:Bool) (i j k:Nat) (e:Sl) (g:Θ) (R:VR) (F:PH):Prop:=(∃(h:Nat->Int->Bool->Ω) (f:Nat),h f 0 nk 0 F/\∀f a b d F,h f a b d F-> Jr (Zx h f) c i j k e g R a b d F)
def Wi (p q:Γ) (b:Bool) (R:VR) (F:PH):Prop:=Nb F (Y p 39) λj F=>Nb F (Y q 191) λm F=>Nb F (Y zG 39) λr F=>Ls F (Z j 4) λc=>Ls F (Z j 5) λf=>Lk F .u8 (Z m 0) λd=>(c.len:Int)≠0/\((Nb F (Y #[rV .u8 (u8.wrap (i64.wrap (97+(f.len:Int))))] 5) λn F=>∃e,qX prog (Conv.bytesToString (nI (Sb n 1))) F (ph e)/\(ByteArray.mk #[112]).size+e.size<=9223372036854775807/\((Ca 53 #[ph ((ByteArray.mk #[112])++e),(U (sj (i64.wrap d) (c.len:Int))),nI pm] F λo F=>qX prog (Conv.bytesToString (nI (Sb n 1))) F (ph e)/\F.cell (Z m 0)=V (rV .u8 d)/\F.cell (Z j 5)=V (nI f)/\Nb F (Y zP 64) λs F=>aA F (Z s 0) 13 o λF=>nY b j m r c (V (Z s 0)) R F)/\(Nb F (Y zP 64) λk F=>Ca 53 #[ph ((ByteArray.mk #[112])++e),(U (sj (i64.wrap d) (c.len:Int))),nI pm] F λh F=>qX prog (Conv.bytesToString (nI (Sb n 1))) F (ph e)/\F.cell (Z m 0)=V (rV .u8 d)/\F.cell (Z j 5)=V (nI f)/\aA F (Z k 0) 13 h λF=>nY b j m r c (V (Z k 0)) R F)))/\(Nb F (Y zP 64) λl F=>Nb F (Y #[rV .u8 (u8.wrap (i64.wrap (97+(f.len:Int))))] 5) λg F=>∃a,qX prog (Conv.bytesToString (nI (Sb g 1))) F (ph a)/\(ByteArray.mk #[112]).size+a.size<=9223372036854775807/\Ca 53 #[ph ((ByteArray.mk #[112])++a),(U (sj (i64.wrap d) (c.len:Int))),nI pm] F λi F=>qX prog (Conv.bytesToString (nI (Sb g 1))) F (ph a)/\F.cell (Z m 0)=V (rV .u8 d)/\F.cell (Z j 5)=V (nI f)/\aA F (Z l 0) 13 i λF=>nY b j m r c (V (Z l 0)) R F))
theorem aab {b:Γ} {c:Γ} {a:Bool} (h:Wi b c a R F):ν 94 #[nQ b,nQ c,nW a] F R:=Rx.Λ (.qa8 (.qa8 (.J mD [(8,.ptr)] .N (.qa8 (.qa8 (.J mD [(9,.int .i64),(10,.bool)] (.qa8 (.L [(9,.int .i64),(10,.bool),(11,.int .i64)] (.qa8 (.J mD [(8,.ptr),(9,.int .i64),(10,.bool)] .N .N)))) (.T (.J mD [(87,.bool)] .N .N) (.qa8 (.qa8 (.J mD [] .N .N)))))))))) h
def nZ (c b:Nat) (R:VR) (F:PH):Prop:=Lr F 9 (Z c 0) λa=>aA F (Z b 0) 9 a λF=>Rr 9 (Z b 0) R F
def sN (g r s:Nat) (R:VR) (F:PH):Prop:=Lr F 9 (Z g 0) λl=>Lr F 9 (Z s 0) λm=>vf 131 #[nQ l,nQ m] F λn F=>Bb (n) (Ls F (Z g 8) λb=>Lr F 9 (Z s 0) λa=>((Nb F (Y #[] 233) λk F=>((Ap 37 #[nI (Sb k 0),nI b] F λo F=>F.row (Z s 0) a/\a.size=9/\Nb F (Y a 233) λq F=>Ap 37 #[nI o,nI (Sb q 1)] F λp F=>pv F (Z g 8) (nI p) λF=>nZ g r R F)/\(a.size=9/\Nb F (Y a 233) λh F=>Ap 37 #[nI (Sb k 0),nI b] F λc F=>Ap 37 #[nI c,nI (Sb h 1)] F λd F=>pv F (Z g 8) (nI d) λF=>nZ g r R F)))/\(a.size=9/\Nb F (Y a 233) λi F=>Nb F (Y #[] 233) λj F=>Ap 37 #[nI (Sb j 0),nI b] F λe F=>Ap 37 #[nI e,nI (Sb i 1)] F λf F=>pv F (Z g 8) (nI f) λF=>nZ g r R F))) (nZ g r R F)
def oc (c b:Nat) (R:VR) (F:PH):Prop:=Lr F 9 (Z c 0) λa=>aA F (Z b 0) 9 a λF=>Rr 9 (Z b 0) R F
def xd (g n p:Nat) (R:VR) (F:PH):Prop:=Ls F (Z g 7) λb=>Lr F 4 (Z p 0) λa=>((Nb F (Y #[] 236) λk F=>((Ap 36 #[nI (Sb k 0),nI b] F λl F=>F.row (Z p 0) a/\a.size=4/\Nb F (Y a 236) λo F=>Ap 36 #[nI l,nI (Sb o 1)] F λm F=>pv F (Z g 7) (nI m) λF=>oc g n R F)/\(a.size=4/\Nb F (Y a 236) λh F=>Ap 36 #[nI (Sb k 0),nI b] F λc F=>Ap 36 #[nI c,nI (Sb h 1)] F λd F=>pv F (Z g 7) (nI d) λF=>oc g n R F)))/\(a.size=4/\Nb F (Y a 236) λi F=>Nb F (Y #[] 236) λj F=>Ap 36 #[nI (Sb j 0),nI b] F λe F=>Ap 36 #[nI e,nI (Sb i 1)] F λf F=>pv F (Z g 7) (nI f) λF=>oc g n R F))
def xe (h i f:Nat) (a:Int) (b:Sl) (c:Bool) (R:VR) (F:PH):Prop:=Bb (c) (Ls F (Z f 0) λd=>Nb F (Y #[(U (sj (i64.wrap a) (b.len:Int)))] 3) λg F=>Ap 76 #[nI d,nI (Sb g 1)] F λe F=>pv F (Z f 0) (nI e) λF=>xd h i f R F) (xd h i f R F)
def xf (i q r t d:Nat) (j:Int) (e:Bool) (R:VR) (F:PH):Prop:=Bb (e) (Lk F .u8 (Z q 0) λf=>pv F (Z d 0) (U (i64.wrap ((i64.wrap (3+(i64.wrap (sj f 8)))) - 4))) λF=>Lk F .u8 (Z q 1) λg=>Ls F (Z i 4) λa=>(a.len:Int)≠0/\pv F (Z d 4) (U (sj (i64.wrap g) (a.len:Int))) λF=>Lk F .u8 (Z q 2) λh=>Nb F (Y #[(U (sj (i64.wrap h) 9))] 3) λk F=>pv F (Z d 6) (nI (Sb k 1)) λF=>sN i r d R F) (Bc ((sj j 8)=6) (pv F (Z d 0) (U 5) λF=>Nb F (Y #[(U 5)] 3) λl F=>pv F (Z d 6) (nI (Sb l 1)) λF=>sN i r d R F) (Nb F (Y #[] 166) λs F=>Ls F (Z i 3) λm=>Ap 34 #[nI (Sb s 0),nI m] F λb F=>Lk F .u8 (Z q 1) λc=>Lr F 2 (Z t 0) λn=>Ix b (sj (i64.wrap c) 9) λo=>aA F (nV (nV o (nX (sj (i64.wrap c) 9)*7)) 5) 2 n λF=>pv F (Z i 3) (nI b) λF=>Lr F 9 (Z i 0) λp=>aA F (Z r 0) 9 p λF=>Rr 9 (Z r 0) R F))
def xg (k f l m:Nat) (g:Int) (h:Sl) (c:Nat) (a:Int) (i:Bool) (R:VR) (F:PH):Prop:=Bb (i) (Lk F .u8 (Z f 0) λj=>pv F (Z c 0) (U (i64.wrap ((i64.wrap (1+(i64.wrap (sj j 8)))) - 2))) λF=>pv F (Z c 1) (U (sj (i64.wrap g) (h.len:Int))) λF=>Lk F .u8 (Z f 3) λd=>pv F (Z c 2) (U (sj (i64.wrap d) 16)) λF=>Lk F .u8 (Z f 2) λe=>Ls F (Z k 5) λb=>(b.len:Int)≠0/\pv F (Z c 3) (U (sj (i64.wrap e) (b.len:Int))) λF=>sN k l c R F) (Bc ((sj a 8)=4) (xf k f l m c a (decide ((sj a 8)=4)) R F) (xf k f l m c a (decide ((sj a 8)=5)) R F))
def xh (f o h p:Nat) (a:Int) (b:Sl) (s:Nat) (c:Int) (i:Bool) (R:VR) (F:PH):Prop:=Bb (i) (Lr F 9 (Z f 0) λj=>vf 130 #[nQ j,(U (sj (i64.wrap a) (b.len:Int)))] F λk F=>Bb ((!k)) (Nb F (Y #[(U (sj (i64.wrap a) (b.len:Int)))] 3) λq F=>Lk F .u8 (Z o 3) λl=>Lr F 2 (Z p 0) λg=>g.size=2/\Nb F (Y zL 236) λr F=>aA F (Z r 0) 4 (wr (tC (tC zL 0 (nI (Sb q 1))) 1 (U (i64.wrap (sj l 4)))) 2 g.toList) λF=>Lk F .u8 (Z o 2) λe=>Ls F (Z f 5) λd=>(d.len:Int)≠0/\Bc ((sj (i64.wrap e) (d.len:Int))≠(sj (i64.wrap a) (b.len:Int))) (Lr F 9 (Z f 0) λm=>vf 130 #[nQ m,(U (sj (i64.wrap e) (d.len:Int)))] F λn F=>xe f h r e d (!n) R F) (xe f h r e d mD R F)) (oc f h R F)) (Bc ((sj c 8)=2) (xg f o h p a b s c (decide ((sj c 8)=2)) R F) (xg f o h p a b s c (decide ((sj c 8)=3)) R F))
def Wj (k l:Γ) (R:VR) (F:PH):Prop:=Nb F (Y k 39) λi F=>Nb F (Y l 194) λe F=>Nb F (Y zG 39) λn F=>Lk F .u8 (Z e 4) λf=>Ls F (Z i 0) λg=>Ca 128 #[rV .u8 f,(U (g.len:Int))] F λh F=>Nb F (Y zD 33) λj F=>aA F (Z j 0) 2 h λF=>Lk F .u8 (Z e 1) λc=>Ls F (Z i 5) λb=>(b.len:Int)≠0/\Lr F 2 (Z j 0) λd=>d.size=2/\Nb F (Y zF 233) λm F=>aA F (Z m 0) 9 (wr zF 7 d.toList) λF=>Lk F .u8 (Z e 0) λa=>Bc ((sj a 8)=0) (xh i e n j c b m a (decide ((sj a 8)=0)) R F) (xh i e n j c b m a (decide ((sj a 8)=1)) R F)
theorem aac {a:Γ} {b:Γ} (h:Wj a b R F):ν 95 #[nQ a,nQ b] F R:=Rx.Λ (.qa8 (.qa8 (.qa8 (.qa8 (.J mD [] (.qa8 (.J mD [(44,.bool)] .N (.T (.J mD [] (.qa8 (.T (.qa8 (.qa8 (.J mD [] (.J mD [(74,.bool)] .N .N) .N))) .N)) .N) (.J mD [(90,.bool)] .N (.qa8 (.J mD [(115,.bool)] .N .N)))))) (.J mD [] .N .N)))))) h
def Wk (g:Γ) (c:Int) (R:VR) (F:PH):Prop:=Nb F (Y g 39) λh F=>Ls F (Z h 0) λd=>Bc ((d.len:Int)=64) (Lr F 2 (Z h 1) λe=>vf 132 #[nQ e,rV .u64 c] F λf F=>R (nW f) F) (0<=(u64.wrap (d.len:Int))/\Bc ((Int.fdiv c (2 ^ (min (nX (u64.wrap (d.len:Int))) (u64).bits)))=0) (Lr F 2 (Z h 1) λa=>vf 132 #[nQ a,rV .u64 c] F λb F=>R (nW b) F) (R (nW mD) F))
theorem aad {a:Γ} {b:Int} (h:Wk a b R F):ν 96 #[nQ a,rV .u64 b] F R:=Rx.Λ .N h
def O8 (a b:Int) (R:VR) (F:PH):Prop:=Nb F (Y (#[U 0,U 0,U 0,U 0,U 0]) 225) λc F=>aA F (Z c 0) 5 (#[(U 1),(U a),(U b),U 0,U 0]:Γ) λF=>Rr 5 (Z c 0) R F
theorem qdT {a:Int} {b:Int} (h:O8 a b R F):ν 119 #[(U a),(U b)] F R:=Rx.Λ .N h
def O9 (a b c:Int) (R:VR) (F:PH):Prop:=Nb F (Y (#[U 0,U 0,U 0,U 0,U 0]) 225) λd F=>aA F (Z d 0) 5 (#[(U a),U 0,U 0,(U b),(U c)]:Γ) λF=>Rr 5 (Z d 0) R F
theorem qdU {a:Int} {b:Int} {c:Int} (h:O9 a b c R F):ν 120 #[(U a),(U b),(U c)] F R:=Rx.Λ .N h
def D9 (c b:Nat) (R:VR) (F:PH):Prop:=Lr F 9 (Z c 0) λa=>aA F (Z b 0) 9 a λF=>Rr 9 (Z b 0) R F
def mE (b a c:Nat) (R:VR) (F:PH):Prop:=pv F (Z b 7) (nI (Sb a 3)) λF=>D9 b c R F
def jJ (a:Γ) (d:Nat) (b:Γ) (e:Nat) (c:Γ) (f h i:Nat) (R:VR) (F:PH):Prop:=a.size=2/\(wr (tC (tC zL 0 (nI (Sb d 1))) 1 (U 2)) 2 b.toList).size=4/\(wr (tC (tC zL 0 (nI (Sb e 1))) 1 (U 1)) 2 c.toList).size=4/\(wr (tC (tC zL 0 (nI (Sb f 1))) 1 (U 1)) 2 a.toList).size=4/\Nb F (Y (wr (wr (wr (#[.slice I 0 0,U 0,.slice I 0 0,U 0,.slice I 0 0,U 0,.slice I 0 0,U 0,.slice I 0 0,U 0,.slice I 0 0,U 0]:Γ) 0 (wr (tC (tC zL 0 (nI (Sb d 1))) 1 (U 2)) 2 b.toList).toList) 4 (wr (tC (tC zL 0 (nI (Sb e 1))) 1 (U 1)) 2 c.toList).toList) 8 (wr (tC (tC zL 0 (nI (Sb f 1))) 1 (U 1)) 2 a.toList).toList) 236) λg F=>mE h g i R F
def jK (c:Γ) (h:Nat) (a b:Γ) (e f g i j:Nat) (R:VR) (F:PH):Prop:=Ca 157 #[nQ c] F λd F=>F.row (Z h 0) a/\F.row (Z h 0) b/\jJ d e b f a g i j R F
def Ea (d:Nat) (a b:Γ) (e f g h i:Nat) (R:VR) (F:PH):Prop:=Ca 56 #[(U 0)] F λc F=>F.row (Z d 0) a/\F.row (Z d 0) b/\jK c d a b e f g h i R F
def xj (a:Γ) (e:Nat) (c:Γ) (f:Nat) (d:Γ) (g h:Nat) (R:VR) (F:PH):Prop:=Nb F (Y #[(U 0)] 3) λb F=>jJ a e c f d b g h R F
def Eb (a:Γ) (h:Nat) (b c:Γ) (f g i j:Nat) (R:VR) (F:PH):Prop:=((Nb F (Y #[(U 0)] 3) λe F=>jK a h b c f g e i j R F)/\(Ca 157 #[nQ a] F λd F=>F.row (Z h 0) b/\F.row (Z h 0) c/\xj d f c g b i j R F))
def MX (a:Γ) (f:Nat) (b:Γ) (d e h i:Nat) (R:VR) (F:PH):Prop:=a.size=2/\((Nb F (Y #[(U 0)] 3) λg F=>Ea f a b d e g h i R F)/\(Ca 56 #[(U 0)] F λc F=>F.row (Z f 0) a/\F.row (Z f 0) b/\Eb c f a b d e h i R F))
def zj (a:Γ) (f:Nat) (c:Γ) (g d e h i:Nat) (R:VR) (F:PH):Prop:=a.size=2/\Ca 56 #[(U 0)] F λb F=>F.row (Z f 0) a/\F.row (Z f 0) c/\jK b f a c g d e h i R F
def zk (a b:Γ) (h:Nat) (d:Γ) (g e f i j:Nat) (R:VR) (F:PH):Prop:=a.size=2/\Ca 157 #[nQ b] F λc F=>F.row (Z h 0) a/\F.row (Z h 0) d/\jJ c g d e a f i j R F
def zl (b:Γ) (g:Nat) (e:Γ) (c d:Nat) (a:Γ) (h i:Nat) (R:VR) (F:PH):Prop:=b.size=2/\(wr (tC (tC zL 0 (nI (Sb g 1))) 1 (U 2)) 2 e.toList).size=4/\(wr (tC (tC zL 0 (nI (Sb c 1))) 1 (U 1)) 2 b.toList).size=4/\(wr (tC (tC zL 0 (nI (Sb d 1))) 1 (U 1)) 2 a.toList).size=4/\Nb F (Y (wr (wr (wr (#[.slice I 0 0,U 0,.slice I 0 0,U 0,.slice I 0 0,U 0,.slice I 0 0,U 0,.slice I 0 0,U 0,.slice I 0 0,U 0]:Γ) 0 (wr (tC (tC zL 0 (nI (Sb g 1))) 1 (U 2)) 2 e.toList).toList) 4 (wr (tC (tC zL 0 (nI (Sb c 1))) 1 (U 1)) 2 b.toList).toList) 8 (wr (tC (tC zL 0 (nI (Sb d 1))) 1 (U 1)) 2 a.toList).toList) 236) λf F=>mE h f i R F
def mF (a d:Γ) (f:Nat) (e:Γ) (b g h:Nat) (R:VR) (F:PH):Prop:=a.size=2/\Nb F (Y #[(U 1)] 3) λc F=>zl d f e c b a g h R F
def mH (b a:Γ) (h:Nat) (c:Γ) (g d i j:Nat) (R:VR) (F:PH):Prop:=((Nb F (Y #[(U 1)] 3) λf F=>zk b a h c g f d i j R F)/\(Ca 157 #[nQ a] F λe F=>F.row (Z h 0) b/\F.row (Z h 0) c/\mF e b g c d i j R F))
def Js (a:Γ) (g:Nat) (b:Γ) (f c h i:Nat) (R:VR) (F:PH):Prop:=((Nb F (Y #[(U 1)] 3) λe F=>zj a g b f e c h i R F)/\(Ca 56 #[(U 0)] F λd F=>F.row (Z g 0) a/\F.row (Z g 0) b/\mH a d g b f c h i R F))
def zn (a b:Γ) (h:Nat) (c:Γ) (g d i j:Nat) (R:VR) (F:PH):Prop:=a.size=2/\((Nb F (Y #[(U 0)] 3) λf F=>jK b h a c g d f i j R F)/\(Ca 157 #[nQ b] F λe F=>F.row (Z h 0) a/\F.row (Z h 0) c/\xj e g c d a i j R F))
def zo (b a:Γ) (f:Nat) (e:Γ) (c g h:Nat) (R:VR) (F:PH):Prop:=b.size=2/\Nb F (Y #[(U 0)] 3) λd F=>jJ a f e c b d g h R F
def zp (b a:Γ) (f:Nat) (c:Γ) (g h:Nat) (R:VR) (F:PH):Prop:=((Nb F (Y #[(U 1)] 3) λd F=>zo b a f c d g h R F)/\(Nb F (Y #[(U 0)] 3) λe F=>mF a b f c e g h R F))
def Jt (b a:Γ) (h:Nat) (c:Γ) (e i j:Nat) (R:VR) (F:PH):Prop:=((Nb F (Y #[(U 1)] 3) λf F=>zn b a h c e f i j R F)/\(Nb F (Y #[(U 0)] 3) λg F=>mH b a h c e g i j R F)/\(Ca 157 #[nQ a] F λd F=>F.row (Z h 0) b/\F.row (Z h 0) c/\zp b d e c i j R F))
def MY (a b:Γ) (f d g h:Nat) (R:VR) (F:PH):Prop:=a.size=2/\((Nb F (Y #[(U 1)] 3) λi F=>MX b f a d i g h R F)/\(Nb F (Y #[(U 0)] 3) λe F=>Js b f a d e g h R F)/\(Ca 56 #[(U 0)] F λc F=>F.row (Z f 0) b/\F.row (Z f 0) a/\Jt b c f a d g h R F))
def Ju (a:Γ) (g:Nat) (b:Γ) (c d h i:Nat) (R:VR) (F:PH):Prop:=a.size=2/\((Nb F (Y #[(U 0)] 3) λf F=>Ea g b a c d f h i R F)/\(Ca 56 #[(U 0)] F λe F=>F.row (Z g 0) b/\F.row (Z g 0) a/\Eb e g b a c d h i R F))
def zq (a:Γ) (g:Nat) (c:Γ) (d e f h i:Nat) (R:VR) (F:PH):Prop:=a.size=2/\Ca 56 #[(U 0)] F λb F=>F.row (Z g 0) c/\F.row (Z g 0) a/\jK b g c a d e f h i R F
def zr (a b:Γ) (h:Nat) (d:Γ) (e f g i j:Nat) (R:VR) (F:PH):Prop:=a.size=2/\Ca 157 #[nQ b] F λc F=>F.row (Z h 0) d/\F.row (Z h 0) a/\jJ c e a f d g i j R F
def zt (b:Γ) (c d:Nat) (f:Γ) (e:Nat) (a:Γ) (h i:Nat) (R:VR) (F:PH):Prop:=b.size=2/\(wr (tC (tC zL 0 (nI (Sb c 1))) 1 (U 2)) 2 b.toList).size=4/\(wr (tC (tC zL 0 (nI (Sb d 1))) 1 (U 1)) 2 f.toList).size=4/\(wr (tC (tC zL 0 (nI (Sb e 1))) 1 (U 1)) 2 a.toList).size=4/\Nb F (Y (wr (wr (wr (#[.slice I 0 0,U 0,.slice I 0 0,U 0,.slice I 0 0,U 0,.slice I 0 0,U 0,.slice I 0 0,U 0,.slice I 0 0,U 0]:Γ) 0 (wr (tC (tC zL 0 (nI (Sb c 1))) 1 (U 2)) 2 b.toList).toList) 4 (wr (tC (tC zL 0 (nI (Sb d 1))) 1 (U 1)) 2 f.toList).toList) 8 (wr (tC (tC zL 0 (nI (Sb e 1))) 1 (U 1)) 2 a.toList).toList) 236) λg F=>mE h g i R F
def mI (a e:Γ) (b:Nat) (f:Γ) (c g h:Nat) (R:VR) (F:PH):Prop:=a.size=2/\Nb F (Y #[(U 4)] 3) λd F=>zt e d b f c a g h R F
def mJ (b a:Γ) (h:Nat) (c:Γ) (d e i j:Nat) (R:VR) (F:PH):Prop:=((Nb F (Y #[(U 4)] 3) λg F=>zr b a h c g d e i j R F)/\(Ca 157 #[nQ a] F λf F=>F.row (Z h 0) c/\F.row (Z h 0) b/\mI f b d c e i j R F))
def Jv (a:Γ) (g:Nat) (b:Γ) (c d h i:Nat) (R:VR) (F:PH):Prop:=((Nb F (Y #[(U 4)] 3) λf F=>zq a g b f c d h i R F)/\(Ca 56 #[(U 0)] F λe F=>F.row (Z g 0) b/\F.row (Z g 0) a/\mJ a e g b c d h i R F))
def zv (a b:Γ) (h:Nat) (c:Γ) (d e i j:Nat) (R:VR) (F:PH):Prop:=a.size=2/\((Nb F (Y #[(U 0)] 3) λf F=>jK b h c a d e f i j R F)/\(Ca 157 #[nQ b] F λg F=>F.row (Z h 0) c/\F.row (Z h 0) a/\xj g d a e c i j R F))
def zw (c a:Γ) (d e:Nat) (f:Γ) (g h:Nat) (R:VR) (F:PH):Prop:=c.size=2/\Nb F (Y #[(U 0)] 3) λb F=>jJ a d c e f b g h R F
def zx (d a:Γ) (b:Nat) (e:Γ) (g h:Nat) (R:VR) (F:PH):Prop:=((Nb F (Y #[(U 4)] 3) λf F=>zw d a f b e g h R F)/\(Nb F (Y #[(U 0)] 3) λc F=>mI a d b e c g h R F))
def Jw (c a:Γ) (h:Nat) (d:Γ) (b i j:Nat) (R:VR) (F:PH):Prop:=((Nb F (Y #[(U 4)] 3) λg F=>zv c a h d g b i j R F)/\(Nb F (Y #[(U 0)] 3) λe F=>mJ c a h d b e i j R F)/\(Ca 157 #[nQ a] F λf F=>F.row (Z h 0) d/\F.row (Z h 0) c/\zx c f b d i j R F))
def Jy (a c:Γ) (g b h i:Nat) (R:VR) (F:PH):Prop:=a.size=2/\((Nb F (Y #[(U 4)] 3) λe F=>Ju c g a e b h i R F)/\(Nb F (Y #[(U 0)] 3) λf F=>Jv c g a b f h i R F)/\(Ca 56 #[(U 0)] F λd F=>F.row (Z g 0) a/\F.row (Z g 0) c/\Jw c d g a b h i R F))
def Jz (a c:Γ) (g d b h i:Nat) (R:VR) (F:PH):Prop:=a.size=2/\((Nb F (Y #[(U 1)] 3) λf F=>zj c g a d f b h i R F)/\(Ca 56 #[(U 0)] F λe F=>F.row (Z g 0) c/\F.row (Z g 0) a/\mH c e g a d b h i R F))
def JA (a c:Γ) (g d b h i:Nat) (R:VR) (F:PH):Prop:=a.size=2/\((Nb F (Y #[(U 4)] 3) λf F=>zq c g a f d b h i R F)/\(Ca 56 #[(U 0)] F λe F=>F.row (Z g 0) a/\F.row (Z g 0) c/\mJ c e g a d b h i R F))
def JB (b d a:Γ) (h e c i j:Nat) (R:VR) (F:PH):Prop:=b.size=2/\((Nb F (Y #[(U 1)] 3) λg F=>zk d a h b e g c i j R F)/\(Ca 157 #[nQ a] F λf F=>F.row (Z h 0) d/\F.row (Z h 0) b/\mF f d e b c i j R F))
def JC (b e a:Γ) (h c d i j:Nat) (R:VR) (F:PH):Prop:=b.size=2/\((Nb F (Y #[(U 4)] 3) λg F=>zr e a h b g c d i j R F)/\(Ca 157 #[nQ a] F λf F=>F.row (Z h 0) b/\F.row (Z h 0) e/\mI f e c b d i j R F))
def JD (e f:Γ) (b c:Nat) (a:Γ) (g h:Nat) (R:VR) (F:PH):Prop:=e.size=2/\Nb F (Y #[(U 1)] 3) λd F=>zl f b e d c a g h R F
def JE (e f:Γ) (b c:Nat) (a:Γ) (g h:Nat) (R:VR) (F:PH):Prop:=e.size=2/\Nb F (Y #[(U 4)] 3) λd F=>zt f d b e c a g h R F
def zy (a e f:Γ) (b g h:Nat) (R:VR) (F:PH):Prop:=a.size=2/\((Nb F (Y #[(U 4)] 3) λc F=>JD e f c b a g h R F)/\(Nb F (Y #[(U 1)] 3) λd F=>JE f e d b a g h R F))
def zA (c d a:Γ) (h b i j:Nat) (R:VR) (F:PH):Prop:=((Nb F (Y #[(U 4)] 3) λg F=>JB c d a h g b i j R F)/\(Nb F (Y #[(U 1)] 3) λf F=>JC d c a h f b i j R F)/\(Ca 157 #[nQ a] F λe F=>F.row (Z h 0) d/\F.row (Z h 0) c/\zy e c d b i j R F))
def JF (b c:Γ) (g a h i:Nat) (R:VR) (F:PH):Prop:=((Nb F (Y #[(U 4)] 3) λe F=>Jz b c g e a h i R F)/\(Nb F (Y #[(U 1)] 3) λf F=>JA c b g f a h i R F)/\(Ca 56 #[(U 0)] F λd F=>F.row (Z g 0) c/\F.row (Z g 0) b/\zA b c d g a h i R F))
def JG (c d a:Γ) (h b i j:Nat) (R:VR) (F:PH):Prop:=c.size=2/\((Nb F (Y #[(U 1)] 3) λf F=>zn d a h c b f i j R F)/\(Nb F (Y #[(U 0)] 3) λg F=>mH d a h c b g i j R F)/\(Ca 157 #[nQ a] F λe F=>F.row (Z h 0) d/\F.row (Z h 0) c/\zp d e b c i j R F))
def JH (c d a:Γ) (h b i j:Nat) (R:VR) (F:PH):Prop:=c.size=2/\((Nb F (Y #[(U 4)] 3) λf F=>zv d a h c f b i j R F)/\(Nb F (Y #[(U 0)] 3) λg F=>mJ d a h c b g i j R F)/\(Ca 157 #[nQ a] F λe F=>F.row (Z h 0) c/\F.row (Z h 0) d/\zx d e b c i j R F))
def JI (c f a:Γ) (b g h:Nat) (R:VR) (F:PH):Prop:=c.size=2/\((Nb F (Y #[(U 1)] 3) λd F=>zo f a b c d g h R F)/\(Nb F (Y #[(U 0)] 3) λe F=>mF a f b c e g h R F))
def JJ (c f a:Γ) (b g h:Nat) (R:VR) (F:PH):Prop:=c.size=2/\((Nb F (Y #[(U 4)] 3) λd F=>zw f a d b c g h R F)/\(Nb F (Y #[(U 0)] 3) λe F=>mI a f b c e g h R F))
def JK (b c a:Γ) (g h:Nat) (R:VR) (F:PH):Prop:=((Nb F (Y #[(U 4)] 3) λd F=>JI b c a d g h R F)/\(Nb F (Y #[(U 1)] 3) λe F=>JJ c b a e g h R F)/\(Nb F (Y #[(U 0)] 3) λf F=>zy a b c f g h R F))
def JL (b c a:Γ) (h i j:Nat) (R:VR) (F:PH):Prop:=((Nb F (Y #[(U 4)] 3) λe F=>JG b c a h e i j R F)/\(Nb F (Y #[(U 1)] 3) λf F=>JH c b a h f i j R F)/\(Nb F (Y #[(U 0)] 3) λg F=>zA b c a h g i j R F)/\(Ca 157 #[nQ a] F λd F=>F.row (Z h 0) c/\F.row (Z h 0) b/\JK b c d i j R F))
def Pa (R:VR) (F:PH):Prop:=Nb F (Y zG 39) λm F=>Nb F (Y #[ph ⟨#[69]⟩] 9) λq F=>Ca 52 #[nI (Sb q 1)] F λn F=>Nb F (Y zG 39) λc F=>aA F (Z c 0) 9 n λF=>Ca 85 #[nW nk] F λo F=>Nb F (Y zD 33) λe F=>aA F (Z e 0) 2 o λF=>Xm c 54 0 55 1 54 0 ⟨#[97,100,100]⟩ 0 (λF=>Xm c 54 0 55 2 54 0 ⟨#[109,117,108]⟩ 0 (λF=>Xm c 55 3 54 0 55 4 ⟨#[98,114,97,99,107,101,116]⟩ 0 (λF=>Ya c 55 0 ⟨#[110,97,109,101]⟩ 0 (λF=>Xm c 54 0 55 8 54 0 ⟨#[112,111,119]⟩ 0 (λF=>Ls F (Z c 5) λi=>Ix i 2 λj=>pv F (nV (nV j (nX 2*13)) 5) (nW nk) λF=>Ls F (Z c 5) λg=>Ca 56 #[(U 1)] F λk F=>F.cell (Z c 5)=V (nI g)/\Ix g 4 λl=>aA F (nV (nV l (nX 4*13)) 3) 2 k λF=>Lr F 2 (Z e 0) λa=>Lr F 2 (Z e 0) λb=>((Nb F (Y #[(U 4)] 3) λp F=>MY a b e p c m R F)/\(Nb F (Y #[(U 1)] 3) λh F=>Jy b a e h c m R F)/\(Nb F (Y #[(U 0)] 3) λf F=>JF a b e f c m R F)/\(Ca 56 #[(U 0)] F λd F=>F.row (Z e 0) b/\F.row (Z e 0) a/\JL a b d e c m R F))) F) F) F) F) F
theorem qdV (h:Pa R F):ν 122 #[] F R:=Rx.Λ .N h
def p7 (f e:Nat) (R:VR) (F:PH):Prop:=Ls F (Z e 8) λa=>Ca 56 #[(U 1)] F λb F=>F.cell (Z e 8)=V (nI a)/\Ix a 1 λc=>aA F (nV (nV c (nX 1*9)) 7) 2 b λF=>Lr F 9 (Z e 0) λd=>aA F (Z f 0) 9 d λF=>Rr 9 (Z f 0) R F
def Pb (R:VR) (F:PH):Prop:=Nb F (Y zG 39) λn F=>Nb F (Y #[ph ⟨#[83]⟩,ph ⟨#[67]⟩] 9) λo F=>Ca 52 #[nI (Sb o 2)] F λk F=>Nb F (Y zG 39) λc F=>aA F (Z c 0) 9 k λF=>Ca 85 #[nW nk] F λl F=>Nb F (Y zD 33) λj F=>aA F (Z j 0) 2 l λF=>ZU c 55 5 54 1 54 0 55 6 54 0 ⟨#[98,111,116,104]⟩ 0 (λF=>Xm c 55 5 54 1 54 0 ⟨#[116,104,101,110]⟩ 0 (λF=>Xd c 54 1 55 7 ⟨#[99,97,108,108]⟩ 0 (λF=>Xm c 55 3 54 0 55 4 ⟨#[98,108,111,99,107]⟩ 0 (λF=>Ya c 55 0 ⟨#[119,111,114,100]⟩ 1 (λF=>Ls F (Z c 5) λg=>Ix g 3 λh=>pv F (nV (nV h (nX 3*13)) 5) (nW nk) λF=>Lr F 2 (Z j 0) λa=>((Ca 56 #[(U 0)] F λd F=>F.row (Z j 0) a/\d.size=2/\Nb F (Y #[(U 5),(U 6)] 3) λi F=>a.size=2/\(wr (tC (tC (tC zF 0 (U 2)) 2 (U 2)) 3 (U 1)) 7 d.toList).size=9/\(wr (tC (tC zF 0 (U 5)) 6 (nI (Sb i 2))) 7 a.toList).size=9/\Nb F (Y (wr (wr (#[U 0,U 0,U 0,U 0,U 0,U 0,.slice I 0 0,.slice I 0 0,U 0,U 0,U 0,U 0,U 0,U 0,U 0,.slice I 0 0,.slice I 0 0,U 0]:Γ) 0 (wr (tC (tC (tC zF 0 (U 2)) 2 (U 2)) 3 (U 1)) 7 d.toList).toList) 9 (wr (tC (tC zF 0 (U 5)) 6 (nI (Sb i 2))) 7 a.toList).toList) 233) λm F=>pv F (Z c 8) (nI (Sb m 2)) λF=>p7 n c R F)/\(Nb F (Y #[(U 5),(U 6)] 3) λe F=>a.size=2/\Ca 56 #[(U 0)] F λb F=>F.row (Z j 0) a/\b.size=2/\(wr (tC (tC (tC zF 0 (U 2)) 2 (U 2)) 3 (U 1)) 7 b.toList).size=9/\(wr (tC (tC zF 0 (U 5)) 6 (nI (Sb e 2))) 7 a.toList).size=9/\Nb F (Y (wr (wr (#[U 0,U 0,U 0,U 0,U 0,U 0,.slice I 0 0,.slice I 0 0,U 0,U 0,U 0,U 0,U 0,U 0,U 0,.slice I 0 0,.slice I 0 0,U 0]:Γ) 0 (wr (tC (tC (tC zF 0 (U 2)) 2 (U 2)) 3 (U 1)) 7 b.toList).toList) 9 (wr (tC (tC zF 0 (U 5)) 6 (nI (Sb e 2))) 7 a.toList).toList) 233) λf F=>pv F (Z c 8) (nI (Sb f 2)) λF=>p7 n c R F))) F) F) F) F) F
theorem qdW (h:Pb R F):ν 123 #[] F R:=Rx.Λ (.qa8 (.qa8 (.qa8 (.qa8 (.qa8 (.qa8 (.qa8 (.qa8 (.qa8 (.J mD [] .N .N)))))))))) h
def Pc (R:VR) (F:PH):Prop:=Nb F (Y zG 39) λp F=>Nb F (Y #[ph ⟨#[66]⟩,ph ⟨#[73]⟩] 9) λq F=>Ca 52 #[nI (Sb q 2)] F λl F=>Nb F (Y zG 39) λa F=>aA F (Z a 0) 9 l λF=>Ya a 54 1 ⟨#[111,110,101]⟩ 0 (λF=>Xd a 54 0 54 1 ⟨#[108,105,115,116]⟩ 0 (λF=>Ya a 55 0 ⟨#[119,111,114,100]⟩ 1 (λF=>Xm a 55 5 55 0 54 0 ⟨#[104,101,97,100]⟩ 1 (λF=>Xd a 55 5 54 0 ⟨#[108,105,110,101]⟩ 1 (λF=>Ls F (Z a 5) λc=>(#[(U 2),(U 0),(U 1)]:Γ).size=3/\Nb F (Y (#[(U 2),(U 0),(U 1)]:Γ) 260) λm F=>Ix c 1 λd=>pv F (nV (nV d (nX 1*13)) 7) (nI (Sb m 1)) λF=>Ls F (Z a 5) λe=>(#[(U 3),(U 0),(U 2)]:Γ).size=3/\(#[(U 1),(U 2),U 0]:Γ).size=3/\Nb F (Y (wr (wr (#[U 0,U 0,U 0,U 0,U 0,U 0]:Γ) 0 (#[(U 3),(U 0),(U 2)]:Γ).toList) 3 (#[(U 1),(U 2),U 0]:Γ).toList) 260) λn F=>Ix e 3 λf=>pv F (nV (nV f (nX 3*13)) 7) (nI (Sb n 2)) λF=>Ls F (Z a 5) λg=>(#[(U 4),(U 0),(U 1)]:Γ).size=3/\Nb F (Y (#[(U 4),(U 0),(U 1)]:Γ) 260) λo F=>Ix g 4 λh=>pv F (nV (nV h (nX 4*13)) 7) (nI (Sb o 1)) λF=>Ls F (Z a 5) λb=>Ca 56 #[(U 0)] F λi F=>F.cell (Z a 5)=V (nI b)/\Ix b 4 λj=>aA F (nV (nV j (nX 4*13)) 3) 2 i λF=>Lr F 9 (Z a 0) λk=>aA F (Z p 0) 9 k λF=>Rr 9 (Z p 0) R F) F) F) F) F) F
theorem qdX (h:Pc R F):ν 124 #[] F R:=Rx.Λ .N h
def Pd (R:VR) (F:PH):Prop:=Nb F (Y zG 39) λo F=>Nb F (Y #[ph ⟨#[83]⟩,ph ⟨#[87]⟩,ph ⟨#[86]⟩] 9) λp F=>Ca 52 #[nI (Sb p 3)] F λm F=>Nb F (Y zG 39) λa F=>aA F (Z a 0) 9 m λF=>Xd a 54 1 54 2 ⟨#[112,97,105,114]⟩ 0 (λF=>Ya a 55 0 ⟨#[115,105,110,103,108,101]⟩ 1 (λF=>Xd a 55 0 55 0 ⟨#[100,111,117,98,108,101]⟩ 1 (λF=>YX a ⟨#[110,111,110,101]⟩ 2 (λF=>Xd a 55 0 54 2 ⟨#[110,101,120,116]⟩ 2 (λF=>Xd a 55 1 54 2 ⟨#[109,97,114,107]⟩ 2 (λF=>Ls F (Z a 5) λe=>Ix e 1 λf=>pv F (nV (nV f (nX 1*13)) 6) (U (-1:Int)) λF=>Ls F (Z a 5) λd=>Ca 56 #[(U 1)] F λg F=>F.cell (Z a 5)=V (nI d)/\Ix d 5 λh=>aA F (nV (nV h (nX 5*13)) 3) 2 g λF=>Nb F (Y #[(U 0)] 3) λi F=>Ca 56 #[(U 0)] F λb F=>b.size=2/\Nb F (Y #[(U 1)] 3) λj F=>Ca 56 #[(U 1)] F λk F=>Ca 157 #[nQ k] F λc F=>c.size=2/\(wr (tC (tC (tC zF 0 (U 3)) 4 (U 1)) 6 (nI (Sb i 1))) 7 b.toList).size=9/\(wr (tC (tC (tC zF 0 (U 4)) 4 (U 2)) 6 (nI (Sb j 1))) 7 c.toList).size=9/\Nb F (Y (wr (wr (#[U 0,U 0,U 0,U 0,U 0,U 0,.slice I 0 0,.slice I 0 0,U 0,U 0,U 0,U 0,U 0,U 0,U 0,.slice I 0 0,.slice I 0 0,U 0]:Γ) 0 (wr (tC (tC (tC zF 0 (U 3)) 4 (U 1)) 6 (nI (Sb i 1))) 7 b.toList).toList) 9 (wr (tC (tC (tC zF 0 (U 4)) 4 (U 2)) 6 (nI (Sb j 1))) 7 c.toList).toList) 233) λn F=>pv F (Z a 8) (nI (Sb n 2)) λF=>Lr F 9 (Z a 0) λl=>aA F (Z o 0) 9 l λF=>Rr 9 (Z o 0) R F) F) F) F) F) F) F
theorem qdY (h:Pd R F):ν 125 #[] F R:=Rx.Λ .N h
def Pe (R:VR) (F:PH):Prop:=Nb F (Y zG 39) λg F=>Nb F (Y #[ph ⟨#[83]⟩,ph ⟨#[79]⟩,ph ⟨#[80]⟩] 9) λh F=>Ca 52 #[nI (Sb h 3)] F λf F=>Nb F (Y zG 39) λa F=>aA F (Z a 0) 9 f λF=>Zp a 54 1 55 0 54 1 54 2 ⟨#[97,108,108]⟩ 0 (λF=>YX a ⟨#[110,111]⟩ 1 (λF=>Ya a 55 1 ⟨#[121,101,115]⟩ 1 (λF=>YX a ⟨#[101,110,100]⟩ 2 (λF=>Xd a 55 1 54 2 ⟨#[114,101,115,116]⟩ 2 (λF=>Ls F (Z a 5) λb=>Ca 56 #[(U 0)] F λc F=>F.cell (Z a 5)=V (nI b)/\Ix b 4 λd=>aA F (nV (nV d (nX 4*13)) 3) 2 c λF=>Lr F 9 (Z a 0) λe=>aA F (Z g 0) 9 e λF=>Rr 9 (Z g 0) R F) F) F) F) F) F
theorem qdZ (h:Pe R F):ν 126 #[] F R:=Rx.Λ .N h
def qe (a c:Int) (b:Nat) (d:Bool) (R:VR) (F:PH):Prop:=Bb (d) (Ca 85 #[nW nk] F λe F=>aA F (Z b 0) 2 e λF=>Rr 2 (Z b 0) R F) (c≠0/\Ca 56 #[(U (sj (i64.wrap (u8.wrap (Int.tdiv a 6))) c))] F λf F=>Nb F (Y zD 33) λk F=>aA F (Z k 0) 2 f λF=>Bc ((sj a 6)=3) (Lr F 2 (Z k 0) λg=>aA F (Z b 0) 2 g λF=>Rr 2 (Z b 0) R F) (Bc ((sj a 6)=4) (Lr F 2 (Z k 0) λh=>Ca 157 #[nQ h] F λi F=>aA F (Z b 0) 2 i λF=>Rr 2 (Z b 0) R F) (Nb F (Y #[rV .u8 a] 5) λl F=>Ca 93 #[nI (Sb l 1),(U c)] F λj F=>aA F (Z b 0) 2 j λF=>Rr 2 (Z b 0) R F)))
def Pf (a b:Int) (R:VR) (F:PH):Prop:=Nb F (Y zD 33) λc F=>Bc (b=0) (qe a b c nk R F) (qe a b c (decide ((sj a 6)<3)) R F)
theorem qd0 {a:Int} {b:Int} (h:Pf a b R F):ν 128 #[rV .u8 a,(U b)] F R:=Rx.Λ (.qa8 (.T (.J mD [(12,.bool)] .N .N) .N)) h
def dp (c b:Nat) (R:VR) (F:PH):Prop:=Lr F 13 (Z c 0) λa=>aA F (Z b 0) 13 a λF=>Rr 13 (Z b 0) R F
def Pg (p:Γ) (a:Int) (R:VR) (F:PH):Prop:=Nb F (Y p 64) λc F=>Nb F (Y zP 64) λd F=>Ls F (Z c 2) λb=>Bc ((b.len:Int)=0) (Lr F 13 (Z c 0) λg=>aA F (Z d 0) 13 g λF=>Rr 13 (Z d 0) R F) (Bc ((sj a 8)=1) (pv F (Z c 6) (U 1) λF=>dp c d R F) (Bc ((sj a 8)=2) (pv F (Z c 6) (U (-1:Int)) λF=>dp c d R F) (Bc ((sj a 8)=3) (pv F (Z c 5) (nW nk) λF=>Lr F 13 (Z c 0) λh=>vf 161 #[nQ h] F λi F=>pv F (Z c 5) (nW i) λF=>dp c d R F) (Bc ((sj a 8)=4) ((b.len:Int)≠0/\(#[(U (i64.wrap (1+(sj (i64.wrap (u8.wrap (Int.tdiv a 8))) 4)))),(U (sj (i64.wrap (Int.tdiv (i64.wrap (u8.wrap (Int.tdiv a 8))) 4)) (b.len:Int))),(U (i64.wrap ((b.len:Int) - 1)))]:Γ).size=3/\Nb F (Y (#[(U (i64.wrap (1+(sj (i64.wrap (u8.wrap (Int.tdiv a 8))) 4)))),(U (sj (i64.wrap (Int.tdiv (i64.wrap (u8.wrap (Int.tdiv a 8))) 4)) (b.len:Int))),(U (i64.wrap ((b.len:Int) - 1)))]:Γ) 260) λq F=>pv F (Z c 7) (nI (Sb q 1)) λF=>Bc ((sj (i64.wrap (u8.wrap (Int.tdiv a 8))) 4)=0) (Ls F (Z c 7) λj=>Ix j 0 λk=>pv F (nV (nV k (nX 0*3)) 2) (U 0) λF=>dp c d R F) (dp c d R F)) (Bc ((sj a 8)=5) (pv F (Z c 8) (nW nk) λF=>dp c d R F) (Bc ((sj a 8)=6) (Ls F (Z c 2) λl=>(b.len:Int)≠0/\Ix l (sj (i64.wrap (u8.wrap (Int.tdiv a 8))) (b.len:Int)) λm=>∃e,F.cell (nV m (nX (sj (i64.wrap (u8.wrap (Int.tdiv a 8))) (b.len:Int))*2))=V (nW e)/\Bb (e) ((b.len:Int)≠0/\aA F (Z c 8) 5 (#[nW mD,(U (i64.wrap ((sj (i64.wrap (u8.wrap (Int.tdiv a 8))) (b.len:Int))+1))),(U (i64.wrap (1+(sj (i64.wrap (u8.wrap (Int.tdiv a 8))) 2)))),U 0,U 0]:Γ) λF=>dp c d R F) (dp c d R F)) (Bc ((sj a 8)=7) (Ls F (Z c 2) λn=>(b.len:Int)≠0/\Ix n (sj (i64.wrap (u8.wrap (Int.tdiv a 8))) (b.len:Int)) λo=>∃f,F.cell (nV o (nX (sj (i64.wrap (u8.wrap (Int.tdiv a 8))) (b.len:Int))*2))=V (nW f)/\Bb (f) ((b.len:Int)≠0/\aA F (Z c 8) 5 (#[nW mD,U 0,U 0,(U (i64.wrap ((sj (i64.wrap (u8.wrap (Int.tdiv a 8))) (b.len:Int))+1))),(U (i64.wrap (1+(sj (i64.wrap (u8.wrap (Int.tdiv a 8))) 7))))]:Γ) λF=>dp c d R F) (dp c d R F)) (dp c d R F))))))))
theorem qd1 {b:Γ} {a:Int} (h:Pg b a R F):ν 129 #[nQ b,rV .u8 a] F R:=Rx.Λ (.qa8 (.qa8 (.qa8 (.qa8 (.J mD [] .N .N))))) h
def Ec (R:VR) (F:PH):Prop:=R (nW mD) F
def Ed (b:Ω) (_:Int) (_:Nat) (a:Int) (_:VR) (F:PH):Prop:=b (i64.wrap (a+1)) F
def xk (m n:Ω) (c:Int) (l:Nat) (a:Int) (R:VR) (b:Int) (F:PH):Prop:=Ls F (Z l 7) λd=>Ix d a λe=>Ls F (nV e (nX a*4)) λf=>Bc (b<(f.len:Int)) (Ls F (Z l 7) λg=>Ix g a λh=>Ls F (nV h (nX a*4)) λi=>Ix i b λj=>Li F (nV j (nX b*1)) λk=>Bc (k=c) (R (nW nk) F) (n (i64.wrap (b+1)) F)) (Ed m c l a R F)
def xm (h:Ω) (d:Int) (g:Nat) (R:VR) (a:Int) (F:PH):Prop:=Ls F (Z g 7) λe=>Bc (a<(e.len:Int)) ((∃(f:Nat->Ω) (c:Nat),f c 0 F/\∀c b F,f c b F-> xk h (Xh f c) d g a R b F)) (Ec R F)
def Ph (a:Γ) (b:Int) (R:VR) (F:PH):Prop:=Nb F (Y a 39) λd F=>Lp 0 F λN c F=>xm N b d R c F
theorem qd2 {a:Γ} {b:Int} (h:Ph a b R F):ν 130 #[nQ a,(U b)] F R:=Rx.Λ (.qa8 (.J mD [] (.qa8 (.L [(5,.int .i64)] (.qa8 (.J mD [] (.qa8 (.L [(6,.int .i64)] .N)) .N)))) .N)) h
def qh (u b:Nat) (c:Bool) (R:VR) (F:PH):Prop:=Bb (c) (Li F (Z b 4) λd=>Bc (0<=d) (Li F (Z b 4) λe=>Ls F (Z u 4) λf=>Bc (e<(f.len:Int)) (Lr F 9 (Z u 0) λg=>Ls F (Z b 6) λh=>vf 164 #[nQ g,nI h,nW mD] F λi F=>R (nW i) F) (R (nW mD) F)) (R (nW mD) F)) (Li F (Z b 5) λj=>Bc (j<0) (R (nW mD) F) (Li F (Z b 5) λk=>Ls F (Z u 3) λl=>Bc ((l.len:Int)<=k) (R (nW mD) F) (Lr F 9 (Z u 0) λm=>Ls F (Z b 6) λn=>vf 164 #[nQ m,nI n,nW nk] F λo F=>Bb ((!o)) (R (nW mD) F) (Ls F (Z u 3) λp=>Li F (Z b 5) λa=>Ix p a λq=>Lr F 7 (nV q (nX a*7)) λr=>Nb F (Y zT 166) λv F=>aA F (Z v 0) 7 r λF=>Li F (Z v 1) λs=>Bc (s=0) (Lx F (Z v 2) λt=>R (nW (t.toList==(ByteArray.mk #[]).toList)) F) (R (nW mD) F)))))
def qi (h a:Nat) (b:Int) (i:Bool) (R:VR) (F:PH):Prop:=Bb (i) (Li F (Z a 1) λj=>Bc (j<0) (R (nW mD) F) (Li F (Z a 1) λk=>Ls F (Z h 5) λl=>Bc ((l.len:Int)<=k) (R (nW mD) F) (Li F (Z a 3) λm=>Bc (m<0) (R (nW mD) F) (Li F (Z a 3) λn=>Ls F (Z h 5) λo=>Bc ((o.len:Int)<=n) (R (nW mD) F) (Ls F (Z h 5) λp=>Li F (Z a 1) λd=>Ix p d λq=>Ls F (nV (nV q (nX d*13)) 2) λc=>Li F (Z a 2) λr=>Bc (0<=r) (Li F (Z a 2) λs=>Bc (s<(c.len:Int)) (Li F (Z a 2) λe=>Ix c e λt=>Lb F (nV t (nX e*2)) λu=>Bb ((!u)) (Li F (Z a 2) λf=>Ix c f λv=>Li F (nV (nV v (nX f*2)) 1) λw=>Ls F (Z h 5) λx=>Li F (Z a 3) λg=>Ix x g λy=>Li F (nV (nV y (nX g*13)) 1) λz=>R (nW (decide (w=z))) F) (R (nW mD) F)) (R (nW mD) F)) (R (nW mD) F)))))) (Bc (b=3) (qh h a (decide (b=3)) R F) (qh h a (decide (b=4)) R F))
def Pj (i j:Γ) (R:VR) (F:PH):Prop:=Nb F (Y i 39) λk F=>Nb F (Y j 233) λb F=>Li F (Z b 0) λl=>Bc (l<1) (R (nW mD) F) (Li F (Z b 0) λc=>Bc (5<c) (R (nW mD) F) (Lr F 2 (Z b 7) λd=>Ls F (Z k 0) λe=>vf 162 #[nQ d,(U (e.len:Int))] F λf F=>Bb ((!f)) (R (nW mD) F) (Lr F 9 (Z b 0) λg=>vf 163 #[nQ g] F λh F=>Bb ((!h)) (R (nW mD) F) (Li F (Z b 0) λa=>Bc (a=1) (qi k b a (decide (a=1)) R F) (qi k b a (decide (a=2)) R F)))))
theorem qd3 {a:Γ} {b:Γ} (h:Pj a b R F):ν 131 #[nQ a,nQ b] F R:=Rx.Λ (.qa8 (.qa8 (.T (.qa8 (.J mD [(31,.bool)] .N (.qa8 (.J mD [(100,.bool)] .N .N)))) .N))) h
def Ee (c:Int) (d:Nat) (R:VR) (F:PH):Prop:=Lr F 2 (Z d 3) λa=>vf 132 #[nQ a,rV .u64 c] F λb F=>R (nW b) F
def qj (b:Ω) (_:Int) (_ _:Nat) (a:Int) (_:VR) (F:PH):Prop:=b (i64.wrap (a+1)) F
def xn (p:Ω) (c:Int) (o d:Nat) (R:VR) (a:Int) (F:PH):Prop:=Ls F (Z d 2) λk=>Bc (a<(k.len:Int)) (Ls F (Z d 2) λe=>Ix e a λf=>Lb F (nV f (nX a*2)) λg=>Bb (g) (Ls F (Z o 3) λh=>Ls F (Z d 2) λi=>Ix i a λj=>Li F (nV (nV j (nX a*2)) 1) λb=>Ix h b λl=>Lr F 2 (nV (nV l (nX b*7)) 5) λm=>vf 132 #[nQ m,rV .u64 c] F λn F=>F.cell (nV (nV j (nX a*2)) 1)=V (U b)/\F.cell (Z d 2)=V (nI i)/\F.cell (Z o 3)=V (nI h)/\F.cell (nV f (nX a*2))=V (nW g)/\F.cell (Z d 2)=V (nI e)/\Bb ((!n)) (R (nW mD) F) (qj p c o d a R F)) (qj p c o d a R F)) (Ee c d R F)
def Pk (e:Γ) (f a:Int) (R:VR) (F:PH):Prop:=Nb F (Y e 39) λh F=>Ls F (Z h 5) λb=>Ix b a λc=>Lr F 13 (nV c (nX a*13)) λd=>Nb F (Y zP 64) λi F=>aA F (Z i 0) 13 d λF=>Lp 0 F λN g F=>xn N f h i R g F
theorem qd4 {a:Γ} {b:Int} {c:Int} (h:Pk a b c R F):ν 138 #[nQ a,rV .u64 b,(U c)] F R:=Rx.Λ (.qa8 (.qa8 (.J mD [] (.qa8 (.L [(8,.int .i64)] (.qa8 (.J mD [] .N .N)))) .N))) h
def Pm (r:Γ) (R:VR) (F:PH):Prop:=Nb F (Y r 64) λa F=>Ls F (Z a 2) λs=>Bc ((s.len:Int)≠3) (R (nW mD) F) (Li F (Z a 6) λt=>Bc (t≠0) (R (nW mD) F) (Ls F (Z a 7) λd=>Bc ((0:Int)<(d.len:Int)) (R (nW mD) F) (Lr F 5 (Z a 8) λe=>∃b,(∀F,qX prog (Op.equal 60 (nQ e) (nQ (#[nW mD,U 0,U 0,U 0,U 0]:Γ))) F b)/\Bb ((!b)) (R (nW mD) F) (Ls F (Z a 2) λf=>Ix f 0 λg=>Lb F (nV g (nX 0*2)) λh=>Bb (h) (Ls F (Z a 2) λi=>Ix i 2 λj=>Lb F (nV j (nX 2*2)) λk=>Bb (k) (Ls F (Z a 2) λl=>Ix l 1 λm=>Lb F (nV m (nX 1*2)) λn=>Bb ((!n)) (Ls F (Z a 2) λo=>Ix o 1 λp=>∃c,F.cell (nV (nV p (nX 1*2)) 1)=V (U c)/\Li F (Z a 1) λq=>R (nW (decide (c=q))) F) (R (nW mD) F)) (R (nW mD) F)) (R (nW mD) F)))))
theorem qd5 {a:Γ} (h:Pm a R F):ν 161 #[nQ a] F R:=Rx.Λ .N h
def Ef (R:VR) (F:PH):Prop:=R (nW nk) F
def xo (h:Ω) (f:Int) (g:Nat) (R:VR) (a:Int) (F:PH):Prop:=Ls F (Z g 0) λb=>Bc (a<(b.len:Int)) (Ls F (Z g 0) λc=>Ix c a λd=>Li F (nV d (nX a*3)) λe=>Bc (f<=e) (R (nW mD) F) (h (i64.wrap (a+1)) F)) (Ef R F)
def Po (a:Γ) (b:Int) (R:VR) (F:PH):Prop:=Nb F (Y a 33) λf F=>Lr F 2 (Z f 0) λc=>Ci 192 #[nQ c] F λd F=>Bc (d≠0) (R (nW mD) F) (Lp 0 F λN e F=>xo N b f R e F)
theorem qd6 {a:Γ} {b:Int} (h:Po a b R F):ν 162 #[nQ a,(U b)] F R:=Rx.Λ (.qa8 (.qa8 (.J mD [] (.qa8 (.L [(5,.int .i64)] .N)) .N))) h
def qk (d:Nat) (a:Bool) (R:VR) (F:PH):Prop:=Bb (a) (Li F (Z d 0) λe=>Bc (e=5) (R (nW nk) F) (Li F (Z d 5) λf=>R (nW (decide (f=0))) F)) (Li F (Z d 4) λg=>Bc (g=0) (Li F (Z d 0) λb=>Bc (b=5) (R (nW nk) F) (Li F (Z d 5) λc=>R (nW (decide (c=0))) F)) (R (nW mD) F))
def jL (c:Nat) (R:VR) (F:PH):Prop:=Li F (Z c 0) λa=>Bc (a=3) (qk c nk R F) (Li F (Z c 0) λb=>qk c (decide (b=4)) R F)
def ql (b:Nat) (a:Bool) (R:VR) (F:PH):Prop:=Bb ((!a)) (Li F (Z b 1) λd=>Bc (d≠0) (R (nW mD) F) (Li F (Z b 2) λe=>Bc (e≠0) (R (nW mD) F) (Li F (Z b 3) λf=>Bc (f≠0) (R (nW mD) F) (Bb (a) (Ls F (Z b 6) λg=>Bc ((0:Int)<(g.len:Int)) (R (nW mD) F) (jL b R F)) (jL b R F))))) (Bb (a) (Ls F (Z b 6) λc=>Bc ((0:Int)<(c.len:Int)) (R (nW mD) F) (jL b R F)) (jL b R F))
def Pq (c:Γ) (R:VR) (F:PH):Prop:=Nb F (Y c 233) λb F=>Li F (Z b 0) λd=>Bc (d=1) (ql b nk R F) (Li F (Z b 0) λa=>ql b (decide (a=2)) R F)
theorem qd7 {a:Γ} (h:Pq a R F):ν 163 #[nQ a] F R:=Rx.Λ (.qa8 (.J mD [(3,.bool)] .N (.J mD [] .N (.J mD [(4,.bool)] .N .N)))) h
def Eg (a:Sl) (R:VR) (F:PH):Prop:=R (nW (decide ((0:Int)<(a.len:Int)))) F
def qn (c:Ω) (_:Sl) (_:Bool) (_:Nat) (b:Int) (_:VR) (F:PH):Prop:=c (i64.wrap (b+1)) F
def qp (m:Ω) (d:Sl) (a:Bool) (k:Nat) (b:Int) (R:VR) (F:PH):Prop:=Ls F (Z k 3) λe=>Ix d b λf=>Li F (nV f (nX b*1)) λc=>Ix e c λg=>Lr F 7 (nV g (nX c*7)) λh=>Nb F (Y zT 166) λl F=>aA F (Z l 0) 7 h λF=>Bb (a) (Lx F (Z l 2) λi=>Bb ((i.toList==(ByteArray.mk #[]).toList)) (R (nW mD) F) (qn m d a k b R F)) (Li F (Z l 1) λj=>Bc (j≠0) (R (nW mD) F) (qn m d a k b R F))
def xp (n:Ω) (c:Sl) (a:Bool) (m:Nat) (R:VR) (b:Int) (F:PH):Prop:=Bc (b<(c.len:Int)) (Ix c b λe=>Li F (nV e (nX b*1)) λf=>Bc (f<0) (R (nW mD) F) (Ix c b λg=>Li F (nV g (nX b*1)) λh=>Ls F (Z m 3) λi=>Bc ((i.len:Int)<=h) (R (nW mD) F) (Bc (0<b) (Ix c b λj=>Li F (nV j (nX b*1)) λk=>Ix c (i64.wrap (b - 1)) λl=>∃d,F.cell (nV l (nX (i64.wrap (b - 1))*1))=V (U d)/\Bc (k<=d) (R (nW mD) F) (qp n c a m b R F)) (qp n c a m b R F)))) (Eg c R F)
def Pt (b:Γ) (c:Sl) (a:Bool) (R:VR) (F:PH):Prop:=Nb F (Y b 39) λe F=>Lp 0 F λN d F=>xp N c a e R d F
theorem qdB {b:Γ} {c:Sl} {a:Bool} (h:Pt b c a R F):ν 164 #[nQ b,nI c,nW a] F R:=Rx.Λ (.qa8 (.J mD [] (.qa8 (.L [(7,.int .i64)] (.qa8 (.J mD [] (.J mD [] .N .N) .N)))) .N)) h
variable {F:PH}
theorem JM (i:Int) (F:PH):ν 54 #[U i] F λr g=>r=nQ (Sy.arr ⟨mD,i⟩)/\F.le g:=by refine qf1 ?_;unfold Wb;refine (St.start F).new λb w h=> ?_;refine h.put0 (w':=(Sy.arr ⟨mD,i⟩)) rfl rfl (by simp [ak]) λF2 h=> ?_;exact ⟨_,rfl,h.whole0,rfl,h.le⟩
theorem BY (i:Int) (F:PH):ν 55 #[U i] F λr g=>r=nQ (Sy.arr ⟨nk,i⟩)/\F.le g:=by refine qf3 ?_;unfold Wd;refine (St.start F).new λb w h=> ?_;refine h.put0 (w':=(Sy.arr ⟨nk,i⟩)) rfl rfl (by simp [ak]) λF2 h=> ?_;exact ⟨_,rfl,h.whole0,rfl,h.le⟩
theorem dq (lo hi:Int) (F:PH):ν 119 #[U lo,U hi] F λr g=>r=nQ (Nd.arr ⟨1,lo,hi,0,0⟩)/\F.le g:=by refine qdT ?_;unfold O8;refine (St.start F).new λb w h=> ?_;refine h.put0 (w':=(Nd.arr ⟨1,lo,hi,0,0⟩)) rfl rfl (by simp [ak]) λF2 h=> ?_;exact ⟨_,rfl,h.whole0,rfl,h.le⟩
theorem bZ (k x y:Int) (F:PH):ν 120 #[U k,U x,U y] F λr g=>r=nQ (Nd.arr ⟨k,0,0,x,y⟩)/\F.le g:=by refine qdU ?_;unfold O9;refine (St.start F).new λb w h=> ?_;refine h.put0 (w':=(Nd.arr ⟨k,0,0,x,y⟩)) rfl rfl (by simp [ak]) λF2 h=> ?_;exact ⟨_,rfl,h.whole0,rfl,h.le⟩
theorem DV.out {v:Γ} {d:wa} (h:DV F v d):∃s,v= #[s.v,U d.2]/\RL F s d.1:=by obtain ⟨s,g,r⟩:=h;exact ⟨s,g,RL.brs.2 r⟩
abbrev dy:wa:=pj (qa6 nk)
abbrev BZ (d:wa) (r:Value) (F:PH):Prop:=∃w,r=nQ w/\DV F w d
theorem gW (F:PH):ν 85 #[nW nk] F λr g=>BZ dy r g/\F.le g:=
 (d9 nk).mono λ_ _ ⟨w,h,A,B⟩=>⟨⟨w,h,A⟩,B⟩
abbrev bA (nm:ByteArray) (left:Int) (right:List Sy):Pr:=⟨nm,left,right,dy,mD,0,[],⟨mD,0,0,0,0⟩⟩
theorem uB (g:ο) (left:Int) {s:Sl} {right:List Sy} {F:PH} (D:RL F s right):ν 53 #[ph g,U left,s.v] F λr A=>(∃w,r=nQ w/\Mem.rep A (bA g left right) w)/\F.le A:=by refine Wa ?_;unfold Sn;refine (St.start F).new λb H h=> ?_;refine h.run (gW _) λ_ G F2 E l h=> ?_;obtain ⟨w,rfl,C⟩:=E;obtain ⟨n,rfl,B⟩:=C.out;refine ⟨_,rfl,rfl,?_⟩;refine h.put0 (w':=(bA g left right).arr s n pm) rfl rfl (by simp [ak,nI]) λF2 h=> ?_;exact ⟨_,rfl,h.whole0,⟨_,rfl,s,n,pm,rfl,(D.le l).le h.le,B.le h.le,.nil _⟩,aa l h.le⟩
theorem bR (v:Nat) (J:v<=63) (F:PH):ν 56 #[U v] F λr A=>BZ (pj (tv v)) r A/\F.le A:=by
 refine qf4 ?_;unfold We;refine (St.start F).new λb D h=> ?_;refine h.run (uF (v:Int)) λ_ G F2 C l h=> ?_;obtain ⟨w,rfl,g⟩:=C;have e:t5 (v:Int)=(pj (tv v),0):=by unfold t5;rw [Υ (by omega)];simp
 rw [e] at g ⊢;obtain ⟨n,rfl,B⟩:=g.out;refine ⟨_,_,rfl,?_⟩;refine h.new λE H h=> ?_;refine h.put0 (w':= #[n.v,U (pj (tv v)).2]) rfl rfl (by simp [ak,nI]) λF2 h=> ?_;refine ⟨_,rfl,h.whole0,?_⟩;refine h.put1 (w':= #[n.v,U (pj (tv v)).2]) rfl rfl (by simp [ak,nI]) λF2 h=> ?_;exact ⟨_,rfl,h.whole1,⟨_,rfl,DV.mk (B.le h.le)⟩,aa l h.le⟩
theorem JN {n:Nat}:∀{vs:List Γ} {k:Nat} {c:Γ},(∀d∈vs,d.size=n)->vs[k]? =V c->∀{off:Nat} {v:Ξ},off+v.length<=n->
  tZ (vs.set k (wr c off v))=(tZ vs).take (k*n+off)++v++(tZ vs).drop (k*n+off+v.length)
 |[],k,c,_,hk,off,v,_=>by simp at hk
 |d::vs,0,c,hn,hk,off,v,ho=>by simp at hk;subst hk;have hd:d.size=n:=hn d (by simp);rw [List.set_cons_zero,cH,cH,Wp,x9];have g:=jW v d.toList off (by rw [zQ (xs:=d)];omega);rw [show d.toList.toArray=d by simp] at g;have w:d.toList.length=d.size:=zQ;rw [g,Xi (by omega),List.drop_append_of_le_length (by omega)];simp []
 |d::vs,k+1,c,hn,hk,off,v,ho=>by
  have hd:d.toList.length=n:=by rw [zQ];exact hn d (by simp)
  rw [List.set_cons_succ,cH,cH,JN (λx h=>hn x (by simp [h])) (by simpa using hk) ho];have r:(k+1)*n+off=d.toList.length+(k*n+off):=by rw [hd,WJ];omega
  have A:(k+1)*n+off+v.length=d.toList.length+(k*n+off+v.length):=by rw [hd,WJ];omega
  rw [A,r,List.take_length_add_append,List.drop_length_add_append];simp []
theorem MZ {α:Type} (L v:List α) {o M:Nat} (h:o+v.length<=M) (r:M<=L.length):(L.take o++v++L.drop (o+v.length)).take M=(L.take M).take o++v++(L.take M).drop (o+v.length):=by
 have g:(L.take o++v).length=o+v.length:=by rw [tT,z9];omega
 rw [List.take_append,g,zh (l:=L.take o++v) (by omega),List.take_take,YO (by omega),List.drop_take]
theorem St.elAt {G F:PH} {As:List (Ψ)} {s:Sl} {e n k:Nat} {vs:List Γ} {c:Γ} (h:St G F As) (i:Nat) (hi:As[i]? =V (own s e n (tZ vs))) (J:∀d∈vs,d.size=n) (K:vs[k]? =V c) (h0:0<n):
  ∃b g,s.qa5=V ⟨b,0,I⟩/\k<s.len/\F b=V (Y g e)/\k*n+n<=g.size/\
   ∀r (v:Ξ),r+v.length<=n->St G (F.set b (Y (wr g (k*n+r) v) e)) (As.set i (own s e n (tZ (vs.set k (wr c r v))))):=by
 have a6:k<vs.length:=(N6.1 K).1;have B:∀(l:List Γ),(∀d∈l,d.size=n)->(tZ l).length=l.length*n:=by
  intro l;induction l with
  |nil=>intro _;simp [tZ]
  |cons d l ih=>intro hd;rw [cH,tT,ih (λx w=>hd x (by simp [w])),zQ,hd d (by simp),wg,WJ,XM]
 have L:=B vs J;obtain ⟨ho,-⟩:=h.ownAt hi;rcases ho with ⟨rfl,M⟩|⟨b,g,E,h2,X,W,Q,h6⟩
 ·rw [M] at L;have h:=Nat.mul_pos (show 0<vs.length by omega) h0;simp at L;omega
 ·have e1:s.len=vs.length:=by rw [L] at Q;exact (Nat.eq_of_mul_eq_mul_right h0 Q).symm
  have a0:k*n+n<=s.len*n:=by rw [<- WJ];exact Xj _ (by omega)
  have a5:s.len*n<=g.size:=by rw [X];exact Xj _ W
  refine ⟨b,g,E,by omega,h2,by omega,λr v M=> ?_⟩;obtain ⟨H,a1,a2,a3,a4⟩:=h.set (A':=own s e n (tZ (vs.set k (wr c r v)))) hi;have C:H b≠I:=by
   rcases a1 with ⟨rfl,_⟩|⟨b',P,g1,g2,_⟩
   ·cases E
   ·rw [E] at g1;cases g1;rw [g2];simp
  have D:∀d∈vs.set k (wr c r v),d.size=n:=by
   intro d hd;rcases List.mem_or_eq_of_mem_set hd with hd|rfl
   ·exact J d hd
   ·rw [dJ];exact J c (vO K)
  refine a4 (PH.set (λ_=>I) b (Y (wr g (k*n+r) v) e)) _ (.inr ⟨b,_,E,aq _ _ _,by rw [dJ,X],W,?_,?_⟩) (λx w=> ?_) (λx p w=> ?_) (λx p w N=> ?_)
  ·rw [B _ D,Yp,e1]
  ·have O:=jW v g.toList (k*n+r) (by rw [zQ (xs:=g)];omega);rw [show g.toList.toArray=g by simp] at O;rw [O,JN J K M,<- h6];exact MZ _ _ (by omega) (by rw [zQ (xs:=g)];omega)
  ·by_cases A:x=b
   ·rw [A];exact .inl C
   ·rw [aw _ _ A] at w;exact absurd rfl w
  ·by_cases A:x=b
   ·rw [A,aq] at w ⊢;exact w
   ·rw [aw _ _ A] at w;cases w
  ·have A:x≠b:=λA=>by subst A;exact C N
   rw [aw _ _ A];exact w
theorem St.elN {G F:PH} {As:List (Ψ)} {s:Sl} {e n k:Nat} {vs:List Γ} {c:Γ} (h:St G F As) (i:Nat) (hi:As[i]? =V (own s e n (tZ vs))) (D:∀d∈vs,d.size=n) (J:vs[k]? =V c) (L:0<n)
  {off m:Nat} {v:Γ} (A:v.size=m) (O:off+m<=n) (r:∀x∈v.toList,ak x) {C:Ψ} (H:∀w,St G w (As.set i (own s e n (tZ (vs.set k (wr c off v.toList)))))->C w):
  ∃a:Addr,s.qa5=V a/\0<=(k:Int)/\(k:Int)<(s.len:Int)/\aA F (nV (nV a (nX (k:Int)*n)) off) m v C:=by
 obtain ⟨b,g,B,N,M,P,K⟩:=h.elAt i hi D J L;have E:nV (nV ⟨b,0,I⟩ (nX (k:Int)*n)) off=⟨b,k*n+off,I⟩:=by simp only [aI,N4,x9]
 refine ⟨_,B,by omega,by omega,?_⟩;rw [E];exact ⟨A,r,g,e,M,rfl,(by show k*n+off+m<=g.size;omega),tR (H _ (K off v.toList (by rw [zQ];omega)))⟩
theorem St.el1 {G F:PH} {As:List (Ψ)} {s:Sl} {e n k:Nat} {vs:List Γ} {c:Γ} (h:St G F As) (i:Nat) (hi:As[i]? =V (own s e n (tZ vs))) (A:∀d∈vs,d.size=n) (E:vs[k]? =V c) (J:0<n)
  {off:Nat} {v:ξ} (M:off<n) {C:Ψ} (D:∀r,St G r (As.set i (own s e n (tZ (vs.set k (c.setIfInBounds off v)))))->C r):
  ∃a:Addr,s.qa5=V a/\0<=(k:Int)/\(k:Int)<(s.len:Int)/\pv F (nV (nV a (nX (k:Int)*n)) off) v C:=by
 obtain ⟨b,g,w,L,K,N,H⟩:=h.elAt i hi A E J;have B:nV (nV ⟨b,0,I⟩ (nX (k:Int)*n)) off=⟨b,k*n+off,I⟩:=by simp only [aI,N4,x9]
 refine ⟨_,w,by omega,by omega,?_⟩;rw [B];exact ⟨g,e,K,rfl,(by show k*n+off<g.size;omega),tR (D _ (H off [v] (by show off+1<=n;omega)))⟩
structure KF (K G F:PH) (b0 b1:Nat) (g:Gr) (c n t s sp l f:Sl) (vs:List Γ):Prop where
 k:K.le G
 st:St G F [pt b1 (Y (g.arr c n t s sp l f) 39),own sp 64 13 (tZ vs),pt b0 (Y zG 39)]
 r:bS G g.qa0 vs
 c:RL G c g.qa4
 n:RL G n g.fam.1
 t:RL G t g.qa2
 s:RL G s g.qa1
 l:RL G l g.lvs
 f:RL G f g.fils
def KS (K F:PH) (b0 b1:Nat) (g:Gr):Prop:=∃G c n t s sp l f vs,KF K G F b0 b1 g c n t s sp l f vs
section
variable {K G F:PH} {b0 b1:Nat} {g:Gr} {c n t s sp l f:Sl} {vs:List Γ}
theorem KF.up {A B:PH} (h:KF K G F b0 b1 g c n t s sp l f vs) (w:G.le A) (st:St A B [pt b1 (Y (g.arr c n t s sp l f) 39),own sp 64 13 (tZ vs),pt b0 (Y zG 39)]):KF K A B b0 b1 g c n t s sp l f vs:=
 ⟨aa h.k w,st,h.r.le w,h.c.le w,h.n.le w,h.t.le w,h.s.le w,h.l.le w,h.f.le w⟩
theorem KF.sz (h:KF K G F b0 b1 g c n t s sp l f vs):∀d∈vs,d.size=13:=by
 have:∀{l:List Pr} {vs:List Γ},bS G l vs->∀d∈vs,d.size=13:=by
  intro l vs h;induction h with
  |nil=>intro d hd;cases hd
  |cons h _ ih=>
   intro d hd;rcases tS.1 hd with rfl|hd
   ·exact Mem.len h
   ·exact ih d hd
 exact this h.r
theorem KF.len (h:KF K G F b0 b1 g c n t s sp l f vs):sp.len=g.qa0.length:=by obtain ⟨A,-⟩:=h.st.ownAt (i:=1) rfl;have w:=A.rd.len;have B:=h.r.cat_len;rw [B] at w;have:g.qa0.length*13=sp.len*13:=w;omega
def jl (fn:FuncId) (i:Int) (x:Sy):Prop:=∀F:PH,aj prog fn #[U i] F λr F'=>r=nQ x.arr/\F.le F'
theorem dV (i:Int):jl 54 i ⟨mD,i⟩:=JM i
theorem cR (i:Int):jl 55 i ⟨nk,i⟩:=BY i
theorem KF.add (h:KF K G F b0 b1 g c n t s sp l f vs) {E:ο} {left:Int} {sx:Sl} {right:List Sy} (O:RL G sx right) (hl:g.qa0.length<=1000) {C:Ψ}
  (k:∀J,KS K J b0 b1 {g with qa0:=g.qa0++[bA E left right]}->C J):
  ν 53 #[ph E,U left,sx.v] F λv F=>∃w:Γ,v=nQ w/\F.cell (oB b1 5 I)=V (nI sp)/\w.size=13/\∀b,F b=I->xJ (F.set b (Y w 64)) λF=>
   aG prog (Builtin.append_ #[35,35] 35 #[nI sp,nI (t7 (V (oB b 0 I)) 1 1)]) F λv F=>∃B:Sl,v=nI B/\pv F (oB b1 5 I) (nI B) C:=by
 obtain ⟨_,_,T⟩:=Sm;refine h.st.run (uB E left O) λ_ G' J W Q st=> ?_;obtain ⟨w,rfl,H⟩:=W;refine ⟨w,rfl,st.ld0 rfl,Mem.len H,st.push1 T (Mem.len H) (Mem.st H) (by have:=h.len;omega) λB L P M D N=> ?_⟩;rw [show tZ vs++w.toList=tZ (vs++[w]) by rw [ba,cI]] at D;refine D.set0 (w':=Gr.arr {g with qa0:=g.qa0++[bA E left right]} c n t s B l f) (vr rfl) rfl λX st=>k _ ?_;have A:=aa Q M;exact ⟨L,c,n,t,s,B,l,f,_,aa h.k A,st,(h.r.le A).append (.cons (Mem.le M H) .nil),h.c.le A,h.n.le A,h.t.le A,h.s.le A,h.l.le A,h.f.le A⟩
theorem KF.el1 (h:KF K G F b0 b1 g c n t s sp l f vs) {k:Nat} {p p':Pr} (H:g.qa0[k]? =V p) {off:Nat} {v:ξ} (L:off<13) (B:∀w,Mem.rep G p w->Mem.rep G p' (w.setIfInBounds off v)) {C:Ψ}
  (J:∀A,KS K A b0 b1 {g with qa0:=g.qa0.set k p'}->C A):
  ∃a:Addr,sp.qa5=V a/\0<=(k:Int)/\(k:Int)<(sp.len:Int)/\pv F (nV (nV a (nX (k:Int)*13)) off) v C:=by
 obtain ⟨w,D,E,_⟩:=h.r.get H;refine h.st.el1 1 rfl h.sz D (by decide) L λA st=>J _ ?_;exact ⟨G,c,n,t,s,sp,l,f,_,h.k,st,h.r.set (B w E),h.c,h.n,h.t,h.s,h.l,h.f⟩
theorem KF.elN (h:KF K G F b0 b1 g c n t s sp l f vs) {k:Nat} {p p':Pr} (J:g.qa0[k]? =V p) {off m:Nat} {v:Γ} (M:v.size=m) (N:off+m<=13) (A:∀x∈v.toList,ak x) (D:∀w,Mem.rep G p w->Mem.rep G p' (wr w off v.toList)) {C:Ψ}
  (L:∀B,KS K B b0 b1 {g with qa0:=g.qa0.set k p'}->C B):
  ∃a:Addr,sp.qa5=V a/\0<=(k:Int)/\(k:Int)<(sp.len:Int)/\aA F (nV (nV a (nX (k:Int)*13)) off) m v C:=by
 obtain ⟨w,E,H,_⟩:=h.r.get J;refine h.st.elN 1 rfl h.sz E (by decide) M N A λB st=>L _ ?_;exact ⟨G,c,n,t,s,sp,l,f,_,h.k,st,h.r.set (D w H),h.c,h.n,h.t,h.s,h.l,h.f⟩
theorem KS.set1 (h:KS K F b0 b1 g) (k:Nat) {p:Pr} (p':Pr) (B:g.qa0[k]? =V p) {off:Nat} {v:ξ} (E:off<13) (A:∀(G:PH) w,Mem.rep G p w->Mem.rep G p' (w.setIfInBounds off v)) {C:Ψ}
  (D:∀r,KS K r b0 b1 {g with qa0:=g.qa0.set k p'}->C r):
  ∃sp:Sl,F.cell (oB b1 5 I)=V (nI sp)/\∃a:Addr,sp.qa5=V a/\0<=(k:Int)/\(k:Int)<(sp.len:Int)/\pv F (nV (nV a (nX (k:Int)*13)) off) v C:=by
 obtain ⟨G,c,n,t,s,sp,l,f,vs,h⟩:=h;exact ⟨sp,h.st.ld0 rfl,h.el1 B E (A G) D⟩
theorem KS.setN (h:KS K F b0 b1 g) (k:Nat) {p:Pr} (p':Pr) (D:g.qa0[k]? =V p) {off m:Nat} {v:Γ} (H:v.size=m) (J:off+m<=13) (r:∀x∈v.toList,ak x) (B:∀(G:PH) w,Mem.rep G p w->Mem.rep G p' (wr w off v.toList)) {C:Ψ}
  (E:∀A,KS K A b0 b1 {g with qa0:=g.qa0.set k p'}->C A):
  ∃sp:Sl,F.cell (oB b1 5 I)=V (nI sp)/\∃a:Addr,sp.qa5=V a/\0<=(k:Int)/\(k:Int)<(sp.len:Int)/\aA F (nV (nV a (nX (k:Int)*13)) off) m v C:=by
 obtain ⟨G,c,n,t,s,sp,l,f,vs,h⟩:=h;exact ⟨sp,h.st.ld0 rfl,h.elN D H J r (B G) E⟩
theorem KS.brk (h:KS K F b0 b1 g) (k:Nat) {p:Pr} (E:g.qa0[k]? =V p) {C:Ψ} (H:∀A,KS K A b0 b1 {g with qa0:=g.qa0.set k {p with brk:=nk}}->C A):
  ∃sp:Sl,F.cell (oB b1 5 I)=V (nI sp)/\∃a:Addr,sp.qa5=V a/\0<=(k:Int)/\(k:Int)<(sp.len:Int)/\pv F (nV (nV a (nX (k:Int)*13)) 5) (nW nk) C:=
 h.set1 k {p with brk:=nk} E (by decide) (λG w ⟨r,n,l,e,B,D,J⟩=>⟨r,n,l,by rw [e];rfl,B,D,J⟩) H
theorem KS.rank (h:KS K F b0 b1 g) (k:Nat) {p:Pr} (E:g.qa0[k]? =V p) {x:Int} {C:Ψ} (H:∀A,KS K A b0 b1 {g with qa0:=g.qa0.set k {p with rank:=x}}->C A):
  ∃sp:Sl,F.cell (oB b1 5 I)=V (nI sp)/\∃a:Addr,sp.qa5=V a/\0<=(k:Int)/\(k:Int)<(sp.len:Int)/\pv F (nV (nV a (nX (k:Int)*13)) 6) (U x) C:=
 h.set1 k {p with rank:=x} E (by decide) (λG w ⟨r,n,l,e,B,D,J⟩=>⟨r,n,l,by rw [e];rfl,B,D,J⟩) H
theorem KS.sco (h:KS K F b0 b1 g) (k:Nat) {p:Pr} (M:g.qa0[k]? =V p) {D:Bool} {B A H E:Int} {C:Ψ} (O:∀J,KS K J b0 b1 {g with qa0:=g.qa0.set k {p with sco:=⟨D,B,A,H,E⟩}}->C J):
  ∃sp:Sl,F.cell (oB b1 5 I)=V (nI sp)/\∃a:Addr,sp.qa5=V a/\0<=(k:Int)/\(k:Int)<(sp.len:Int)/\aA F (nV (nV a (nX (k:Int)*13)) 8) 5 #[nW D,U B,U A,U H,U E] C:=
 h.setN k {p with sco:=⟨D,B,A,H,E⟩} M rfl (by show 8+5<=13;decide) (by simp [ak]) (λG w ⟨r,n,l,e,L,N,P⟩=>⟨r,n,l,by rw [e];rfl,L,N,P⟩) O
theorem KS.cnd (h:KS K F b0 b1 g) (k:Nat) {p:Pr} (H:g.qa0[k]? =V p) (v:Nat) (L:v<=63) {C:Ψ} (J:∀A,KS K A b0 b1 {g with qa0:=g.qa0.set k {p with cond:=pj (tv v)}}->C A):
  ∃sp:Sl,F.cell (oB b1 5 I)=V (nI sp)/\ν 56 #[U v] F λr F=>∃w:Γ,r=nQ w/\F.cell (oB b1 5 I)=V (nI sp)/\
   ∃a:Addr,sp.qa5=V a/\0<=(k:Int)/\(k:Int)<(sp.len:Int)/\aA F (nV (nV a (nX (k:Int)*13)) 3) 2 w C:=by
 obtain ⟨G,c,n,t,s,sp,l,f,vs,h⟩:=h;refine ⟨sp,h.st.ld0 rfl,h.st.run (bR v L _) λ_ Q A N M st=> ?_⟩;obtain ⟨w,rfl,E⟩:=N;obtain ⟨m,rfl,D⟩:=E.out;refine ⟨_,rfl,st.ld0 rfl,(h.up M st).elN (p':={p with cond:=pj (tv v)}) H rfl (by show 3+2<=13;decide) (by simp [ak,nI]) (λw ⟨r,n,l,e,B,P,O⟩=>⟨r,m,l,by rw [e];rfl,B,D,O⟩) J⟩
theorem B0 {F:PH} {b:Nat} {e:TypeId} {x:Cn} (q:F b=V (Y x.arr e)):RL F (t7 (V (oB b 0 I)) 1 1) [x]:=⟨[x.arr],.cons rfl .nil,RdS.new q rfl rfl (ru _)⟩
theorem So {F:PH} {b:Nat} {e:TypeId} {x y:Cn} (q:F b=V (Y (wr (wr (#[rV .i64 0,.int .i64 0,.int .i64 0,.int .i64 0,.int .i64 0,.int .i64 0]:Γ) 0 x.arr.toList) 3 y.arr.toList) e)):RL F (t7 (V (oB b 0 I)) 2 2) [x,y]:=⟨[x.arr,y.arr],.cons rfl (.cons rfl .nil),RdS.new q rfl rfl (ru _)⟩
theorem KS.lay1 (h:KS K F b0 b1 g) (k:Nat) {p:Pr} (J:g.qa0[k]? =V p) {B A D:Int} {C:Ψ} (M:∀E,KS K E b0 b1 {g with qa0:=g.qa0.set k {p with lay:=[⟨B,A,D⟩]}}->C E):
  ∃sp:Sl,F.cell (oB b1 5 I)=V (nI sp)/\(#[U B,U A,U D]:Γ).size=3/\∀b,F b=I->xJ (F.set b (Y (#[U B,U A,U D]:Γ) 260)) λF=>
   ∃a:Addr,sp.qa5=V a/\0<=(k:Int)/\(k:Int)<(sp.len:Int)/\pv F (nV (nV a (nX (k:Int)*13)) 7) (nI (t7 (V (oB b 0 I)) 1 1)) C:=by
 obtain ⟨G,c,n,t,s,sp,l,f,vs,h⟩:=h;refine ⟨sp,h.st.ld0 rfl,rfl,h.st.newG λb P E N q _ st=> ?_⟩;exact (h.up N st).el1 (p':={p with lay:=[⟨B,A,D⟩]}) J (by decide) (λw ⟨r,n,l,e,H,L,O⟩=>⟨r,n,_,by rw [e];rfl,H,L,B0 (x:=⟨B,A,D⟩) q⟩) M
theorem KS.lay2 (h:KS K F b0 b1 g) (k:Nat) {p:Pr} (O:g.qa0[k]? =V p) {D A H J E B:Int} {C:Ψ} (Q:∀L,KS K L b0 b1 {g with qa0:=g.qa0.set k {p with lay:=[⟨D,A,H⟩,⟨J,E,B⟩]}}->C L):
  ∃sp:Sl,F.cell (oB b1 5 I)=V (nI sp)/\(#[U D,U A,U H]:Γ).size=3/\(#[U J,U E,U B]:Γ).size=3/\
   ∀b,F b=I->xJ (F.set b (Y (wr (wr (#[rV .i64 0,.int .i64 0,.int .i64 0,.int .i64 0,.int .i64 0,.int .i64 0]:Γ) 0 (#[U D,U A,U H]:Γ).toList) 3 (#[U J,U E,U B]:Γ).toList) 260)) λF=>
   ∃a:Addr,sp.qa5=V a/\0<=(k:Int)/\(k:Int)<(sp.len:Int)/\pv F (nV (nV a (nX (k:Int)*13)) 7) (nI (t7 (V (oB b 0 I)) 2 2)) C:=by
 obtain ⟨G,c,n,t,s,sp,l,f,vs,h⟩:=h;refine ⟨sp,h.st.ld0 rfl,rfl,rfl,h.st.newG λb W L P q _ st=> ?_⟩;exact (h.up P st).el1 (p':={p with lay:=[⟨D,A,H⟩,⟨J,E,B⟩]}) O (by decide) (λw ⟨r,n,l,e,M,N,X⟩=>⟨r,n,_,by rw [e];rfl,M,N,So (x:=⟨D,A,H⟩) (y:=⟨J,E,B⟩) q⟩) Q
theorem KS.fin (h:KS K F b0 b1 g) {R:VR} (k:∀w A,GV A w g->K.le A->R (nQ w) A):
  ∃v:Γ,v.size=9/\F.row (oB b1 0 I) v/\aA F (oB b0 0 I) 9 v λF=>∃w:Γ,w.size=9/\F.row (oB b0 0 I) w/\R (nQ w) F:=by
 obtain ⟨G,c,n,t,s,sp,l,f,vs,h⟩:=h;refine ⟨_,rfl,h.st.whole0,?_⟩;refine h.st.put2 (w':=g.arr c n t s sp l f) rfl rfl (by simp [ak,nI]) λA st=> ?_;obtain ⟨B,-⟩:=st.ownAt (i:=1) rfl;refine ⟨_,rfl,st.whole2,k _ _ ⟨c,n,t,s,sp,l,f,rfl,h.c.le st.le,h.n.le st.le,h.t.le st.le,h.s.le st.le,⟨vs,h.r.le st.le,B.rd⟩,h.l.le st.le,h.f.le st.le⟩ (aa h.k st.le)⟩
theorem KS.lvs (h:KS K F b0 b1 g) {sx:Sl} {x:List Lv} (A:RL K sx x) {C:Ψ} (B:∀w,KS K w b0 b1 {g with lvs:=x}->C w):pv F (oB b1 7 I) (nI sx) C:=by obtain ⟨G,c,n,t,s,sp,l,f,vs,h⟩:=h;refine h.st.set0 (w':=Gr.arr {g with lvs:=x} c n t s sp sx f) (vr rfl) rfl λw st=>B _ ?_;exact ⟨G,c,n,t,s,sp,sx,f,vs,h.k,st,h.r,h.c,h.n,h.t,h.s,A.le h.k,h.f⟩
theorem KS.fils (h:KS K F b0 b1 g) {sx:Sl} {x:List Fi} (A:RL K sx x) {C:Ψ} (B:∀w,KS K w b0 b1 {g with fils:=x}->C w):pv F (oB b1 8 I) (nI sx) C:=by obtain ⟨G,c,n,t,s,sp,l,f,vs,h⟩:=h;refine h.st.set0 (w':=Gr.arr {g with fils:=x} c n t s sp l sx) (vr rfl) rfl λw st=>B _ ?_;exact ⟨G,c,n,t,s,sp,l,sx,vs,h.k,st,h.r,h.c,h.n,h.t,h.s,h.l,A.le h.k⟩
theorem KS.new (h:KS K F b0 b1 g) {o:Obj} {C:Nat->Ψ} (k:∀b B A,K.le B->B b=V o->KS B A b0 b1 g->C b A):∀b,F b=I->xJ (F.set b o) (C b):=by obtain ⟨G,c,n,t,s,sp,l,f,vs,h⟩:=h;exact h.st.newG λb D A w q _ st=>k b D A (aa h.k w) q ⟨D,c,n,t,s,sp,l,f,vs,au _,st,h.r.le w,h.c.le w,h.n.le w,h.t.le w,h.s.le w,h.l.le w,h.f.le w⟩
theorem KS.run (h:KS K F b0 b1 g) {D:FuncId} {args:Γ} {P:ξ->Ψ} {Q:ξ->Ψ} (sp:∀G,K.le G->aj prog D args G λr A=>P r A/\G.le A) (k:∀r C B,P r C->K.le C->KS C B b0 b1 g->Q r B):aj prog D args F Q:=by obtain ⟨G,c,n,t,s,H,l,f,vs,h⟩:=h;exact h.st.run (sp G h.k) λr A B E w st=>k r A B E (aa h.k w) ⟨A,c,n,t,s,H,l,f,vs,au _,st,h.r.le w,h.c.le w,h.n.le w,h.t.le w,h.s.le w,h.l.le w,h.f.le w⟩
theorem KS.le (h:KS K F b0 b1 g):K.le F:=by obtain ⟨G,c,n,t,s,sp,l,f,vs,h⟩:=h;exact aa h.k h.st.le
theorem KS.rule0 (h:KS K F b0 b1 g) (B:g.qa0.length<=1000) {w:ο} {left:Int} {C:Ψ} (k:∀r,KS K r b0 b1 {g with qa0:=g.qa0++[bA w left []]}->C r):
  YX b1 w left C F:=by
 obtain ⟨G,c,n,t,s,sp,l,f,vs,h⟩:=h;refine ⟨sp,h.st.ld0 rfl,?_⟩;refine h.st.newG λb D E A q _ st=> ?_;exact (h.up A st).add ⟨[],.nil,RdS.new q (by kernel_rfl) rfl (ru _)⟩ B k
theorem KS.rule1 (h:KS K F b0 b1 g) {w:FuncId} {A:Int} {r:Sy} (s1:jl w A r) (J:g.qa0.length<=1000) {D:ο} {left:Int} {C:Ψ} (k:∀B,KS K B b0 b1 {g with qa0:=g.qa0++[bA D left [r]]}->C B):
  Ya b1 w A D left C F:=by
 obtain ⟨G,c,n,t,s,sp,l,f,vs,h⟩:=h;refine ⟨sp,h.st.ld0 rfl,?_⟩;refine h.st.runv (s1 _) λM L H st=> ?_;refine ⟨_,rfl,st.ld0 rfl,rfl,?_⟩;refine st.newG λb N O E q _ st=> ?_;exact (h.up (aa H E) st).add ⟨[r.arr],(.cons rfl .nil),RdS.new q (by kernel_rfl) rfl (ru _)⟩ J k
theorem KS.rule2 (h:KS K F b0 b1 g) {B f2:FuncId} {D A:Int} {w r:Sy} (s1:jl B D w) (s2:jl f2 A r) (N:g.qa0.length<=1000) {H:ο} {left:Int} {C:Ψ} (k:∀E,KS K E b0 b1 {g with qa0:=g.qa0++[bA H left [w,r]]}->C E):
  Xd b1 B D f2 A H left C F:=by
 obtain ⟨G,c,n,t,s,sp,l,f,vs,h⟩:=h;refine ⟨sp,h.st.ld0 rfl,?_⟩;refine h.st.runv (s1 _) λP O M st=> ?_;refine ⟨_,rfl,st.ld0 rfl,?_⟩;refine st.runv (s2 _) λQ F2 J st=> ?_;refine ⟨_,rfl,st.ld0 rfl,rfl,rfl,?_⟩;refine st.newG λb W X L q _ st=> ?_;exact (h.up (aa M (aa J L)) st).add ⟨[w.arr,r.arr],(.cons rfl (.cons rfl .nil)),RdS.new q (by kernel_rfl) rfl (ru _)⟩ N k
theorem KS.rule3 (h:KS K F b0 b1 g) {J f2 E:FuncId} {L D H:Int} {A w r:Sy} (s1:jl J L A) (s2:jl f2 D w) (N:jl E H r) (O:g.qa0.length<=1000) {M:ο} {left:Int} {C:Ψ} (k:∀B,KS K B b0 b1 {g with qa0:=g.qa0++[bA M left [A,w,r]]}->C B):
  Xm b1 J L f2 D E H M left C F:=by
 obtain ⟨G,c,n,t,s,sp,l,f,vs,h⟩:=h;refine ⟨sp,h.st.ld0 rfl,?_⟩;refine h.st.runv (s1 _) λG1 F1 X st=> ?_;refine ⟨_,rfl,st.ld0 rfl,?_⟩;refine st.runv (s2 _) λG2 F2 Q st=> ?_;refine ⟨_,rfl,st.ld0 rfl,?_⟩;refine st.runv (N _) λG3 F3 P st=> ?_;refine ⟨_,rfl,st.ld0 rfl,rfl,rfl,rfl,?_⟩;refine st.newG λb G9 F9 W q _ st=> ?_;exact (h.up (aa X (aa Q (aa P W))) st).add ⟨[A.arr,w.arr,r.arr],(.cons rfl (.cons rfl (.cons rfl .nil))),RdS.new q (by kernel_rfl) rfl (ru _)⟩ O k
theorem KS.rule4 (h:KS K F b0 b1 g) {M f2 H J:FuncId} {O E L N:Int} {B A w r:Sy} (s1:jl M O B) (s2:jl f2 E A) (W:jl H L w) (s4:jl J N r) (X:g.qa0.length<=1000) {P:ο} {left:Int} {C:Ψ} (k:∀D,KS K D b0 b1 {g with qa0:=g.qa0++[bA P left [B,A,w,r]]}->C D):
  Zp b1 M O f2 E H L J N P left C F:=by
 obtain ⟨G,c,n,t,s,sp,l,f,vs,h⟩:=h;refine ⟨sp,h.st.ld0 rfl,?_⟩;refine h.st.runv (s1 _) λG1 F1 l1 st=> ?_;refine ⟨_,rfl,st.ld0 rfl,?_⟩;refine st.runv (s2 _) λG2 F2 l2 st=> ?_;refine ⟨_,rfl,st.ld0 rfl,?_⟩;refine st.runv (W _) λG3 F3 l3 st=> ?_;refine ⟨_,rfl,st.ld0 rfl,?_⟩;refine st.runv (s4 _) λG4 F4 Q st=> ?_;refine ⟨_,rfl,st.ld0 rfl,rfl,rfl,rfl,rfl,?_⟩;refine st.newG λb G9 F9 l9 q _ st=> ?_;exact (h.up (aa l1 (aa l2 (aa l3 (aa Q l9)))) st).add ⟨[B.arr,A.arr,w.arr,r.arr],(.cons rfl (.cons rfl (.cons rfl (.cons rfl .nil)))),RdS.new q (by kernel_rfl) rfl (ru _)⟩ X k
theorem KS.rule5 (h:KS K F b0 b1 g) {Q f2 L N P:FuncId} {X J O W M:Int} {B A w r D:Sy} (s1:jl Q X B) (s2:jl f2 J A) (s3:jl L O w) (s4:jl N W r) (s5:jl P M D) (hl:g.qa0.length<=1000) {H:ο} {left:Int} {C:Ψ} (k:∀E,KS K E b0 b1 {g with qa0:=g.qa0++[bA H left [B,A,w,r,D]]}->C E):
  ZU b1 Q X f2 J L O N W P M H left C F:=by
 obtain ⟨G,c,n,t,s,sp,l,f,vs,h⟩:=h;refine ⟨sp,h.st.ld0 rfl,?_⟩;refine h.st.runv (s1 _) λG1 F1 l1 st=> ?_;refine ⟨_,rfl,st.ld0 rfl,?_⟩;refine st.runv (s2 _) λG2 F2 l2 st=> ?_;refine ⟨_,rfl,st.ld0 rfl,?_⟩;refine st.runv (s3 _) λG3 F3 l3 st=> ?_;refine ⟨_,rfl,st.ld0 rfl,?_⟩;refine st.runv (s4 _) λG4 F4 l4 st=> ?_;refine ⟨_,rfl,st.ld0 rfl,?_⟩;refine st.runv (s5 _) λG5 F5 l5 st=> ?_;refine ⟨_,rfl,st.ld0 rfl,rfl,rfl,rfl,rfl,rfl,?_⟩;refine st.newG λb G9 F9 l9 q _ st=> ?_;exact (h.up (aa l1 (aa l2 (aa l3 (aa l4 (aa l5 l9))))) st).add ⟨[B.arr,A.arr,w.arr,r.arr,D.arr],(.cons rfl (.cons rfl (.cons rfl (.cons rfl (.cons rfl .nil))))),RdS.new q (by kernel_rfl) rfl (ru _)⟩ hl k
end
end
