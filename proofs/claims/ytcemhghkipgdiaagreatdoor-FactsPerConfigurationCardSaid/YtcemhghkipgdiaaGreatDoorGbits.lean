/-
  What functions of the program do, in a clean form, each with the proof that its code does so. Printed by a program.
-/
import Derived.Test.YtcemhghkipgdiaaGreatDoorPhp
import Derived.Test.YtcemhghkipgdiaaGreatDoorGdiagram
import Derived.Test.YtcemhghkipgdiaaGreatDoorPhn
namespace Go.Proofs.YtcemhghkipgdiaaGreatDoor
open Go.IntKind (i64 u8 u64)
open Go Go.Proofs.Tryz
variable {R:VR} {F:PH}
set_option maxRecDepth 10000
set_option maxHeartbeats 4000000
def MD (R:VR) (F:PH):Prop:=R (.bool true) F
def Fc (i:Ω) (b d:Sl) (R:VR) (a:Int) (F:PH):Prop:=Bc (a<(b.len:Int)) (Ix b a λe=>Lr F 3 (Addr.add e (Int.toNat a*3)) λf=>Ix d a λg=>Lr F 3 (Addr.add g (Int.toNat a*3)) λh=>∃c,(∀F,rdo prog (Op.equal 124 (.agg f) (.agg h)) F c)/\Bb ((!c)) (R (.bool false) F) (i (i64.wrap (a+1)) F)) (MD R F)
def Pm (a b:Sl) (R:VR) (F:PH):Prop:=Bc ((a.len:Int)≠(b.len:Int)) (R (.bool false) F) (Lp 0 F λN c F=>Fc N a b R c F)
theorem Tw {a:Sl} {b:Sl} (h:Pm a b R F):ai prog 79 #[Sl.v a,Sl.v b] F R:=Rx.sxC (args:=[Sl.v a,Sl.v b]) (.T .N (.T .N (.J false [] (.T .N (.L [(13,.int .i64)] .N)) .N))) (by kernel_rfl) h
def Po (a:Sl) (R:VR) (F:PH):Prop:=Bb ((a.base.isNone)) (R (Sl.v Sl.nil) F) (Nb F (.cells #[] 9) λc F=>Ap 28 #[Sl.v (Sb c 0),Sl.v a] F λb F=>R (Sl.v b) F)
theorem Pq {a:Sl} (h:Po a R F):ai prog 103 #[Sl.v a] F R:=Rx.sxC (args:=[Sl.v a]) .N (by kernel_rfl) h
def Pt (a:Sl) (R:VR) (F:PH):Prop:=Bb ((a.base.isNone)) (R (Sl.v Sl.nil) F) (Nb F (.cells #[] 149) λc F=>Ap 144 #[Sl.v (Sb c 0),Sl.v a] F λb F=>R (Sl.v b) F)
theorem Pu {a:Sl} (h:Pt a R F):ai prog 104 #[Sl.v a] F R:=Rx.sxC (args:=[Sl.v a]) .N (by kernel_rfl) h
def Pv (a:Sl) (R:VR) (F:PH):Prop:=Bb ((a.base.isNone)) (R (Sl.v Sl.nil) F) (Nb F (.cells #[] 63) λc F=>Ap 50 #[Sl.v (Sb c 0),Sl.v a] F λb F=>R (Sl.v b) F)
theorem Pw {a:Sl} (h:Pv a R F):ai prog 105 #[Sl.v a] F R:=Rx.sxC (args:=[Sl.v a]) .N (by kernel_rfl) h
def Px (a:Sl) (R:VR) (F:PH):Prop:=Bb ((a.base.isNone)) (R (Sl.v Sl.nil) F) (Nb F (.cells #[] 153) λc F=>Ap 51 #[Sl.v (Sb c 0),Sl.v a] F λb F=>R (Sl.v b) F)
theorem Py {a:Sl} (h:Px a R F):ai prog 106 #[Sl.v a] F R:=Rx.sxC (args:=[Sl.v a]) .N (by kernel_rfl) h
def Pz (a:Sl) (R:VR) (F:PH):Prop:=Bb ((a.base.isNone)) (R (Sl.v Sl.nil) F) (Nb F (.cells #[] 3) λc F=>Ap 67 #[Sl.v (Sb c 0),Sl.v a] F λb F=>R (Sl.v b) F)
theorem PA {a:Sl} (h:Pz a R F):ai prog 107 #[Sl.v a] F R:=Rx.sxC (args:=[Sl.v a]) .N (by kernel_rfl) h
def Kk (a:Sl) (b:Value) (R:VR) (F:PH):Prop:=Ci 178 #[Sl.v a,b] F λc F=>R (.bool (decide (0<=c))) F
theorem PB {a:Sl} {b:Value} (h:Kk a b R F):ai prog 139 #[Sl.v a,b] F R:=Rx.sxC (args:=[Sl.v a,b]) .N (by kernel_rfl) h
def Kl (a:Sl) (b:Value) (R:VR) (F:PH):Prop:=Ci 187 #[Sl.v a,b] F λc F=>R (.bool (decide (0<=c))) F
theorem PC {a:Sl} {b:Value} (h:Kl a b R F):ai prog 148 #[Sl.v a,b] F R:=Rx.sxC (args:=[Sl.v a,b]) .N (by kernel_rfl) h
def It (R:VR) (F:PH):Prop:=R (vi (-1:Int)) F
def Iu (j:Ω) (e:Sl) (h:Value) (R:VR) (a:Int) (F:PH):Prop:=Bc (a<(e.len:Int)) (Ix e a λf=>Lr F 13 (Addr.add f (Int.toNat a*13)) λg=>Fn h λi c d=>ai prog i (c++([(Value.agg g)]).toArray++d) F λv F=>∃b,v=(Value.bool b)/\Bb (b) (R (vi a) F) (j (i64.wrap (a+1)) F)) (It R F)
def PD (a:Sl) (b:Value) (R:VR) (F:PH):Prop:=Lp 0 F λN c F=>Iu N a b R c F
theorem PE {a:Sl} {b:Value} (h:PD a b R F):ai prog 178 #[Sl.v a,b] F R:=Rx.sxC (args:=[Sl.v a,b]) (.T .N (.J false [] (.T .N (.L [(8,.int .i64)] .N)) .N)) (by kernel_rfl) h
def Km (a:Sl) (b:Value) (R:VR) (F:PH):Prop:=Ci 201 #[Sl.v a,b] F λc F=>R (.bool (decide (0<=c))) F
theorem PF {a:Sl} {b:Value} (h:Km a b R F):ai prog 180 #[Sl.v a,b] F R:=Rx.sxC (args:=[Sl.v a,b]) .N (by kernel_rfl) h
def Iv (R:VR) (F:PH):Prop:=R (vi (-1:Int)) F
def Iw (j:Ω) (e:Sl) (h:Value) (R:VR) (a:Int) (F:PH):Prop:=Bc (a<(e.len:Int)) (Ix e a λf=>Lr F 2 (Addr.add f (Int.toNat a*2)) λg=>Fn h λi c d=>ai prog i (c++([(Value.agg g)]).toArray++d) F λv F=>∃b,v=(Value.bool b)/\Bb (b) (R (vi a) F) (j (i64.wrap (a+1)) F)) (Iv R F)
def PG (a:Sl) (b:Value) (R:VR) (F:PH):Prop:=Lp 0 F λN c F=>Iw N a b R c F
theorem PI {a:Sl} {b:Value} (h:PG a b R F):ai prog 187 #[Sl.v a,b] F R:=Rx.sxC (args:=[Sl.v a,b]) (.T .N (.J false [] (.T .N (.L [(8,.int .i64)] .N)) .N)) (by kernel_rfl) h
def Iy (R:VR) (F:PH):Prop:=R (vi (-1:Int)) F
def Iz (j:Ω) (e:Sl) (h:Value) (R:VR) (a:Int) (F:PH):Prop:=Bc (a<(e.len:Int)) (Ix e a λf=>Lr F 3 (Addr.add f (Int.toNat a*3)) λg=>Fn h λi c d=>ai prog i (c++([(Value.agg g)]).toArray++d) F λv F=>∃b,v=(Value.bool b)/\Bb (b) (R (vi a) F) (j (i64.wrap (a+1)) F)) (Iy R F)
def PJ (a:Sl) (b:Value) (R:VR) (F:PH):Prop:=Lp 0 F λN c F=>Iz N a b R c F
theorem PK {a:Sl} {b:Value} (h:PJ a b R F):ai prog 201 #[Sl.v a,b] F R:=Rx.sxC (args:=[Sl.v a,b]) (.T .N (.J false [] (.T .N (.L [(8,.int .i64)] .N)) .N)) (by kernel_rfl) h
end Go.Proofs.YtcemhghkipgdiaaGreatDoor
namespace Go.Proofs.YtcemhghkipgdiaaGreatDoor
open Go.IntKind (i64 u8 u64)
open Go Go.Proofs.Tryz Tr
abbrev Fit (n:Nat):Prop:=n<=1000000000000
def dn (b:Br):Ξ:=[vi b.v,vi b.l,vi b.h]
def aY (l:List Br):Ξ:=l.flatMap dn
abbrev aV (b:Br):Γ:= #[vi b.v,vi b.l,vi b.h]
theorem vm (l:List Br):(aY l).length=l.length*3:=by
 induction l with
 |nil=>rfl
 |cons b l ih=>simp only [aY,VC,UV,Vf] at ih ⊢;rw [ih];simp [dn];omega
theorem eP (l m:List Br):aY (l++m)=aY l++aY m:=by simp [aY]
theorem t6:∀(l:List Br) (i:Nat) (hi:i<l.length),((aY l).drop (i*3)).take 3=dn l[i]
 |b::l,0,_=>by simp [aY,dn]
 |b::l,i+1,hi=>by
  have e:(i+1)*3=3+i*3:=by omega
  have:aY (b::l)=dn b++aY l:=by simp [aY]
  rw [this,e,<- List.drop_drop,List.drop_left' (by simp [dn])];simpa using t6 l i (by simpa using hi)
theorem gV (l:List Br):∀v∈aY l,ak v:=by intro v hv;obtain ⟨b,_,hb⟩:=WJ.1 hv;simp only [dn,UT,V2,or_false] at hb;rcases hb with rfl|rfl|rfl<;>exact kG
theorem iA (b:Br):∀v∈(aV b).toList,ak v:=by intro v hv;simp only [UT,V2,or_false] at hv;rcases hv with rfl|rfl|rfl<;>exact kG
theorem RdS.blen {F:PH} {s:Sl} {l:List Br} (h:RdS F s 3 (aY l)):s.len=l.length:=by have:=h.len;rw [vm] at this;omega
theorem rdb {F:PH} {s:Sl} {l:List Br} (h:RdS F s 3 (aY l)) {i:Nat} {x:Br} (hx:l[i]? =some x):∃a,s.base=some a/\F.row (a.add (i*3)) (aV x)/\
  F.cell (a.add (i*3))=some (vi x.v)/\F.cell ((a.add (i*3)).add 1)=some (vi x.l)/\F.cell ((a.add (i*3)).add 2)=some (vi x.h):=by
 obtain ⟨hi,hx⟩:=N6.1 hx;subst hx;have hlen:=h.blen;obtain ⟨b,o,hb,_⟩:=h.cells (by omega)
 have hr:=h.row hb (i*3) (aV l[i]) (by
  have:=t6 l i hi
  simpa [aV,dn] using this.symm)
 refine ⟨_,hb,hr,?_,?_,?_⟩
 ·have:=hr 0 (by simp);simpa using this
 ·have:=hr 1 (by simp);simpa using this
 ·have:=hr 2 (by simp);simpa using this
def DV (F:PH) (v:Γ) (d:Dia):Prop:=∃s:Sl,v= #[s.v,vi d.2]/\RdS F s 3 (aY d.1)
theorem DV.le {F G:PH} {v:Γ} {d:Dia} (h:DV F v d) (hl:F.le G):DV G v d:=by obtain ⟨s,h1,h2⟩:=h;exact ⟨s,h1,h2.le hl⟩
theorem DV.size {F:PH} {v:Γ} {d:Dia} (h:DV F v d):v.size=2:=by obtain ⟨s,rfl,_⟩:=h;rfl
theorem DV.st {F:PH} {v:Γ} {d:Dia} (h:DV F v d):∀x∈v.toList,ak x:=by
 obtain ⟨s,rfl,_⟩:=h;intro x hx;simp only [UT,V2,or_false] at hx;rcases hx with rfl|rfl
 ·exact Et
 ·exact kG
theorem PH.le_rfl {F:PH}:F.le F:=λ_ _ h=>h
theorem gq {S:List Tr} {d:List Br} (hp:brs S<+:d) {k:Nat} {t:Tr} (h:S[k]? =some t):d[k]? =some (br S t):=by obtain ⟨r,rfl⟩:=hp;rw [U9 (by rw [aO];exact (N6.1 h).1)];exact jM h
theorem q0 {n:Nat} (h:Fit n) (h2:2<=n):i64.wrap ((n:Int) - 2)=((n - 2:Nat):Int):=by rw [aS (by omega) (by omega)];omega
section
variable {F:PH} {v:Γ} {d:Dia} {S:List Tr} {t:Tr}
theorem pC (hp:brs S<+:d.1) (ht:inn S t) (hf:Fit (d.1.length+2)):Fit (num S t)/\num S t<=d.1.length+1:=by have h1:=dt ht;have h2:=hp.length_le;rw [aO] at h2;omega
theorem eZ (hd:DV F v d) (hp:brs S<+:d.1) (ht:inn S t) (hf:Fit (d.1.length+2)):
  ai prog 155 #[.agg v,vi (num S t)] F λr F'=>r=vi t.top/\F.le F':=by
 obtain ⟨hfit,hlt⟩:=pC hp ht hf;obtain ⟨s,rfl,hr⟩:=hd;refine O7 ?_;unfold J9;intro b2 hb2;refine atI ?_;have hle:=ae (.cells #[s.v,vi d.2] 31) hb2;refine ⟨λh=> ?_,λh=> ?_⟩
 ·have hl:=pn (S:=S) (t:=t) (by omega);cases t with
  |leaf b=>exact ⟨rfl,hle⟩
  |node _ _ _=>cases hl
 ·cases t with
  |leaf b=>have:=cT S b;omega
  |node w l r=>have hx:=gq hp (ff (cx ht rfl) rfl);obtain ⟨a,h1,_,h2,_⟩:=rdb (hr.le hle) hx;have hw:=q0 hfit (dm (S:=S) (t:=node w l r) rfl);have hg:=dm (S:=S) (t:=node w l r) rfl;refine ⟨s,by simp,a,h1,by rw [hw];omega,by rw [hw,hr.blen];omega,_,by rw [hw];exact h2,rfl,hle⟩
theorem y8 (hd:DV F v d) (hp:brs S<+:d.1) (ht:inn S t) (hf:Fit (d.1.length+2)) {w:Nat} (hw:w<64):
  ai prog 156 #[.agg v,vi (num S t),vi w] F λr F'=>r=.tuple #[vi (num S (lo w t)),vi (num S (hi w t))]/\F.le F':=by
 obtain ⟨hfit,hlt⟩:=pC hp ht hf;have hd':=hd;obtain ⟨s,rfl,hr⟩:=hd;refine O8 ?_;unfold Ka;intro b3 hb3;refine atI ?_;have hle:=ae (.cells #[s.v,vi d.2] 31) hb3;refine ⟨_,rfl,ac (al _ _ _),?_⟩;refine (eZ (hd'.le hle) hp ht hf).mono ?_;rintro _ F2 ⟨rfl,hle2⟩;have hc:F2 b3=some _:=hle2 _ _ (al _ _ _);have hle':F.le F2:=λb o h=>hle2 b o (hle b o h);refine ⟨_,rfl,λh=> ?_,λh=> ?_⟩
 ·refine ⟨?_,hle'⟩;cases t with
  |leaf b=>rfl
  |node w' l r=>have:¬w'=w:=λe=>h (by simp [Tr.top,e]);simp [lo,hi,this]
 ·cases t with
  |leaf b=>simp only [Tr.top] at h;omega
  |node w' l r=>
   have e:w'=w:=by simp only [Tr.top] at h;omega
   subst e;have hx:=gq hp (ff (cx ht rfl) rfl);obtain ⟨a,h1,_,_,h3,h4⟩:=rdb (hr.le hle') hx;have hw:=q0 hfit (dm (S:=S) (t:=node w' l r) rfl);have hg:=dm (S:=S) (t:=node w' l r) rfl
   refine ⟨s,by rw [am hc];rfl,a,h1,by rw [hw];omega,by rw [hw,hr.blen];omega,_,by rw [hw];exact h3,
    s,by rw [am hc];rfl,a,h1,by rw [hw];omega,by rw [hw,hr.blen];omega,_,by rw [hw];exact h4,?_,hle'⟩
   simp [lo,hi,br]
end
end Go.Proofs.YtcemhghkipgdiaaGreatDoor
namespace Go.Proofs.YtcemhghkipgdiaaGreatDoor
open Go.IntKind (i64 u8 u64)
inductive Pat where
 |emp:Pat
 |rng:Nat->Nat->Pat
 |seq:Pat->Pat->Pat
 |alt:Pat->Pat->Pat
 |rep:Pat->Pat
deriving DecidableEq
inductive sQ (P:Δ->Prop):Δ->Prop where
 |nil:sQ P []
 |cons {u v:Δ}:P u->sQ P v->sQ P (u++v)
def Lg:Pat->Δ->Prop
 | .emp,w=>w=[]
 | .rng lo hi,w=>∃b,w=[b]/\lo<=b/\b<=hi
 | .seq x y,w=>∃u v,w=u++v/\Lg x u/\Lg y v
 | .alt x y,w=>Lg x w\/Lg y w
 | .rep x,w=>sQ (Lg x) w
inductive Lt where
 |emp:Lt
 |rng:Nat->Nat->Nat->Lt
 |seq:Lt->Lt->Lt
 |alt:Lt->Lt->Lt
 |rep:Lt->Lt
namespace Lt
def pat:Lt->Pat
 |emp=> .emp
 |rng _ lo hi=> .rng lo hi
 |seq x y=> .seq x.pat y.pat
 |alt x y=> .alt x.pat y.pat
 |rep x=> .rep x.pat
def nul:Lt->Bool
 |emp=>true
 |rng _ _ _=>false
 |seq x y=>x.nul && y.nul
 |alt x y=>x.nul || y.nul
 |rep _=>true
def first:Lt->Nat->Prop
 |emp,_=>False
 |rng i _ _,j=>i=j
 |seq x y,j=>x.first j\/(x.nul=true/\y.first j)
 |alt x y,j=>x.first j\/y.first j
 |rep x,j=>x.first j
def last:Lt->Nat->Prop
 |emp,_=>False
 |rng i _ _,j=>i=j
 |seq x y,j=>y.last j\/(y.nul=true/\x.last j)
 |alt x y,j=>x.last j\/y.last j
 |rep x,j=>x.last j
def fol:Lt->Nat->Nat->Prop
 |emp,_,_=>False
 |rng _ _ _,_,_=>False
 |seq x y,i,j=>x.fol i j\/y.fol i j\/(x.last i/\y.first j)
 |alt x y,i,j=>x.fol i j\/y.fol i j
 |rep x,i,j=>x.fol i j\/(x.last i/\x.first j)
def lab:Lt->Nat->Prop
 |emp,_=>False
 |rng i _ _,j=>i=j
 |seq x y,j=>x.lab j\/y.lab j
 |alt x y,j=>x.lab j\/y.lab j
 |rep x,j=>x.lab j
def fits (acc:Nat->Nat->Prop):Lt->Prop
 |emp=>True
 |rng i lo hi=>∀b,acc i b↔lo<=b/\b<=hi
 |seq x y=>x.fits acc/\y.fits acc/\∀i,x.lab i->¬y.lab i
 |alt x y=>x.fits acc/\y.fits acc/\∀i,x.lab i->¬y.lab i
 |rep x=>x.fits acc
theorem first_lab:∀(t:Lt) {i:Nat},t.first i->t.lab i
 |rng _ _ _,_,h=>h
 |seq x y,_,h=>h.elim (λh=> .inl (x.first_lab h)) λh=> .inr (y.first_lab h.2)
 |alt x y,_,h=>h.elim (λh=> .inl (x.first_lab h)) λh=> .inr (y.first_lab h)
 |rep x,_,h=>x.first_lab h
theorem last_lab:∀(t:Lt) {i:Nat},t.last i->t.lab i
 |rng _ _ _,_,h=>h
 |seq x y,_,h=>h.elim (λh=> .inr (y.last_lab h)) λh=> .inl (x.last_lab h.2)
 |alt x y,_,h=>h.elim (λh=> .inl (x.last_lab h)) λh=> .inr (y.last_lab h)
 |rep x,_,h=>x.last_lab h
theorem fol_lab:∀(t:Lt) {i j:Nat},t.fol i j->t.lab i/\t.lab j
 |seq x y,_,_,h=>by
  rcases h with h|h|⟨h,h'⟩
  ·exact ⟨.inl (x.fol_lab h).1,.inl (x.fol_lab h).2⟩
  ·exact ⟨.inr (y.fol_lab h).1,.inr (y.fol_lab h).2⟩
  ·exact ⟨.inl (x.last_lab h),.inr (y.first_lab h')⟩
 |alt x y,_,_,h=>by
  rcases h with h|h
  ·exact ⟨.inl (x.fol_lab h).1,.inl (x.fol_lab h).2⟩
  ·exact ⟨.inr (y.fol_lab h).1,.inr (y.fol_lab h).2⟩
 |rep x,_,_,h=>by
  rcases h with h|⟨h,h'⟩
  ·exact x.fol_lab h
  ·exact ⟨x.last_lab h,x.first_lab h'⟩
end Lt
def Pth (acc fol:Nat->Nat->Prop) (e:Nat->Prop):Nat->Δ->Prop
 |_,[]=>False
 |i,b::w=>acc i b/\((w=[]/\e i)\/∃j,fol i j/\Pth acc fol e j w)
section
variable {acc fol fol':Nat->Nat->Prop} {e e':Nat->Prop}
theorem Pth.ne {i:Nat} {w:Δ} (h:Pth acc fol e i w):w≠[]:=by rintro rfl;exact h
theorem Pth.mono (hf:∀i j,fol i j->fol' i j) (he:∀i,e i->e' i):∀(w:Δ) (i:Nat),Pth acc fol e i w->Pth acc fol' e' i w
 |[],_,h=>h
 |_::w,_,⟨h,k⟩=>⟨h,k.elim (λk=> .inl ⟨k.1,he _ k.2⟩) λ⟨j,k1,k2⟩=> .inr ⟨j,hf _ _ k1,Pth.mono hf he w j k2⟩⟩
theorem Pth.inside (P:Nat->Prop) (hf:∀i j,P i->fol i j->P j/\fol' i j) (he:∀i,P i->e i->e' i):∀(w:Δ) (i:Nat),P i->Pth acc fol e i w->Pth acc fol' e' i w
 |[],_,_,h=>h
 |_::w,i,hp,⟨h,k⟩=>⟨h,k.elim (λk=> .inl ⟨k.1,he _ hp k.2⟩) λ⟨j,k1,k2⟩=> .inr ⟨j,(hf i j hp k1).2,Pth.inside P hf he w j (hf i j hp k1).1 k2⟩⟩
theorem Pth.link {l g:Nat->Prop}:∀(w:Δ) (i:Nat),Pth acc (λi j=>fol i j\/(l i/\g j)) e i w->
  Pth acc fol e i w\/∃u v j,w=u++v/\Pth acc fol l i u/\g j/\Pth acc (λi j=>fol i j\/(l i/\g j)) e j v
 |[],_,h=>h.elim
 |b::w,i,⟨h,k⟩=>by
  rcases k with ⟨rfl,k⟩|⟨j,k1|⟨k1,k3⟩,k2⟩
  ·exact .inl ⟨h,.inl ⟨rfl,k⟩⟩
  ·rcases Pth.link w j k2 with q|⟨u,v,m,rfl,q1,q2,q3⟩
   ·exact .inl ⟨h,.inr ⟨j,k1,q⟩⟩
   ·exact .inr ⟨b::u,v,m,rfl,⟨h,.inr ⟨j,k1,q1⟩⟩,q2,q3⟩
  ·exact .inr ⟨[b],w,j,rfl,⟨h,.inl ⟨rfl,k1⟩⟩,k3,k2⟩
theorem Pth.append {l g:Nat->Prop} (hf:∀i j,fol i j->fol' i j) (hl:∀i j,l i->g j->fol' i j) {v:Δ} {j:Nat} (hg:g j) (hv:Pth acc fol' e j v):
  ∀(u:Δ) (i:Nat),Pth acc fol l i u->Pth acc fol' e i (u++v)
 |[],_,h=>h.elim
 |b::u,i,⟨h,k⟩=>by
  rcases k with ⟨rfl,k⟩|⟨m,k1,k2⟩
  ·exact ⟨h,.inr ⟨j,hl i j k hg,hv⟩⟩
  ·exact ⟨h,.inr ⟨m,hf _ _ k1,Pth.append hf hl hg hv u m k2⟩⟩
end
namespace Lt
variable {acc:Nat->Nat->Prop}
theorem nul_iff:∀(t:Lt),t.nul=true↔Lg t.pat []
 |emp=>⟨λ_=>rfl,λ_=>rfl⟩
 |rng i lo hi=>⟨λh=>(by cases h),λ⟨b,h,_⟩=>(by cases h)⟩
 |seq x y=>by
  have hx:=nul_iff x;have hy:=nul_iff y;simp only [nul,pat,Lg,VB,hx,hy];constructor
  ·rintro ⟨h1,h2⟩;exact ⟨[],[],rfl,h1,h2⟩
  ·rintro ⟨u,v,h,h1,h2⟩;obtain ⟨rfl,rfl⟩:=List.append_eq_nil_iff.1 h.symm;exact ⟨h1,h2⟩
 |alt x y=>by simp only [nul,pat,Lg,VL,nul_iff x,nul_iff y]
 |rep x=>⟨λ_=>sQ.nil,λ_=>rfl⟩
theorem places:∀(t:Lt),t.fits acc->∀w,w≠[]->(Lg t.pat w↔∃i,t.first i/\Pth acc t.fol t.last i w)
 |emp,_,w,hw=>⟨λh=>absurd h hw,λ⟨i,h,_⟩=>h.elim⟩
 |rng i lo hi,hf,w,hw=>by
  constructor
  ·rintro ⟨b,rfl,h⟩;exact ⟨i,rfl,(hf b).2 h,.inl ⟨rfl,rfl⟩⟩
  ·rintro ⟨j,rfl,h⟩;cases w with
   |nil=>exact h.elim
   |cons b w=>
    obtain ⟨h1,⟨rfl,_⟩|⟨j,h2,_⟩⟩:=h
    ·exact ⟨b,rfl,(hf b).1 h1⟩
    ·exact h2.elim
 |alt x y,⟨fx,fy,hd⟩,w,hw=>by
  have ix:=places x fx w hw;have iy:=places y fy w hw;constructor
  ·rintro (h|h)
   ·obtain ⟨i,h1,h2⟩:=ix.1 h;exact ⟨i,.inl h1,h2.mono (λ_ _ h=> .inl h) (λ_ h=> .inl h) w i⟩
   ·obtain ⟨i,h1,h2⟩:=iy.1 h;exact ⟨i,.inr h1,h2.mono (λ_ _ h=> .inr h) (λ_ h=> .inr h) w i⟩
  ·rintro ⟨i,h1|h1,h2⟩
   ·refine .inl (ix.2 ⟨i,h1,h2.inside x.lab (λi j hp h=> ?_) (λi hp h=> ?_) w i (x.first_lab h1)⟩)
    ·exact h.elim (λh=>⟨(x.fol_lab h).2,h⟩) λh=>absurd (y.fol_lab h).1 (hd i hp)
    ·exact h.elim id λh=>absurd (y.last_lab h) (hd i hp)
   ·refine .inr (iy.2 ⟨i,h1,h2.inside y.lab (λi j hp h=> ?_) (λi hp h=> ?_) w i (y.first_lab h1)⟩)
    ·exact h.elim (λh=>absurd hp (hd i (x.fol_lab h).1)) λh=>⟨(y.fol_lab h).2,h⟩
    ·exact h.elim (λh=>absurd hp (hd i (x.last_lab h))) id
 |seq x y,⟨fx,fy,hd⟩,w,hw=>by
  have ix:=places x fx;have iy:=places y fy
  have inY:∀w i,y.lab i->Pth acc (seq x y).fol (seq x y).last i w->Pth acc y.fol y.last i w:=λw i hi h=>h.inside y.lab (λi j hp h=>by
    rcases h with h|h|⟨h,_⟩
    ·exact absurd hp (hd i (x.fol_lab h).1)
    ·exact ⟨(y.fol_lab h).2,h⟩
    ·exact absurd hp (hd i (x.last_lab h))) (λi hp h=>h.elim id λh=>absurd hp (hd i (x.last_lab h.2))) w i hi
  constructor
  ·rintro ⟨u,v,rfl,hu,hv⟩;by_cases hu0:u=[]
   ·subst hu0;obtain ⟨i,h1,h2⟩:=(iy _ hw).1 hv;exact ⟨i,.inr ⟨(nul_iff x).2 hu,h1⟩,h2.mono (λ_ _ h=> .inr (.inl h)) (λ_ h=> .inl h) _ i⟩
   ·obtain ⟨i,h1,h2⟩:=(ix u hu0).1 hu;refine ⟨i,.inl h1,?_⟩;by_cases hv0:v=[]
    ·subst hv0;rw [Vx];exact h2.mono (λ_ _ h=> .inl h) (λ_ h=> .inr ⟨(nul_iff y).2 hv,h⟩) _ i
    ·obtain ⟨j,h3,h4⟩:=(iy v hv0).1 hv;exact Pth.append (λ_ _ h=> .inl h) (λ_ _ h h'=> .inr (.inr ⟨h,h'⟩)) h3 (h4.mono (λ_ _ h=> .inr (.inl h)) (λ_ h=> .inl h) v j) u i h2
  ·rintro ⟨i,h1,h2⟩;rcases h1 with h1|⟨h0,h1⟩
   ·have k:Pth acc (λi j=>(x.fol i j\/y.fol i j)\/(x.last i/\y.first j)) (seq x y).last i w:=h2.mono (λi j h=>by
     rcases h with h|h|h
     ·exact .inl (.inl h)
     ·exact .inl (.inr h)
     ·exact .inr h) (λ_ h=>h) w i
    have inX:∀{e e':Nat->Prop} w i,(∀i,x.lab i->e i->e' i)->x.lab i->Pth acc (λi j=>x.fol i j\/y.fol i j) e i w->Pth acc x.fol e' i w:=λw i he hi h=>h.inside x.lab (λi j hp h=>
     h.elim (λh=>⟨(x.fol_lab h).2,h⟩) λh=>absurd (y.fol_lab h).1 (hd i hp)) he w i hi
    rcases k.link w i with q|⟨u,v,j,rfl,q1,q2,q3⟩
    ·by_cases hy:y.nul=true
     ·exact ⟨w,[],(Vx w).symm,(ix w hw).2 ⟨i,h1,inX w i (λi hp h=>h.elim (λh=>absurd (y.last_lab h) (hd i hp)) λh=>h.2) (x.first_lab h1) q⟩,(nul_iff y).1 hy⟩
     ·exfalso;have z:=inX (e':=λ_=>False) w i (λi hp h=>h.elim (λh=>absurd (y.last_lab h) (hd i hp)) λh=>hy h.1) (x.first_lab h1) q;have none:∀(w:Δ) (i:Nat),¬Pth acc x.fol (λ_=>False) i w:=by
       intro w;induction w with
       |nil=>exact λ_ h=>h
       |cons b w ih=>
        rintro i ⟨_,⟨_,h⟩|⟨j,_,h⟩⟩
        ·exact h
        ·exact ih j h
      exact none w i z
    ·refine ⟨u,v,rfl,(ix u q1.ne).2 ⟨i,h1,inX u i (λ_ _ h=>h) (x.first_lab h1) q1⟩,(iy v q3.ne).2 ⟨j,q2,inY v j (y.first_lab q2) (q3.mono (λi j h=> ?_) (λ_ h=>h) v j)⟩⟩;rcases h with (h|h)|h
     ·exact .inl h
     ·exact .inr (.inl h)
     ·exact .inr (.inr h)
   ·obtain q:=inY w i (y.first_lab h1) h2;exact ⟨[],w,rfl,(nul_iff x).1 h0,(iy w hw).2 ⟨i,h1,q⟩⟩
 |rep x,fx,w,hw=>by
  have ix:=places x fx;constructor
  ·intro h;change sQ (Lg x.pat) w at h;have key:∀w,sQ (Lg x.pat) w->w≠[]->∃i,x.first i/\Pth acc (rep x).fol x.last i w:=by
    intro w h;induction h with
    |nil=>exact λh=>absurd rfl h
    | @cons u v hu hv ih=>
     intro hn;by_cases hu0:u=[]
     ·subst hu0;exact ih hn
     ·obtain ⟨i,h1,h2⟩:=(ix u hu0).1 hu;refine ⟨i,h1,?_⟩;by_cases hv0:v=[]
      ·subst hv0;rw [Vx];exact h2.mono (λ_ _ h=> .inl h) (λ_ h=>h) _ i
      ·obtain ⟨j,h3,h4⟩:=ih hv0;exact Pth.append (λ_ _ h=> .inl h) (λ_ _ h h'=> .inr ⟨h,h'⟩) h3 h4 u i h2
   exact key w h hw
  ·rintro ⟨i,h1,h2⟩;have key:∀(n:Nat) (w:Δ) (i:Nat),w.length<=n->x.first i->Pth acc (rep x).fol x.last i w->sQ (Lg x.pat) w:=by
    intro n;induction n with
    |zero=>intro w i hn _ h;exact absurd (V1.1 (by omega)) h.ne
    |succ n ih=>
     intro w i hn h1 h2;rcases Pth.link (fol:=x.fol) (l:=x.last) (g:=x.first) w i h2 with q|⟨u,v,j,rfl,q1,q2,q3⟩
     ·have:=sQ.cons ((ix w q.ne).2 ⟨i,h1,q⟩) sQ.nil;rwa [Vx] at this
     ·have hu:0<u.length:=Wl.2 q1.ne;rw [UV] at hn;exact .cons ((ix u q1.ne).2 ⟨i,h1,q1⟩) (ih v j (by omega) q2 q3)
   exact key w.length w i (UW _) h1 h2
end Lt
end Go.Proofs.YtcemhghkipgdiaaGreatDoor
namespace Go.Proofs.YtcemhghkipgdiaaGreatDoor
open Go.IntKind (i64 u8 u64)
section
end
section
end
structure Nd where
 k:Int
 lo:Int
 hi:Int
 a:Int
 b:Int
deriving DecidableEq
namespace Pat
end Pat
namespace Pat
end Pat
end Go.Proofs.YtcemhghkipgdiaaGreatDoor
namespace Go.Proofs.YtcemhghkipgdiaaGreatDoor
open Go.IntKind (i64 u8 u64)
open Go Go.Proofs.Tryz
set_option maxRecDepth 10000
abbrev pa (b:Nat):Value:=.pointer (some ⟨b,0,none⟩)
abbrev Nd.arr (x:Nd):Γ:= #[vi x.k,vi x.lo,vi x.hi,vi x.a,vi x.b]
def Nd.cells (x:Nd):Ξ:=[vi x.k,vi x.lo,vi x.hi,vi x.a,vi x.b]
def ft (l:List Nd):Ξ:=l.flatMap Nd.cells
theorem iB (l:List Nd):(ft l).length=l.length*5:=by
 induction l with
 |nil=>rfl
 |cons b l ih=>simp only [ft,VC,UV,Vf] at ih ⊢;rw [ih];simp [Nd.cells];omega
theorem t7:∀(l:List Nd) (i:Nat) (hi:i<l.length),((ft l).drop (i*5)).take 5=l[i].cells
 |b::l,0,_=>by simp [ft,Nd.cells]
 |b::l,i+1,hi=>by
  have e:(i+1)*5=5+i*5:=by omega
  have:ft (b::l)=b.cells++ft l:=by simp [ft]
  rw [this,e,<- List.drop_drop,List.drop_left' (by simp [Nd.cells])];simpa using t7 l i (by simpa using hi)
theorem jP (b:Nd):∀v∈b.arr.toList,ak v:=by intro v hv;simp only [UT,V2,or_false] at hv;rcases hv with rfl|rfl|rfl|rfl|rfl<;>exact kG
theorem RdS.nlen {F:PH} {s:Sl} {l:List Nd} (h:RdS F s 5 (ft l)):s.len=l.length:=by have:=h.len;rw [iB] at this;omega
def cb (st:ByteArray) (i:Nat):Nat:=if h:i<st.size then (st[i]'h).toNat else 0
theorem PL {st:ByteArray} {i:Nat} (h:i<st.size):cb st i=(st[i]'h).toNat:=dif_pos h
theorem IA (st:ByteArray) (i:Nat):cb st i<256:=by
 unfold cb;split
 ·exact UInt8.toNat_lt _
 ·omega
section
end
section
end
section
variable {F0 F:PH} {b i:Nat} {st:ByteArray} {out:List Nd} {w:Bool}
theorem ME {st:ByteArray} {x:Int} {i:Nat} (hx:x=i) (h:i<st.size) (hl:Int.toNat x<st.size):((st[Int.toNat x]'hl).toNat:Int)=(cb st i:Int):=by subst hx;rw [PL h];rfl
end
def bs (s:ByteArray):Δ:=s.data.toList.map UInt8.toNat
theorem fU (s:ByteArray):(bs s).length=s.size:=by simp [bs]
theorem y9 {s t:ByteArray} (h:bs s=bs t):s=t:=by unfold bs at h;have:s.data.toList=t.data.toList:=List.map_inj_right (λa b e=>UInt8.toNat_inj.1 e) |>.1 h;cases s;cases t;congr;exact Array.toList_inj.1 this
theorem Kn (s:ByteArray) (i:Nat):cb s i=(bs s).getD i 0:=by
 unfold cb bs;by_cases h:i<s.size
 ·rw [dif_pos h];have h':i<s.data.toList.length:=by simpa using h
  rw [Vr,U5,N5 h'];rfl
 ·rw [dif_neg h,Vr,U5,VX (by simpa using h)];rfl
theorem IB (s:ByteArray):∀(n i:Nat) (r:List UInt8),s.size - i=n->ByteArray.toList.loop s i r=r.reverse++s.data.toList.drop i:=by
 intro n;induction n with
 |zero=>intro i r h;unfold ByteArray.toList.loop;rw [if_neg (by omega),List.drop_eq_nil_of_le (by simp at h ⊢;omega),Vx]
 |succ n ih=>
  intro i r h;have hi:i<s.size:=by omega
  have hi':i<s.data.toList.length:=by simpa using hi
  unfold ByteArray.toList.loop;rw [if_pos hi,ih (i+1) _ (by omega),List.drop_eq_getElem_cons hi',List.reverse_cons,Vo];congr 1;rw [List.singleton_append];congr 1;simp [ByteArray.get!,getElem!_pos,hi]
theorem xF (s:ByteArray):s.toList=s.data.toList:=by unfold ByteArray.toList;rw [IB s _ 0 [] rfl];rfl
theorem t8 (s:ByteArray):s.toList.map UInt8.toNat=bs s:=by rw [xF];rfl
theorem Fd (s t:ByteArray):(s.toList==t.toList)=decide (bs s=bs t):=by
 rw [U3,decide_eq_true_eq,beq_iff_eq];constructor
 ·intro h;rw [<- t8,<- t8,h]
 ·intro h;rw [y9 h]
section
end
variable {R:VR} {F:PH}
set_option maxRecDepth 10000
set_option maxHeartbeats 4000000
def Ko (a:Int) (R:VR) (F:PH):Prop:=Bc (a=0) (R (vi 64) F) (0<=(Int.fdiv (u64.wrap ((u64.wrap ((BitVec.ofInt (u64).bits a &&& BitVec.ofInt (u64).bits (u64.wrap (0 - a))).toNat))*285870213051353865)) (2 ^ (min (Int.toNat 58) (u64).bits)))/\(Int.fdiv (u64.wrap ((u64.wrap ((BitVec.ofInt (u64).bits a &&& BitVec.ofInt (u64).bits (u64.wrap (0 - a))).toNat))*285870213051353865)) (2 ^ (min (Int.toNat 58) (u64).bits)))<64/\∃b,F.cell (Addr.add (Addr.mk 0 0 none) (Int.toNat (Int.fdiv (u64.wrap ((u64.wrap ((BitVec.ofInt (u64).bits a &&& BitVec.ofInt (u64).bits (u64.wrap (0 - a))).toNat))*285870213051353865)) (2 ^ (min (Int.toNat 58) (u64).bits)))*1))=some (.int .u8 b)/\R (vi (i64.wrap b)) F)
theorem PM {a:Int} (h:Ko a R F):ai prog 215 #[.int .u64 a] F R:=Rx.sxC (args:=[.int .u64 a]) .N (by kernel_rfl) h
end Go.Proofs.YtcemhghkipgdiaaGreatDoor
