/-
  The reference's tests of grammars: tokens, productions.
-/
import Derived.Test.YtcemhghkipgdiaaGreatDoorAw
set_option maxRecDepth 10000
open Option renaming some->ZO,none->ZR
open Go.Obj renaming cells->ZP
open Bool renaming false->ZQ,true->ZT
open Go.Value renaming agg->ZU,bool->ZV,pointer->ZZ,int->Z0,string->Z1,tuple->Z2,slice->Z7
open Go.Addr renaming add->ZW,mk->ZX
open Int renaming toNat->ZY,tmod->Z5
open Array renaming setIfInBounds->Z6
noncomputable section
namespace Go.Proofs.YtcemhghkipgdiaaGreatDoor
open Go.IntKind (i64 u8 u64)
open Sl renaming v->ZS,nil->Z3,mk->Z4
open Go Go.Proofs.Tryz Tr
section
section
variable {k:Nat} {l:List Pr} {P:Nat->Tr} {N:Int->Tr}
def oq (N:Int->Tr) (Pi:Tr) (r:List Sy) (j:Nat):Tr:=if (r.eraseIdx j).any (·.t)=ZT then ZL ZQ else dL N Pi (r.eraseIdx j)
def tF (N:Int->Tr) (Pi:Tr) (x:Pr):Nat->List Sy->(Int×Int->Tr)->Int×Int->Tr
 |_,[],S=>S
 |j,s::r,S=>tF N Pi x (j+1) r (if s.t=ZT then S else bx S (x.left,s.i) (oq N Pi x.right j))
def t6 (N:Int->Tr) (P:Nat->Tr):Nat->List Pr->(Int×Int->Tr)->Int×Int->Tr
 |_,[],S=>S
 |i,x::l,S=>t6 N P (i+1) l (tF N (P i) x 0 x.right S)
theorem iX (hN:Sxs k N) {Pi:Tr} (hP:Sx k Pi) (r:List Sy) (j:Nat):Sx k (oq N Pi r j)/\∀c,(oq N Pi r j).ev c=ZT↔Pi.ev c=ZT/\∀m y,m≠j->r[m]? =ZO y->y.t=ZQ/\(N y.i).ev c=ZT:=by
 obtain ⟨h1,h2⟩:=bC hN (r.eraseIdx j) hP;unfold oq;by_cases ht:(r.eraseIdx j).any (·.t)=ZT
 ·rw [Χ ht];refine ⟨Sx.ZL k ZQ,λc=>⟨λh=>(by cases h),λh=> ?_⟩⟩;rw [YO] at ht;obtain ⟨y,hy,hyt⟩:=ht;obtain ⟨m,hm,hmy⟩:=List.mem_eraseIdx_iff_getElem?.1 hy;have:=(h.2 m y hm hmy).1;rw [hyt] at this;cases this
 ·rw [Υ ht];refine ⟨h1,λc=> ?_⟩;rw [h2,X7,Ym];refine and_congr_right λ_=>⟨λh m y hm hmy=> ?_,λh y hy=> ?_⟩
  ·have hy:y∈r.eraseIdx j:=List.mem_eraseIdx_iff_getElem?.2 ⟨m,hm,hmy⟩;have hyt:y.t=ZQ:=by
    cases e:y.t with
    |false=>rfl
    |true=>exact absurd (YO.2 ⟨y,hy,e⟩) ht
   have:=h y hy;rw [hyt,Zy] at this;exact ⟨hyt,this⟩
  ·obtain ⟨m,hm,hmy⟩:=List.mem_eraseIdx_iff_getElem?.1 hy;rw [(h m y hm hmy).2,Bool.or_true]
theorem lr (hN:Sxs k N) {Pi:Tr} (hP:Sx k Pi) (x:Pr):∀(r:List Sy) (j:Nat) {S:Int×Int->Tr},Sxs k S->Sxs k (tF N Pi x j r S)/\
  ∀n c,(tF N Pi x j r S n).ev c=ZT↔(S n).ev c=ZT\/∃m s,r[m]? =ZO s/\s.t=ZQ/\n=(x.left,s.i)/\(oq N Pi x.right (j+m)).ev c=ZT
 |[],j,S,hS=>⟨hS,λn c=>⟨.inl,λh=>h.resolve_right λ⟨m,s,h,_⟩=>(by simp at h)⟩⟩
 |s::r,j,S,hS=>by
  have hd:=(iX hN hP x.right j).1;unfold tF;have shift:∀(n:Int×Int) (c:Cf),(∃m y,(s::r)[m]? =ZO y/\y.t=ZQ/\n=(x.left,y.i)/\(oq N Pi x.right (j+m)).ev c=ZT)↔(s.t=ZQ/\n=(x.left,s.i)/\(oq N Pi x.right j).ev c=ZT)\/∃m y,r[m]? =ZO y/\y.t=ZQ/\n=(x.left,y.i)/\(oq N Pi x.right (j+1+m)).ev c=ZT:=λn c=>by
   constructor
   ·rintro ⟨m,y,h1,h2,h3,h4⟩;cases m with
    |zero=>cases h1;exact .inl ⟨h2,h3,h4⟩
    |succ m=>exact .inr ⟨m,y,by simpa using h1,h2,h3,by rw [show j+1+m=j+(m+1) by omega];exact h4⟩
   ·rintro (⟨h2,h3,h4⟩|⟨m,y,h1,h2,h3,h4⟩)
    ·exact ⟨0,s,rfl,h2,h3,h4⟩
    ·exact ⟨m+1,y,by simpa using h1,h2,h3,by rw [show j+(m+1)=j+1+m by omega];exact h4⟩
  by_cases hs:s.t=ZT
  ·rw [Χ hs];obtain ⟨h1,h2⟩:=lr hN hP x r (j+1) hS;refine ⟨h1,λn c=> ?_⟩;rw [h2,shift];refine or_congr_right ⟨.inr,λh=>h.resolve_left λ⟨h,_⟩=>(by rw [hs] at h;cases h)⟩
  ·rw [Υ hs];obtain ⟨h1,h2⟩:=lr hN hP x r (j+1) (cC hS hd (n:=(x.left,s.i)));refine ⟨h1,λn c=> ?_⟩;rw [h2,shift,cR hS hd,YF,X7,δ,or_assoc];refine or_congr_right (or_congr_left ⟨λh=>⟨YK.2 hs,h⟩,λh=>h.2⟩)
theorem tG (hN:Sxs k N) (hP:∀i,Sx k (P i)):∀(l:List Pr) (i:Nat) {S:Int×Int->Tr},Sxs k S->Sxs k (t6 N P i l S)/\
  ∀n c,(t6 N P i l S n).ev c=ZT↔(S n).ev c=ZT\/∃(m:Nat) (x:Pr) (j:Nat) (s:Sy),l[m]? =ZO x/\x.right[j]? =ZO s/\s.t=ZQ/\n=(x.left,s.i)/\(oq N (P (i+m)) x.right j).ev c=ZT
 |[],i,S,hS=>⟨hS,λn c=>⟨.inl,λh=>h.resolve_right λ⟨m,x,j,s,h,_⟩=>(by simp at h)⟩⟩
 |x::l,i,S,hS=>by
  obtain ⟨g1,g2⟩:=lr hN (hP i) x x.right 0 hS;unfold t6;obtain ⟨h1,h2⟩:=tG hN hP l (i+1) g1;refine ⟨h1,λn c=> ?_⟩;rw [h2,g2,or_assoc];refine or_congr_right ?_;constructor
  ·rintro (⟨j,s,a,b,d,e⟩|⟨m,y,j,s,a,b,d,e,f⟩)
   ·exact ⟨0,x,j,s,rfl,a,b,d,by rw [X5] at e;exact e⟩
   ·exact ⟨m+1,y,j,s,by simpa using a,b,d,e,by rw [show i+(m+1)=i+1+m by omega];exact f⟩
  ·rintro ⟨m,y,j,s,a,b,d,e,f⟩;cases m with
   |zero=>cases a;exact .inl ⟨j,s,b,d,e,by rw [X5];exact f⟩
   |succ m=>exact .inr ⟨m,y,j,s,by simpa using a,b,d,e,by rw [show i+1+m=i+(m+1) by omega];exact f⟩
structure ze (k:Nat) (l:List Pr) (P:Nat->Tr) (S:Int×Int->Tr):Prop where
 sx:Sxs k S
 iff:∀n c,(S n).ev c=ZT↔Stp l P c n.1 n.2
theorem LX (hN:bZ k l P ZT N) (hP:∀i,Sx k (P i)):ze k l P (t6 N P 0 l λ_=>ZL ZQ):=by
 obtain ⟨h1,h2⟩:=tG hN.sx hP l 0 (S:=λ_=>ZL ZQ) λ_=>Sx.ZL k ZQ;refine ⟨h1,λn c=>(h2 n c).trans ?_⟩;constructor
 ·rintro (h|⟨m,x,j,s,a,b,d,e,f⟩)
  ·cases h
  ·rw [X5] at f;obtain ⟨f1,f2⟩:=((iX hN.sx (hP m) x.right j).2 c).1 f;rw [e];exact ⟨m,j,x,s,a,b,d,rfl,rfl,f1,λq y hq hy=>(f2 q y hq hy).imp id (hN.iff _ _).1⟩
 ·rintro ⟨i,j,x,s,a,b,d,e,f,g,h⟩;refine .inr ⟨i,x,j,s,a,b,d,Prod.ext e.symm f.symm,?_⟩;rw [X5];exact ((iX hN.sx (hP i) x.right j).2 c).2 ⟨g,λq y hq hy=>(h q y hq hy).imp id (hN.iff _ _).2⟩
def jf (l:List Pr):List (Int×Int):=l.flatMap λx=>x.right.map λs=>(x.left,s.i)
theorem Fm {l:List Pr} (h:∀x∈l,x.right.length<=16):(jf l).length<=l.length*16:=by
 induction l with
 |nil=>exact XS _
 |cons x l ih=>have h1:=h x (by simp);have h2:=ih λy hy=>h y (X8 _ hy);unfold jf at*;rw [YC,XT,XW,X4];omega
variable {T:Int×Int->Tr} {fam:Tr} {n:Int}
structure Bfs (k:Nat) (l:List Pr) (P:Nat->Tr) (T:Int×Int->Tr) (fam:Tr) (n:Int) (R:Int->Tr) (q:Φ):Prop where
 sx:Sxs k R
 snd:∀m c,(R m).ev c=ZT->Tg (Stp l P c) n m
 ZK:∀m c,fam.ev c=ZT->(T (n,m)).ev c=ZT->(R m).ev c=ZT
 clos:∀m,m≠n->m ∉ q->∀m' c,(R m).ev c=ZT->(T (m,m')).ev c=ZT->(R m').ev c=ZT
structure Vis (k:Nat) (keys:Φ) (T:Int×Int->Tr) (a:Int) (d:Tr) (R R':Int->Tr) (ps:Φ):Prop where
 sx:Sxs k R'
 le:Lt' R R'
 snd:∀m c,(R' m).ev c=ZT->(R m).ev c=ZT\/(d.ev c=ZT/\(T (a,m)).ev c=ZT)
 cpl:∀m c,d.ev c=ZT->(T (a,m)).ev c=ZT->(R' m).ev c=ZT
 pu:∀m,R' m≠R m->m∈ps
 mu:mu k keys R'+ps.length<=mu k keys R
theorem Bfs.start (hT:ze k l P T) {R:Int->Tr} {ps keys:Φ} (hv:Vis k keys T n fam (λ_=>ZL ZQ) R ps):Bfs k l P T fam n R ps:=by
 refine ⟨hv.sx,λm c hc=> ?_,hv.cpl,λm _ hm m' c hc _=> ?_⟩
 ·rcases hv.snd m c hc with h|⟨_,h⟩
  ·cases h
  ·exact .one ((hT.iff _ _).1 h)
 ·have:R m=ZL ZQ:=Classical.not_not.1 λe=>hm (hv.pu m e);rw [this] at hc;cases hc
theorem Bfs.visit (hT:ze k l P T) {R R':Int->Tr} {m:Int} {q ps keys:Φ} (h:Bfs k l P T fam n R (m::q)) (hv:Vis k keys T m (R m) R R' ps):Bfs k l P T fam n R' (q++ps):=by
 refine ⟨hv.sx,λm' c hc=> ?_,λm' c hf ht=>hv.le _ _ (h.ZK m' c hf ht),λa ha hq m' c hc ht=> ?_⟩
 ·rcases hv.snd m' c hc with h'|⟨h1,h2⟩
  ·exact h.snd m' c h'
  ·exact .snoc (h.snd m c h1) ((hT.iff _ _).1 h2)
 ·have hq1:a ∉ q:=λe=>hq (XR.2 (.inl e));have e:R' a=R a:=Classical.not_not.1 λe=>hq (XR.2 (.inr (hv.pu a e)));rw [e] at hc;by_cases ea:a=m
  ·rw [ea] at hc ht;exact hv.cpl m' c hc ht
  ·exact hv.le _ _ (h.clos a ha (λhm=>(XP.1 hm).elim ea hq1) m' c hc ht)
theorem Bfs.skip {R:Int->Tr} {q:Φ} (h:Bfs k l P T fam n R (n::q)):Bfs k l P T fam n R q:=
 ⟨h.sx,h.snd,h.ZK,λm hm hq=>h.clos m hm λe=>(XP.1 e).elim hm hq⟩
theorem Bfs.fin (hT:ze k l P T) (hf:∀a b c,Stp l P c a b->fam.ev c=ZT) {R:Int->Tr} (h:Bfs k l P T fam n R []) (c:Cf):(R n).ev c=ZT↔Tg (Stp l P c) n n:=by
 refine ⟨h.snd n c,λt=> ?_⟩;have key:∀{m:Int},Tg (Stp l P c) n m->(R m).ev c=ZT:=λ{m} t=>by
  induction t with
  |one h1=>exact h.ZK _ c (hf _ _ _ h1) ((hT.iff (n,_) c).2 h1)
  | @snoc b d _ h1 ih=>
   by_cases e:b=n
   ·rw [e] at h1;exact h.ZK _ c (hf _ _ _ h1) ((hT.iff (n,d) c).2 h1)
   ·exact h.clos b e (by simp) d c ih ((hT.iff (b,d) c).2 h1)
 exact key t
end
section
variable {g:Gr} {k:Nat}
theorem OkK.fam_of (h:OkK g k) {i:Nat} {c:Cf} (hp:(aF g i).ev c=ZT):(tre g.fam).ev c=ZT:=by
 cases hx:g.ZG[i]? with
 |none=>
  have:aF g i=ZL ZQ:=by unfold aF;rw [hx]
  rw [this] at hp;cases hp
 |some x=>rw [h.prs_ev hx,X7,X7] at hp;exact hp.1.1
theorem OkK.stp_fam (h:OkK g k) {c:Cf} {a b:Int} (s:Stp g.ZG (aF g) c a b):(tre g.fam).ev c=ZT:=by obtain ⟨i,_,_,_,_,_,_,_,_,hp,_⟩:=s;exact h.fam_of hp
end
def que (e:TypeId) (s:Sl) (vs:Ξ):Ψ:=λH=>∃b o cur,s.ZK=ZO ⟨b,o,ZR⟩/\H b=ZO (ZP cur e (0,0))/\o+s.cap<=cur.size/\s.len<=s.cap/\vs.length=s.len/\(cur.toList.drop o).take s.len=vs
section
variable {G F H:PH} {As:List (Ψ)} {e:TypeId} {s:Sl} {vs:Ξ}
theorem Qo (h:que e s vs H):RdS H s 1 vs:=by obtain ⟨b,o,cur,h1,h2,h3,h4,h5,h6⟩:=h;refine ⟨by omega,h4,λ_=>⟨b,o,h1,λi hi=> ?_⟩⟩;rw [av h2];have:=congrArg (λl=>l[i]?) h6;simp only [Yp (show i<s.len by omega),Zn,Y5] at this;rw [this,N6 hi]
theorem LY {v:ξ} (h:que e s (v::vs) H):que e (Sl.cut s 1 1 s.len s.cap) vs H:=by
 obtain ⟨b,o,cur,h1,h2,h3,h4,h5,h6⟩:=h;rw [X4] at h5;by_cases hc:s.cap=1
 ·have hvs:vs=[]:=X9 (by omega);refine ⟨b,o,cur,by unfold Sl.cut;rw [if_pos hc];exact h1,h2,by unfold Sl.cut;dsimp only;omega,by unfold Sl.cut;dsimp only;omega,by unfold Sl.cut;dsimp only;omega,?_⟩;unfold Sl.cut;dsimp only;rw [hvs,show s.len - 1=0 by omega,YJ]
 ·refine ⟨b,o+1,cur,?_,h2,by unfold Sl.cut;dsimp only;omega,by unfold Sl.cut;dsimp only;omega,by unfold Sl.cut;dsimp only;omega,?_⟩
  ·unfold Sl.cut;rw [Υ hc,h1];rfl
  ·unfold Sl.cut;dsimp only;have:=congrArg (λl=>l.drop 1) h6;simp only [List.drop_take,List.drop_drop,ZA,Yw] at this;exact this
theorem Fo {b:Nat} (h:H b=ZO (ZP #[] e)):que e (Z4 (ZO (ZX b 0 ZR)) 0 0) [] H:=⟨b,0,#[],rfl,h,by simp,XS _,rfl,by simp⟩
theorem St.queAt (h:St G F As) {i:Nat} (hi:As[i]? =ZO (que e s vs)):RdS F s 1 vs:=by obtain ⟨H,h1,_,h3⟩:=h.get hi;exact (Qo h1).le h3
theorem St.quePush {t bytes:Nat} {z:ξ} (T:SlT t e 1 bytes z) {x:Sl} {v:ξ} {ty:TypeId} (h:St G F As) (i:Nat) (hi:As[i]? =ZO (que e s vs)) (hx:RdS F x 1 [v]) (hst:am v) (hlen:s.len<=400000000000) {K:Sl->Ψ}
  (k:∀s' F',St G F' (As.set i (que e s' (vs++[v])))->s'.len=s.len+1->K s' F'):aH prog (Builtin.append_ #[t,t] ty #[s.v,x.v]) F λr F=>∃s':Sl,r=ZS s'/\K s' F:=by
 have hxl:x.len=1:=by have:=hx.len;rw [X3] at this;omega
 have hq:=h.queAt hi;have hql:=hq.len;have put:∀{s':Sl} {b:Nat} {ob:Obj},que e s' (vs++[v]) (F.set b ob)->s'.len=s.len+1->(∀a,s'.ZK=ZO a->a.block=b)->((∃a,s.ZK=ZO a/\a.block=b)\/F b=ZR)->K s' (F.set b ob):=λ{s' b ob} hq' hl' hbase hb=>by
  obtain ⟨H,a1,a2,a3,a4⟩:=h.set (A':=que e s' (vs++[v])) hi;have hb':H b≠ZR\/F b=ZR:=by
   rcases hb with ⟨a,ha,rfl⟩|hb
   ·obtain ⟨b0,o0,c0,e1,e2,_⟩:=a1;rw [e1] at ha;cases ha;exact .inl (by rw [e2];simp)
   ·exact .inr hb
  refine k s' _ (a4 (PH.set (λ_=>ZR) b ob) _ ?_ (λx hx=> ?_) (λx p hx=> ?_) (λx p hx hn=> ?_)) hl'
  ·obtain ⟨b1,o1,c1,e1,e2,e3⟩:=hq';have:b1=b:=hbase _ e1;subst this;rw [au] at e2;exact ⟨b1,o1,c1,e1,by rw [au];exact e2,e3⟩
  ·by_cases e':x=b
   ·rw [e'];exact hb'
   ·rw [aB _ _ e'] at hx;exact absurd rfl hx
  ·by_cases e':x=b
   ·rw [e',au] at hx ⊢;exact hx
   ·rw [aB _ _ e'] at hx;cases hx
  ·have e':x≠b:=λe'=>by
    subst e';rcases hb' with h|h
    ·exact h hn
    ·rw [h] at hx;cases hx
   rw [aB _ _ e'];exact hx
 refine jK T.ht T.hsz T.hz T.hzs hq hx (λw hw=>by rw [XO.1 hw];exact hst) (GH T.hb (by omega)) (by omega) (λh0 _=>by omega) (λ_ hroom=> ?_) (λhgt cap b hc hb=> ?_)
 ·obtain ⟨H,a1,_,a3⟩:=h.get hi;obtain ⟨b,o,cur,h1,h2,h3,h4,h5,h6⟩:=a1;have hcl:cur.toList.length=cur.size:=XU;refine ⟨b,o,cur,e,h1,a3 _ _ h2,by omega,_,rfl,put ⟨b,o,_,h1,au _ _ _,by rw [ee];exact h3,hroom,by rw [XT,X3,h5,hxl],?_⟩ (by rw [hxl]) (λa ha=>by rw [h1] at ha;cases ha;rfl) (.inl ⟨_,h1,rfl⟩)⟩;have hw:=dR [v] cur.toList (o+s.len*1) (by rw [X3];omega);rw [show cur.toList.toArray=cur by simp] at hw;rw [hw];dsimp only;rw [hxl,Yj];have e1:(List.take (o+s.len) cur.toList).drop o=vs:=by rw [<- h6,List.drop_take,Zf]
  rw [Yk,List.drop_append_of_le_length (by rw [XX];omega),e1];rw [<- Yk,Yb (by rw [XT,X3];omega),XY (by rw [XT,X3];omega)]
 ·refine ⟨_,rfl,put ⟨b,0,_,rfl,au _ _ _,?_,hc,by rw [XT,X3];show vs.length+1=s.len+x.len;omega,?_⟩ (by rw [hxl]) (λa ha=>by cases ha;rfl) (.inr hb)⟩
  ·simp [Builtin.zeroCells,T.hzs];omega
  ·simp only [List.append_toArray,Array.toList_append,Yw,hxl];rw [Yb (by rw [XT,X3];omega),XY (by rw [XT,X3];omega)]
end
theorem Qp:∃b z,SlT 67 3 1 b z:=⟨_,_,underlying67,sz3,zr3,rfl,by decide,by decide⟩
theorem Xo:bP prog 67=ZO (ZS Z3):=by kernel_rfl
theorem Qq:gn prog 164 aJ (ZS Z3):=⟨_,_,underlying164,Xo,Kj⟩
section
variable {G F:PH} {As:List (Ψ)} {k b14 b18 b4 b19 mn mr mt:Nat} {nx:Int->Φ} {T:Int×Int->Tr}
structure CyE (G:PH) (b14 mn b4 mt:Nat) (nx:Int->Φ) (T:Int×Int->Tr):Prop where
 q14:G b14=ZO (ZP #[.map (ZO mn)] 164)
 q4:G b4=ZO (ZP #[.map (ZO mt)] 113)
 nx:∃o mp,G mn=ZO o/\eM aJ mp o/\∀a,(mp a=ZR/\nx a=[])\/∃s,mp a=ZO (ZS s)/\RL G s (nx a)
 st:∃o mp,G mt=ZO o/\eM bV mp o/\jp G T mp
theorem CyE.le {G':PH} (h:CyE G b14 mn b4 mt nx T) (l:G.le G'):CyE G' b14 mn b4 mt nx T:=by obtain ⟨h1,h2,⟨o,mp,h3,h4,h5⟩,⟨o',mp',h6,h7,h8⟩⟩:=h;refine ⟨l _ _ h1,l _ _ h2,⟨o,mp,l _ _ h3,h4,λa=>(h5 a).imp id λ⟨s,a,b⟩=>⟨s,a,b.le l⟩⟩,⟨o',mp',l _ _ h6,h7,h8.le l⟩⟩
theorem CyE.look (h:CyE G b14 mn b4 mt nx T) (l:G.le F) (a:Int):∃s,rdo prog (Instr.lookup 164 (.map (ZO mn)) (vi a) ZQ) F (ZS s)/\RL G s (nx a):=by
 obtain ⟨o,mp,h3,h4,h5⟩:=h.nx;have hl:=bL (F:=F) Qq (l _ _ h3) h4 a ZQ;rcases h5 a with ⟨e1,e2⟩|⟨s,e1,e2⟩
 ·rw [e1] at hl;exact ⟨Z3,hl,by rw [e2];exact RL.nil G⟩
 ·rw [e1] at hl;exact ⟨s,hl,e2⟩
theorem CyE.step (h:CyE G b14 mn b4 mt nx T) (l:G.le F) (n:Int×Int):∃w,rdo prog (Instr.lookup 113 (.map (ZO mt)) (ZU (wG n)) ZQ) F (ZU w)/\(DV G w (dia (T n))):=by
 obtain ⟨o,mp,h3,h4,h5⟩:=h.st;have hl:=bL (F:=F) FW (l _ _ h3) h4 n ZQ;rcases h5 n with ⟨e1,e2⟩|⟨w,e1,e2⟩
 ·rw [e1] at hl;exact ⟨zD,hl,by rw [e2];exact DV.mk (s:=Z3) (d:=dia (ZL ZQ)) (RL.nil G)⟩
 ·rw [e1] at hl;exact ⟨w,hl,e2⟩
structure IW (k:Nat) (keys:Φ) (T:Int×Int->Tr) (a:Int) (d:Tr) (l:Φ) (R R':Int->Tr) (ps:Φ):Prop where
 sx:Sxs k R'
 le:Lt' R R'
 snd:∀m c,(R' m).ev c=ZT->(R m).ev c=ZT\/(d.ev c=ZT/\(T (a,m)).ev c=ZT)
 cpl:∀m∈l,∀c,d.ev c=ZT->(T (a,m)).ev c=ZT->(R' m).ev c=ZT
 pu:∀m,R' m≠R m->m∈ps
 mu:mu k keys R'+ps.length<=mu k keys R
theorem IW.add {keys:Φ} {a:Int} {d:Tr} {l:Φ} {R R':Int->Tr} {ps:Φ} (h:IW k keys T a d l R R' ps) (hT:Sxs k T) (hd:Sx k d) {m:Int} (hm:m∈keys):
  (bx R' m (ap2 aY d (T (a,m)))≠R'->IW k keys T a d (l++[m]) R (bx R' m (ap2 aY d (T (a,m)))) (ps++[m]))/\(bx R' m (ap2 aY d (T (a,m)))=R'->IW k keys T a d (l++[m]) R R' ps):=by
 have hx:Sx k (ap2 aY d (T (a,m))):=hd.ap2 (o:=aY) (hT _);have ex:∀c,(ap2 aY d (T (a,m))).ev c=(d.ev c && (T (a,m)).ev c):=(bq hd.1 (hT _).1).2;have key:∀i c,(bx R' m (ap2 aY d (T (a,m))) i).ev c=ZT↔(R' i).ev c=ZT\/(i=m/\d.ev c=ZT/\(T (a,m)).ev c=ZT):=λi c=>by rw [cR h.sx hx,ex,YF,X7,X7,δ]
 have cp:∀i∈l++[m],∀c,d.ev c=ZT->(T (a,i)).ev c=ZT->(bx R' m (ap2 aY d (T (a,m))) i).ev c=ZT:=λi hi c h1 h2=>by
  rcases XR.1 hi with hi|hi
  ·exact (key i c).2 (.inl (h.cpl i hi c h1 h2))
  ·have:=XO.1 hi;subst this;exact (key i c).2 (.inr ⟨rfl,h1,h2⟩)
 have hsx:=cC h.sx hx (n:=m);constructor
 ·intro hne;refine ⟨hsx,h.le.trans (dK h.sx hx),λi c hc=> ?_,cp,λi hi=> ?_,?_⟩
  ·rcases (key i c).1 hc with hc|⟨rfl,h1,h2⟩
   ·exact h.snd i c hc
   ·exact .inr ⟨h1,h2⟩
  ·by_cases e:i=m
   ·rw [e];simp
   ·have:bx R' m (ap2 aY d (T (a,m))) i=R' i:=by unfold bx cQ;rw [Υ e]
    rw [this] at hi;exact XR.2 (.inl (h.pu i hi))
  ·have h1:=(xJ h.sx hsx (dK h.sx hx) keys).2 m hm λe=>hne (by
    funext i;by_cases ei:i=m
    ·rw [ei];exact e.symm
    ·unfold bx cQ;rw [Υ ei])
   have:=h.mu;rw [XT,X3];omega
 ·intro he;rw [he] at cp;exact ⟨h.sx,h.le,h.snd,cp,h.pu,h.mu⟩
theorem o8 {n:Int} {d:Tr} {w:Γ} {R:Int->Tr} {qs:Sl} {q keys:Φ} (hk:k<=6) (E:CyE G b14 mn b4 mt nx T) (q18:G b18=ZO (ZP #[.map (ZO mr)] 95)) (hT:Sxs k T) (hd:Sx k d) (hw:DV G w (dia d)) (hR:Sxs k R)
  (hn:∀m,T (n,m)≠ZL ZQ->m∈nx n) (hk2:∀m∈nx n,m∈keys) (hl:(nx n).length<=1000000) (hq:q.length<=100000000)
  (h:St G F (mS aJ G mr R::pt b19 (ZP #[ZS qs] 67)::que 3 qs (q.map vi)::As)):
  ν 121 #[vi n,ZU w,ZZ (ZO ⟨b14,0,ZR⟩),ZZ (ZO ⟨b18,0,ZR⟩),ZZ (ZO ⟨b4,0,ZR⟩),ZZ (ZO ⟨b19,0,ZR⟩)] F λr F'=>∃G' R' ps qs',r=Z2 #[]/\G.le G'/\Vis k keys T n d R R' ps/\
   St G' F' (mS aJ G' mr R'::pt b19 (ZP #[ZS qs'] 67)::que 3 qs' ((q++ps).map vi)::As):=by
 obtain ⟨_,_,TI⟩:=Qp;refine Q4 ?_;unfold Mj;refine h.newG λb7 G1 F1 l1 q7 _ h=> ?_;have E1:=E.le l1;obtain ⟨sn,hlk,hsn⟩:=E1.look h.le n;refine ⟨_,rfl,_,ld (h.le _ _ E1.q14) rfl,sn,hlk,?_⟩;have hsl:=hsn.len
 refine bi (vE · n _ _ _ b7 sn _) (nx n).length (λi F'=>∃(G':PH) (R':Int->Tr) (ps:Φ) (qs':Sl),G1.le G'/\ps.length<=i/\IW k keys T n d ((nx n).take i) R R' ps/\∃Bs,
  St G' F' ((mS aJ G' mr R'::pt b19 (ZP #[ZS qs'] 67)::que 3 qs' ((q++ps).map vi)::As)++Bs)) ⟨G1,R,[],qs,al _,XS _,⟨hR,Lt'.refl R,λm c h=> .inl h,λm hm=>(by simp at hm),λm h=>absurd rfl h,XS _⟩,[],
   by rw [Ys,Ys];exact h.imp 0 rfl λ_ _ hH=>hH.le l1⟩ ?_
 rintro i F2 N hi ⟨G2,R2,ps,qs2,l2,hpl,hv,Bs,h⟩ next;replace h:St G2 F2 (mS aJ G2 mr R2::pt b19 (ZP #[ZS qs2] 67)::que 3 qs2 ((q++ps).map vi)::As):=h.pick id (λ_ _ _ _ e=>e) λi hi=>by rw [id,X0 hi]
 unfold vE;refine ⟨λhlt=> ?_,λhge=> ?_⟩
 ·have hlt:i<(nx n).length:=by omega
  refine ixc (hsn.le l2) (by decide) (by omega) (by omega) λa18 c18 m hm hrow hc=> ?_;rw [N5] at hm;obtain rfl:c18= #[vi m]:=hc;have hmm:=XQ hm;refine ⟨m,aS (aT h.le hrow) rfl,_,rfl,_,ld (h.le _ _ (l2 _ _ (l1 _ _ q18))) rfl,?_⟩;refine (fw h (al _) m).mono ?_;rintro _ F3 ⟨G3,u,rfl,hu,l3,h⟩;refine ⟨u,rfl,?_⟩;refine h.var hu.st (λb10 G4 F4 l4 q10 h=> ?_) rfl hu.size;have l14:=aa l2 (aa l3 l4);have E4:=E1.le l14;have hu4:=hu.le l4;obtain ⟨v,hlv,hv4⟩:=E4.step h.le (n,m);refine ⟨u,hu.size,ac (h.le _ _ q10),w,hw.size,ac (h.le _ _ (l14 _ _ q7)),_,rfl,_,ld (h.le _ _ E4.q4) rfl,v,hlv,?_⟩;have hx:Sx k (ap2 aY d (T (n,m))):=hd.ap2 (o:=aY) (hT _);have hA:∀{G':PH},G4.le G'->ν 35 #[ZU w,ZU v] G' λr G''=>(∃y,r=Z2 #[ZU y,vi 0]/\DV G'' y (dia (ap2 aY d (T (n,m)))))/\G'.le G'':=
   λl=>(iA hk hd (hT _) (hw.le (aa l1 (aa l14 l))) (hv4.le l)).mono λr F' ⟨x,a,b,c⟩=>⟨⟨x,a,b⟩,c⟩
  have hO:∀{G':PH} {y:Γ},G4.le G'->DV G' y (dia (ap2 aY d (T (n,m))))->ν 28 #[ZU u,ZU y] G' λr G''=>(∃y,r=Z2 #[ZU y,vi 0]/\DV G'' y (dia (ap2 oOr (R2 m) (ap2 aY d (T (n,m))))))/\G'.le G'':=
   λl hy=>(vF hk (hv.sx m) hx (hu4.le l) hy).mono λr F' ⟨x,a,b,c⟩=>⟨⟨x,a,b⟩,c⟩
  obtain ⟨va1,va2⟩:=hv.add hT hd (hk2 m hmm);have et:=dD hm;have fin:∀{G' F':PH} {y w0:Γ} {b11:Nat},w0.size=2->G4.le G'->DV G' y (dia (ap2 oOr (R2 m) (ap2 aY d (T (n,m)))))->St G' F' (pt b11 (ZP w0 31)::mS aJ G2 mr R2::pt b19 (ZP #[ZS qs2] 67)::que 3 qs2 ((q++ps).map vi)::As)->
    aw F' (ZX b11 0 ZR) 2 y λF=>iz N n (ZX b18 0 ZR) (ZO (ZX b4 0 ZR)) (ZO (ZX b19 0 ZR)) b7 m b10 sn (i:Int) (ZO (ZX b11 0 ZR)) (λr F'=>∃G' R' ps qs',r=Z2 #[]/\G.le G'/\Vis k keys T n d R R' ps/\
     St G' F' (mS aJ G' mr R'::pt b19 (ZP #[ZS qs'] 67)::que 3 qs' ((q++ps).map vi)::As)) F:=λ{G' F' y w0 b11} hw0 l hy h=>by
   refine h.put0 hy.size hw0 hy.st λF5 h=> ?_;unfold iz;refine ⟨u,hu.size,ac (h.le _ _ (l _ _ q10)),_,rfl,y,hy.size,ac (h.ptAt (i:=0) rfl),?_⟩;refine h.runv (jY (hu4.le l) hy (p7 ((hv.sx m).small hk))) λG6 F6 l6 h=>⟨_,rfl,?_⟩;have kk:=(hv.sx m).ap2 (o:=oOr) hx;have l26:=aa (aa l3 l4) (aa l l6);refine ⟨λhne=> ?_,λhe=> ?_⟩
   ·have hne:ap2 oOr (R2 m) (ap2 aY d (T (n,m)))≠R2 m:=λe=>by rw [e,ζ rfl] at hne;cases hne
    refine ⟨_,ld (h.le _ _ (aa l2 l26 _ _ (l1 _ _ q18))) rfl,y,hy.size,ac (h.ptAt (i:=0) rfl),?_⟩;obtain ⟨o,mp,m1,m2,m3⟩:=h.mS_at (i:=1) rfl;refine aX xP m1 m2 m (ZU y) λo' ho'=> ?_;have h:=h.mS_set 1 rfl (G1:=G6) (S':=bx R2 m (ap2 aY d (T (n,m)))) ho' ((m3.le l26).put (hy.le l6));refine ⟨_,rfl,qs2,ld (h.ptAt (i:=2) rfl) rfl,?_⟩;have hql:qs2.len=(q++ps).length:=by have:=(h.queAt (i:=3) rfl).len;rw [XW,Yj] at this;exact this.symm
    rw [XT] at hql;refine h.newG λb47 G7 F7 l7 q47 _ h=> ?_;refine h.quePush TI 3 rfl (RdS.new (h.le _ _ q47) rfl rfl (XS _)) (by simp [am]) (by omega) λs' F8 h hs'=> ?_;refine h.set2 (w':= #[ZS s']) (Z8 rfl) rfl λF9 h=> ?_;unfold pz;rw [aC hlt];refine next _ hlt ⟨G7,_,ps++[m],s',aa l2 (aa l26 l7),by rw [XT,X3];omega,by rw [et];exact va1 λe=>hne (jO.1 e),[pt b11 (ZP y 31)],?_⟩;rw [<- Yk,Yd (l₁:=q++ps)];exact (h.imp 1 rfl λ_ _ hH=>mS.le hH l7).rot
   ·have e:ap2 oOr (R2 m) (ap2 aY d (T (n,m)))=R2 m:=by
     have:decide (dia (R2 m)=dia (ap2 oOr (R2 m) (ap2 aY d (T (n,m)))))=ZT:=by simpa using he
     exact (mY (hv.sx m).1 kk.1 (ε this)).symm
    unfold pz;rw [aC hlt];refine next _ hlt ⟨G6,R2,ps,qs2,aa l2 l26,by omega,by rw [et];exact va2 (jO.2 e),[pt b11 (ZP y 31)],?_⟩;exact (h.imp 1 rfl λ_ _ hH=>mS.le hH l26).rot
  have c4:∀{G' F':PH} {As:List (Ψ)},G4.le G'->St G' F' As->F'.cell (ZX b4 0 ZR)=ZO (.map (ZO mt)):=λl h=>ld (h.le _ _ (E4.le l).q4) rfl;have r10:∀{G' F':PH} {As:List (Ψ)},G4.le G'->St G' F' As->F'.row (ZX b10 0 ZR) u:=λl h=>ac (h.le _ _ (l _ _ q10));refine ⟨?_,?_⟩
  ·refine h.run (hA (al _)) λ_ G5 F5 hr5 l5 h=> ?_;obtain ⟨y,rfl,hy⟩:=hr5;refine ⟨_,_,rfl,c4 l5 h,r10 l5 h,?_,?_⟩
   ·refine h.runv (bB hy) λG6 F6 l6 h=>⟨_,rfl,c4 (aa l5 l6) h,r10 (aa l5 l6) h,?_,?_⟩
    ·refine h.run (hO (aa l5 l6) (hy.le l6)) λ_ G7 F7 hr7 l7 h=> ?_;obtain ⟨z,rfl,hz⟩:=hr7;have l57:=aa (aa l5 l6) l7;refine ⟨_,_,rfl,c4 l57 h,?_,?_⟩
     ·refine h.runv (bB hz) λG8 F8 l8 h=>⟨_,rfl,c4 (aa l57 l8) h,?_⟩;exact h.new λb11 F9 h=>fin rfl (aa l57 l8) (hz.le l8) h
     ·refine h.new λb11 F8 h=> ?_;exact h.runv (bB hz) λG8 F8 l8 h=>⟨_,rfl,c4 (aa l57 l8) h,fin rfl (aa l57 l8) (hz.le l8) h⟩
    ·refine h.new λb11 F7 h=> ?_;refine h.run (hO (aa l5 l6) (hy.le l6)) λ_ G7 F7 hr7 l7 h=> ?_;obtain ⟨z,rfl,hz⟩:=hr7;refine ⟨_,_,rfl,c4 (aa (aa l5 l6) l7) h,?_⟩;exact h.runv (bB hz) λG8 F8 l8 h=>⟨_,rfl,c4 (aa (aa l5 l6) (aa l7 l8)) h,fin rfl (aa (aa l5 l6) (aa l7 l8)) (hz.le l8) h⟩
   ·refine h.new λb11 F6 h=> ?_;refine h.runv (bB hy) λG6 F6 l6 h=>⟨_,rfl,c4 (aa l5 l6) h,r10 (aa l5 l6) h,?_⟩;refine h.run (hO (aa l5 l6) (hy.le l6)) λ_ G7 F7 hr7 l7 h=> ?_;obtain ⟨z,rfl,hz⟩:=hr7;refine ⟨_,_,rfl,c4 (aa (aa l5 l6) l7) h,?_⟩;exact h.runv (bB hz) λG8 F8 l8 h=>⟨_,rfl,c4 (aa (aa l5 l6) (aa l7 l8)) h,fin rfl (aa (aa l5 l6) (aa l7 l8)) (hz.le l8) h⟩
  ·refine h.new λb11 F5 h=> ?_;refine h.run (hA (al _)) λ_ G5 F5 hr5 l5 h=> ?_;obtain ⟨y,rfl,hy⟩:=hr5;refine ⟨_,_,rfl,c4 l5 h,r10 l5 h,?_⟩;refine h.runv (bB hy) λG6 F6 l6 h=>⟨_,rfl,c4 (aa l5 l6) h,r10 (aa l5 l6) h,?_⟩;refine h.run (hO (aa l5 l6) (hy.le l6)) λ_ G7 F7 hr7 l7 h=> ?_;obtain ⟨z,rfl,hz⟩:=hr7;refine ⟨_,_,rfl,c4 (aa (aa l5 l6) l7) h,?_⟩;exact h.runv (bB hz) λG8 F8 l8 h=>⟨_,rfl,c4 (aa (aa l5 l6) (aa l7 l8)) h,fin rfl (aa (aa l5 l6) (aa l7 l8)) (hz.le l8) h⟩
 ·have e:i=(nx n).length:=by omega
  subst e;rw [XZ] at hv;exact ⟨G2,R2,ps,qs2,rfl,aa l1 l2,⟨hv.sx,hv.le,hv.snd,λm c h1 h2=>hv.cpl m (hn m λe=>by rw [e] at h2;cases h2) c h1 h2,hv.pu,hv.mu⟩,h⟩
end
section
end
theorem RL.cut {α:Type} [Mem α] {G:PH} {s:Sl} {l:List α} {n k:Nat} (h:RL G s l) (hn:Mem.n α=n) (hk:k<=s.len):RL G (Sl.cut s n 0 k s.cap) (l.take k):=by subst hn;obtain ⟨vs,hr,hd⟩:=h;refine ⟨vs.take k,hr.take k,?_⟩;have:=hd.cut (l:=0) (r:=k) (m:=s.cap) (by omega) hk (by have:=hd.cap;omega);rw [Y0,Yw,Y9,hr.cat_take] at this;exact this
section
variable {F G F1:PH} {b8 b9:Nat} {g:Gr} {c m t s p l f:Sl} {part:Nat} {d:Dia} {kc kt kn kp:Nat} {tk:Tk} {pr:Pr}
structure KK (F G:PH) (g:Gr) (c m t s p l f:Sl) (b8:Nat):Prop where
 lF:F.le G
 hT:Tab G
 gs:GS G g c m t s p l f
 q8:G b8=ZO (ZP (g.arr c m t s p l f) 37)
 mg:MG g
 bd:Bd g 18 10
theorem KK.le {G':PH} (h:KK F G g c m t s p l f b8) (hl:G.le G'):KK F G' g c m t s p l f b8:=⟨aa h.lF hl,h.hT.le hl,h.gs.le hl,hl _ _ h.q8,h.mg,h.bd⟩
end
theorem RL.cutD {α:Type} [Mem α] {G:PH} {s:Sl} {l:List α} {n k:Nat} (h:RL G s l) (hn:Mem.n α=n) (h0:0<n) (hk:k<=s.len):RL G (Sl.cut s n k s.len s.cap) (l.drop k):=by subst hn;have hl:=h.len h0;obtain ⟨vs,hr,hd⟩:=h;refine ⟨vs.drop k,hr.drop k,?_⟩;have:=hd.cut (l:=k) (r:=s.len) (m:=s.cap) hk (XS _) hd.cap;rw [hr.cat_drop,XY (by rw [(hr.drop k).cat_len,Y6,hl];exact XS _)] at this;exact this
theorem IX:∃b z,SlT 50 63 2 b z:=⟨_,_,underlying50,U9,Vd,rfl,by decide,by decide⟩
theorem zg:∀a b:Int×Int,bV a=bV b->a=b:=λa b h=>by
 injection h with h
 have h:=congrArg Array.toList h;simp at h;exact Prod.ext h.1 h.2
theorem zh:∀a b:Int,aJ a=aJ b->a=b:=λa b h=>by have h:(vi a)=vi b:=h;injection h
section
variable {κ:Type} [DecidableEq κ] {enc:κ->ξ} {G G0 G1 F:PH} {As:List (Ψ)} {m:Nat} {S S':κ->Tr} {K:List κ} {A:Ψ}
theorem St.mA_at (h:St G F As) {i:Nat} (hi:As[i]? =ZO A) (hA:∀H,A H->mS enc G0 m S H):∃o mp,F m=ZO o/\eM enc mp o/\jp G0 S mp:=by obtain ⟨H,hH,_,h4⟩:=h.get hi;obtain ⟨o,mp,h1,h2,h3⟩:=hA H hH;exact ⟨o,mp,h4 _ _ h1,h2,h3⟩
def mG (enc:κ->ξ) (K:List κ) (G:PH) (m:Nat) (S:κ->Tr):Ψ:=λH=>∃o mp,H m=ZO o/\xW enc mp o/\jp G S mp/\∀n,mp n≠ZR->n∈K
theorem mG.mS {H:PH} (h:mG enc K G m S H):mS enc G m S H:=by obtain ⟨o,mp,h1,h2,h3,_⟩:=h;exact ⟨o,mp,h1,h2.mapO,h3⟩
theorem mG.le {H:PH} (h:mG enc K G0 m S H) (l:G0.le G1):mG enc K G1 m S H:=by obtain ⟨o,mp,h1,h2,h3,h4⟩:=h;exact ⟨o,mp,h1,h2,h3.le l,h4⟩
theorem St.mG_new (enc:κ->ξ) (K:List κ) (h:St G F (pt m (.map #[] 0)::As)):St G F (mG enc K G m (λ_=>ZL ZQ)::As):=
 h.imp (A':=mG enc K G m (λ_=>ZL ZQ)) 0 rfl λH _ hH=>⟨_,_,hH,xW.empty enc,jp.empty G,λ_ h=>absurd rfl h⟩
theorem St.mG_put {mt:TypeId} {z:ξ} (hm:gn prog mt enc z) (inj:∀a b,enc a=enc b->a=b) (h:St G F As) (i:Nat) (hi:As[i]? =ZO (mG enc K G0 m S)) (l0:G0.le G) {n:κ} (hn:n∈K) {w:Γ} {t:Tr} (hw:DV G w (dia t)) {C:Ψ}
  (k:∀F',St G F' (As.set i (mG enc K G m (cQ S n t)))->C F'):aH prog (Instr.mapUpdate mt (.map (ZO m)) (enc n) (ZU w)) F λ_ F=>C F:=by
 obtain ⟨H,⟨o,mp,a1,a2,a3,a4⟩,b2,b3,b4⟩:=h.set (A':=mG enc K G m (cQ S n t)) hi;refine D7 hm inj (b3 _ _ a1) a2 n (ZU w) λo' ho'=>k _ ?_;refine b4 (H.set m o') _ ⟨o',_,au _ _ _,ho',(a3.le l0).put hw,λx hx=> ?_⟩ (λx hx=> ?_) (λx p hx=> ?_) (λx p hx hn=> ?_)
 ·by_cases e:x=n
  ·rw [e];exact hn
  ·rw [Υ e] at hx;exact a4 x hx
 ·by_cases e:x=m
  ·rw [e,a1];exact .inl (by simp)
  ·rw [aB _ _ e] at hx;exact .inl hx
 ·by_cases e:x=m
  ·rw [e,au] at hx ⊢;exact hx
  ·rw [aB _ _ e] at hx ⊢;exact b3 _ _ hx
 ·have e:x≠m:=λe=>by rw [e,a1] at hn;cases hn
  rw [aB _ _ e];exact hx
end
section
variable {G G0 F:PH} {As:List (Ψ)} {m:Nat} {k:Nat} {A:Ψ}
theorem Fp {S:Int×Int->Tr} (hA:∀H,A H->mS bV G0 m S H) (h:St G F (A::As)) (l0:G0.le G) (n:Int×Int):
  ν 75 #[.map (ZO m),ZU (wG n)] F λr F'=>∃G' w,r=ZU w/\DV G' w (dia (S n))/\G.le G'/\St G' F' (A::As):=by
 refine Q2 ?_;unfold OG;refine h.new λb3 Fa h=> ?_;refine h.new λb4 F1 h=> ?_;refine ⟨_,rfl,ac (h.ptAt (i:=1) rfl),?_⟩;obtain ⟨o,mp,h1,h2,h3⟩:=h.mA_at (i:=2) rfl hA;have hlk:=bL (F:=F1) FW h1 h2 n ZT;rcases h3 n with ⟨e1,e2⟩|⟨w,e1,e2⟩
 ·rw [e1] at hlk;refine ⟨_,_,hlk,?_⟩;refine h.new λb5 F2 h=> ?_;refine h.put0 (w':=zD) rfl rfl (by simp [am]) λF3 h=>⟨λhc=>(by cases hc),λ_=> ?_⟩;refine (h.call (fk ZQ)).mono ?_;rintro _ F4 ⟨G',⟨w,rfl,hw,l1⟩,h⟩;refine ⟨w,rfl,?_⟩;refine h.put1 (w':=w) hw.size rfl hw.st λF5 h=>⟨w,hw.size,ac (h.ptAt (i:=1) rfl),?_⟩;exact ⟨G',w,rfl,by rw [e2];exact hw,l1,h.tail.tail.tail⟩
 ·rw [e1] at hlk;refine ⟨_,_,hlk,?_⟩;have hw:=e2.le l0;refine h.new λb5 F2 h=> ?_;refine h.put0 (w':=w) hw.size rfl hw.st λF3 h=>⟨λ_=>⟨w,hw.size,ac (h.ptAt (i:=0) rfl),?_⟩,λhc=>(by cases hc)⟩;refine h.put1 (w':=w) hw.size rfl hw.st λF5 h=>⟨w,hw.size,ac (h.ptAt (i:=1) rfl),?_⟩;exact ⟨G,w,rfl,hw,al _,h.tail.tail.tail⟩
end
section
variable {G F Gn:PH} {g:Gr} {k ms mn ban b4:Nat} {N:Int->Tr} {R:VR}
theorem Vp {q p:Sl} (hk:OkK g k) (hN:Sxs k N) (lN:Gn.le G) (hl:∀x∈g.ZG,x.right.length<=1000000) (hp:g.ZG.length<=1000000) (hrp:RL G p g.ZG) (qa:∃c n t s p l f,G ban=ZO (ZP (anA g c n t s p l f q) 107)) (hq:RL G q (pc g g.ZG.length))
  (q4:G b4=ZO (ZP #[.map (ZO ms)] 113)) (h:St G F [mG bV (jf g.ZG) G ms (λ_=>ZL ZQ),mS aJ Gn mn N])
  (fin:∀G' F',G.le G'->St G' F' [mG bV (jf g.ZG) G' ms (t6 N (aF g) 0 g.ZG λ_=>ZL ZQ)]->vq (ZO (ZX ban 0 ZR)) b4 R F'):
  Lp (0:Int) F λN v F=>vu N (ZX ban 0 ZR) (ZO mn) b4 p R v F:=by
 obtain ⟨_,_,T⟩:=IX;obtain ⟨c',n',t',s',p',l',f',qa⟩:=qa;have ep:=hrp.len;have eq:=hq.len;rw [jr] at eq
 refine bi (vu · (ZX ban 0 ZR) (ZO mn) b4 p R) g.ZG.length (λi F'=>∃(G':PH) (S:Int×Int->Tr),G.le G'/\Sxs k S/\(t6 N (aF g) 0 g.ZG λ_=>ZL ZQ)=t6 N (aF g) i (g.ZG.drop i) S/\
  St G' F' [mG bV (jf g.ZG) G' ms S,mS aJ Gn mn N]) ⟨G,_,al _,λ_=>Sx.ZL k ZQ,by rw [Yw],h⟩ ?_
 rintro i F1 N1 hi ⟨G1,S1,l1,hS1,hst,h⟩ next;unfold vu;refine ⟨λhlt=> ?_,λhge=> ?_⟩
 ·have hlt:i<g.ZG.length:=by omega
  refine h.ix (hrp.le l1) (by decide) (by omega) (by omega) λa c6 x hx hrow hc6=>⟨c6,Mem.len hc6,hrow,?_⟩;rw [N5] at hx;have hxm:=XQ hx;have hlx:=hl x hxm;have edrop:g.ZG.drop i=x::g.ZG.drop (i+1):=bQ hx;refine h.var (Mem.st hc6) (λb6 G2 F2 l2 q6 h=> ?_) rfl (Mem.len hc6);obtain ⟨r,n6,l6,rfl,hr,hn6,_⟩:=hc6;have l12:=aa l1 l2;have hr2:=hr.le l2;have er:=hr2.len;have erc:=hr2.cap;refine ⟨_,ld (h.le _ _ q6) rfl,?_⟩
  refine bi (zE N1 · (ZX ban 0 ZR) (ZO mn) b4 (i:Int) b6 p r R) x.right.length (λj F'=>∃(G':PH) (S2:Int×Int->Tr),G2.le G'/\Sxs k S2/\tF N (aF g i) x 0 x.right S1=tF N (aF g i) x j (x.right.drop j) S2/\
   ∃Bs,St G' F' ([mG bV (jf g.ZG) G' ms S2,mS aJ Gn mn N]++Bs)) ⟨G2,S1,al _,hS1,by rw [Yw],[],h.imp 0 rfl λ_ _ hH=>mG.le hH l2⟩ ?_
  rintro j F3 N2 hj ⟨G3,S2,l3,hS2,hsx,Bs,h⟩ next2;replace h:St G3 F3 [mG bV (jf g.ZG) G3 ms S2,mS aJ Gn mn N]:=h.pick id (λ_ _ _ _ e=>e) λi hi=>by rw [id,X0 hi]
  unfold zE;refine ⟨λhjl=> ?_,λhjg=> ?_⟩
  ·have hjl:j<x.right.length:=by omega
   refine ixc (hr2.le l3) (by decide) (by omega) (by omega) λa8 c8 sy hsy hrow8 hc8=>⟨c8,Mem.len hc8,aT h.le hrow8,?_⟩;rw [N5] at hsy;obtain rfl:c8=sy.arr:=hc8;have edr:x.right.drop j=sy::x.right.drop (j+1):=bQ hsy;refine h.var (by simp [am]) (λb8 G4 F4 l4 q8 h=>⟨_,ld (h.le _ _ q8) rfl,λhyt=> ?_,λhyt=> ?_⟩) rfl rfl
   ·have hyt:sy.t=ZT:=hyt;unfold nz;rw [aC hjl];refine next2 _ hjl ⟨G4,S2,aa l3 l4,hS2,?_,[],h.imp 0 rfl λ_ _ hH=>mG.le hH l4⟩;rw [hsx,edr];show tF N (aF g i) x (j+1) _ (if sy.t=ZT then S2 else _)=_;rw [Χ hyt]
   ·have hyt:sy.t=ZQ:=hyt;have l34:=aa l3 l4;have q64:=l34 _ _ q6;have hr4:=hr2.le l34;have hw1:i64.wrap ((j:Int)+1)=((j+1:Nat):Int):=aC hjl;refine ⟨_,ld (h.le _ _ q64) rfl,by omega,by omega,by rw [N5];omega,_,ld (h.le _ _ q64) rfl,?_⟩;dsimp only;rw [hw1];refine ⟨by omega,by rw [N5];omega,erc,?_⟩;simp only [N5];obtain ⟨v1,ha1,hb1⟩:=hr4.cut (n:=2) rfl (k:=j) (by omega);obtain ⟨v2,ha2,hb2⟩:=hr4.cutD (n:=2) rfl (by decide) (k:=j+1) (by omega);refine h.new λb46 F5 h=> ?_;have h:=h.imp (A':=own (Z4 (ZO (ZX b46 0 ZR)) 0 0) 63 2 []) 0 rfl λH _ hH=>eY hH;have hcl1:(Sl.cut r 2 0 j r.cap).len=j:=by unfold Sl.cut;dsimp only;omega
    have hcl2:(Sl.cut r 2 (j+1) r.len r.cap).len=r.len - (j+1):=rfl;refine h.app0 T (hb1.le h.le) ha1.st (by rw [hcl1];show 0+j<=_;omega) λs1 F6 h hs1=> ?_;rw [Yu] at h;refine ⟨ld (h.le _ _ q64) rfl,ld (h.le _ _ q64) rfl,?_⟩;have hs1:s1.len=0+j:=by rw [hs1,hcl1]
    refine h.app0 T (hb2.le h.le) ha2.st (by rw [hcl2];omega) λs2 F7 h hs2=> ?_;refine ⟨ld (h.le _ _ q64) rfl,ld (h.le _ _ q64) rfl,?_⟩;obtain ⟨G5,l5,hd5,h⟩:=h.pinO;have hoth:RL G5 s2 (x.right.eraseIdx j):=by rw [List.eraseIdx_eq_take_drop_succ];refine ⟨v1++v2,(ha1.le l5).append (ha2.le l5),?_⟩;rw [bR];exact hd5
    have hol:(x.right.eraseIdx j).length<=1000000:=by have:=List.length_eraseIdx_le x.right j;omega
    have eol:=hoth.len;have l15:=aa l12 (aa l34 l5);refine ⟨_,by rw [aG];exact ld (h.le _ _ (l15 _ _ qa)) rfl,?_⟩;refine ixc (hq.le l15) (by decide) (by omega) (by omega) λa9 c9 dd hdd hrow9 hc9=>⟨c9,Mem.len hc9,aT h.le hrow9,?_⟩;rw [N5] at hdd;have hdd:dd=dia (aF g i):=by unfold pc at hdd;rw [X2,Yo hlt] at hdd;exact (Yh hdd).symm
    have hc9:DV G5 c9 (dia (aF g i)):=by rw [<- hdd];exact hc9
    refine (gU h.swap (aa lN l15) hk.le hN (hk.prs i) hc9 hoth hol).mono ?_;rintro _ F8 ⟨G6,u,rfl,hu,l6,h⟩;have h:=h.swap;refine ⟨u,rfl,?_⟩;refine h.new λb10 F9 h=> ?_;refine h.put0 (w':=u) hu.size rfl hu.st λF10 h=> ?_;obtain ⟨hal,_⟩:=bC hN (x.right.eraseIdx j) (hk.prs i);obtain ⟨hsd,_⟩:=iX hN (hk.prs i) x.right j;have l56:=aa l5 l6
    refine bi (zC N1 N2 · (ZX ban 0 ZR) (ZO mn) b4 (i:Int) b6 b8 b10 p r (j:Int) s2 R) (x.right.eraseIdx j).length (λe F'=>∃(G':PH) (y:Γ),G6.le G'/\
     DV G' y (dia (if ((x.right.eraseIdx j).take e).any (·.t)=ZT then ZL ZQ else dL N (aF g i) (x.right.eraseIdx j)))/\St G' F' [pt b10 (ZP y 31),mG bV (jf g.ZG) G3 ms S2,mS aJ Gn mn N]) ⟨G6,u,al _,by rw [YJ];exact hu,h⟩ ?_
    rintro e F11 N3 he ⟨G7,y,l7,hy,h⟩ next3;unfold zC;have l57:=aa l6 l7;refine ⟨λhel=> ?_,λheg=> ?_⟩
    ·have hel:e<(x.right.eraseIdx j).length:=by omega
     refine ixc (hoth.le l57) (by decide) (by omega) (by omega) λa12 c12 sz hsz hrow12 hc12=>⟨c12,Mem.len hc12,aT h.le hrow12,?_⟩;rw [N5] at hsz;obtain rfl:c12=sz.arr:=hc12;have et:=dD hsz;refine h.var (by simp [am]) (λb12 G8 F12 l8 q12 h=>⟨_,ld (h.le _ _ q12) rfl,λhzt=> ?_,λhzt=> ?_⟩) rfl rfl
     ·have hzt:sz.t=ZT:=hzt;refine (h.call (fk ZQ)).mono ?_;rintro _ F13 ⟨G9,⟨w,rfl,hw,l9⟩,h⟩;refine ⟨w,rfl,?_⟩;refine h.put0 (w':=w) hw.size hy.size hw.st λF14 h=> ?_;unfold vr;rw [aC hel];refine next3 _ hel ⟨G9,w,aa l7 (aa l8 l9),?_,h⟩;rw [et,List.any_append,List.any_cons,hzt,Bool.true_or,Bool.or_true,Χ rfl];exact hw
     ·have hzt:sz.t=ZQ:=hzt;unfold vr;rw [aC hel];refine next3 _ hel ⟨G8,y,aa l7 l8,?_,h⟩;rw [et,List.any_append,List.any_cons,hzt,List.any_nil,ZE,ZE];exact hy.le l8
    ·have he:e=(x.right.eraseIdx j).length:=by omega
     subst he;rw [XZ] at hy;have hy:DV G7 y (dia (oq N (aF g i) x.right j)):=hy;have l37:=aa l4 (aa l5 l57);have go:∀{G' F':PH} {Bs:List (Ψ)},G7.le G'->St G' F' ([mG bV (jf g.ZG) G' ms (bx S2 (x.left,sy.i) (oq N (aF g i) x.right j)),mS aJ Gn mn N]++Bs)->nz N1 N2 (ZX ban 0 ZR) (ZO mn) b4 (i:Int) b6 p r (j:Int) R F':=λ{G' F' Bs} l h=>by unfold nz;rw [hw1];refine next2 _ hjl ⟨G',_,aa l3 (aa l37 l),cC hS2 hsd,?_,Bs,h⟩;rw [hsx,edr];show tF N (aF g i) x (j+1) _ (if sy.t=ZT then S2 else _)=_;rw [hyt,Υ Y8]
     unfold FM;obtain ⟨sd,ey,_⟩:=id hy;have q67:=aa (aa l3 l37) (al _) _ _ q6;refine ⟨_,ld (h.ptAt (i:=0) rfl) (by rw [ey];rfl),λh0=> ?_,λh0=> ?_⟩
     ·refine ⟨_,ld (h.le _ _ q67) rfl,_,ld (h.le _ _ (aa l5 l57 _ _ q8)) rfl,?_⟩;refine h.var (by simp [am]) (λb13 G8 F12 l8 q13 h=> ?_) rfl rfl;have l18:=aa l15 (aa l57 l8);have q48:=l18 _ _ q4;have key:(x.left,sy.i)∈jf g.ZG:=Zm.2 ⟨x,hxm,X1.2 ⟨sy,XQ hsy,rfl⟩⟩;refine ⟨_,ld (h.le _ _ q48) rfl,_,rfl,ac (h.le _ _ q13),_,ld (h.le _ _ q48) rfl,_,rfl,ac (h.le _ _ q13),y,hy.size,ac (h.ptAt (i:=0) rfl),?_⟩;refine (Fp (λH hH=>mG.mS hH) h.swap (aa l37 l8) (x.left,sy.i)).mono ?_;rintro _ F13 ⟨G9,w,rfl,hw,l9,h⟩;have h:=h.swap;have q139:=l9 _ _ q13;have q49:=l9 _ _ q48;refine ⟨w,rfl,ac (h.ptAt (i:=0) rfl),ac (h.le _ _ q139),ld (h.le _ _ q49) rfl,?_⟩;refine h.run (P:=λr' G'=>∃z,r'=Z2 #[ZU z,vi 0]/\DV G' z (dia (ap2 oOr (S2 (x.left,sy.i)) (oq N (aF g i) x.right j)))) ((vF hk.le (hS2 _) hsd hw (hy.le (aa l8 l9))).mono λr F' ⟨x,a,b,c⟩=>⟨⟨x,a,b⟩,c⟩) λ_ G10 F14 hr10 l10 h=> ?_;obtain ⟨z,rfl,hz⟩:=hr10;refine ⟨_,_,rfl,ac (h.le _ _ (l10 _ _ q139)),ld (h.le _ _ (l10 _ _ q49)) rfl,?_⟩;refine h.runv (bB hz) λG11 F15 l11 h=>⟨_,rfl,ac (h.le _ _ (l11 _ _ (l10 _ _ q139))),ld (h.le _ _ (l11 _ _ (l10 _ _ q49))) rfl,?_⟩;have l711:=aa l8 (aa l9 (aa l10 l11));refine h.mG_put FW zg 1 rfl (aa l37 l711) key (hz.le l11) λF16 h=> ?_;exact go (Bs:=[pt b10 (ZP y 31)]) l711 h.rot
     ·have e0:oq N (aF g i) x.right j=ZL ZQ:=(dW hsd.1).1 (by simpa using h0);refine go (Bs:=[pt b10 (ZP y 31)]) (al _) ?_;rw [e0,dC hS2];exact (h.imp 1 rfl λ_ _ hH=>mG.le hH l37).rot
  ·have hj:j=x.right.length:=by omega
   subst hj;rw [YB] at hsx;have hsx:tF N (aF g i) x 0 x.right S1=S2:=hsx;unfold FL;rw [aC hlt];refine next _ hlt ⟨G3,S2,aa l12 l3,hS2,?_,h⟩;rw [hst,edrop];show t6 N (aF g) (i+1) _ (tF N (aF g i) x 0 x.right S1)=_;rw [hsx]
 ·have e:i=g.ZG.length:=by omega
  subst e;rw [YB] at hst;have hst:(t6 N (aF g) 0 g.ZG λ_=>ZL ZQ)=S1:=hst;refine fin G1 F1 l1 ?_;rw [hst];exact h.hd
end
abbrev Ns:=List (Int×Sl×Φ)
def nsF:Ns->Int->Option ξ
 |[],_=>ZR
 |e::l,a=>if a=e.1 then ZO e.2.1.v else nsF l a
def nsL:Ns->Int->Φ
 |[],_=>[]
 |e::l,a=>if a=e.1 then e.2.2 else nsL l a
theorem tH {e:Int×Sl×Φ} {l:Ns} {a:Int} (h:a=e.1):nsF (e::l) a=ZO e.2.1.v:=Χ h
theorem ot {e:Int×Sl×Φ} {l:Ns} {a:Int} (h:a≠e.1):nsF (e::l) a=nsF l a:=Υ h
theorem ou {e:Int×Sl×Φ} {l:Ns} {a:Int} (h:a=e.1):nsL (e::l) a=e.2.2:=Χ h
theorem lu {e:Int×Sl×Φ} {l:Ns} {a:Int} (h:a≠e.1):nsL (e::l) a=nsL l a:=Υ h
def nsO (l:Ns):List (Ψ):=l.map λe=>own e.2.1 3 1 (e.2.2.map vi)
section
variable {G F:PH}
theorem St.init {As Bs:List (Ψ)} (h:St G F (As++Bs)):St G F As:=h.pick id (λ_ _ _ _ e=>e) λi hi=>by rw [id,X0 hi]
theorem St.mid {A:Ψ} {Ps Qs:List (Ψ)} (h:St G F (Ps++A::Qs)):St G F (A::(Ps++Qs)):=by
 refine h.pick (λi=>if i=0 then Ps.length else if i<=Ps.length then i - 1 else i) (λi j _ _ e=> ?_) (λi hi=> ?_)
 ·split at e<;>split at e<;>(try split at e)<;>(try split at e)<;>omega
 ·by_cases h0:i=0
  ·rw [Χ h0,h0,X6 (XS _),Nat.sub_self];rfl
  ·obtain ⟨j,rfl⟩:∃j,i=j+1:=⟨i - 1,by omega⟩;rw [Υ h0];by_cases h1:j+1<=Ps.length
   ·rw [Χ h1,Nat.add_sub_cancel,Yl,X0 (by omega),X0 (by omega)]
   ·rw [Υ h1,Yl,X6 (by omega),X6 (by omega)];rw [show j+1 - Ps.length=(j - Ps.length)+1 by omega,Yl]
theorem DM (a:Int):∀(l:Ns) (Ps:List (Ψ)),(l.map (·.1)).Nodup->St G F (Ps++nsO l)->∃s l',St G F (own s 3 1 ((nsL l a).map vi)::(Ps++nsO l'))/\(nsF l a).getD (ZS Z3)=s.v/\
  (∀k,k≠a->nsF l' k=nsF l k/\nsL l' k=nsL l k)/\(l'.map (·.1)).Sublist (l.map (·.1))/\a ∉ l'.map (·.1)
 |[],Ps,_,h=>⟨Z3,[],h.nilOwn _ _,rfl,λ_ _=>⟨rfl,rfl⟩,List.Sublist.refl _,by simp⟩
 |e::l,Ps,hn,h=>by
  rw [Yf,YL] at hn;by_cases he:a=e.1
  ·have h':St G F (Ps++own e.2.1 3 1 (e.2.2.map vi)::nsO l):=h;refine ⟨e.2.1,l,?_,?_,λk hk=> ?_,?_,by rw [he];exact hn.1⟩
   ·have:=h'.mid;rw [ou he];exact this
   ·rw [tH he];rfl
   ·have hk':k≠e.1:=by rw [<- he];exact hk
    exact ⟨(ot hk').symm,(lu hk').symm⟩
   ·rw [Yf];exact List.sublist_cons_self _ _
  ·have h':St G F ((Ps++[own e.2.1 3 1 (e.2.2.map vi)])++nsO l):=by rw [Yk];exact h
   obtain ⟨s,l',h1,h2,h3,h4,h5⟩:=DM a l _ hn.2 h';refine ⟨s,e::l',?_,?_,λk hk=> ?_,?_,?_⟩
   ·rw [Yk] at h1;rw [lu he];exact h1
   ·rw [ot he];exact h2
   ·obtain ⟨g1,g2⟩:=h3 k hk;by_cases ke:k=e.1
    ·rw [tH ke,tH ke,ou ke,ou ke];exact ⟨rfl,rfl⟩
    ·rw [ot ke,ot ke,lu ke,lu ke];exact ⟨g1,g2⟩
   ·rw [Yf,Yf];exact h4.cons_cons _
   ·rw [Yf,XP,not_or];exact ⟨he,h5⟩
theorem IY:∀(l:Ns) {G:PH},St G F (nsO l)->∃G',G.le G'/\(∀e∈l,RL G' e.2.1 e.2.2)/\St G' F []
 |[],G,h=>⟨G,al _,λ_ h=>(by cases h),h⟩
 |e::l,G,h=>by
  have h':St G F (own e.2.1 3 1 (e.2.2.map vi)::nsO l):=h;obtain ⟨G1,l1,hd,h1⟩:=h'.pinO;obtain ⟨G2,l2,hall,h2⟩:=IY l h1;refine ⟨G2,aa l1 l2,λx hx=> ?_,h2⟩;rcases XP.1 hx with rfl|hx
  ·exact RL.ints.2 (hd.le l2)
  ·exact hall x hx
theorem IZ {a:Int}:∀{l:Ns},(nsF l a=ZR/\nsL l a=[])\/∃e∈l,nsF l a=ZO e.2.1.v/\nsL l a=e.2.2
 |[]=> .inl ⟨rfl,rfl⟩
 |e::l=>by
  by_cases he:a=e.1
  ·rw [tH he,ou he];exact .inr ⟨e,by simp,rfl,rfl⟩
  ·rw [ot he,lu he];rcases IZ (a:=a) (l:=l) with h|⟨x,hx,h⟩
   ·exact .inl h
   ·exact .inr ⟨x,X8 _ hx,h⟩
end
section
variable {G F:PH} {g:Gr} {ms b4:Nat} {a0:Θ} {T:Int×Int->Tr} {R:VR} {K:List (Int×Int)}
theorem Vq {es:Array MapEntry} {c:Nat} {L:List ((Int×Int)×ξ)} {mp:Int×Int->Option ξ} (q4:G b4=ZO (ZP #[.map (ZO ms)] 113)) (qs:G ms=ZO (.map es c)) (hL:qZ bV mp es c L) (hS:jp G T mp) (hK:∀n,mp n≠ZR->n∈K) (hKl:K.length<=1000000)
  (h:St G F []) (fin:∀G' F' b14 mn nx,G.le G'->CyE G' b14 mn b4 ms nx T->(∀a b,T (a,b)≠ZL ZQ->b∈nx a)->(∀a b,b∈nx a->(a,b)∈K)->(∀a,(nx a).length<=K.length)->St G' F' []->vp a0 b4 b14 R F'):
  vq a0 b4 R F:=by
 obtain ⟨_,_,TI⟩:=Qp;unfold vq;refine h.newMap aJ λmn F1 h=> ?_;refine h.var1 λb14 G1 F2 l1 q14 h=> ?_;have hesl:es.size<=K.length:=by rw [hL.len,<- XW (f:=(·.1))];refine gC hL.nodup λx hx=> ?_;obtain ⟨p,hp,rfl⟩:=X1.1 hx;refine hK _ ?_;rw [hL.lk,(jP hL.nodup).2 hp];simp
 refine ⟨_,ld (h.le _ _ (l1 _ _ q4)) rfl,?_⟩;refine h.rangeG underlying113 bV (h.le _ _ (l1 _ _ qs)) λb100 F3 h=> ?_
 refine ⟨λq F'=>∃(G':PH) (ks:List (Int×Int)) (l:Ns),q=es.size - ks.length/\G1.le G'/\ks.Nodup/\(∀n∈ks,∃v,mp n=ZO v)/\(l.map (·.1)).Nodup/\(∀a b,b∈nsL l a↔(a,b)∈ks)/\(∀a,(nsL l a).length<=ks.length)/\
  ∃Bs,St G' F' ([itG bV ms b100 es c ks,mpE mn aJ (nsF l)]++nsO l++Bs),es.size,⟨G1,[],[],rfl,al _,List.nodup_nil,λ_ h=>(by cases h),List.nodup_nil,λa b=>by simp [nsL],λa=>by simp [nsL],[],h⟩,?_⟩
 rintro q F4 ⟨G2,ks,l,rfl,l2,hkn,hks,hln,hlk,hll,Bs,h⟩;replace h:St G2 F4 (itG bV ms b100 es c ks::mpE mn aJ (nsF l)::nsO l):=St.init (As:=[itG bV ms b100 es c ks,mpE mn aJ (nsF l)]++nsO l) h;unfold FK;have l12:=aa l1 l2;refine h.nextG hL zg hkn hks (h.le _ _ (l12 _ _ qs)) (λhall=> ?_) λn v F5 hnv hnk hlt h hr hent=> ?_
 ·refine ⟨_,rfl,ZQ,rfl,λhc=>(by cases hc),λ_=> ?_⟩;have h1:=h.tail;obtain ⟨G3,l3,⟨H,⟨o,e1,e2⟩,hH⟩,h2⟩:=h1.pin;obtain ⟨G4,l4,hRL,h3⟩:=IY l h2;have l24:=aa l2 (aa l3 l4);have l14:=aa l1 l24;refine fin G4 F4 b14 mn (nsL l) l14 ⟨l24 _ _ q14,l14 _ _ q4,⟨o,_,l4 _ _ (hH _ _ e1),e2,λa=> ?_⟩,⟨_,mp,l14 _ _ qs,⟨es,c,L,rfl,hL.eq,hL.lk⟩,hS.le l14⟩⟩ (λa b hT=> ?_) (λa b hb=> ?_) (λa=> ?_) h3
  ·rcases IZ (a:=a) (l:=l) with h|⟨e,he,g1,g2⟩
   ·exact .inl h
   ·exact .inr ⟨e.2.1,g1,by rw [g2];exact hRL e he⟩
  ·refine (hlk a b).2 ?_;rcases hS (a,b) with ⟨_,e⟩|⟨w,e,_⟩
   ·exact absurd e hT
   ·exact hall _ _ e
  ·obtain ⟨v,hv⟩:=hks _ ((hlk a b).1 hb);exact hK _ (by rw [hv];simp)
  ·have hsub:ks.length<=K.length:=gC hkn λx hx=>by obtain ⟨v,hv⟩:=hks x hx;exact hK _ (by rw [hv];simp)
   exact YQ (hll a) hsub
 ·refine ⟨_,rfl,ZT,rfl,λ_=> ?_,λhc=>(by cases hc)⟩;refine ⟨_,hent,wG n,rfl,?_⟩;refine h.var (by simp [am]) (λb15 G3 F6 l3 q15 h=> ?_) rfl rfl;have l13:=aa l2 l3;have q143:=l13 _ _ q14;have c0:∀{G' F':PH} {As:List (Ψ)},G3.le G'->St G' F' As->F'.cell (ZW (ZX b15 0 ZR) (ZY (0:Int)*1))=ZO (vi n.1):=λl h=>by rw [aG];exact ld (h.le _ _ (l _ _ q15)) rfl
  have c14:∀{G' F':PH} {As:List (Ψ)},G3.le G'->St G' F' As->F'.cell (ZX b14 0 ZR)=ZO (.map (ZO mn)):=λl h=>ld (h.le _ _ (l _ _ q143)) rfl;obtain ⟨s,l',h,hsv,hoth,hsl,hna⟩:=DM n.1 l [itG bV ms b100 es c (ks++[n]),mpE mn aJ (nsF l)] hln h;have h:St G3 F6 (own s 3 1 ((nsL l n.1).map vi)::itG bV ms b100 es c (ks++[n])::mpE mn aJ (nsF l)::nsO l'):=h;have hlook:=h.lookAt (i:=2) rfl Qq n.1 ZQ;rw [Υ Y8,hsv] at hlook;refine ⟨_,c14 (al _) h,by decide,by decide,_,c0 (al _) h,_,c14 (al _) h,by decide,by decide,_,c0 (al _) h,s,hlook,by decide,by decide,n.2,?_,?_⟩
  ·rw [aG];exact ld (h.le _ _ q15) rfl
  ·have hslen:s.len=(nsL l n.1).length:=by have:=(bX.rd (h.ownAt (i:=0) rfl).1).len;rw [XW,Yj] at this;exact this.symm
   have hbl:=hll n.1;refine h.push0 TI (c:= #[vi n.2]) rfl (by simp [am]) (by omega) λs' G4 F7 l4 h hs'=> ?_;refine ⟨c0 l4 h,c14 l4 h,c0 l4 h,c14 l4 h,?_⟩;refine h.updAt 2 rfl Qq n.1 (ZS s') λF8 h=> ?_;have hln':((n.1,s',nsL l n.1++[n.2])::l').map (·.1)=n.1::l'.map (·.1):=rfl;refine ⟨es.size - (ks++[n]).length,by rw [XT,X3];omega,G4,ks++[n],(n.1,s',nsL l n.1++[n.2])::l',rfl,aa l13 l4,?_,λx hx=> ?_,?_,λa b=> ?_,λa=> ?_,[],?_⟩
   ·rw [Ye];exact ⟨hkn,by simp,λa ha b hb e=>hnk (by rw [XO.1 hb] at e;rw [<- e];exact ha)⟩
   ·rcases XR.1 hx with hx|hx
    ·exact hks x hx
    ·rw [XO.1 hx];exact ⟨v,hnv⟩
   ·rw [hln',YL];exact ⟨hna,hsl.nodup hln⟩
   ·by_cases e:a=n.1
    ·rw [ou e,XR,XO,XR,XO,e,hlk];exact or_congr_right ⟨λh=>by rw [h],λh=>congrArg Prod.snd h⟩
    ·rw [lu e,(hoth a e).2,hlk,XR,XO];exact ⟨.inl,λh=>h.resolve_right λh=>e (congrArg Prod.fst h)⟩
   ·have:=hll a;by_cases e:a=n.1
    ·rw [ou e,XT,XT,X3,X3];omega
    ·rw [lu e,(hoth a e).2,XT];omega
   ·have em:(λk'=>if k'=n.1 then ZO (ZS s') else nsF l k')=nsF ((n.1,s',nsL l n.1++[n.2])::l'):=by
     funext k';by_cases e:k'=n.1
     ·rw [Χ e,tH e]
     ·rw [Υ e,ot e,(hoth k' e).1]
    rw [em] at h;have h2:=h.back2;rw [Ys];have e3:nsO ((n.1,s',nsL l n.1++[n.2])::l')=own s' 3 1 ((nsL l n.1).map vi++[vi n.2])::nsO l':=by unfold nsO;rw [Yf,Yd];rfl
    rw [e3];exact h2
end
theorem zi {κ:Type} (k:Nat) (S:κ->Tr):∀keys:List κ,mu k keys S<=keys.length*2 ^ k
 |[]=>Zj _
 |x::l=>by
  have:=zi k S l;have e:mu k (x::l) S=(2 ^ k - wt k (S x))+mu k l S:=by unfold mu;rw [Yf,List.sum_cons]
  rw [e,X4,Zu,Zk,Nat.add_comm];exact Nat.add_le_add this (Nat.sub_le _ _)
theorem RdS.at6 {F:PH} {s:Sl} {vs:Ξ} (h:RdS F s 1 vs) {i:Nat} {v:ξ} (hi:vs[i]? =ZO v):∃a,s.ZK=ZO a/\0<=(i:Int)/\(i:Int)<(s.len:Int)/\F.cell (ZW a (ZY (i:Int)*1))=ZO v:=by obtain ⟨hlt,rfl⟩:=XN.1 hi;have hl:=h.len;obtain ⟨b,o,h1,h2⟩:=h.cells (by omega);refine ⟨_,h1,by omega,by omega,?_⟩;rw [N5,Yj,aG];exact h2 i hlt
theorem LZ {G G0 F:PH} {As:List (Ψ)} {m i:Nat} {S:Int->Tr} (h:St G F As) (hi:As[i]? =ZO (mS aJ G0 m S)) (l0:G0.le G) (n:Int):∃w,rdo prog (Instr.lookup 95 (.map (ZO m)) (vi n) ZQ) F (ZU w)/\DV G w (dia (S n)):=by
 obtain ⟨o,mp,h1,h2,h3⟩:=h.mS_at hi;have hl:=bL (F:=F) xP h1 h2 n ZQ;rcases h3 n with ⟨e1,e2⟩|⟨w,e1,e2⟩
 ·rw [e1] at hl;exact ⟨zD,hl,by rw [e2];exact DV.mk (s:=Z3) (d:=dia (ZL ZQ)) (RL.nil G)⟩
 ·rw [e1] at hl;exact ⟨w,hl,e2.le l0⟩
section
variable {G F:PH} {g:Gr} {k ms mn ban b4 b14:Nat} {T:Int×Int->Tr} {nx:Int->Φ} {R:VR}
theorem Vr {K:List (Int×Int)} (hk:OkK g k) (hn:g.ZH.length<=1000000) (hAn:AnV G ban g) (E:CyE G b14 mn b4 ms nx T) (hT:ze k g.ZG (aF g) T) (h1:∀a b,T (a,b)≠ZL ZQ->b∈nx a) (h2:∀a b,b∈nx a->(a,b)∈K) (h3:∀a,(nx a).length<=K.length) (hKl:K.length<=1000000)
  (h:St G F []) (fin:∀G' F' mo C,G.le G'->ja k g.ZH.length g.ZG (aF g) C->St G' F' [mG aJ (dz g.ZH.length) G' mo C]->R (.map (ZO mo)) F'):
  vp (ZO (ZX ban 0 ZR)) b4 b14 R F:=by
 obtain ⟨_,_,TI⟩:=Qp;obtain ⟨c,n,t,s,p,lv,f,q,qa,hs,hq⟩:=hAn.ex;have es:=hs.s.len;have hfam:DV G #[n.v,vi g.fam.2] (dia (tre g.fam)):=by rw [<- hk.fam.2];exact DV.mk hs.n
 have hkeys:∀a,∀m∈nx a,m∈K.map (·.2):=λa m hm=>X1.2 ⟨_,h2 a m hm,rfl⟩;have hkl:(K.map (·.2)).length*2 ^ k<=64000000:=by rw [XW];have:2 ^ k<=64:=YQ (Yz (by decide) hk.le) (by decide);exact YQ (Nat.mul_le_mul hKl this) (by decide)
 unfold vp;refine h.new λmo F1 h=> ?_;have h:=h.mG_new aJ (dz g.ZH.length);refine ⟨_,rfl,_,by rw [aG];exact ld (h.le _ _ qa) rfl,?_⟩
 refine bi (zB · (ZX ban 0 ZR) b4 b14 mo s R) g.ZH.length (λi F'=>∃(G':PH) (C:Int->Tr),G.le G'/\Sxs k C/\(∀(a:Nat) c,a<i->((C a).ev c=ZT↔Tg (Stp g.ZG (aF g) c) a a))/\(∀a:Nat,i<=a->C a=ZL ZQ)/\
  ∃Bs,St G' F' (mG aJ (dz g.ZH.length) G' mo C::Bs)) ⟨G,_,al _,λ_=>Sx.ZL k ZQ,λa c ha=>by omega,λ_ _=>rfl,[],h⟩ ?_
 rintro i F2 N1 hi ⟨G2,C,l2,hC,hC1,hC2,Bs,h⟩ next;have h:=h.hd;have E2:=E.le l2;unfold zB;refine ⟨λhlt=> ?_,λhge=> ?_⟩
 ·have hlt:i<g.ZH.length:=by omega
  obtain ⟨sn,hlk,hsn⟩:=E2.look h.le (i:Int);have hsl:=hsn.len;refine ⟨_,ld (h.le _ _ E2.q14) rfl,sn,hlk,λh0=> ?_,λh0=> ?_⟩
  ·have e0:nx (i:Int)=[]:=X9 (by omega);unfold vo;rw [aC hlt];refine next _ hlt ⟨G2,C,l2,hC,λa c ha=> ?_,λa ha=>hC2 a (by omega),[],h⟩;by_cases e:a=i
   ·subst e;rw [hC2 a (XS _)];refine ⟨λh=>(by cases h),λtg=> ?_⟩;obtain ⟨d,hd⟩:=tg.head;have:=(hT.iff ((a:Int),d) c).2 hd;have hin:=h1 a d λe=>by rw [e] at this;cases this
    rw [e0] at hin;cases hin
   ·exact hC1 a c (by omega)
  ·refine h.new λmr F3 h=> ?_;have h:=h.toMap aJ;refine h.var1 λb18 G3 F4 l3 q18 h=> ?_;refine h.new λb132 F5 h=> ?_;have h:=h.imp (A':=que 3 (Z4 (ZO (ZX b132 0 ZR)) 0 0) []) 0 rfl λH _ hH=>Fo hH;refine h.new λb19 F6 h=> ?_;refine h.set0 (w':= #[ZS (Z4 (ZO (ZX b132 0 ZR)) 0 0)]) (Z8 rfl) rfl λF7 h=> ?_;have l23:=aa l2 l3;refine ⟨#[n.v,vi g.fam.2],rfl,by rw [aG];exact iM (h.le _ _ (l23 _ _ qa)) rfl,?_⟩;have h:St G3 F7 (mS aJ G3 mr (λ_=>ZL ZQ)::pt b19 (ZP #[ZS (Z4 (ZO (ZX b132 0 ZR)) 0 0)] 67)::que 3 (Z4 (ZO (ZX b132 0 ZR)) 0 0) (([]:Φ).map vi)::[mG aJ (dz g.ZH.length) G2 mo C]):=
    (h.front2).imp 0 rfl λ_ _ hH=>mS.le hH l3
   refine (o8 (keys:=K.map (·.2)) hk.le (E.le l23) q18 hT.sx hk.fam.1 (hfam.le l23) (λ_=>Sx.ZL k ZQ) (λm=>h1 _ m) (λm=>hkeys _ m) (by have:=h3 i;omega) (by simp) h).mono ?_;rintro _ F8 ⟨G4,R4,ps,qs4,rfl,l4,hv,h⟩;have l34:=aa l23 l4;refine ⟨rfl,?_⟩;have hmu0:=zi k (λ_:Int=>ZL ZQ) (K.map (·.2))
   refine ⟨λq F'=>∃(G':PH) (R':Int->Tr) (qq:Φ) (qs':Sl),q=mu k (K.map (·.2)) R'+qq.length/\G4.le G'/\q<=64000000/\Bfs k g.ZG (aF g) T (tre g.fam) i R' qq/\
    St G' F' (mS aJ G' mr R'::pt b19 (ZP #[ZS qs'] 67)::que 3 qs' (qq.map vi)::[mG aJ (dz g.ZH.length) G2 mo C]),_,⟨G4,R4,ps,qs4,rfl,al _,by have:=hv.mu;omega,Bfs.start hT hv,h⟩,?_⟩
   rintro q F9 ⟨G5,R5,qq,qs5,rfl,l5,hq5,hb,h⟩;have l35:=aa l34 l5;have q185:=l5 _ _ (l4 _ _ q18);have hqd:=h.queAt (i:=2) rfl;have hql:=hqd.len;rw [XW,Yj] at hql;have hqc:=hqd.cap;unfold FJ;refine ⟨_,ld (h.ptAt (i:=1) rfl) rfl,λhpos=> ?_,λhz=> ?_⟩
   ·cases qq with
    |nil=>rw [List.length_nil] at hql;omega
    |cons m qq=>
     obtain ⟨a,g1,g2,g3,g4⟩:=hqd.at6 (i:=0) (v:=vi m) rfl;refine ⟨_,ld (h.ptAt (i:=1) rfl) rfl,a,g1,g2,g3,m,g4,_,ld (h.ptAt (i:=1) rfl) rfl,by omega,hqc,?_⟩;refine h.set1 (w':= #[ZS (Sl.cut qs5 1 1 qs5.len qs5.cap)]) (Z8 rfl) rfl λF10 h=> ?_;have h:=h.imp (A':=que 3 (Sl.cut qs5 1 1 qs5.len qs5.cap) (qq.map vi)) 2 rfl λH _ hH=>LY hH;rw [X4] at hq5;refine ⟨λhne=> ?_,λhe=> ?_⟩
     ·obtain ⟨w,hlw,hw⟩:=LZ h (i:=0) rfl (al _) m;refine ⟨_,ld (h.le _ _ q185) rfl,w,hlw,?_⟩;refine (o8 (keys:=K.map (·.2)) hk.le (E.le l35) q185 hT.sx (hb.sx m) hw hb.sx (λm'=>h1 _ m') (λm'=>hkeys _ m') (by have:=h3 m;omega) (by omega) h).mono ?_;rintro _ F11 ⟨G6,R6,ps6,qs6,rfl,l6,hv6,h⟩;have:=hv6.mu;exact ⟨rfl,_,by rw [X4];show mu k (K.map (·.2)) R6+(qq++ps6).length<_;rw [XT];omega,G6,R6,qq++ps6,qs6,rfl,aa l5 l6,by rw [XT];omega,hb.visit hT hv6,h⟩
     ·have he:m=(i:Int):=by simpa using he
      subst he;exact ⟨_,by rw [X4];show mu k (K.map (·.2)) R5+qq.length<_;omega,G5,R5,qq,_,rfl,l5,by omega,hb.skip,h⟩
   ·have e0:qq=[]:=X9 (by omega);subst e0;unfold FI;refine ⟨_,ld (h.le _ _ q185) rfl,?_⟩;refine (fw h (al _) (i:Int)).mono ?_;rintro _ F10 ⟨G6,w,rfl,hw,l6,h⟩;refine ⟨w,rfl,?_⟩;have l26:G2.le G6:=aa l3 (aa l4 (aa l5 l6));refine h.mG_put xP zh 3 rfl l26 (XQ (qX hlt)) hw λF11 h=> ?_;unfold vo;rw [aC hlt];refine next _ hlt ⟨G6,_,aa l2 l26,hC.upd (hb.sx _),λa c ha=> ?_,λa ha=> ?_,_,h.front3⟩
    ·unfold cQ;by_cases e:a=i
     ·rw [Χ (by rw [e]),e];exact hb.fin hT (λa b c=>hk.stp_fam) c
     ·rw [Υ (by omega)];exact hC1 a c (by omega)
    ·unfold cQ;rw [Υ (by omega)];exact hC2 a (by omega)
 ·have e:i=g.ZH.length:=by omega
  subst e;unfold FH;exact fin G2 F2 mo C l2 ⟨hC,λa c ha=>hC1 a c ha⟩ h
end
section
variable {G F:PH} {g:Gr} {k:Nat}
theorem cH (h:OkG g):g.ZG.length<=2000/\g.ZH.length<=2000/\g.ZI.length<=256/\∀x∈g.ZG,x.right.length<=16:=by have hl:=h.large;unfold bN at hl;rw [Bool.or_eq_false_iff,List.any_eq_false] at hl;have:=η hl.1;refine ⟨by omega,by omega,by omega,λx hx=> ?_⟩;have h2:=hl.2 x hx;rw [δ] at h2;omega
theorem zj {ban:Nat} (hk:OkK g k) (hAn:AnV G ban g) (h:St G F []):
  ν 59 #[ZZ (ZO ⟨ban,0,ZR⟩)] F λr F'=>∃G' mo C,r=.map (ZO mo)/\G.le G'/\ja k g.ZH.length g.ZG (aF g) C/\St G' F' [mG aJ (dz g.ZH.length) G' mo C]:=by
 obtain ⟨o1,o2,o3,o4⟩:=cH hk.ok;have hl:∀x∈g.ZG,x.right.length<=1000000:=λx hx=>by have:=o4 x hx;omega
 have hKl:(jf g.ZG).length<=1000000:=by have:=Fm o4;omega
 refine V9 ?_;unfold QR;refine (cU hk hl (by omega) hAn h).mono ?_;rintro _ F1 ⟨G1,mnn,N,rfl,l1,hN,h⟩;refine ⟨_,rfl,?_⟩;refine h.new λms F2 h=> ?_;have h:=h.mG_new bV (jf g.ZG);refine h.var1 λb4 G2 F3 l2 q4 h=> ?_;obtain ⟨c,n,t,s,p,lv,f,q,qa,hs,hq⟩:=(hAn.le (aa l1 l2)).ex;refine ⟨_,rfl,_,by rw [aG];exact ld (h.le _ _ qa) rfl,?_⟩;refine Vp hk hN.sx l2 hl (by omega) hs.p ⟨c,n,t,s,p,lv,f,qa⟩ hq q4 (h.imp 0 rfl λ_ _ hH=>mG.le hH l2) λG3 F4 l3 h=> ?_;obtain ⟨G4,l4,⟨H,⟨o,mp,e1,⟨es,cc,L,rfl,hL⟩,e3,e4⟩,hH⟩,h⟩:=h.pin;refine Vq (l4 _ _ (l3 _ _ q4)) (hH _ _ e1) hL (e3.le l4) e4 hKl h λG5 F5 b14 mn nx l5 E5 g1 g2 g3 h=> ?_;have l15:=aa l1 (aa l2 (aa l3 (aa l4 l5)));refine Vr hk (by omega) (hAn.le l15) E5 (LX hN hk.prs) g1 g2 g3 hKl h λG6 F6 mo C l6 hC h=> ?_;exact ⟨G6,mo,C,rfl,aa l15 l6,hC,h⟩
end
theorem Qr:aE prog 58=ZT:=by kernel_rfl
theorem Qt:aE prog 71=ZT:=by kernel_rfl
def L0 (k:Nat) (g:Gr) (ds:List Dia):Prop:=∃C,ja k g.ZH.length g.ZG (aF g) C/\ds=bv C g.ZH.length
def iY (g:Gr):Prop:=∃(n:Nat) (c:Cf),n<g.ZH.length/\Tg (Stp g.ZG (aF g) c) n n
section
variable {G F:PH} {g:Gr} {k:Nat}
theorem nk {ban:Nat} {As:List (Ψ)} (hk:OkK g k) (hAn:AnV G ban g) (h:St G F As):
  ν 59 #[ZZ (ZO ⟨ban,0,ZR⟩)] F λr F'=>∃G' mo C,r=.map (ZO mo)/\G.le G'/\ja k g.ZH.length g.ZG (aF g) C/\St G' F' (mG aJ (dz g.ZH.length) G' mo C::As):=by
 have h0:St G F ([]++As):=h;refine (h0.callL (P:=λr G'=>∃mo C,r=.map (ZO mo)/\ja k g.ZH.length g.ZG (aF g) C) (Bs':=λr G'=>[λH=>∃mo C,(r=.map (ZO mo)/\ja k g.ZH.length g.ZG (aF g) C)/\mG aJ (dz g.ZH.length) G' mo C H]) λF1 h1=> ?_).mono ?_
 ·refine (zj hk hAn h1).mono ?_;rintro r F2 ⟨G',mo,C,h1,h2,h3,h4⟩;exact ⟨G',⟨mo,C,h1,h3⟩,h2,h4.imp 0 rfl λH _ hH=>⟨mo,C,⟨h1,h3⟩,hH⟩⟩
 ·rintro r F2 ⟨G',_,h2,h⟩;obtain ⟨mo,h⟩:=h.exI 0 rfl;obtain ⟨C,h⟩:=h.exI 0 rfl;obtain ⟨⟨e1,e2⟩,h⟩:=h.prI 0 rfl;exact ⟨G',mo,C,e1,h2,e2,h⟩
theorem xv {v:Γ} {ban b1 b2:Nat} (hk:OkK g k) (hAn:AnV G ban g) (q1:G b1=ZO (ZP v 37)) (hg:GV G v g)
  (h:St G F [pt b2 (ZP #[ZS Z3] 39)]):ν 58 #[ZZ (ZO ⟨ban,0,ZR⟩),ZZ (ZO ⟨b1,0,ZR⟩),ZZ (ZO ⟨b2,0,ZR⟩)] F λr F'=>∃G',r=Z2 #[]/\G.le G'/\St G' F' (Ga (L0 k g) b2 G'):=by
 obtain ⟨o1,o2,o3,o4⟩:=cH hk.ok;obtain ⟨c,n,t,s,p,l,f,rfl,hgs⟩:=hg;have es:=hgs.s.len;refine V8 ?_;unfold QQ;refine ⟨_,rfl,_,by rw [aG];exact ld (h.le _ _ q1) rfl,?_⟩;refine (nk hk hAn h).mono ?_;rintro _ F1 ⟨G1,mo,C,rfl,l1,hC,h⟩;have h:=h.imp 0 rfl λ_ _ hH=>mG.mS hH;refine ⟨_,rfl,by rw [aG];exact ld (h.le _ _ (l1 _ _ q1)) rfl,?_⟩;rw [es];refine (fz h hk.le g.ZH.length (λi _=>hC.sx i) (by omega)).mono ?_;rintro _ F2 ⟨G2,sl,rfl,l2,hsl,h⟩;refine ⟨_,rfl,by rw [aG];exact ld (h.le _ _ (l2 _ _ (l1 _ _ q1))) rfl,_,rfl,?_⟩;refine h.set0 (w':= #[ZS sl]) (Z8 rfl) rfl λF3 h=>⟨G2,rfl,aa l1 l2,?_⟩;exact h.imp 0 rfl λH _ hH=>⟨sl,_,⟨C,hC,rfl⟩,hsl,hH⟩
theorem lw {v:Γ} (hT:Tab F) (hg:GV F v g) (hz:Sz g) (hk:OkK g k):
  ν 19 #[ZU v] F λr F'=>(∃sl ds,r=Z2 #[ZS sl,vi 0]/\L0 k g ds/\RL F' sl ds)/\F.le F':=by
 obtain ⟨o1,o2,o3,o4⟩:=cH hk.ok;refine VZ ?_;unfold QF;refine (St.start F).newG λb1 G1 F1 l1 q1 _ h=>h.new λb2 F2 h=>⟨v,hg.size,ac (h.le _ _ q1),?_⟩;refine (eJ (kr:=58) (fst:= #[]) (cap:= #[ZZ (ZO ⟨b1,0,ZR⟩),ZZ (ZO ⟨b2,0,ZR⟩)]) (Bs:=Ga (L0 k g) b2) (hT.le l1) (hg.le l1) hz hk (λx hx=>by have:=o4 x hx;omega) (by omega) h Qr λG' ban F' l hAn h=> ?_).mono ?_
 ·rw [xQ];exact xv hk hAn (l _ _ q1) ((hg.le l1).le l) h
 rintro _ F3 ⟨rfl,G3,l3,h⟩;obtain ⟨sl,ds,h1,h2,h⟩:=ug h;refine ⟨_,rfl,sl,h.ld0 rfl,?_⟩;refine h.set0 (w':= #[ZS sl]) (Z8 rfl) rfl λF4 h=>⟨_,h.ld0 rfl,⟨sl,ds,rfl,h1,h2.le h.le⟩,aa l1 (aa l3 h.le)⟩
theorem L3 {C:Int->Tr} (hC:ja k g.ZH.length g.ZG (aF g) C):(∃n:Nat,n<g.ZH.length/\C n≠ZL ZQ)↔iY g:=by
 constructor
 ·rintro ⟨n,hn,hne⟩;have hex:¬∀c,(C n).ev c=(ZL ZQ).ev c:=λh=>hne (dI (hC.sx n).1 trivial h);obtain ⟨c,hc⟩:=Classical.not_forall.1 hex;refine ⟨n,c,hn,(hC.iff n c hn).1 ?_⟩;cases e:(C n).ev c with
  |true=>rfl
  |false=>rw [e] at hc;exact absurd rfl hc
 ·rintro ⟨n,c,hn,h⟩;have:=(hC.iff n c hn).2 h;exact ⟨n,hn,λe=>by rw [e] at this;cases this⟩
def Vs (A:Bool->Prop) (b:Nat) (G:PH):List (Ψ):=[λH=>∃q,A q/\H b=ZO (ZP #[ZV q] 4)]
theorem zk {ban b3:Nat} (hk:OkK g k) (hAn:AnV G ban g)
  (h:St G F [pt b3 (ZP #[ZV ZQ] 4)]):ν 71 #[ZZ (ZO ⟨ban,0,ZR⟩),ZZ (ZO ⟨b3,0,ZR⟩)] F λr F'=>∃G',r=Z2 #[]/\G.le G'/\St G' F' (Vs (λq=>q=ZT↔iY g) b3 G'):=by
 refine Wg ?_;unfold QY;refine (nk hk hAn h).mono ?_;rintro _ F1 ⟨G1,mo,C,rfl,l1,hC,h⟩;refine ⟨_,rfl,?_⟩;obtain ⟨G2,l2,⟨H,⟨o,mp,e1,⟨es,c,L,rfl,hL⟩,e3,e4⟩,hH⟩,h⟩:=h.pin;have qo:=hH _ _ e1;have hS:=e3.le l2;refine h.rangeG underlying95 aJ (h.le _ _ qo) λb7 F2 h=> ?_
 refine ⟨λq F'=>∃(G':PH) (ks:Φ) (fd:Bool),q=es.size - ks.length/\G2.le G'/\ks.Nodup/\(∀n∈ks,∃v,mp n=ZO v)/\(fd=ZT↔∃n∈ks,C n≠ZL ZQ)/\
  St G' F' [itG aJ mo b7 es c ks,pt b3 (ZP #[ZV fd] 4)],_,⟨G2,[],ZQ,rfl,al _,List.nodup_nil,λ_ h=>(by cases h),by simp,h⟩,?_⟩
 rintro q F3 ⟨G3,ks,fd,rfl,l3,hkn,hks,hfd,h⟩;unfold FQ;refine h.nextG hL zh hkn hks (h.le _ _ (l3 _ _ qo)) (λhall=> ?_) λn v F4 hnv hnk hlt h hr hent=> ?_
 ·refine ⟨_,rfl,ZQ,rfl,λhc=>(by cases hc),λ_=> ?_⟩;refine ⟨G3,rfl,aa l1 (aa l2 l3),h.tail.imp 0 rfl λH _ hH=>⟨fd,?_,hH⟩⟩;dsimp only;rw [hfd,<- L3 hC];constructor
  ·rintro ⟨n,hn,hne⟩;obtain ⟨v,hv⟩:=hks n hn;have hm:=e4 n (by rw [hv];simp);obtain ⟨i,hi,rfl⟩:=X1.1 hm;exact ⟨i,Yv.1 hi,hne⟩
  ·rintro ⟨n,hn,hne⟩;rcases hS (n:Int) with ⟨_,e⟩|⟨w,e,_⟩
   ·exact absurd e hne
   ·exact ⟨n,hall _ _ e,hne⟩
 ·refine ⟨_,rfl,ZT,rfl,λ_=> ?_,λhc=>(by cases hc)⟩;have hw:∃w,v=ZU w/\DV G2 w (dia (C n)):=by
   rcases hS n with ⟨e,_⟩|⟨w,e,hw⟩
   ·rw [e] at hnv;cases hnv
   ·rw [e] at hnv;cases hnv;exact ⟨w,rfl,hw⟩
  obtain ⟨w,rfl,hw⟩:=hw;refine ⟨_,hent,w,rfl,?_⟩;refine h.var hw.st (λb4 G4 F5 l4 q4 h=> ?_) rfl hw.size;have l34:=aa l3 l4;have nd:(ks++[n]).Nodup:=by rw [Ye];exact ⟨hkn,by simp,λa ha b hb e=>hnk (by rw [XO.1 hb] at e;rw [<- e];exact ha)⟩
  have hks':∀x∈ks++[n],∃v,mp x=ZO v:=λx hx=>by
   rcases XR.1 hx with hx|hx
   ·exact hks x hx
   ·rw [XO.1 hx];exact ⟨_,hnv⟩
  have ms:es.size - (ks++[n]).length<es.size - ks.length:=by rw [XT,X3];omega
  refine ⟨_,rfl,fd,ld (h.ptAt (i:=1) rfl) rfl,λht=> ?_,λhf=> ?_⟩
  ·refine h.set1 (w':= #[ZV ZT]) (Z8 rfl) rfl λF6 h=> ?_;refine ⟨_,ms,G4,ks++[n],ZT,rfl,l34,nd,hks',⟨λ_=> ?_,λ_=>rfl⟩,h⟩;obtain ⟨x,hx,hne⟩:=hfd.1 ht;exact ⟨x,XR.2 (.inl hx),hne⟩
  ·obtain ⟨sd,ew,_⟩:=id hw;refine ⟨_,ld (h.le _ _ q4) (by rw [ew];rfl),?_⟩;refine h.set1 (w':= #[ZV (decide ((dia (C n)).2≠0))]) (Z8 rfl) rfl λF6 h=> ?_;refine ⟨_,ms,G4,ks++[n],_,rfl,l34,nd,hks',?_,h⟩;rw [δ];have hno:¬∃n∈ks,C n≠ZL ZQ:=λh=>by rw [hfd.2 h] at hf;cases hf
   constructor
   ·intro hne;exact ⟨n,by simp,λe=>hne ((dW (hC.sx n).1).2 e)⟩
   ·rintro ⟨x,hx,hne⟩ h0;rcases XR.1 hx with hx|hx
    ·exact hno ⟨x,hx,hne⟩
    ·rw [XO.1 hx] at hne;exact hne ((dW (hC.sx n).1).1 h0)
theorem ly {v:Γ} (hT:Tab F) (hg:GV F v g) (hz:Sz g) (hk:OkK g k):
  ν 23 #[ZU v] F λr F'=>(iY g/\r=vi 60\/¬iY g/\r=vi 0)/\F.le F':=by
 obtain ⟨o1,o2,o3,o4⟩:=cH hk.ok;refine V1 ?_;unfold QH;refine (St.start F).newG λb1 G1 F1 l1 q1 _ h=>h.new λb3 F2 h=> ?_;refine h.set0 (w':= #[ZV ZQ]) (Z8 rfl) rfl λF3 h=>⟨v,hg.size,ac (h.le _ _ q1),?_⟩;refine (eJ (kr:=71) (fst:= #[]) (cap:= #[ZZ (ZO ⟨b3,0,ZR⟩)]) (Bs:=Vs (λq=>q=ZT↔iY g) b3) (hT.le l1) (hg.le l1) hz hk (λx hx=>by have:=o4 x hx;omega) (by omega) h Qt λG' ban F' l hAn h=> ?_).mono ?_
 ·have e:(#[]++ #[ZZ (ZO ⟨ban,0,ZR⟩)]++ #[ZZ (ZO ⟨b3,0,ZR⟩)]:Γ)= #[ZZ (ZO ⟨ban,0,ZR⟩),ZZ (ZO ⟨b3,0,ZR⟩)]:=by simp
  rw [e];exact zk hk hAn h
 rintro _ F3 ⟨rfl,G3,l3,h⟩;obtain ⟨q,h⟩:=h.exI 0 rfl;obtain ⟨hq,h⟩:=h.prI 0 rfl;have h:St G3 F3 [pt b3 (ZP #[ZV q] 4)]:=h;refine ⟨_,rfl,λ_=>⟨q,h.ld0 rfl,λht=> ?_,λhf=> ?_⟩,λe=>absurd rfl e⟩
 ·exact ⟨.inl ⟨hq.1 ht,rfl⟩,aa l1 (aa l3 h.le)⟩
 ·exact ⟨.inr ⟨λhc=>(by rw [hq.2 hc] at hf;cases hf),rfl⟩,aa l1 (aa l3 h.le)⟩
end
def mkC (nm:ο) (left:Int) (right:List Sy) (d:Dia):Pr:=⟨nm,left,right,d,ZQ,0,[],⟨ZQ,0,0,0,0⟩⟩
def nST:List ο:=[⟨#[83]⟩,⟨#[84]⟩]
def sgG (l:List Pr):Gr:={cO nST with ZG:=l}
def sp1:List Pr:=[mkC ⟨#[115]⟩ 0 [⟨ZT,0⟩,⟨ZQ,1⟩] aM,mkC ⟨#[116]⟩ 1 [] (dia (tv 0)),mkC ⟨#[117]⟩ 1 [⟨ZT,1⟩,⟨ZQ,1⟩] (dia (tv 1))]
def sp2:List Pr:=[mkC ⟨#[115]⟩ 0 [⟨ZQ,1⟩] aM,mkC ⟨#[116]⟩ 1 [⟨ZQ,0⟩] (dia (tv 0)),mkC ⟨#[117]⟩ 1 [⟨ZT,0⟩] aM]
def sp3:List Pr:=[mkC ⟨#[115]⟩ 0 [⟨ZQ,1⟩,⟨ZQ,0⟩,⟨ZQ,1⟩] (dia (tv 0)),mkC ⟨#[116]⟩ 0 [⟨ZT,0⟩] aM,mkC ⟨#[117]⟩ 1 [] aM]
theorem ow {α:Type} {a b d x:α} {i:Nat} (h:[a,b,d][i]? =ZO x):(i=0/\x=a)\/(i=1/\x=b)\/(i=2/\x=d):=by
 match i,h with
 |0,h=>cases h;exact .inl ⟨rfl,rfl⟩
 |1,h=>cases h;exact .inr (.inl ⟨rfl,rfl⟩)
 |2,h=>cases h;exact .inr (.inr ⟨rfl,rfl⟩)
 |i+3,h=>simp at h
theorem I0 {l:List Pr} (h3:(l.map Pr.name).Nodup) (h4:∀s∈l.map Pr.name,Gv s) (h5:∀p∈l,PrI 2 2 p):MG (sgG l):=
 oJ (n:=2) (by decide) rfl rfl rfl rfl (by show bA nST;unfold bA;decide) (by show ∀s∈nST,s.size<=10;decide) h3 h4 h5 ⟨trivial,λ_ h=>(by cases h)⟩ λ_ h=>by cases h
theorem OD {l:List Pr} (h0:l.length≠0) (h1:l.length<=3):Bd (sgG l) 3 0:=
 ⟨by show 2<=3;decide,by show (2:Nat)≠0;decide,by show 2<=3;decide,h0,h1,rfl,by show 0<=0;decide,λ_ h=>(by cases h),by show 0<=0;decide⟩
theorem Bu:MG (sgG sp1):=I0 (by decide) (by decide) λp hp=>by
 obtain ⟨i,hi⟩:=List.getElem?_of_mem hp;rcases ow hi with ⟨_,rfl⟩|⟨_,rfl⟩|⟨_,rfl⟩
 ·exact bj (by decide) (aU _)
 ·exact bj (by decide) (eC (by decide) (by decide))
 ·exact bj (by decide) (eC (by decide) (by decide))
theorem Bv:MG (sgG sp2):=I0 (by decide) (by decide) λp hp=>by
 obtain ⟨i,hi⟩:=List.getElem?_of_mem hp;rcases ow hi with ⟨_,rfl⟩|⟨_,rfl⟩|⟨_,rfl⟩
 ·exact bj (by decide) (aU _)
 ·exact bj (by decide) (eC (by decide) (by decide))
 ·exact bj (by decide) (aU _)
theorem Bw:MG (sgG sp3):=I0 (by decide) (by decide) λp hp=>by
 obtain ⟨i,hi⟩:=List.getElem?_of_mem hp;rcases ow hi with ⟨_,rfl⟩|⟨_,rfl⟩|⟨_,rfl⟩
 ·exact bj (by decide) (eC (by decide) (by decide))
 ·exact bj (by decide) (aU _)
 ·exact bj (by decide) (aU _)
theorem Ja {l:List Pr} (h:MG (sgG l)) (h0:l.length≠0) (h1:l.length<=3):OkK (sgG l) 2:=⟨h.ok (OD h0 h1) (by decide) (by decide),rfl,by decide⟩
theorem Fq:∀t∈dS,t.cond=aM:=by intro t ht;have e:dS.map rq=dS:=rfl;rw [<- e] at ht;obtain ⟨u,_,rfl⟩:=X1.1 ht;rfl
theorem nq {l:List Pr} (h:OkK (sgG l) 2) {i:Nat} {x:Pr} {t:Tr} (hx:l[i]? =ZO x) (hc:x.cond=dia t) (ht:t.ok) (c:Cf):(aF (sgG l) i).ev c=t.ev c:=by
 have hx':(sgG l).ZG[i]? =ZO x:=hx;have hm:=XQ hx';have e1:tre (sgG l).fam=ZL ZT:=iK (t:=ZL ZT) trivial;rw [h.prs_ev hx',e1,hc,iK ht];have:(x.right.all λs=> !s.t || (ku (sgG l) s.i).ev c)=ZT:=by
  rw [Ym];intro s hs;cases hst:s.t with
  |false=>rfl
  |true=>
   obtain ⟨u,hu,_⟩:=((h.prod hm).2.2.2 s hs).2.2 hst;have hu':dS[s.i.toNat]? =ZO u:=hu;have e2:=Fq u (XQ hu');have e3:ku (sgG l) s.i=ZL ZT:=by unfold ku;rw [hu];dsimp only;rw [e2];exact iK (t:=ZL ZT) trivial
   rw [e3];rfl
 rw [this];show (ZT && t.ev c && ZT)=_;simp
theorem jg (v:Nat) (c:Cf):(tv v).ev c=c v:=by show (if c v=ZT then ZT else ZQ)=c v;cases c v<;>rfl
structure Sg (l:List Pr) (f:Nat->Tr):Prop where
 mg:MG (sgG l)
 ok:OkK (sgG l) 2
 ev:∀i x,l[i]? =ZO x->∀c,(aF (sgG l) i).ev c=(f i).ev c
def sf1 (i:Nat):Tr:=if i=0 then ZL ZT else if i=1 then tv 0 else tv 1
def sf2 (i:Nat):Tr:=if i=1 then tv 0 else ZL ZT
def sf3 (i:Nat):Tr:=if i=0 then tv 0 else ZL ZT
theorem sg1:Sg sp1 sf1:=by
 have h:=Ja Bu (by decide) (by decide);refine ⟨Bu,h,λi x hi c=> ?_⟩;rcases ow hi with ⟨rfl,rfl⟩|⟨rfl,rfl⟩|⟨rfl,rfl⟩
 ·exact nq h hi (t:=ZL ZT) rfl trivial c
 ·exact nq h hi (t:=tv 0) rfl (sF (by decide)) c
 ·exact nq h hi (t:=tv 1) rfl (sF (by decide)) c
theorem sg2:Sg sp2 sf2:=by
 have h:=Ja Bv (by decide) (by decide);refine ⟨Bv,h,λi x hi c=> ?_⟩;rcases ow hi with ⟨rfl,rfl⟩|⟨rfl,rfl⟩|⟨rfl,rfl⟩
 ·exact nq h hi (t:=ZL ZT) rfl trivial c
 ·exact nq h hi (t:=tv 0) rfl (sF (by decide)) c
 ·exact nq h hi (t:=ZL ZT) rfl trivial c
theorem sg3:Sg sp3 sf3:=by
 have h:=Ja Bw (by decide) (by decide);refine ⟨Bw,h,λi x hi c=> ?_⟩;rcases ow hi with ⟨rfl,rfl⟩|⟨rfl,rfl⟩|⟨rfl,rfl⟩
 ·exact nq h hi (t:=tv 0) rfl (sF (by decide)) c
 ·exact nq h hi (t:=ZL ZT) rfl trivial c
 ·exact nq h hi (t:=ZL ZT) rfl trivial c
section
variable {c:Cf} {st:Bool}
theorem Vt:(aF (sgG sp1) 0).ev c=ZT:=sg1.ev 0 _ rfl c
theorem Vu:(aF (sgG sp1) 1).ev c=c 0:=(sg1.ev 1 _ rfl c).trans (jg 0 c)
theorem L4:(aF (sgG sp1) 2).ev c=c 1:=(sg1.ev 2 _ rfl c).trans (jg 1 c)
theorem tI {n:Int} (d:Der sp1 (aF (sgG sp1)) st c n):c 0=ZT:=by
 induction d with
 |mk i x hi hp ht hd ih=>
  rcases ow hi with ⟨rfl,rfl⟩|⟨rfl,rfl⟩|⟨rfl,rfl⟩
  ·exact ih ⟨ZQ,1⟩ (by decide) rfl
  ·rw [Vu] at hp;exact hp
  ·exact ih ⟨ZQ,1⟩ (by decide) rfl
theorem ko (h:c 0=ZT):Der sp1 (aF (sgG sp1)) ZT c 1:=.mk 1 (mkC ⟨#[116]⟩ 1 [] (dia (tv 0))) rfl (by rw [Vu];exact h) (λ_ h=>(by cases h)) λ_ h=>by cases h
theorem L5 (h:c 0=ZT):Der sp1 (aF (sgG sp1)) ZQ c 0:=.mk 0 (mkC ⟨#[115]⟩ 0 [⟨ZT,0⟩,⟨ZQ,1⟩] aM) rfl Vt (λ_ _ _=>rfl) λs hs ht=>by
 rcases XP.1 hs with rfl|hs
 ·cases ht
 ·rw [XO.1 hs];exact (ko h).up
theorem L6:¬Der sp1 (aF (sgG sp1)) ZT c 0:=by
 rw [Der.inv];rintro ⟨i,x,hi,hl,hp,ht,hd⟩;rcases ow hi with ⟨rfl,rfl⟩|⟨rfl,rfl⟩|⟨rfl,rfl⟩
 ·exact absurd (ht ⟨ZT,0⟩ (by decide) rfl) (by decide)
 ·exact absurd hl (by decide)
 ·exact absurd hl (by decide)
theorem Qu:Fst sp1 (aF (sgG sp1)) c 1 1↔c 0=ZT/\c 1=ZT:=by
 constructor
 ·intro f;refine ⟨tI f.der,?_⟩;obtain ⟨i,x,hi,hl,hp,hr⟩:=f.pres;rcases ow hi with ⟨rfl,rfl⟩|⟨rfl,rfl⟩|⟨rfl,rfl⟩
  ·exact absurd hl (by decide)
  ·exact absurd rfl hr
  ·rw [L4] at hp;exact hp
 ·rintro ⟨h0,h1⟩;refine .tok 2 0 (mkC ⟨#[117]⟩ 1 [⟨ZT,1⟩,⟨ZQ,1⟩] (dia (tv 1))) ⟨ZT,1⟩ rfl (by rw [L4];exact h1) (λy hy hyt=> ?_) rfl (λm y hm=>by omega) rfl;rcases XP.1 hy with rfl|hy
  ·cases hyt
  ·rw [XO.1 hy];exact (ko h0).up
theorem Qv:Use sp1 (aF (sgG sp1)) (ZL ZT) 0 c 2↔c 0=ZT/\c 1=ZT:=by
 constructor
 ·rintro ⟨x,hi,hp,_,hd⟩;cases hi;rw [L4] at hp;exact ⟨tI (hd ⟨ZQ,1⟩ (by decide) rfl),hp⟩
 ·rintro ⟨h0,h1⟩;have hd:∀y∈([⟨ZT,0⟩,⟨ZQ,1⟩]:List Sy),y.t=ZQ->Der sp1 (aF (sgG sp1)) ZQ c y.i:=λy hy hyt=>by
   rcases XP.1 hy with rfl|hy
   ·cases hyt
   ·rw [XO.1 hy];exact (ko h0).up
  refine ⟨_,rfl,by rw [L4];exact h1,?_,λy hy hyt=> ?_⟩
  ·exact .step 0 (mkC ⟨#[115]⟩ 0 [⟨ZT,0⟩,⟨ZQ,1⟩] aM) ⟨ZQ,1⟩ rfl Vt (.start rfl) hd (by decide) rfl
  ·rcases XP.1 hy with rfl|hy
   ·cases hyt
   ·rw [XO.1 hy];exact (ko h0).up
theorem Qw {a b:Int}:¬Stp sp1 (aF (sgG sp1)) c a b:=by
 rintro ⟨i,j,x,s,hi,hj,hs,_,_,_,ho⟩;rcases ow hi with ⟨rfl,rfl⟩|⟨rfl,rfl⟩|⟨rfl,rfl⟩
 ·match j,hj with
  |0,hj=>cases hj;cases hs
  |j+1,_=>exact absurd (ho 0 ⟨ZT,0⟩ (by omega) rfl).1 (by decide)
 ·simp [mkC] at hj
 ·match j,hj with
  |0,hj=>cases hj;cases hs
  |j+1,_=>exact absurd (ho 0 ⟨ZT,1⟩ (by omega) rfl).1 (by decide)
theorem Vv:(aF (sgG sp2) 1).ev c=c 0:=(sg2.ev 1 _ rfl c).trans (jg 0 c)
theorem Xp:(aF (sgG sp2) 0).ev c=ZT:=sg2.ev 0 _ rfl c
theorem vc {r:Sy} {m:Nat} {y:Sy} {p:Prop} (hm:m≠0) (hy:[r][m]? =ZO y):p:=by
 match m,hm,hy with
 |0,hm,_=>exact absurd rfl hm
 |m+1,_,hy=>simp at hy
theorem Bx {a b:Int} (h:Stp sp2 (aF (sgG sp2)) c a b):(a=0/\b=1)\/(a=1/\b=0/\c 0=ZT):=by
 obtain ⟨i,j,x,s,hi,hj,hs,ha,hb,hp,ho⟩:=h;rcases ow hi with ⟨rfl,rfl⟩|⟨rfl,rfl⟩|⟨rfl,rfl⟩
 ·match j,hj with
  |0,hj=>cases hj;exact .inl ⟨ha.symm,hb.symm⟩
  |j+1,hj=>simp [mkC] at hj
 ·match j,hj with
  |0,hj=>cases hj;rw [Vv] at hp;exact .inr ⟨ha.symm,hb.symm,hp⟩
  |j+1,hj=>simp [mkC] at hj
 ·match j,hj with
  |0,hj=>cases hj;cases hs
  |j+1,hj=>simp [mkC] at hj
theorem Jb:Stp sp2 (aF (sgG sp2)) c 0 1:=⟨0,0,_,⟨ZQ,1⟩,rfl,rfl,rfl,rfl,rfl,Xp,λ_ _ hm hy=>vc hm hy⟩
theorem DN (h:c 0=ZT):Stp sp2 (aF (sgG sp2)) c 1 0:=⟨1,0,_,⟨ZQ,0⟩,rfl,rfl,rfl,rfl,rfl,by rw [Vv];exact h,λ_ _ hm hy=>vc hm hy⟩
theorem By {n:Int} (hn:n=0\/n=1):Tg (Stp sp2 (aF (sgG sp2)) c) n n↔c 0=ZT:=by
 constructor
 ·intro h;rcases hn with rfl|rfl
  ·generalize hb:(0:Int)=b at h;cases h with
   |one h=>
    subst hb;rcases Bx h with ⟨_,h⟩|⟨_,_,h⟩
    ·exact absurd h (by decide)
    ·exact h
   |snoc _ h=>
    subst hb;rcases Bx h with ⟨_,h⟩|⟨_,_,h⟩
    ·exact absurd h (by decide)
    ·exact h
  ·obtain ⟨d,h⟩:=h.head;rcases Bx h with ⟨h,_⟩|⟨_,_,h⟩
   ·exact absurd h (by decide)
   ·exact h
 ·intro h;rcases hn with rfl|rfl
  ·exact .snoc (.one Jb) (DN h)
  ·exact .snoc (.one (DN h)) Jb
theorem Vw:(aF (sgG sp3) 0).ev c=c 0:=(sg3.ev 0 _ rfl c).trans (jg 0 c)
theorem Xq:(aF (sgG sp3) 2).ev c=ZT:=sg3.ev 2 _ rfl c
theorem Jc {n:Int} (d:Der sp3 (aF (sgG sp3)) ZT c n):n≠0:=by
 induction d with
 |mk i x hi hp ht hd ih=>
  rcases ow hi with ⟨rfl,rfl⟩|⟨rfl,rfl⟩|⟨rfl,rfl⟩
  ·exact absurd rfl (ih ⟨ZQ,0⟩ (by decide) rfl)
  ·exact absurd (ht ⟨ZT,0⟩ (by decide) rfl) (by decide)
  ·decide
theorem Jd:Der sp3 (aF (sgG sp3)) ZT c 1:=.mk 2 (mkC ⟨#[117]⟩ 1 [] aM) rfl Xq (λ_ h=>(by cases h)) λ_ h=>by cases h
theorem Je {a b:Int} (h:Stp sp3 (aF (sgG sp3)) c a b):a=0/\b=0/\c 0=ZT:=by
 obtain ⟨i,j,x,s,hi,hj,hs,ha,hb,hp,ho⟩:=h;rcases ow hi with ⟨rfl,rfl⟩|⟨rfl,rfl⟩|⟨rfl,rfl⟩
 ·match j,hj with
  |0,hj=>exact absurd rfl (Jc (ho 1 ⟨ZQ,0⟩ (by decide) rfl).2)
  |1,hj=>cases hj;rw [Vw] at hp;exact ⟨ha.symm,hb.symm,hp⟩
  |j+2,hj=>exact absurd rfl (Jc (ho 1 ⟨ZQ,0⟩ (by omega) rfl).2)
 ·match j,hj with
  |0,hj=>cases hj;cases hs
  |j+1,hj=>simp [mkC] at hj
 ·simp [mkC] at hj
theorem L7:Tg (Stp sp3 (aF (sgG sp3)) c) 0 0↔c 0=ZT:=by
 constructor
 ·intro h;obtain ⟨d,h⟩:=h.head;exact (Je h).2.2
 ·intro h;refine .one ⟨0,1,_,⟨ZQ,0⟩,rfl,rfl,rfl,rfl,rfl,by rw [Vw];exact h,λm y hm hy=> ?_⟩
  match m,hm,hy with
  |0,_,hy=>cases hy;exact ⟨rfl,Jd⟩
  |1,hm,_=>exact absurd rfl hm
  |2,_,hy=>cases hy;exact ⟨rfl,Jd⟩
  |m+3,_,hy=>simp [mkC] at hy
theorem L8:¬Tg (Stp sp3 (aF (sgG sp3)) c) 1 1:=λh=>by obtain ⟨d,h⟩:=h.head;exact absurd (Je h).1 (by decide)
end
theorem iZ {k:Nat} {t u:Tr} (ht:Sx k t) (hu:u.ok) (h:∀c,t.ev c=ZT↔u.ev c=ZT):t=u:=
 dI ht.1 hu λc=>XV.2 (h c)
theorem vd {k:Nat} {t:Tr} (ht:Sx k t) (h:∀c,t.ev c≠ZT):t=ZL ZQ:=iZ ht trivial λc=>⟨λh'=>absurd h' (h c),λh'=>by cases h'⟩
abbrev tJ:Tr:=ap2 aY (tv 0) (tv 1)
theorem qK:Sx 2 tJ:=(Sx.tv (by decide) (by decide)).ap2 (o:=aY) (Sx.tv (by decide) (by decide))
theorem DO (c:Cf):tJ.ev c=ZT↔c 0=ZT/\c 1=ZT:=by rw [(bq (sF (by decide)) (sF (by decide))).2,jg,jg];exact X7
variable {R:VR} {F:PH}
set_option maxHeartbeats 4000000
def xw (b c:Nat) (R:VR) (F:PH):Prop:=Lr F 9 (Am c 0) λa=>aw F (Am b 0) 9 a λF=>Rr 9 (Am b 0) R F
def xx (c:Ω) (_:Sl) (_ _:Nat) (b:Int) (_:VR) (F:PH):Prop:=c (i64.wrap (b+1)) F
def xy (u:Ω) (a:Sl) (v f:Nat) (d:Int) (w:Θ) (R:VR) (F:PH):Prop:=Ix a d λo=>Lk F .u8 (ZW (ZW o (ZY d*4)) 2) λp=>Ls F (Am f 0) λk=>Ca 33 #[Z0 .u8 p,(vi (k.len:Int))] F λq F=>F.cell (Am f 0)=ZO (ZS k)/\∃c,w=ZO c/\aw F (ZW c 3) 2 q λF=>Ls F (Am f 5) λe=>Lr F 13 c λb=>((Nb F (ZP #[] 55) λr F=>((Ap 33 #[ZS (Sb r 0),ZS e] F λs F=>F.row c b/\b.size=13/\Nb F (ZP b 55) λx F=>Ap 33 #[ZS s,ZS (Sb x 1)] F λt F=>sto F (Am f 5) (ZS t) λF=>xx u a v f d R F)/\(b.size=13/\Nb F (ZP b 55) λl F=>Ap 33 #[ZS (Sb r 0),ZS e] F λg F=>Ap 33 #[ZS g,ZS (Sb l 1)] F λh F=>sto F (Am f 5) (ZS h) λF=>xx u a v f d R F)))/\(b.size=13/\Nb F (ZP b 55) λm F=>Nb F (ZP #[] 55) λn F=>Ap 33 #[ZS (Sb n 0),ZS e] F λi F=>Ap 33 #[ZS i,ZS (Sb m 1)] F λj F=>sto F (Am f 5) (ZS j) λF=>xx u a v f d R F))
def xz (_ k:Ω) (_:Sl) (_ _:Nat) (_:Int) (f:Θ) (_:Sl) (g:Int) (h:Nat) (_:VR) (F:PH):Prop:=∃a,f=ZO a/\Ls F (ZW a 2) λc=>Lr F 2 (Am h 0) λb=>b.size=2/\Nb F (ZP b 63) λi F=>Ap 50 #[ZS c,ZS (Sb i 1)] F λd F=>sto F (ZW a 2) (ZS d) λF=>k (i64.wrap (g+1)) F
def Bz (o q:Ω) (a:Sl) (p h:Nat) (d:Int) (e:Θ) (c:Sl) (R:VR) (b:Int) (F:PH):Prop:=Bc (b<(c.len:Int)) (Bc (b<3) (Ix c b λi=>Lk F .u8 (ZW i (ZY b*1)) λj=>Ls F (Am h 4) λg=>(g.len:Int)≠0/\Nb F (ZP (#[ZV ZQ,vi 0]) 63) λf F=>aw F (Am f 0) 2 (#[ZV ZQ,(vi (Z5 (i64.wrap j) (g.len:Int)))]:Γ) λF=>Ix c b λk=>Lk F .u8 (ZW k (ZY b*1)) λl=>Bc (200<l) (Ix c b λm=>Lk F .u8 (ZW m (ZY b*1)) λn=>aw F (Am f 0) 2 (#[ZV ZT,(vi (Z5 (i64.wrap n) 9))]:Γ) λF=>xz o q a p h d e c b f R F) (xz o q a p h d e c b f R F)) (xy o a p h d e R F)) (xy o a p h d e R F)
def xA (i:Ω) (a:Sl) (j k:Nat) (b:Int) (g:Θ) (R:VR) (F:PH):Prop:=Ix a b λc=>Ls F (ZW (ZW c (ZY b*4)) 1) λd=>(∃(h:Nat->Ω) (f:Nat),h f 0 F/\∀f e F,h f e F-> Bz i (nx1 h f) a j k b g d R e F)
def BA (m:Ω) (a:Sl) (k i:Nat) (R:VR) (c:Int) (F:PH):Prop:=Bc (c<(a.len:Int)) (Bc (c<4) (Ix a c λj=>Lk F .u8 (ZW j (ZY c*4)) λf=>Ls F (Am i 4) λd=>(d.len:Int)≠0/\((Nb F (ZP #[Z0 .u8 (u8.wrap (i64.wrap (97+c)))] 5) λl F=>∃e,rdo prog (Conv.bytesToString (ZS (Sb l 1))) F (Z1 e)/\(ByteArray.mk #[113]).size+e.size<=9223372036854775807/\Nb F (ZP zP 55) λn F=>aw F (Am n 0) 13 (#[Z1 ((ByteArray.mk #[113])++e),(vi (Z5 (i64.wrap f) (d.len:Int))),Z7 ZR 0 0,.slice ZR 0 0,vi 0,.bool ZQ,vi 0,.slice ZR 0 0,.bool ZQ,vi 0,vi 0,vi 0,vi 0]:Γ) λF=>xA m a k i c (ZO (Am n 0)) R F)/\(Nb F (ZP zP 55) λg F=>Nb F (ZP #[Z0 .u8 (u8.wrap (i64.wrap (97+c)))] 5) λh F=>∃b,rdo prog (Conv.bytesToString (ZS (Sb h 1))) F (Z1 b)/\(ByteArray.mk #[113]).size+b.size<=9223372036854775807/\aw F (Am g 0) 13 (#[Z1 ((ByteArray.mk #[113])++b),(vi (Z5 (i64.wrap f) (d.len:Int))),Z7 ZR 0 0,.slice ZR 0 0,vi 0,.bool ZQ,vi 0,.slice ZR 0 0,.bool ZQ,vi 0,vi 0,vi 0,vi 0]:Γ) λF=>xA m a k i c (ZO (Am g 0)) R F))) (xw k i R F)) (xw k i R F)
def Vx (d:Γ) (a:Sl) (R:VR) (F:PH):Prop:=Nb F (ZP d 26) λg F=>Nb F (ZP zG 37) λh F=>Lr F 5 (Am g 0) λb=>Ca 32 #[ZU b] F λc F=>Nb F (ZP zG 37) λf F=>aw F (Am f 0) 9 c λF=>Lp 0 F λN e F=>BA N a h f R e F
theorem Xr {b:Γ} {a:Sl} (h:Vx b a R F):ν 13 #[ZU b,ZS a] F R:=Rx.Λ (.ZN (.ZN (.J ZQ [] (.ZN (.L [(6,.int .i64)] (.ZN (.J ZQ [] (.J ZQ [(7,.ptr)] .N (.ZN (.J ZQ [] (.ZN (.L [(9,.int .i64)] (.ZN (.T (.ZN (.J ZQ [] .N .N)) .N)))) .N))) .N)))) .N))) h
def Vy (d:Γ) (R:VR) (F:PH):Prop:=Nb F (ZP d 37) λf F=>Lr F 9 (Am f 0) λe=>Ci 55 #[ZU e] F λa F=>Bc (a≠0) (R (Z2 #[ZS Z3,(vi a)]) F) (Lr F 9 (Am f 0) λb=>Cs 56 #[ZU b,ZV ZT] F λc F=>R (Z2 #[ZS c,(vi 0)]) F)
theorem Xs {a:Γ} (h:Vy a R F):ν 15 #[ZU a] F R:=Rx.Λ .N h
def Vz (d:Γ) (R:VR) (F:PH):Prop:=Nb F (ZP d 37) λf F=>Lr F 9 (Am f 0) λe=>Ci 55 #[ZU e] F λa F=>Bc (a≠0) (R (Z2 #[ZS Z3,(vi a)]) F) (Lr F 9 (Am f 0) λb=>Cs 56 #[ZU b,ZV ZQ] F λc F=>R (Z2 #[ZS c,(vi 0)]) F)
theorem Xt {a:Γ} (h:Vz a R F):ν 17 #[ZU a] F R:=Rx.Λ .N h
def Jf (R:VR) (F:PH):Prop:=R (ZV ZT) F
def BB (i:Ω) (b h:Sl) (R:VR) (a:Int) (F:PH):Prop:=Bc (a<(b.len:Int)) (Ix b a λc=>Lr F 2 (ZW c (ZY a*2)) λd=>Ix h a λe=>Lr F 2 (ZW e (ZY a*2)) λf=>Cbo 50 #[ZU d,ZU f] F λg F=>Bb ((!g)) (R (ZV ZQ) F) (i (i64.wrap (a+1)) F)) (Jf R F)
def VA (a b:Sl) (R:VR) (F:PH):Prop:=Bc ((a.len:Int)≠(b.len:Int)) (R (ZV ZQ) F) (Lp 0 F λN c F=>BB N a b R c F)
theorem Xu {a:Sl} {b:Sl} (h:VA a b R F):ν 18 #[ZS a,ZS b] F R:=Rx.Λ (.ZN (.ZN (.J ZQ [] (.ZN (.L [(5,.int .i64)] .N)) .N))) h
def Jg (a:Sl) (R:VR) (F:PH):Prop:=R (Z2 #[ZS a,(vi 0)]) F
def Jh (j:Sl->Ω) (c:Sl) (R:VR) (a:Sl) (b:Int) (F:PH):Prop:=Bc (b<(c.len:Int)) (Ix c b λe=>Ls F (ZW e (ZY b*1)) λf=>Ix f b λg=>Lr F 2 (ZW g (ZY b*2)) λd=>d.size=2/\Nb F (ZP d 31) λi F=>Ap 39 #[ZS a,ZS (Sb i 1)] F λh F=>j h (i64.wrap (b+1)) F) (Jg a R F)
def Ji (c:Sl) (R:VR) (F:PH):Prop:=(∃(e:Nat->Sl->Ω) (d:Nat),e d Z3 0 F/\∀d a b F,e d a b F-> Jh (nx2 e d) c R a b F)
def Jj (c:Ω) (_:Sl) (a:Int) (_:VR) (F:PH):Prop:=c (i64.wrap (a+1)) F
def Jk (_ c:Ω) (_:Sl) (_ a:Int) (_:VR) (F:PH):Prop:=c (i64.wrap (a+1)) F
def BC (q r s:Ω) (a:Sl) (c b:Int) (R:VR) (d:Int) (F:PH):Prop:=Bc (d<(a.len:Int)) (Ix a b λi=>Ls F (ZW i (ZY b*1)) λj=>Ix a b λe=>Ls F (ZW e (ZY b*1)) λf=>Ix f c λk=>Lr F 2 (ZW k (ZY c*2)) λl=>Ix a c λg=>Ls F (ZW g (ZY c*1)) λh=>Ix h d λm=>Lr F 2 (ZW m (ZY d*2)) λn=>Ca 45 #[ZU l,ZU n] F λo F=>F.cell (ZW g (ZY c*1))=ZO (ZS h)/\F.cell (ZW e (ZY b*1))=ZO (ZS f)/\F.cell (ZW i (ZY b*1))=ZO (ZS j)/\Cbo 61 #[ZS j,(vi d),ZU o] F λ_ F=>F.cell (ZW g (ZY c*1))=ZO (ZS h)/\F.cell (ZW e (ZY b*1))=ZO (ZS f)/\s (i64.wrap (d+1)) F) (Jk q r a c b R F)
def BE (g h:Ω) (a:Sl) (b:Int) (R:VR) (c:Int) (F:PH):Prop:=Bc (c<(a.len:Int)) ((∃(f:Nat->Ω) (e:Nat),f e 0 F/\∀e d F,f e d F-> BC g h (nx1 f e) a b c R d F)) (Jj g a b R F)
def BF (f:Ω) (a:Sl) (R:VR) (b:Int) (F:PH):Prop:=Bc (b<(a.len:Int)) ((∃(e:Nat->Ω) (d:Nat),e d 0 F/\∀d c F,e d c F-> BE f (nx1 e d) a b R c F)) (Ji a R F)
def VB (e:Γ) (R:VR) (F:PH):Prop:=Nb F (ZP e 37) λg F=>Lr F 9 (Am g 0) λb=>Ci 55 #[ZU b] F λa F=>Bc (a≠0) (R (Z2 #[ZS Z3,(vi a)]) F) (Lr F 9 (Am g 0) λc=>Cs 60 #[ZU c] F λd F=>Lp 0 F λN f F=>BF N d R f F)
theorem Xv {a:Γ} (h:VB a R F):ν 20 #[ZU a] F R:=Rx.Λ (.ZN (.ZN (.ZN (.ZN (.ZN (.J ZQ [] (.ZN (.L [(7,.int .i64)] (.ZN (.J ZQ [] (.ZN (.L [(8,.int .i64)] (.ZN (.J ZQ [] (.ZN (.L [(9,.int .i64)] .N)) .N)))) .N)))) (.ZN (.J ZQ [(10,.sl)] (.ZN (.L [(10,.sl),(11,.int .i64)] .N)) .N)))))))) h
def Jl (a:Sl) (R:VR) (F:PH):Prop:=R (Z2 #[ZS a,(vi 0)]) F
def Jm (_:Bool->Ψ) (f:Bool->Ω) (_:Nat) (_ _ _:Sl) (b:Int) (a:Bool) (_:VR) (F:PH):Prop:=f a (i64.wrap (b+1)) F
def tK (_:Bool->Ψ) (_ f:Bool->Ω) (_:Nat) (_ _ _:Sl) (_:Int) (_:Nat) (b:Int) (a:Bool) (_:VR) (F:PH):Prop:=f a (i64.wrap (b+1)) F
def Jn (r:Bool->Ψ) (s u:Bool->Ω) (t:Nat) (f c d:Sl) (g:Int) (e:Nat) (R:VR) (a:Bool) (b:Int) (F:PH):Prop:=Ls F (Am e 2) λi=>Bc (b<(i.len:Int)) (Ls F (Am e 2) λj=>Ix j b λk=>Lb F (ZW k (ZY b*2)) λl=>Bb ((!l)) (Ls F (Am e 2) λh=>Ix h b λm=>Li F (ZW (ZW m (ZY b*2)) 1) λn=>Ix d g λo=>Lr F 2 (ZW o (ZY g*2)) λp=>Cbo 61 #[ZS c,(vi n),ZU p] F λq F=>F.cell (Am e 2)=ZO (ZS h)/\Bb (a) (tK r s u t f c d g e b ZT R F) (tK r s u t f c d g e b q R F)) (tK r s u t f c d g e b a R F)) (Jm r s t f c d g a R F)
def Jo (y:Bool->Ψ) (z:Bool->Ω) (v:Nat) (h i j:Sl) (R:VR) (a:Bool) (e:Int) (F:PH):Prop:=Ls F (Am v 5) λm=>Bc (e<(m.len:Int)) (Ls F (Am v 5) λn=>Ix n e λo=>Lr F 13 (ZW o (ZY e*13)) λp=>Nb F (ZP zP 55) λd F=>aw F (Am d 0) 13 p λF=>Li F (Am d 1) λc=>Ix i c λf=>Lr F 2 (ZW f (ZY c*2)) λg=>Lr F 9 (Am v 0) λq=>Ls F (Am d 2) λk=>Ca 70 #[ZU q,(vi e)] F λr F=>F.cell (Am d 2)=ZO (ZS k)/\F.row (ZW f (ZY c*2)) g/\F.cell (Am d 1)=ZO (vi c)/\Ca 69 #[ZU r,ZS k,ZS h,ZV ZQ] F λs F=>F.row (ZW f (ZY c*2)) g/\F.cell (Am d 1)=ZO (vi c)/\Ca 45 #[ZU g,ZU s] F λt F=>F.cell (Am d 1)=ZO (vi c)/\Ix j e λu=>aw F (ZW u (ZY e*2)) 2 t λF=>(∃(x:Nat->Bool->Ω) (w:Nat),x w a 0 F/\∀w b l F,x w b l F-> Jn y z (nx2 x w) v h i j e d R b l F)) (y a F)
def BG (i:Bool->Ψ) (j:Nat) (d e c:Sl) (R:VR) (b:Bool) (F:PH):Prop:=Bb (b) ((∃(h:Nat->Bool->Ω) (g:Nat),h g ZQ 0 F/\∀g a f F,h g a f F-> Jo i (nx2 h g) j d e c R a f F)) (Jl c R F)
def VC (n:Γ) (R:VR) (F:PH):Prop:=Nb F (ZP n 37) λe F=>Lr F 9 (Am e 0) λf=>Ci 55 #[ZU f] F λb F=>Bc (b≠0) (R (Z2 #[ZS Z3,(vi b)]) F) (Lr F 9 (Am e 0) λg=>Cs 56 #[ZU g,ZV ZQ] F λh F=>Ls F (Am e 4) λi=>Cs 68 #[(vi (i.len:Int))] F λc F=>Li F (Am e 6) λd=>Lr F 2 (Am e 1) λj=>Ix c d λk=>aw F (ZW k (ZY d*2)) 2 j λF=>Ls F (Am e 5) λl=>Cs 68 #[(vi (l.len:Int))] F λm F=>Lp ZT F λN a F=>BG N e h c m R a F)
theorem Xw {a:Γ} (h:VC a R F):ν 22 #[ZU a] F R:=Rx.Λ (.ZN (.ZN (.ZN (.ZN (.ZN (.ZN (.ZN (.J ZQ [] (.ZN (.L [(8,.bool)] (.ZN (.ZN (.ZN (.L [(8,.bool),(9,.int .i64)] (.ZN (.J ZQ [(8,.bool)] (.ZN (.ZN (.ZN (.L [(8,.bool),(11,.int .i64)] (.ZN (.J ZQ [(8,.bool)] .N .N)))))) .N)))))))) .N)))))))) h
def Jp (R:VR) (F:PH):Prop:=R (vi 0) F
def BH (e:Ω) (b:Sl) (R:VR) (a:Int) (F:PH):Prop:=Bc (a<(b.len:Int)) (Ix b a λc=>Li F (ZW (ZW c (ZY a*2)) 1) λd=>Bc (d≠0) (R (vi 60) F) (e (i64.wrap (a+1)) F)) (Jp R F)
def VD (c:Γ) (R:VR) (F:PH):Prop:=Nb F (ZP c 37) λf F=>Lr F 9 (Am f 0) λd=>ν 20 #[ZU d] F λv F=>∃b,∃a,v=(Z2 #[ZS b,(vi a)])/\Bc (a≠0) (R (vi a) F) (Lp 0 F λN e F=>BH N b R e F)
theorem Xx {a:Γ} (h:VD a R F):ν 24 #[ZU a] F R:=Rx.Λ (.ZN (.ZN (.ZN (.J ZQ [] (.ZN (.L [(5,.int .i64)] .N)) .N)))) h
def Jq (a:Sl) (R:VR) (F:PH):Prop:=R (ZS a) F
def BI (_:Bool->Ψ) (e:Bool->Ω) (_:Bool) (_:Nat) (_:Sl) (c:Int) (a:Bool) (_:VR) (F:PH):Prop:=e a (i64.wrap (c+1)) F
def tL (m:Bool->Ψ) (n:Bool->Ω) (a:Bool) (k:Nat) (c:Sl) (b:Bool) (d:Int) (l:Θ) (R:VR) (F:PH):Prop:=Ls F (Am k 5) λe=>Ix e d λg=>Li F (ZW (ZW g (ZY d*13)) 1) λh=>∃f,l=ZO f/\Lr F 2 f λi=>Cbo 61 #[ZS c,(vi h),ZU i] F λj F=>F.cell (Am k 5)=ZO (ZS e)/\Bb (b) (BI m n a k c d ZT R F) (BI m n a k c d j R F)
def Jr (r:Bool->Ψ) (s:Bool->Ω) (b:Bool) (g:Nat) (d:Sl) (R:VR) (a:Bool) (c:Int) (F:PH):Prop:=Ls F (Am g 5) λp=>Bc (c<(p.len:Int)) (Lr F 9 (Am g 0) λl=>Ls F (Am g 5) λe=>Ix e c λh=>Ls F (ZW (ZW h (ZY c*13)) 2) λf=>((Ca 70 #[ZU l,(vi c)] F λm F=>F.cell (ZW (ZW h (ZY c*13)) 2)=ZO (ZS f)/\F.cell (Am g 5)=ZO (ZS e)/\((Ca 69 #[ZU m,ZS f,ZS d,ZV b] F λq F=>F.cell (Am g 5)=ZO (ZS e)/\Nb F (ZP zD 31) λt F=>aw F (Am t 0) 2 q λF=>tL r s b g d a c (ZO (Am t 0)) R F)/\(Nb F (ZP zD 31) λn F=>Ca 69 #[ZU m,ZS f,ZS d,ZV b] F λi F=>F.cell (Am g 5)=ZO (ZS e)/\aw F (Am n 0) 2 i λF=>tL r s b g d a c (ZO (Am n 0)) R F)))/\(Nb F (ZP zD 31) λo F=>Ca 70 #[ZU l,(vi c)] F λj F=>F.cell (ZW (ZW h (ZY c*13)) 2)=ZO (ZS f)/\F.cell (Am g 5)=ZO (ZS e)/\Ca 69 #[ZU j,ZS f,ZS d,ZV b] F λk F=>F.cell (Am g 5)=ZO (ZS e)/\aw F (Am o 0) 2 k λF=>tL r s b g d a c (ZO (Am o 0)) R F))) (r a F)
def Js (h:Bool->Ψ) (c:Bool) (i:Nat) (d:Sl) (R:VR) (b:Bool) (F:PH):Prop:=Bb (b) ((∃(g:Nat->Bool->Ω) (f:Nat),g f ZQ 0 F/\∀f a e F,g f a e F-> Jr h (nx2 g f) c i d R a e F)) (Jq d R F)
def VF (e:Γ) (b:Bool) (R:VR) (F:PH):Prop:=Nb F (ZP e 37) λf F=>Ls F (Am f 4) λc=>Cs 68 #[(vi (c.len:Int))] F λd F=>Lp ZT F λN a F=>Js N b f d R a F
theorem Xy {b:Γ} {a:Bool} (h:VF b a R F):ν 56 #[ZU b,ZV a] F R:=Rx.Λ (.ZN (.ZN (.J ZQ [] (.ZN (.L [(6,.bool)] (.ZN (.ZN (.ZN (.L [(6,.bool),(7,.int .i64)] (.ZN (.J ZQ [(6,.bool)] (.J ZQ [(8,.ptr)] .N .N) .N)))))))) .N))) h
def Jt (a:Sl) (R:VR) (F:PH):Prop:=R (ZS a) F
def Ju (d:Ω) (_:Nat) (_ _:Sl) (b:Int) (_:VR) (F:PH):Prop:=d (i64.wrap (b+1)) F
def xB (_ e:Ω) (_:Nat) (_ _:Sl) (_:Int) (_:Sl) (b:Int) (_:VR) (F:PH):Prop:=e (i64.wrap (b+1)) F
def BJ (t u:Ω) (m:Nat) (h e:Sl) (c:Int) (d:Sl) (R:VR) (b:Int) (F:PH):Prop:=Bc (b<(d.len:Int)) (Ix d b λn=>Lb F (ZW n (ZY b*2)) λo=>Bb ((!o)) (Ls F (Am m 5) λf=>Ix f c λg=>Li F (ZW (ZW g (ZY c*13)) 1) λa=>Ix e a λi=>Ls F (ZW i (ZY a*1)) λj=>Ix d b λk=>Li F (ZW (ZW k (ZY b*2)) 1) λl=>Lr F 9 (Am m 0) λp=>Ca 70 #[ZU p,(vi c)] F λq F=>F.cell (ZW (ZW k (ZY b*2)) 1)=ZO (vi l)/\F.cell (ZW i (ZY a*1))=ZO (ZS j)/\F.cell (ZW (ZW g (ZY c*13)) 1)=ZO (vi a)/\F.cell (Am m 5)=ZO (ZS f)/\Cs 122 #[ZS d,(vi b)] F λr F=>F.cell (ZW (ZW k (ZY b*2)) 1)=ZO (vi l)/\F.cell (ZW i (ZY a*1))=ZO (ZS j)/\F.cell (ZW (ZW g (ZY c*13)) 1)=ZO (vi a)/\F.cell (Am m 5)=ZO (ZS f)/\Ca 69 #[ZU q,ZS r,ZS h,ZV ZT] F λs F=>F.cell (ZW (ZW k (ZY b*2)) 1)=ZO (vi l)/\F.cell (ZW i (ZY a*1))=ZO (ZS j)/\F.cell (ZW (ZW g (ZY c*13)) 1)=ZO (vi a)/\F.cell (Am m 5)=ZO (ZS f)/\Cbo 61 #[ZS j,(vi l),ZU s] F λ_ F=>F.cell (ZW (ZW g (ZY c*13)) 1)=ZO (vi a)/\F.cell (Am m 5)=ZO (ZS f)/\xB t u m h e c d b R F) (xB t u m h e c d b R F)) (Ju t m h e c R F)
def BK (l:Ω) (j:Nat) (c a:Sl) (R:VR) (b:Int) (F:PH):Prop:=Ls F (Am j 5) λd=>Bc (b<(d.len:Int)) (Ls F (Am j 5) λe=>Ix e b λf=>Ls F (ZW (ZW f (ZY b*13)) 2) λg=>(∃(k:Nat->Ω) (i:Nat),k i 0 F/\∀i h F,k i h F-> BJ l (nx1 k i) j c a b g R h F)) (Jt a R F)
def Jv (d:Nat) (b a:Sl) (R:VR) (F:PH):Prop:=Lp 0 F λN c F=>BK N d b a R c F
def Jw (h:Sl->Ω) (i:Nat) (c b:Sl) (R:VR) (a:Sl) (d:Int) (F:PH):Prop:=Bc (d<(b.len:Int)) (Cs 68 #[(vi (b.len:Int))] F λe F=>Nb F (ZP #[ZS e] 39) λg F=>Ap 46 #[ZS a,ZS (Sb g 1)] F λf F=>h f (i64.wrap (d+1)) F) (Jv i c a R F)
def VG (g:Γ) (R:VR) (F:PH):Prop:=Nb F (ZP g 37) λh F=>Lr F 9 (Am h 0) λb=>Cs 56 #[ZU b,ZV ZT] F λc F=>Ls F (Am h 4) λd=>(∃(i:Nat->Sl->Ω) (f:Nat),i f Z3 0 F/\∀f a e F,i f a e F-> Jw (nx2 i f) h c d R a e F)
theorem Xz {a:Γ} (h:VG a R F):ν 60 #[ZU a] F R:=Rx.Λ (.ZN (.ZN (.ZN (.ZN (.J ZQ [(5,.sl)] (.ZN (.L [(5,.sl),(6,.int .i64)] .N)) (.J ZQ [] (.ZN (.L [(7,.int .i64)] (.ZN (.J ZQ [] (.ZN (.ZN (.L [(9,.int .i64)] (.ZN (.J ZQ [] .N .N))))) .N)))) .N)))))) h
def xC (b:Sl) (c:Int) (d:Θ) (R:VR) (F:PH):Prop:=∃a,d=ZO a/\Lr F 2 a λe=>Ix b c λf=>Lr F 2 (ZW f (ZY c*2)) λg=>Cbo 50 #[ZU e,ZU g] F λh F=>Bb (h) (R (ZV ZQ) F) (Lr F 2 a λi=>Ix b c λj=>aw F (ZW j (ZY c*2)) 2 i λF=>R (ZV ZT) F)
def VH (a:Sl) (b:Int) (i:Γ) (R:VR) (F:PH):Prop:=Nb F (ZP i 31) λk F=>Ix a b λg=>Lr F 2 (ZW g (ZY b*2)) λd=>Lr F 2 (Am k 0) λe=>((Ca 123 #[ZU d,ZU e] F λh F=>Nb F (ZP zD 31) λj F=>aw F (Am j 0) 2 h λF=>xC a b (ZO (Am j 0)) R F)/\(Nb F (ZP zD 31) λf F=>Ca 123 #[ZU d,ZU e] F λc F=>aw F (Am f 0) 2 c λF=>xC a b (ZO (Am f 0)) R F))
theorem XA {a:Sl} {b:Int} {c:Γ} (h:VH a b c R F):ν 61 #[ZS a,(vi b),ZU c] F R:=Rx.Λ (.ZN (.J ZQ [(7,.ptr)] .N .N)) h
def Jx (a:Sl) (R:VR) (F:PH):Prop:=R (ZS a) F
def xD (f:Ω) (e:Int) (b:Sl) (R:VR) (a:Int) (F:PH):Prop:=Bc (a<e) (Ca 34 #[ZV ZQ] F λc F=>Ix b a λd=>aw F (ZW d (ZY a*2)) 2 c λF=>f (i64.wrap (a+1)) F) (Jx b R F)
def VI (a:Int) (R:VR) (F:PH):Prop:=aH prog (Instr.makeSlice 39 (vi a) (vi a)) F λv F=>∃b,v=(ZS b)/\Lp 0 F λN c F=>xD N a b R c F
theorem XB {a:Int} (h:VI a R F):ν 68 #[(vi a)] F R:=Rx.Λ (.ZN (.ZN (.J ZQ [] (.ZN (.L [(4,.int .i64)] .N)) .N))) h
def Jy (c b:Nat) (R:VR) (F:PH):Prop:=Lr F 2 (Am c 0) λa=>aw F (Am b 0) 2 a λF=>Rr 2 (Am b 0) R F
def tM (d:Ω) (_ _:Sl) (_:Bool) (_ _:Nat) (c:Int) (_:VR) (F:PH):Prop:=d (i64.wrap (c+1)) F
def BL (p:Ω) (d b:Sl) (a:Bool) (g o:Nat) (R:VR) (c:Int) (F:PH):Prop:=Bc (c<(d.len:Int)) (Ix d c λh=>Lb F (ZW h (ZY c*2)) λi=>Bb ((!i)) (Lr F 2 (Am g 0) λj=>Ix d c λf=>Li F (ZW (ZW f (ZY c*2)) 1) λe=>Ix b e λk=>Lr F 2 (ZW k (ZY e*2)) λl=>Ca 45 #[ZU j,ZU l] F λm F=>F.cell (ZW (ZW f (ZY c*2)) 1)=ZO (vi e)/\aw F (Am g 0) 2 m λF=>tM p d b a g o c R F) (Bb (a) (Ca 34 #[ZV ZQ] F λn F=>aw F (Am g 0) 2 n λF=>tM p d b a g o c R F) (tM p d b a g o c R F))) (Jy g o R F)
def VJ (c:Γ) (d b:Sl) (a:Bool) (R:VR) (F:PH):Prop:=Nb F (ZP c 31) λf F=>Nb F (ZP zD 31) λg F=>Lp 0 F λN e F=>BL N d b a f g R e F
theorem XC {c:Γ} {d:Sl} {b:Sl} {a:Bool} (h:VJ c d b a R F):ν 69 #[ZU c,ZS d,ZS b,ZV a] F R:=Rx.Λ (.ZN (.J ZQ [] (.ZN (.L [(9,.int .i64)] (.ZN (.J ZQ [] .N .N)))) .N)) h
def Jz (d:Nat) (c:Θ) (R:VR) (F:PH):Prop:=∃a,c=ZO a/\Lr F 2 a λb=>aw F (Am d 0) 2 b λF=>Rr 2 (Am d 0) R F
def xE (c:Ω) (_ _:Nat) (_:Θ) (_:Sl) (a:Int) (_:VR) (F:PH):Prop:=c (i64.wrap (a+1)) F
def BM (p:Ω) (n o:Nat) (g:Θ) (b:Sl) (R:VR) (c:Int) (F:PH):Prop:=Bc (c<(b.len:Int)) (Ix b c λh=>Lb F (ZW h (ZY c*2)) λi=>Bb (i) (∃a,g=ZO a/\Lr F 2 a λj=>Ls F (Am n 3) λe=>Ix b c λf=>Li F (ZW (ZW f (ZY c*2)) 1) λd=>Ix e d λk=>Lr F 2 (ZW (ZW k (ZY d*7)) 5) λl=>Ca 45 #[ZU j,ZU l] F λm F=>F.cell (ZW (ZW f (ZY c*2)) 1)=ZO (vi d)/\F.cell (Am n 3)=ZO (ZS e)/\aw F a 2 m λF=>xE p n o (ZO a) b c R F) (xE p n o g b c R F)) (Jz o g R F)
def xF (a:Int) (g h:Nat) (e:Θ) (R:VR) (F:PH):Prop:=Ls F (Am g 5) λb=>Ix b a λc=>Ls F (ZW (ZW c (ZY a*13)) 2) λd=>Lp 0 F λN f F=>BM N g h e d R f F
def VK (j:Γ) (b:Int) (R:VR) (F:PH):Prop:=Nb F (ZP j 37) λf F=>Nb F (ZP zD 31) λk F=>Lr F 2 (Am f 1) λg=>Ls F (Am f 5) λa=>Ix a b λh=>Lr F 2 (ZW (ZW h (ZY b*13)) 3) λd=>((Ca 45 #[ZU g,ZU d] F λi F=>F.cell (Am f 5)=ZO (ZS a)/\Nb F (ZP zD 31) λl F=>aw F (Am l 0) 2 i λF=>xF b f k (ZO (Am l 0)) R F)/\(Nb F (ZP zD 31) λe F=>Ca 45 #[ZU g,ZU d] F λc F=>F.cell (Am f 5)=ZO (ZS a)/\aw F (Am e 0) 2 c λF=>xF b f k (ZO (Am e 0)) R F))
theorem XD {a:Γ} {b:Int} (h:VK a b R F):ν 70 #[ZU a,(vi b)] F R:=Rx.Λ (.ZN (.J ZQ [(5,.ptr)] .N (.ZN (.J ZQ [] (.ZN (.L [(7,.int .i64)] (.ZN (.J ZQ [(5,.ptr)] .N .N)))) .N)))) h
def OE (a:Sl) (b:Int) (R:VR) (F:PH):Prop:=0<=b/\0<=(ZY b)/\(ZY b)<=a.cap/\0<=(i64.wrap (b+1))/\(ZY (i64.wrap (b+1)))<=a.len/\a.len<=a.cap/\Nb F (ZP #[] 63) λe F=>Ap 50 #[ZS (Sb e 0),ZS (Sl.cut a 2 0 (ZY b) a.cap)] F λd F=>Ap 50 #[ZS d,ZS (Sl.cut a 2 (ZY (i64.wrap (b+1))) a.len a.cap)] F λc F=>R (ZS c) F
theorem VL {a:Sl} {b:Int} (h:OE a b R F):ν 122 #[ZS a,(vi b)] F R:=Rx.Λ .N h
variable {R:VR} {F:PH}
set_option maxHeartbeats 4000000
def bQ3 (N:Γ) (k:Sl) (R:VR) (F:PH):Prop:=Nb F (ZP N 26) λO F=>Cbo 12 #[] F λx F=>Lr F 5 (Am O 0) λy=>Ca 13 #[ZU y,ZS k] F λz F=>Nb F (ZP zG 37) λi F=>aw F (Am i 0) 9 z λF=>Lr F 9 (Am i 0) λA=>ν 14 #[ZU A] F λv F=>∃l,∃a,v=(Z2 #[ZS l,(vi a)])/\Lr F 9 (Am i 0) λB=>ν 15 #[ZU B] F λv F=>∃m,∃b,v=(Z2 #[ZS m,(vi b)])/\Lr F 9 (Am i 0) λC=>ν 16 #[ZU C] F λv F=>∃n,∃c,v=(Z2 #[ZS n,(vi c)])/\Lr F 9 (Am i 0) λD=>ν 17 #[ZU D] F λv F=>∃o,∃d,v=(Z2 #[ZS o,(vi d)])/\Bc (a≠b) (R (ZV ZQ) F) (Bc (c≠d) (R (ZV ZQ) F) (Cbo 18 #[ZS l,ZS m] F λE F=>Bb ((!E)) (R (ZV ZQ) F) (Cbo 18 #[ZS n,ZS o] F λG F=>Bb ((!G)) (R (ZV ZQ) F) (Lr F 9 (Am i 0) λH=>ν 19 #[ZU H] F λv F=>∃p,∃e,v=(Z2 #[ZS p,(vi e)])/\Lr F 9 (Am i 0) λI=>ν 20 #[ZU I] F λv F=>∃q,∃f,v=(Z2 #[ZS q,(vi f)])/\Lr F 9 (Am i 0) λJ=>ν 21 #[ZU J] F λv F=>∃r,∃g,v=(Z2 #[ZS r,(vi g)])/\Lr F 9 (Am i 0) λK=>ν 22 #[ZU K] F λv F=>∃s,∃h,v=(Z2 #[ZS s,(vi h)])/\Bb (x) (Bc (e=f) (Bc (g=h) (Cbo 18 #[ZS p,ZS q] F λL F=>Bb (L) (Cbo 18 #[ZS r,ZS s] F λM F=>Bb (M) (Lr F 9 (Am i 0) λt=>Lr F 9 (Am i 0) λj=>Ci 23 #[ZU t] F λu F=>F.row (Am i 0) j/\Ci 24 #[ZU j] F λw F=>R (ZV (decide (u=w))) F) (R (ZV ZQ) F)) (R (ZV ZQ) F)) (R (ZV ZQ) F)) (R (ZV ZQ) F)) (R (ZV ZQ) F)))))
theorem cQ3 {b:Γ} {a:Sl} (h:bQ3 b a R F):ν 3 #[ZU b,ZS a] F R:=Rx.Λ .N h
def tN (e t A z:Nat) (p q:Bool) (R:VR) (F:PH):Prop:=Lr F 2 (Am t 0) λc=>Lr F 2 (Am e 0) λb=>Lr F 2 (Am e 0) λa=>Ca 49 #[(vi 1)] F λf F=>F.row (Am e 0) a/\F.row (Am e 0) b/\F.row (Am t 0) c/\Ca 49 #[(vi 0)] F λg F=>F.row (Am e 0) a/\F.row (Am e 0) b/\F.row (Am t 0) c/\Ca 49 #[(vi 1)] F λh F=>F.row (Am e 0) a/\F.row (Am e 0) b/\F.row (Am t 0) c/\f.size=2/\g.size=2/\h.size=2/\Nb F (ZP (wr (wr (wr (#[ZV ZQ,vi 0,.bool ZQ,vi 0,.bool ZQ,vi 0]:Γ) 0 f.toList) 2 g.toList) 4 h.toList) 63) λu F=>Ca 47 #[Z1 ⟨#[115]⟩,(vi 0),ZU c,ZS (Sb u 3)] F λi F=>F.row (Am e 0) a/\F.row (Am e 0) b/\Ca 48 #[(vi 0)] F λj F=>F.row (Am e 0) a/\F.row (Am e 0) b/\j.size=2/\Nb F (ZP j 63) λw F=>Ca 47 #[Z1 ⟨#[116]⟩,(vi 0),ZU b,ZS (Sb w 1)] F λk F=>F.row (Am e 0) a/\Ca 47 #[Z1 ⟨#[117]⟩,(vi 1),ZU a,ZS Z3] F λl F=>i.size=13/\k.size=13/\l.size=13/\Nb F (ZP (wr (wr (wr (#[Z1 ⟨#[]⟩,vi 0,.slice ZR 0 0,.slice ZR 0 0,vi 0,.bool ZQ,vi 0,.slice ZR 0 0,.bool ZQ,vi 0,vi 0,vi 0,vi 0,.string ⟨#[]⟩,vi 0,.slice ZR 0 0,.slice ZR 0 0,vi 0,.bool ZQ,vi 0,.slice ZR 0 0,.bool ZQ,vi 0,vi 0,vi 0,vi 0,.string ⟨#[]⟩,vi 0,.slice ZR 0 0,.slice ZR 0 0,vi 0,.bool ZQ,vi 0,.slice ZR 0 0,.bool ZQ,vi 0,vi 0,vi 0,vi 0]:Γ) 0 i.toList) 13 k.toList) 26 l.toList) 55) λx F=>sto F (Am z 5) (ZS (Sb x 3)) λF=>Lr F 9 (Am z 0) λr=>ν 19 #[ZU r] F λv F=>∃m,∃d,v=(Z2 #[ZS m,(vi d)])/\Bb (p) (Bb (q) (Bc (d=0) (Lr F 2 (Am t 0) λn=>Lr F 2 (Am A 0) λo=>n.size=2/\o.size=2/\Nb F (ZP (wr (wr zL 0 n.toList) 2 o.toList) 31) λy F=>Cbo 18 #[ZS m,ZS (Sb y 2)] F λs F=>R (ZV s) F) (R (ZV ZQ) F)) (R (ZV ZQ) F)) (R (ZV ZQ) F)
def lz (e p B u:Nat) (b:Bool) (R:VR) (F:PH):Prop:=Lr F 2 (Am e 0) λf=>Lr F 2 (Am p 0) λc=>Lr F 2 (Am e 0) λa=>Ca 49 #[(vi 1)] F λg F=>F.row (Am e 0) a/\F.row (Am p 0) c/\F.row (Am e 0) f/\g.size=2/\Nb F (ZP g 63) λw F=>Ca 47 #[Z1 ⟨#[115]⟩,(vi 0),ZU f,ZS (Sb w 1)] F λh F=>F.row (Am e 0) a/\F.row (Am p 0) c/\Ca 49 #[(vi 0)] F λi F=>F.row (Am e 0) a/\F.row (Am p 0) c/\i.size=2/\Nb F (ZP i 63) λx F=>Ca 47 #[Z1 ⟨#[116]⟩,(vi 1),ZU c,ZS (Sb x 1)] F λj F=>F.row (Am e 0) a/\Ca 48 #[(vi 0)] F λk F=>F.row (Am e 0) a/\k.size=2/\Nb F (ZP k 63) λy F=>Ca 47 #[Z1 ⟨#[117]⟩,(vi 1),ZU a,ZS (Sb y 1)] F λl F=>h.size=13/\j.size=13/\l.size=13/\Nb F (ZP (wr (wr (wr (#[Z1 ⟨#[]⟩,vi 0,.slice ZR 0 0,.slice ZR 0 0,vi 0,.bool ZQ,vi 0,.slice ZR 0 0,.bool ZQ,vi 0,vi 0,vi 0,vi 0,.string ⟨#[]⟩,vi 0,.slice ZR 0 0,.slice ZR 0 0,vi 0,.bool ZQ,vi 0,.slice ZR 0 0,.bool ZQ,vi 0,vi 0,vi 0,vi 0,.string ⟨#[]⟩,vi 0,.slice ZR 0 0,.slice ZR 0 0,vi 0,.bool ZQ,vi 0,.slice ZR 0 0,.bool ZQ,vi 0,vi 0,vi 0,vi 0]:Γ) 0 h.toList) 13 j.toList) 26 l.toList) 55) λz F=>sto F (Am u 5) (ZS (Sb z 3)) λF=>Lr F 9 (Am u 0) λq=>ν 19 #[ZU q] F λv F=>∃m,∃d,v=(Z2 #[ZS m,(vi d)])/\Bc (d=0) (Lr F 2 (Am p 0) λn=>Lr F 2 (Am p 0) λo=>n.size=2/\o.size=2/\Nb F (ZP (wr (wr zL 0 n.toList) 2 o.toList) 31) λA F=>Cbo 18 #[ZS m,ZS (Sb A 2)] F λr F=>Bb (r) (Lr F 9 (Am u 0) λs=>Ci 23 #[ZU s] F λt F=>tN e p B u b (decide (t=60)) R F) (tN e p B u b ZQ R F)) (tN e p B u b ZQ R F)
def VM (R:VR) (F:PH):Prop:=Ca 34 #[ZV ZT] F λS F=>Nb F (ZP zD 31) λp F=>aw F (Am p 0) 2 S λF=>Ca 44 #[(vi 0)] F λT F=>Nb F (ZP zD 31) λd F=>aw F (Am d 0) 2 T λF=>Ca 44 #[(vi 1)] F λU F=>Nb F (ZP zD 31) λq F=>aw F (Am q 0) 2 U λF=>Lr F 2 (Am d 0) λV=>Lr F 2 (Am q 0) λW=>Ca 45 #[ZU V,ZU W] F λX F=>Nb F (ZP zD 31) λb4 F=>aw F (Am b4 0) 2 X λF=>Ca 34 #[ZV ZQ] F λY F=>Nb F (ZP zD 31) λD F=>aw F (Am D 0) 2 Y λF=>Nb F (ZP #[Z1 ⟨#[83]⟩,Z1 ⟨#[84]⟩] 9) λak F=>Ca 46 #[ZS (Sb ak 2)] F λZ F=>Nb F (ZP zG 37) λk F=>aw F (Am k 0) 9 Z λF=>Lr F 2 (Am p 0) λl=>Lr F 2 (Am d 0) λe=>Lr F 2 (Am q 0) λa=>Ca 48 #[(vi 0)] F λr F=>F.row (Am q 0) a/\F.row (Am d 0) e/\F.row (Am p 0) l/\Ca 49 #[(vi 1)] F λs F=>F.row (Am q 0) a/\F.row (Am d 0) e/\F.row (Am p 0) l/\r.size=2/\s.size=2/\Nb F (ZP (wr (wr (#[ZV ZQ,vi 0,.bool ZQ,vi 0]:Γ) 0 r.toList) 2 s.toList) 63) λal F=>Ca 47 #[Z1 ⟨#[115]⟩,(vi 0),ZU l,ZS (Sb al 2)] F λt F=>F.row (Am q 0) a/\F.row (Am d 0) e/\Ca 47 #[Z1 ⟨#[116]⟩,(vi 1),ZU e,ZS Z3] F λu F=>F.row (Am q 0) a/\Ca 48 #[(vi 1)] F λw F=>F.row (Am q 0) a/\Ca 49 #[(vi 1)] F λx F=>F.row (Am q 0) a/\w.size=2/\x.size=2/\Nb F (ZP (wr (wr (#[ZV ZQ,vi 0,.bool ZQ,vi 0]:Γ) 0 w.toList) 2 x.toList) 63) λam F=>Ca 47 #[Z1 ⟨#[117]⟩,(vi 1),ZU a,ZS (Sb am 2)] F λy F=>t.size=13/\u.size=13/\y.size=13/\Nb F (ZP (wr (wr (wr (#[Z1 ⟨#[]⟩,vi 0,.slice ZR 0 0,.slice ZR 0 0,vi 0,.bool ZQ,vi 0,.slice ZR 0 0,.bool ZQ,vi 0,vi 0,vi 0,vi 0,.string ⟨#[]⟩,vi 0,.slice ZR 0 0,.slice ZR 0 0,vi 0,.bool ZQ,vi 0,.slice ZR 0 0,.bool ZQ,vi 0,vi 0,vi 0,vi 0,.string ⟨#[]⟩,vi 0,.slice ZR 0 0,.slice ZR 0 0,vi 0,.bool ZQ,vi 0,.slice ZR 0 0,.bool ZQ,vi 0,vi 0,vi 0,vi 0]:Γ) 0 t.toList) 13 u.toList) 26 y.toList) 55) λan F=>sto F (Am k 5) (ZS (Sb an 3)) λF=>Lr F 9 (Am k 0) λaa=>ν 14 #[ZU aa] F λv F=>∃z,∃f,v=(Z2 #[ZS z,(vi f)])/\Lr F 9 (Am k 0) λab=>ν 16 #[ZU ab] F λv F=>∃A,∃g,v=(Z2 #[ZS A,(vi g)])/\Lr F 9 (Am k 0) λac=>ν 25 #[ZU ac] F λv F=>∃h,∃i,v=(Z2 #[ZS h,(vi i)])/\Lr F 9 (Am k 0) λad=>ν 21 #[ZU ad] F λv F=>∃m,∃j,v=(Z2 #[ZS m,(vi j)])/\Bc (f≠0) (R (ZV ZQ) F) (Bc (g≠0) (R (ZV ZQ) F) (Bc (i≠0) (R (ZV ZQ) F) (Bc (j≠0) (R (ZV ZQ) F) (Bc ((h.len:Int)≠2) (R (ZV ZQ) F) (Ix h 1 λae=>Ls F (ZW ae (ZY 1*1)) λaf=>Ls F (Am k 3) λag=>Bc ((af.len:Int)≠(ag.len:Int)) (R (ZV ZQ) F) (Bc ((m.len:Int)≠3) (R (ZV ZQ) F) (Lr F 2 (Am D 0) λB=>Lr F 2 (Am d 0) λC=>B.size=2/\C.size=2/\Nb F (ZP (wr (wr zL 0 B.toList) 2 C.toList) 31) λao F=>Cbo 18 #[ZS z,ZS (Sb ao 2)] F λE F=>Bb (E) (Lr F 2 (Am d 0) λn=>Lr F 2 (Am d 0) λo=>n.size=2/\o.size=2/\Nb F (ZP (wr (wr zL 0 n.toList) 2 o.toList) 31) λah F=>Cbo 18 #[ZS A,ZS (Sb ah 2)] F λG F=>Bb (G) (Ix h 1 λb=>Ls F (ZW b (ZY 1*1)) λc=>Ix c 1 λH=>Lr F 2 (ZW H (ZY 1*2)) λI=>Lr F 2 (Am b4 0) λJ=>Cbo 50 #[ZU I,ZU J] F λK F=>F.cell (ZW b (ZY 1*1))=ZO (ZS c)/\Bb (K) (Ix m 2 λL=>Lr F 2 (ZW L (ZY 2*2)) λM=>Lr F 2 (Am b4 0) λN=>Cbo 50 #[ZU M,ZU N] F λO F=>F.cell (ZW b (ZY 1*1))=ZO (ZS c)/\Bb (O) (Lr F 9 (Am k 0) λP=>Ci 23 #[ZU P] F λQ F=>F.cell (ZW b (ZY 1*1))=ZO (ZS c)/\lz p d D k (decide (Q=0)) R F) (lz p d D k ZQ R F)) (lz p d D k ZQ R F)) (lz p d D k ZQ R F)) (lz p d D k ZQ R F))))))))
theorem XE (h:VM R F):ν 12 #[] F R:=Rx.Λ (.ZN (.ZN (.ZN (.ZN (.ZN (.ZN (.ZN (.ZN (.ZN (.ZN (.ZN (.ZN (.ZN (.J ZQ [(15,.bool)] .N (.ZN (.ZN (.J ZQ [(18,.bool)] .N .N))))))))))))))))) h
def VN (d:Int) (R:VR) (F:PH):Prop:=Nb F (ZP zD 31) λe F=>ν 109 #[(vi d)] F λv F=>∃b,∃a,v=(Z2 #[ZU b,(vi a)])/\Nb F (ZP zD 31) λf F=>aw F (Am f 0) 2 b λF=>Lr F 2 (Am f 0) λc=>aw F (Am e 0) 2 c λF=>Rr 2 (Am e 0) R F
theorem XF {a:Int} (h:VN a R F):ν 44 #[(vi a)] F R:=Rx.Λ .N h
def VO (b:ο) (c:Int) (e:Γ) (a:Sl) (R:VR) (F:PH):Prop:=Nb F (ZP e 31) λg F=>Nb F (ZP zP 55) λf F=>Lr F 2 (Am g 0) λd=>d.size=2/\aw F (Am f 0) 13 (wr (Z6 (Z6 (Z6 zP 0 (Z1 b)) 1 (vi c)) 2 (ZS a)) 3 d.toList) λF=>Rr 13 (Am f 0) R F
theorem XG {b:ο} {c:Int} {d:Γ} {a:Sl} (h:VO b c d a R F):ν 47 #[Z1 b,(vi c),ZU d,ZS a] F R:=Rx.Λ .N h
theorem jN (v:Nat) (hv:v<=63) (F:PH):ν 44 #[vi v] F λr F'=>lI (dia (tv v)) r F'/\F.le F':=by refine XF ?_;unfold VN;refine (St.start F).new λb2 F1 h=> ?_;refine h.run (nV (v:Int)) λr G2 F2 hr l2 h=> ?_;rw [CW (show v<64 by omega)] at hr;obtain ⟨w,rfl,hw⟩:=hr;refine ⟨w,_,rfl,?_⟩;refine h.var hw.st (λb3 G3 F3 l3 q3 h=> ?_) rfl hw.size;refine ⟨w,hw.size,ac (h.le _ _ q3),?_⟩;refine h.put0 (w':=w) hw.size rfl hw.st λF4 h=> ?_;exact ⟨w,hw.size,h.whole0,⟨w,rfl,(hw.le l3).le h.le⟩,aa l2 (aa l3 h.le)⟩
theorem dm (nm:ο) (left:Int) {s:Sl} {right:List Sy} {w:Γ} {d:Dia} {F:PH} (hs:RL F s right) (hd:DV F w d):ν 47 #[Z1 nm,vi left,ZU w,s.v] F λr F'=>(∃w,r=ZU w/\Mem.rep F' (mkC nm left right d) w)/\F.le F':=by refine XG ?_;unfold VO;refine (St.start F).newG λb6 G1 F1 l1 q6 _ h=> ?_;refine h.new λb8 F2 h=> ?_;obtain ⟨n,rfl,hn⟩:=hd.out;refine ⟨_,rfl,ac (h.le _ _ q6),rfl,?_⟩;refine h.put0 (w':=(mkC nm left right d).arr s n Z3) rfl rfl (by simp [am,ZS]) λF3 h=> ?_;have l:=aa l1 h.le;exact ⟨_,rfl,h.whole0,⟨_,rfl,s,n,Z3,rfl,hs.le l,hn.le l,RL.nil _⟩,l⟩
theorem dt {F:PH} {a b:Sl} {x y:List Dia} (ha:RL F a x) (hb:RL F b y) (hx:∀d∈x,Fit d.1.length) (hl:x.length<=1000000):ν 18 #[a.v,b.v] F λr F'=>r=ZV (decide (x=y))/\F.le F':=by
 have ea:=ha.len;have eb:=hb.len;refine Xu ?_;unfold VA;refine ⟨λhne=>⟨?_,al _⟩,λhe=> ?_⟩
 ·rw [ι];intro e;rw [e] at ea;omega
 ·have hll:x.length=y.length:=by omega
  refine bi (BB · a b _) x.length (λi F'=>F.le F'/\x.take i=y.take i) ⟨al _,by simp⟩ ?_;rintro i F1 N hi ⟨l1,het⟩ next;unfold BB;refine ⟨λhlt=> ?_,λhge=> ?_⟩
  ·have hlt:i<x.length:=by omega
   refine ixc (ha.le l1) (by decide) (by omega) (by omega) λa1 c1 d hd hrow1 hc1=>⟨c1,Mem.len hc1,hrow1,?_⟩;refine ixc (hb.le l1) (by decide) (by omega) (by omega) λa2 c2 e he2 hrow2 hc2=>⟨c2,Mem.len hc2,hrow2,?_⟩;rw [N5] at hd he2;refine (gj (show DV F1 c1 d from hc1) (show DV F1 c2 e from hc2) (hx d (XQ hd))).mono ?_;rintro _ F2 ⟨rfl,l2⟩;refine ⟨_,rfl,λhn=> ?_,λhy=> ?_⟩
   ·refine ⟨?_,aa l1 l2⟩;rw [ι];intro e';rw [e'] at hd;rw [hd] at he2;cases he2;simp at hn
   ·have e':d=e:=by simpa using hy
    subst e';rw [aC hlt];exact next _ hlt ⟨aa l1 l2,by rw [dD hd,dD he2,het]⟩
  ·have e:i=x.length:=by omega
   subst e;unfold Jf;refine ⟨?_,l1⟩;rw [XZ,hll,XZ] at het;rw [ζ het]
theorem XH {n:Nat} {z v w:Γ} (h1:v.size=n) (h2:w.size=n) (hz:z.size=n+n):(wr (wr z 0 v.toList) n w.toList).toList=v.toList++w.toList:=by have e1:=dR v.toList z.toList 0 (by rw [XU,XU];omega);rw [show z.toList.toArray=z by simp] at e1;rw [e1];have e2:=dR w.toList (z.toList.take 0++v.toList++z.toList.drop (0+v.toList.length)) n (by simp;omega);rw [e2];simp only [YJ,Yu,X5,XU,h1,h2];rw [Yb (by simp [h1]),XY (by simp [h1]),List.drop_of_length_le (by simp;omega),Ys]
theorem XI {n:Nat} {z v w u:Γ} (h1:v.size=n) (h2:w.size=n) (h3:u.size=n) (hz:z.size=n+n+n):(wr (wr (wr z 0 v.toList) n w.toList) (n+n) u.toList).toList=v.toList++w.toList++u.toList:=by have e1:=dR v.toList z.toList 0 (by rw [XU,XU];omega);rw [show z.toList.toArray=z by simp] at e1;rw [e1];have e2:=dR w.toList (z.toList.take 0++v.toList++z.toList.drop (0+v.toList.length)) n (by simp;omega);rw [e2];simp only [YJ,Yu,X5,XU,h1,h2];rw [Yb (by simp [h1]),XY (by simp [h1])];have e3:=dR u.toList (v.toList++w.toList++List.drop (n+n) (v.toList++List.drop n z.toList)) (n+n) (by simp;omega);rw [e3];simp only [XU,h3];rw [Yb (by simp;omega),XY (by simp;omega),List.drop_of_length_le (by simp;omega),Ys]
section
variable {α:Type} [Mem α] {b e n:Nat} {G:PH} {x y u:α} {v w t z:Γ}
theorem DP (q:G b=ZO (ZP v e)) (h1:Mem.rep G x v):RL G (Z4 (ZO (ZX b 0 ZR)) 1 1) [x]:=by have:=Mem.len h1;exact ⟨[v],.cons h1 .nil,RdS.new q (by rw [cL,XY];rw [XU,this,Zk];exact XS _) (by rw [cL,XU,this,Zk]) (XS _)⟩
theorem ve (q:G b=ZO (ZP (wr (wr z 0 v.toList) n w.toList) e)) (hn:Mem.n α=n) (hz:z.size=n+n) (h1:Mem.rep G x v) (h2:Mem.rep G y w):RL G (Z4 (ZO (ZX b 0 ZR)) 2 2) [x,y]:=by
 subst hn;have s1:=Mem.len h1;have s2:=Mem.len h2;refine ⟨[v,w],.cons h1 (.cons h2 .nil),RdS.new q ?_ ?_ (XS _)⟩
 ·rw [XH s1 s2 hz,bK,cL,XY];rw [XT,XU,XU];omega
 ·rw [bK,cL,XT,XU,XU];omega
theorem DQ (q:G b=ZO (ZP (wr (wr (wr z 0 v.toList) n w.toList) (n+n) t.toList) e)) (hn:Mem.n α=n) (hz:z.size=n+n+n) (h1:Mem.rep G x v) (h2:Mem.rep G y w) (h3:Mem.rep G u t):RL G (Z4 (ZO (ZX b 0 ZR)) 3 3) [x,y,u]:=by
 subst hn;have s1:=Mem.len h1;have s2:=Mem.len h2;have s3:=Mem.len h3;refine ⟨[v,w,t],.cons h1 (.cons h2 (.cons h3 .nil)),RdS.new q ?_ ?_ (XS _)⟩
 ·rw [XI s1 s2 s3 hz,bK,bK,cL,<- Yk,XY];rw [XT,XT,XU,XU,XU];omega
 ·rw [bK,bK,cL,XT,XT,XU,XU,XU];omega
end
theorem i6 {k:Nat} {t:Tr} (h:Sx k t) (hk:k<=6):Fit (dia t).1.length:=p7 (h.small hk)
abbrev RT6 (F:PH):VR:=λr F'=>r=ZV ZT/\F.le F'
structure SnK (F G:PH) (b1 b2 b5:Nat) (c n t s:Sl):Prop where
 lF:F.le G
 hT:Tab G
 q1:∃w,G b1=ZO (ZP w 31)/\DV G w aM
 q2:∃w,G b2=ZO (ZP w 31)/\DV G w (dia (tv 0))
 q5:∃w,G b5=ZO (ZP w 31)/\DV G w (dia (ZL ZQ))
 c:RL G c (cO nST).ZJ
 n:RL G n aM.1
 t:RL G t dS
 s:RL G s nST
section
variable {F G G' F1:PH} {b1 b2 b5 b6:Nat} {c n t s p:Sl}
theorem SnK.le (K:SnK F G b1 b2 b5 c n t s) (l:G.le G'):SnK F G' b1 b2 b5 c n t s:=
 ⟨aa K.lF l,K.hT.le l,by obtain ⟨w,a,b⟩:=K.q1;exact ⟨w,l _ _ a,b.le l⟩,by obtain ⟨w,a,b⟩:=K.q2;exact ⟨w,l _ _ a,b.le l⟩,by obtain ⟨w,a,b⟩:=K.q5;exact ⟨w,l _ _ a,b.le l⟩,K.c.le l,K.n.le l,K.t.le l,K.s.le l⟩
theorem SnK.gv (K:SnK F G b1 b2 b5 c n t s) {l:List Pr} (hp:RL G p l):GV G ((cO nST).arr c n t s p Z3 Z3) (sgG l):=
 ⟨c,n,t,s,p,Z3,Z3,rfl,K.c,K.n,K.t,K.s,hp,RL.nil G,RL.nil G⟩
theorem DS {S:Int->Tr} {t u:Tr} (h0:S 0=t) (h1:S 1=u):bv S 2=[dia t,dia u]:=by subst h0 h1;rfl
theorem fg:Sx 2 (tv 0):=Sx.tv (by decide) (by decide)
theorem JA {l:List Pr} (h:MG (sgG l)) (h0:l.length≠0) (h1:l.length<=3):Sz (sgG l):=h.sz (OD h0 h1)
theorem XJ (C:Int->Tr) (h:ja 2 2 sp2 (aF (sgG sp2)) C):bv C 2=[dia (tv 0),dia (tv 0)]:=by
 refine DS (iZ (h.sx 0) fg.1 λc=> ?_) (iZ (h.sx 1) fg.1 λc=> ?_)
 ·rw [jg,<- By (n:=0) (.inl rfl)];exact h.iff 0 c (by decide)
 ·rw [jg,<- By (n:=1) (.inr rfl)];exact h.iff 1 c (by decide)
theorem XK (C:Int->Tr) (h:ja 2 2 sp3 (aF (sgG sp3)) C):bv C 2=[dia (tv 0),dia (ZL ZQ)]:=by refine DS (iZ (h.sx 0) fg.1 λc=> ?_) (vd (h.sx 1) λc hc=>L8 ((h.iff 1 c (by decide)).1 hc));rw [jg,<- L7];exact h.iff 0 c (by decide)
theorem L9 {t u:Tr} (ht:Sx 2 t) (hu:Sx 2 u):∀d∈[dia t,dia u],Fit d.1.length:=λd hd=>by
 rcases XP.1 hd with rfl|hd
 ·exact i6 ht (by decide)
 ·rw [XO.1 hd];exact i6 hu (by decide)
theorem VQ (K:SnK F G b1 b2 b5 c n t s) (h:St G F1 [pt b6 (ZP ((cO nST).arr c n t s p Z3 Z3) 37)]):tN b1 b2 b5 b6 ZT ZT (RT6 F) F1:=by unfold tN;obtain ⟨w1,q1,d1⟩:=K.q1;obtain ⟨w2,q2,d2⟩:=K.q2;obtain ⟨w5,q5,d5⟩:=K.q5;have r1:∀{G' F':PH} {As:List (Ψ)},G.le G'->St G' F' As->F'.row (ZX b1 0 ZR) w1:=λl h=>ac (h.le _ _ (l _ _ q1));have r2:∀{G' F':PH} {As:List (Ψ)},G.le G'->St G' F' As->F'.row (ZX b2 0 ZR) w2:=λl h=>ac (h.le _ _ (l _ _ q2));have e:=al G;refine ⟨w2,d2.size,r2 e h,w1,d1.size,r1 e h,w1,d1.size,r1 e h,?_⟩;refine h.runv (iC 1 _) λG2 F2 l2 h=>⟨_,rfl,r1 l2 h,r1 l2 h,r2 l2 h,?_⟩;refine h.runv (iC 0 _) λG3 F3 l3 h=> ?_;have l3:=aa l2 l3;refine ⟨_,rfl,r1 l3 h,r1 l3 h,r2 l3 h,?_⟩;refine h.runv (iC 1 _) λG4 F4 l4 h=> ?_;have l4:=aa l3 l4;refine ⟨_,rfl,r1 l4 h,r1 l4 h,r2 l4 h,rfl,rfl,rfl,?_⟩;refine h.newG λb166 G5 F5 l5 q166 _ h=> ?_;have l5:=aa l4 l5;have hr1:RL G5 (Z4 (ZO (ZX b166 0 ZR)) 3 3) ([⟨ZQ,1⟩,⟨ZQ,0⟩,⟨ZQ,1⟩]:List Sy):=DQ (n:=2) q166 rfl rfl rfl rfl rfl;refine h.run (dm ⟨#[115]⟩ 0 hr1 (d2.le l5)) λ_ G6 F6 hv6 l6 h=> ?_;obtain ⟨v6,rfl,hv6⟩:=hv6;have l6:=aa l5 l6;refine ⟨v6,rfl,r1 l6 h,r1 l6 h,?_⟩;refine h.runv (kS 0 _) λG7 F7 l7 h=> ?_;have l67:=l7;have l7:=aa l6 l7;refine ⟨_,rfl,r1 l7 h,r1 l7 h,rfl,?_⟩;refine h.newG λb170 G8 F8 l8 q170 _ h=> ?_;have l68:=aa l67 l8;have l8:=aa l7 l8;have hr2:RL G8 (Z4 (ZO (ZX b170 0 ZR)) 1 1) ([⟨ZT,0⟩]:List Sy):=DP q170 rfl;refine h.run (dm ⟨#[116]⟩ 0 hr2 (d1.le l8)) λ_ G9 F9 hv9 l9 h=> ?_;obtain ⟨v9,rfl,hv9⟩:=hv9;have l69:=aa l68 l9;have l9:=aa l8 l9;refine ⟨v9,rfl,r1 l9 h,?_⟩;refine h.run (dm ⟨#[117]⟩ 1 (RL.nil G9) (d1.le l9)) λ_ G10 F10 hv10 l10 h=> ?_;obtain ⟨v10,rfl,hv10⟩:=hv10;refine ⟨v10,rfl,Mem.len hv6,Mem.len hv9,Mem.len hv10,?_⟩;refine h.newG λb174 G11 F11 l11 q174 _ h=> ?_;have l1011:=aa l10 l11;have hps:RL G11 (Z4 (ZO (ZX b174 0 ZR)) 3 3) sp3:=DQ (n:=13) q174 rfl rfl (Mem.le (aa l69 l1011) hv6) (Mem.le l1011 hv9) (Mem.le l11 hv10);have l11:=aa l9 l1011;refine h.set0 (w':=(cO nST).arr c n t s (Z4 (ZO (ZX b174 0 ZR)) 3 3) Z3 Z3) (Z8 rfl) rfl λF12 h=> ?_;have K11:=K.le l11;refine ⟨_,rfl,ac (h.ptAt (i:=0) rfl),?_⟩;refine h.run (lw K11.hT (K11.gv hps) (JA Bw (by decide) (by decide)) sg3.ok) λ_ G13 F13 hr l13 h=> ?_;obtain ⟨sl,ds,rfl,⟨C,hC,rfl⟩,hds⟩:=hr;rw [show bv C (sgG sp3).ZH.length=[dia (tv 0),dia (ZL ZQ)] from XK C hC] at hds;have l13:=aa l11 l13;refine ⟨sl,_,rfl,λ_=>⟨λ_=>⟨λ_=> ?_,λhn=>absurd rfl hn⟩,λhn=>(by cases hn)⟩,λhn=>(by cases hn)⟩;refine ⟨w2,d2.size,r2 l13 h,w5,d5.size,ac (h.le _ _ (l13 _ _ q5)),d2.size,d5.size,?_⟩;refine h.newG λb193 G14 F14 l14 q193 _ h=> ?_;have hl2:RL G14 (Z4 (ZO (ZX b193 0 ZR)) 2 2) [dia (tv 0),dia (ZL ZQ)]:=ve (n:=2) q193 rfl rfl (show DV G14 w2 _ from d2.le (aa l13 l14)) (show DV G14 w5 _ from d5.le (aa l13 l14));refine h.run (dt (hds.le l14) hl2 (L9 fg (Sx.ZL 2 ZQ)) (by decide)) λr G15 F15 hr l15 h=> ?_;subst hr;exact ⟨_,rfl,by rw [ζ rfl],aa K.lF (aa l13 (aa l14 (aa l15 h.le)))⟩
theorem VT (K:SnK F G b1 b2 b5 c n t s) (h:St G F1 [pt b6 (ZP ((cO nST).arr c n t s p Z3 Z3) 37)]):lz b1 b2 b5 b6 ZT (RT6 F) F1:=by
 unfold lz;obtain ⟨w1,q1,d1⟩:=K.q1;obtain ⟨w2,q2,d2⟩:=K.q2;have r1:∀{G' F':PH} {As:List (Ψ)},G.le G'->St G' F' As->F'.row (ZX b1 0 ZR) w1:=λl h=>ac (h.le _ _ (l _ _ q1));have r2:∀{G' F':PH} {As:List (Ψ)},G.le G'->St G' F' As->F'.row (ZX b2 0 ZR) w2:=λl h=>ac (h.le _ _ (l _ _ q2));have e:=al G;refine ⟨w1,d1.size,r1 e h,w2,d2.size,r2 e h,w1,d1.size,r1 e h,?_⟩;refine h.runv (iC 1 _) λG2 F2 l2 h=>⟨_,rfl,r1 l2 h,r2 l2 h,r1 l2 h,rfl,?_⟩;refine h.newG λb131 G3 F3 l3 q131 _ h=> ?_;have l3:=aa l2 l3;have hr1:RL G3 (Z4 (ZO (ZX b131 0 ZR)) 1 1) ([⟨ZQ,1⟩]:List Sy):=DP q131 rfl;refine h.run (dm ⟨#[115]⟩ 0 hr1 (d1.le l3)) λ_ G6 F6 hv6 l6 h=> ?_;obtain ⟨v6,rfl,hv6⟩:=hv6;have l6:=aa l3 l6;refine ⟨v6,rfl,r1 l6 h,r2 l6 h,?_⟩;refine h.runv (iC 0 _) λG7 F7 l7 h=> ?_;have l67:=l7;have l7:=aa l6 l7;refine ⟨_,rfl,r1 l7 h,r2 l7 h,rfl,?_⟩;refine h.newG λb135 G8 F8 l8 q135 _ h=> ?_;have l68:=aa l67 l8;have l8:=aa l7 l8;have hr2:RL G8 (Z4 (ZO (ZX b135 0 ZR)) 1 1) ([⟨ZQ,0⟩]:List Sy):=DP q135 rfl;refine h.run (dm ⟨#[116]⟩ 1 hr2 (d2.le l8)) λ_ G9 F9 hv9 l9 h=> ?_;obtain ⟨v9,rfl,hv9⟩:=hv9;have l69:=aa l68 l9;have l9:=aa l8 l9;refine ⟨v9,rfl,r1 l9 h,?_⟩;refine h.runv (kS 0 _) λG10 F10 l10 h=> ?_;have l910:=l10;have l10:=aa l9 l10;refine ⟨_,rfl,r1 l10 h,rfl,?_⟩;refine h.newG λb139 G11 F11 l11 q139 _ h=> ?_;have l911:=aa l910 l11;have l11:=aa l10 l11;have hr3:RL G11 (Z4 (ZO (ZX b139 0 ZR)) 1 1) ([⟨ZT,0⟩]:List Sy):=DP q139 rfl;refine h.run (dm ⟨#[117]⟩ 1 hr3 (d1.le l11)) λ_ G12 F12 hv12 l12 h=> ?_;obtain ⟨v12,rfl,hv12⟩:=hv12;have l912:=aa l911 l12;have l12:=aa l11 l12;refine ⟨v12,rfl,Mem.len hv6,Mem.len hv9,Mem.len hv12,?_⟩;refine h.newG λb141 G13 F13 l13 q141 _ h=> ?_;have hps:RL G13 (Z4 (ZO (ZX b141 0 ZR)) 3 3) sp2:=DQ (n:=13) q141 rfl rfl (Mem.le (aa l69 (aa l912 l13)) hv6) (Mem.le (aa l912 l13) hv9) (Mem.le l13 hv12);have l13:=aa l12 l13;refine h.set0 (w':=(cO nST).arr c n t s (Z4 (ZO (ZX b141 0 ZR)) 3 3) Z3 Z3) (Z8 rfl) rfl λF14 h=> ?_;have K13:=K.le l13;have sz:=JA Bv (by decide) (by decide);refine ⟨_,rfl,ac (h.ptAt (i:=0) rfl),?_⟩;refine h.run (lw K13.hT (K13.gv hps) sz sg2.ok) λ_ G15 F15 hr l15 h=> ?_;obtain ⟨sl,ds,rfl,⟨C,hC,rfl⟩,hds⟩:=hr;rw [show bv C (sgG sp2).ZH.length=[dia (tv 0),dia (tv 0)] from XJ C hC] at hds;have l1315:=l15;have l15:=aa l13 l15;refine ⟨sl,_,rfl,λ_=> ?_,λhn=>absurd rfl hn⟩;refine ⟨w2,d2.size,r2 l15 h,w2,d2.size,r2 l15 h,d2.size,d2.size,?_⟩;refine h.newG λb154 G16 F16 l16 q154 _ h=> ?_;have hl2:RL G16 (Z4 (ZO (ZX b154 0 ZR)) 2 2) [dia (tv 0),dia (tv 0)]:=ve (n:=2) q154 rfl rfl (show DV G16 w2 _ from d2.le (aa l15 l16)) (show DV G16 w2 _ from d2.le (aa l15 l16));refine h.run (dt (hds.le l16) hl2 (L9 fg fg) (by decide)) λr G17 F17 hr l17 h=> ?_;subst hr;have l1317:=aa l1315 (aa l16 l17);refine ⟨_,rfl,λ_=> ?_,λhn=>(by rw [ζ rfl] at hn;cases hn)⟩;refine ⟨_,rfl,ac (h.ptAt (i:=0) rfl),?_⟩;have K17:=K13.le l1317;refine h.run (ly K17.hT (K17.gv (hps.le l1317)) sz sg2.ok) λ_ G18 F18 hr l18 h=> ?_;have hcy:iY (sgG sp2):=⟨0,λ_=>ZT,by decide,(By (c:=λ_=>ZT) (n:=0) (.inl rfl)).2 rfl⟩;rcases hr with ⟨_,rfl⟩|⟨hn,_⟩
 ·exact ⟨_,rfl,VQ (K17.le l18) h⟩
 ·exact absurd hcy hn
theorem Ma {F:PH} (hT:Tab F):ν 12 #[] F (RT6 F):=by
 refine XE ?_;unfold VM;refine (St.start F).run (gf F) λr G1 F1 hr l1 h=> ?_;obtain ⟨w1,rfl,d1⟩:=hr;refine ⟨w1,rfl,?_⟩;refine h.var d1.st (λb1 G2 F2 l2 q1 h=> ?_) rfl d1.size;have d1:=d1.le l2;have l2:=aa l1 l2;refine h.run (jN 0 (by decide) _) λr G3 F3 hr l3 h=> ?_;obtain ⟨w2,rfl,d2⟩:=hr;refine ⟨w2,rfl,?_⟩;refine h.var d2.st (λb2 G4 F4 l4 q2 h=> ?_) rfl d2.size;have d2:=d2.le l4;have l24:=aa l3 l4;refine h.run (jN 1 (by decide) _) λr G5 F5 hr l5 h=> ?_;obtain ⟨w3,rfl,d3⟩:=hr;refine ⟨w3,rfl,?_⟩;refine h.var d3.st (λb3 G6 F6 l6 q3 h=> ?_) rfl d3.size;have d3:=d3.le l6;have l46:=aa l5 l6;refine ⟨w2,d2.size,ac (h.le _ _ (l46 _ _ q2)),w3,d3.size,ac (h.le _ _ q3),?_⟩;have tv1_ok:Sx 2 (tv 1):=Sx.tv (by decide) (by decide);refine h.run (P:=λr G'=>∃u,r=ZU u/\DV G' u (dia tJ)) ((iL (d2.le l46) d3 (fg.f2 tv1_ok (by decide))).mono λ_ _ ⟨w,h1,h2,h3⟩=>⟨⟨w,h1,h2⟩,h3⟩) λ_ G7 F7 hr l7 h=> ?_;obtain ⟨w4,rfl,d4⟩:=hr;refine ⟨w4,rfl,?_⟩;refine h.var d4.st (λb4 G8 F8 l8 q4 h=> ?_) rfl d4.size;have d4:=d4.le l8;have l68:=aa l7 l8;refine h.run (P:=λr G'=>∃u,r=ZU u/\DV G' u (dia (ZL ZQ))) ((cv ZQ).mono λ_ _ ⟨w,h1,h2,h3⟩=>⟨⟨w,h1,h2⟩,h3⟩) λ_ G9 F9 hr l9 h=> ?_;obtain ⟨w5,rfl,d5⟩:=hr;refine ⟨w5,rfl,?_⟩;refine h.var d5.st (λb5 G10 F10 l10 q5 h=> ?_) rfl d5.size;have d5:=d5.le l10;have l810:=aa l9 l10;refine h.newG λb26 G11 F11 l11 q26 _ h=> ?_;have hns:RL G11 (Z4 (ZO (ZX b26 0 ZR)) 2 2) nST:=RL.strs.2 (RdS.new q26 rfl rfl (XS _));refine h.run (nF hns) λ_ G12 F12 hr l12 h=> ?_;obtain ⟨c,n,t,rfl,hc,hn,ht,hs⟩:=hr;refine ⟨_,rfl,?_⟩;refine h.new λb6 F13 h=> ?_;refine h.put0 (w':=(cO nST).arr c n t (Z4 (ZO (ZX b26 0 ZR)) 2 2) Z3 Z3 Z3) rfl rfl (by simp [am,ZS]) λF14 h=> ?_;have l1012:=aa l11 l12;have l812:=aa l810 l1012;have l612:=aa l68 l812;have l412:=aa l46 l612;have l212:=aa l24 l412;have l012:=aa l2 l212;have K:SnK F G12 b1 b2 b5 c n t (Z4 (ZO (ZX b26 0 ZR)) 2 2):=⟨l012,hT.le l012,⟨w1,l212 _ _ q1,d1.le l212⟩,⟨w2,l412 _ _ q2,d2.le l412⟩,⟨w5,l1012 _ _ q5,d5.le l1012⟩,hc,hn,ht,hs⟩;generalize Z4 (ZO (ZX b26 0 ZR)) 2 2=s at*;have q1:=l212 _ _ q1;have d1:=d1.le l212;have q2:=l412 _ _ q2;have d2:=d2.le l412;have q3:=l612 _ _ q3;have d3:=d3.le l612;have q4:=l812 _ _ q4;have d4:=d4.le l812;have r1:∀{G' F':PH} {As:List (Ψ)},G12.le G'->St G' F' As->F'.row (ZX b1 0 ZR) w1:=λl h=>ac (h.le _ _ (l _ _ q1));have r2:∀{G' F':PH} {As:List (Ψ)},G12.le G'->St G' F' As->F'.row (ZX b2 0 ZR) w2:=λl h=>ac (h.le _ _ (l _ _ q2));have r3:∀{G' F':PH} {As:List (Ψ)},G12.le G'->St G' F' As->F'.row (ZX b3 0 ZR) w3:=λl h=>ac (h.le _ _ (l _ _ q3));have e:=al G12;refine ⟨w1,d1.size,r1 e h,w2,d2.size,r2 e h,w3,d3.size,r3 e h,?_⟩;refine h.runv (kS 0 _) λG13 F15 l13 h=>⟨_,rfl,r3 l13 h,r2 l13 h,r1 l13 h,?_⟩;refine h.runv (iC 1 _) λG14 F16 l14 h=> ?_;have l14:=aa l13 l14;refine ⟨_,rfl,r3 l14 h,r2 l14 h,r1 l14 h,rfl,rfl,?_⟩;refine h.newG λb31 G15 F17 l15 q31 _ h=> ?_;have l15:=aa l14 l15;have hr1:RL G15 (Z4 (ZO (ZX b31 0 ZR)) 2 2) ([⟨ZT,0⟩,⟨ZQ,1⟩]:List Sy):=ve (n:=2) q31 rfl rfl rfl rfl;refine h.run (dm ⟨#[115]⟩ 0 hr1 (d1.le l15)) λ_ G16 F18 hv1 l16 h=> ?_;obtain ⟨v1,rfl,hv1⟩:=hv1;have l16:=aa l15 l16;refine ⟨v1,rfl,r3 l16 h,r2 l16 h,?_⟩;refine h.run (dm ⟨#[116]⟩ 1 (RL.nil G16) (d2.le l16)) λ_ G17 F19 hv2 l17 h=> ?_;obtain ⟨v2,rfl,hv2⟩:=hv2;have m17:=l17;have l17:=aa l16 l17;refine ⟨v2,rfl,r3 l17 h,?_⟩;refine h.runv (kS 1 _) λG18 F20 l18 h=> ?_;have m18:=l18;have l18:=aa l17 l18;refine ⟨_,rfl,r3 l18 h,?_⟩;refine h.runv (iC 1 _) λG19 F21 l19 h=> ?_;have m19:=aa m18 l19;have l19:=aa l18 l19;refine ⟨_,rfl,r3 l19 h,rfl,rfl,?_⟩;refine h.newG λb38 G20 F22 l20 q38 _ h=> ?_;have m20:=aa m19 l20;have l20:=aa l19 l20;have hr3:RL G20 (Z4 (ZO (ZX b38 0 ZR)) 2 2) ([⟨ZT,1⟩,⟨ZQ,1⟩]:List Sy):=ve (n:=2) q38 rfl rfl rfl rfl;refine h.run (dm ⟨#[117]⟩ 1 hr3 (d3.le l20)) λ_ G21 F23 hv3 l21 h=> ?_;obtain ⟨v3,rfl,hv3⟩:=hv3;have m21:=aa m20 l21;have l21:=aa l20 l21;refine ⟨v3,rfl,Mem.len hv1,Mem.len hv2,Mem.len hv3,?_⟩;refine h.newG λb40 G22 F24 l22 q40 _ h=> ?_;have m22:=aa m21 l22;have hps:RL G22 (Z4 (ZO (ZX b40 0 ZR)) 3 3) sp1:=DQ (n:=13) q40 rfl rfl (Mem.le (aa m17 m22) hv1) (Mem.le m22 hv2) (Mem.le l22 hv3);have l22:=aa l21 l22;refine h.set0 (w':=(cO nST).arr c n t s (Z4 (ZO (ZX b40 0 ZR)) 3 3) Z3 Z3) (Z8 rfl) rfl λF25 h=> ?_;have K22:=K.le l22;have gv22:=K22.gv hps;have sz:=JA Bu (by decide) (by decide);have hk:=sg1.ok;have hl:∀x∈(sgG sp1).ZG,x.right.length<=1000000:=by decide
 have hp:(sgG sp1).ZG.length<=1000000:=by decide
 have hns2:(sgG sp1).ZH.length<=1000000:=by decide
 have hts2:(sgG sp1).ZI.length<=1000000:=by decide
 refine ⟨_,rfl,ac (h.ptAt (i:=0) rfl),?_⟩;refine h.run (lC K22.hT gv22 sz hk hl hp hns2) λ_ G23 F26 hr l23 h=> ?_;obtain ⟨sl1,S1,rfl,i1,h1⟩:=hr;refine ⟨sl1,_,rfl,_,rfl,ac (h.ptAt (i:=0) rfl),?_⟩;refine h.run (js (K22.le l23).hT (gv22.le l23) sz hk hl hp hns2) λ_ G24 F27 hr l24 h=> ?_;obtain ⟨sl2,S2,rfl,i2,h2⟩:=hr;have n24:=aa l23 l24;refine ⟨sl2,_,rfl,_,rfl,ac (h.ptAt (i:=0) rfl),?_⟩;refine h.run (D6 (K22.le n24).hT (gv22.le n24) sz hk hl hp hts2 hns2) λ_ G25 F28 hr l25 h=> ?_;obtain ⟨sl3,rows,rfl,⟨S3,i3,rfl⟩,h3⟩:=hr;have n25:=aa n24 l25;refine ⟨sl3,_,rfl,_,rfl,ac (h.ptAt (i:=0) rfl),?_⟩;refine h.run (qW (K22.le n25).hT (gv22.le n25) sz hk hl hp) λ_ G26 F29 hr l26 h=> ?_;obtain ⟨sl4,us,rfl,⟨U,i4,rfl⟩,h4⟩:=hr;have n26:=aa n25 l26;have o26:=aa l22 n26;refine ⟨sl4,_,rfl,λhn=>absurd rfl hn,λ_=>⟨λhn=>absurd rfl hn,λ_=>⟨λhn=>absurd rfl hn,λ_=>⟨λhn=>absurd rfl hn,λ_=> ?_⟩⟩⟩⟩;have el3:sl3.len=2:=h3.len;have el4:sl4.len=3:=h4.len;have et:t.len=11:=K.t.len;refine ⟨λhn=>absurd (by rw [el3];rfl) hn,λ_=> ?_⟩;refine ixc (h3.le l26) (by decide) (by omega) (by rw [el3];decide) λa83 c83 row hrow hrw hc83=> ?_;have hrow':(lH S3 (sgG sp1).ZI.length (sgG sp1).ZH.length)[1]? =ZO row:=hrow;obtain rfl:row=vI S3 11 1:=(Yh hrow').symm;obtain ⟨sr,rfl,hsr⟩:=hc83;have elr:sr.len=11:=by have:=hsr.len;rw [this];unfold vI;rw [XW,Yq]
 have c84:∀{G' F':PH} {As:List (Ψ)},G26.le G'->St G' F' As->F'.cell (ZW a83 (ZY (1:Int)*1))=ZO (ZS sr):=λl h=>aS (aT (aa l h.le) hrw) rfl;have e26:=al G26;refine ⟨sr,c84 e26 h,t,ld (h.ptAt (i:=0) rfl) rfl,λhn=>absurd (by rw [elr,et]) hn,λ_=>⟨λhn=>absurd (by rw [el4];rfl) hn,λ_=> ?_⟩⟩;refine ⟨w5,d5.size,ac (h.le _ _ (o26 _ _ (l1012 _ _ q5))),w2,d2.size,r2 o26 h,d5.size,d2.size,?_⟩;refine h.newG λb99 G27 F30 l27 q99 _ h=> ?_;have o27:=aa o26 l27;have hl99:RL G27 (Z4 (ZO (ZX b99 0 ZR)) 2 2) [dia (ZL ZQ),dia (tv 0)]:=ve (n:=2) q99 rfl rfl (show DV G27 w5 _ from d5.le (aa l1012 o27)) (show DV G27 w2 _ from d2.le o27);have z1:bv S1 (sgG sp1).ZH.length=[dia (ZL ZQ),dia (tv 0)]:=DS (vd (i1.sx 0) λc hc=>L6 ((i1.iff 0 c).1 hc)) (iZ (i1.sx 1) fg.1 λc=>by rw [i1.iff,jg];exact ⟨tI,ko⟩);have z2:bv S2 (sgG sp1).ZH.length=[dia (tv 0),dia (tv 0)]:=DS (iZ (i2.sx 0) fg.1 λc=>by rw [i2.iff,jg];exact ⟨tI,L5⟩) (iZ (i2.sx 1) fg.1 λc=>by rw [i2.iff,jg];exact ⟨tI,λh=>(ko h).up⟩);rw [z1] at h1;rw [z2] at h2;refine h.run (dt (h1.le (aa l24 (aa l25 (aa l26 l27)))) hl99 (L9 (Sx.ZL 2 ZQ) fg) (by decide)) λr G28 F31 hr l28 h=> ?_;subst hr;have o28:=aa o27 l28;refine ⟨_,rfl,λ_=> ?_,λhn=>(by rw [ζ rfl] at hn;cases hn)⟩;refine ⟨w2,d2.size,r2 o28 h,w2,d2.size,r2 o28 h,d2.size,d2.size,?_⟩;refine h.newG λb105 G29 F32 l29 q105 _ h=> ?_;have o29:=aa o28 l29;have hl105:RL G29 (Z4 (ZO (ZX b105 0 ZR)) 2 2) [dia (tv 0),dia (tv 0)]:=ve (n:=2) q105 rfl rfl (show DV G29 w2 _ from d2.le o29) (show DV G29 w2 _ from d2.le o29);refine h.run (dt (h2.le (aa l25 (aa l26 (aa l27 (aa l28 l29))))) hl105 (L9 fg fg) (by decide)) λr G30 F33 hr l30 h=> ?_;subst hr;have o30:=aa o29 l30;have p30:=aa l27 (aa l28 (aa l29 l30));refine ⟨_,rfl,λ_=> ?_,λhn=>(by rw [ζ rfl] at hn;cases hn)⟩;refine ixc (h3.le (aa l26 p30)) (by decide) (by omega) (by rw [el3];decide) λa110 c110 row2 hrow2 hrw2 hc110=> ?_;have hrow2':(lH S3 (sgG sp1).ZI.length (sgG sp1).ZH.length)[1]? =ZO row2:=hrow2;obtain rfl:row2=vI S3 11 1:=(Yh hrow2').symm;obtain ⟨sr2,rfl,hsr2⟩:=hc110;have c110:∀{G' F':PH} {As:List (Ψ)},G30.le G'->St G' F' As->F'.cell (ZW a110 (ZY (1:Int)*1))=ZO (ZS sr2):=λl h=>aS (aT (aa l h.le) hrw2) rfl;have elr2:sr2.len=11:=by have:=hsr2.len;rw [this];unfold vI;rw [XW,Yq]
 refine ⟨sr2,c110 (al _) h,?_⟩;refine ixc hsr2 (by decide) (by omega) (by rw [elr2];decide) λa112 c112 dd hdd hrw112 hc112=>⟨c112,Mem.len hc112,aT h.le hrw112,w4,d4.size,ac (h.le _ _ (o30 _ _ q4)),?_⟩;have hdd':(vI S3 11 1)[1]? =ZO dd:=hdd;have z3:S3 ((1:Int),(1:Int))=tJ:=iZ (i3.sx _) qK.1 λc=>by rw [i3.iff,DO];exact Qu
 obtain rfl:dd=dia tJ:=by rw [<- z3];exact (Yh hdd').symm
 refine h.run (gj (show DV G30 c112 _ from hc112) (d4.le o30) (i6 qK (by decide))) λr G31 F34 hr l31 h=> ?_;subst hr;have o31:=aa o30 l31;refine ⟨_,rfl,c110 l31 h,λ_=> ?_,λhn=>(by rw [ζ rfl] at hn;cases hn)⟩;refine ixc (h4.le (aa p30 l31)) (by decide) (by omega) (by rw [el4];decide) λa119 c119 du hdu hrw119 hc119=>⟨c119,Mem.len hc119,aT h.le hrw119,w4,d4.size,ac (h.le _ _ (o31 _ _ q4)),?_⟩;have hdu':(fJ U (sgG sp1).ZG.length)[2]? =ZO du:=hdu;have efam:tre (sgG sp1).fam=ZL ZT:=iK (t:=ZL ZT) trivial;have z4:U 2=tJ:=iZ (i4.sx _) qK.1 λc=>by rw [i4.iff 2 c (by decide),DO,efam];exact Qv
 obtain rfl:du=dia tJ:=by rw [<- z4];exact (Yh hdu').symm
 refine h.run (gj (show DV G31 c119 _ from hc119) (d4.le o31) (i6 qK (by decide))) λr G32 F35 hr l32 h=> ?_;subst hr;refine ⟨_,rfl,c110 (aa l31 l32) h,λ_=> ?_,λhn=>(by rw [ζ rfl] at hn;cases hn)⟩;refine ⟨_,rfl,ac (h.ptAt (i:=0) rfl),?_⟩;have n32:=aa n26 (aa p30 (aa l31 l32));refine h.run (ly (K22.le n32).hT (gv22.le n32) sz hk) λ_ G33 F36 hr l33 h=> ?_;have hno:¬iY (sgG sp1):=by rintro ⟨m,c,_,tg⟩;obtain ⟨d,hd⟩:=tg.head;exact Qw hd
 rcases hr with ⟨hc,_⟩|⟨_,rfl⟩
 ·exact absurd hc hno
 ·exact ⟨_,rfl,c110 (aa l31 (aa l32 l33)) h,VT ((K22.le n32).le l33) h⟩
end
section
variable {F G:PH} {g g':Gr} {c m s:Sl}
theorem St.elR {G F:PH} {As:List (Ψ)} {s:Sl} {e n k:Nat} {vs:List Γ} {c:Γ} (h:St G F As) (i:Nat) (hi:As[i]? =ZO (own s e n (cat vs))) (hn:∀d∈vs,d.size=n) (hk:vs[k]? =ZO c) (h0:0<n) (hd:((cat vs).drop (k*n)).take n=c.toList) {K:Addr->Prop}
  (kk:∀x:Addr,F.row (ZW x (ZY (k:Int)*n)) c->K x):∃x:Addr,s.ZK=ZO x/\0<=(k:Int)/\(k:Int)<(s.len:Int)/\K x:=by
 obtain ⟨b,cur,h1,h2,_⟩:=h.elAt i hi hn hk h0;refine ⟨_,h1,by omega,by omega,kk _ ?_⟩;rw [N5];refine (bX.rd (h.ownAt hi).1).row h1 _ c ?_;rw [hn c (XQ hk)];exact hd.symm
theorem Mb {b e n k:Nat} {c:Γ} {H:PH} (h:H b=ZO (ZP c e)) (hc:c.size=k*n):own (Z4 (ZO (ZX b 0 ZR)) k k) e n c.toList H:=
 .inr ⟨b,c,rfl,h,hc,XS _,by rw [XU,hc],XY (by rw [XU,hc];exact XS _)⟩
end
section
end
section
end
section
end
theorem lA {F:PH} {a:Addr} {y:Int} {K:Int->Prop} (h:F.cell a=ZO (vi y)):(∃v:Int,F.cell a=ZO (Z0 .i64 v)/\K v)↔K y:=
 ⟨λ⟨v,hv,k⟩=>by rw [h] at hv;cases hv;exact k,λk=>⟨y,h,k⟩⟩
theorem DT {k:Int} (h:0<=k/\k<=4):mJ k=ar k/\0<=ar k:=by
 unfold mJ ar;split
 ·exact ⟨rfl,by omega⟩
 ·split
  ·exact ⟨rfl,by omega⟩
  ·rw [Χ (by omega)];exact ⟨rfl,by omega⟩
theorem zl {k:Int} (h:0<=ar k):0<=k/\k<=4:=by have:=sT h;omega
section
variable {F:PH}
theorem BN {s:Sl} {l:List Nd} (hs:RdS F s 5 (d7 l)) {i:Nat} {x:Nd} (hx:l[i]? =ZO x) (hi9:(i:Int)<9223372036854775807):ν 211 #[s.v,vi i] F λr F'=>(∃b:Bool,r=ZV b/\(b=ZT↔okN i x))/\F.le F':=by
 obtain ⟨a,ha,hrow⟩:=rdn hs hx;have hlen:=hs.nlen;have hi:=(XN.1 hx).1;refine Ul ?_;unfold Oa;refine ⟨a,ha,by omega,by omega,x.arr,rfl,hrow,λb5 hb5=> ?_⟩;refine atI ?_;refine stW (au _ _ _) rfl rfl (gI x) ?_;rw [aW];have l5:F.le (F.set b5 (ZP x.arr 149)):=ae _ hb5;have q5:=au F b5 (ZP x.arr 149);generalize F.set b5 (ZP x.arr 149)=F1 at*;have c0:F1.cell (ZX b5 0 ZR)=ZO (vi x.k):=by rw [av q5];rfl
 have c1:F1.cell (ZX b5 1 ZR)=ZO (vi x.lo):=by rw [av q5];rfl
 have c2:F1.cell (ZX b5 2 ZR)=ZO (vi x.hi):=by rw [av q5];rfl
 have c3:F1.cell (ZX b5 3 ZR)=ZO (vi x.a):=by rw [av q5];rfl
 have c4:F1.cell (ZX b5 4 ZR)=ZO (vi x.b):=by rw [av q5];rfl
 refine ⟨x.k,c0,?_⟩;refine (kK F1 x.k).mono ?_;rintro _ F2 ⟨rfl,e⟩;obtain rfl:=e.symm;have K:∀b:Bool,(b=ZT↔okN i x)->(∃b':Bool,ZV b=ZV b'/\(b'=ZT↔okN i x))/\F.le F1:=λb hb=>⟨⟨b,rfl,hb⟩,l5⟩;refine ⟨_,_,rfl,λhk=>K _ ?_,λhk=> ?_⟩
 ·have hk':¬(0<=x.k/\x.k<=4):=by
   have:decide (0<=x.k/\x.k<=4)=ZQ:=by simpa only [eQ,YZ] using hk
   exact η this
  exact ⟨λh=>by (cases h),λh=>absurd (zl h.1) hk'⟩
 have hk':0<=x.k/\x.k<=4:=by simpa [eQ] using hk
 obtain ⟨hn,hn0⟩:=DT hk';rw [hn];clear hk hn;have f1:∀(P:Prop),¬P->(ZQ=ZT↔P):=λP h=>⟨λh=>by (cases h),λh'=>absurd h' h⟩;have t1:∀(P:Prop),P->(ZT=ZT↔P):=λP h=>⟨λ_=>h,λ_=>rfl⟩;have j2:(ar x.k<1->x.a=0)->(ar x.k<2->x.b=0)->(x.k=1->0<=x.lo/\x.lo<=x.hi/\x.hi<=255)->(x.k≠1->x.lo=0/\x.hi=0)->j7 i b5 (ar x.k) (λr F'=>(∃b':Bool,r=ZV b'/\(b'=ZT↔okN i x))/\F.le F') F1:=λha hb h1 h2=>by have e:okN i x↔(1<=ar x.k->0<=x.a/\x.a<i)/\(2<=ar x.k->0<=x.b/\x.b<i):=⟨λh=>⟨h.2.2.2.2.2.1,h.2.2.2.2.2.2⟩,λh=>⟨hn0,h1,h2,ha,hb,h.1,h.2⟩⟩;unfold j7;simp only [lA c3,lA c4];refine ⟨λh=>⟨λh'=>K _ (t1 _ (e.2 ⟨by omega,by omega⟩)),λh'=>absurd h' (by omega)⟩,λh=>⟨λh3=>⟨λh4=>⟨λh5=>K _ (t1 _ (e.2 ⟨λ_=>⟨h3,h4⟩,by omega⟩)),λh5=>⟨λh6=>K _ ?_,λh6=>K _ (f1 _ λho=>h6 ((e.1 ho).2 (by omega)).1)⟩⟩,λh4=>K _ (f1 _ λho=>h4 ((e.1 ho).1 (by omega)).2)⟩,λh3=>K _ (f1 _ λho=>h3 ((e.1 ho).1 (by omega)).1)⟩⟩;rw [δ,e];exact ⟨λh7=>⟨λ_=>⟨h3,h4⟩,λ_=>⟨h6,h7⟩⟩,λh7=>(h7.2 (by omega)).2⟩
 have j1:(x.k=1->0<=x.lo/\x.lo<=x.hi/\x.hi<=255)->(x.k≠1->x.lo=0/\x.hi=0)->qr i b5 (ar x.k) (λr F'=>(∃b':Bool,r=ZV b'/\(b'=ZT↔okN i x))/\F.le F') F1:=λh1 h2=>by unfold qr;simp only [lA c3,lA c4];refine ⟨λh=>⟨λh3=>K _ (f1 _ λho=>h3 (ho.2.2.2.1 h)),λh3=>⟨λh4=>⟨λh5=>K _ (f1 _ λho=>h5 (ho.2.2.2.2.1 h4)),λh5=>j2 (λ_=>by omega) (λ_=>by omega) h1 h2⟩,λh4=>absurd h4 (by omega)⟩⟩,λh=>⟨λh4=>⟨λh5=>K _ (f1 _ λho=>h5 (ho.2.2.2.2.1 h4)),λh5=>j2 (λh=>by omega) (λ_=>by omega) h1 h2⟩,λh4=>j2 (λh=>by omega) (λh=>by omega) h1 h2⟩⟩
 simp only [lA c0,lA c1,lA c2]
 refine ⟨λh=>⟨λh1=>K _ (f1 _ λho=>h1 (ho.2.2.1 h).1),λh1=>⟨λh2=>K _ (f1 _ λho=>h2 (ho.2.2.1 h).2),λh2=>⟨λh3=>absurd h3 (by omega),λh3=>⟨λh4=>absurd h4 (by omega),λh4=>⟨λh5=>absurd h5 (by omega),λh5=>j1 (λh6=>absurd h6 h) (λ_=>⟨by omega,by omega⟩)⟩⟩⟩⟩⟩,
  λh=>⟨λh1=>K _ (f1 _ λho=>by have:=ho.2.1 (by omega);omega),λh1=>⟨λh2=>K _ (f1 _ λho=>by have:=ho.2.1 (by omega);omega),λh2=>⟨λh3=>K _ (f1 _ λho=>by have:=ho.2.1 (by omega);omega),λh3=>j1 (λ_=>⟨by omega,by omega,by omega⟩) (λh6=>absurd (by omega) h6)⟩⟩⟩⟩
def pm (n:Nat) (W:Φ):Ξ:=(List.range n).map λ(i:Nat)=>vi (W.count (i:Int):Nat)
theorem JB {n:Nat} {W:Φ} {i:Nat} (hi:i<n):(pm n W).toArray[i]? =ZO (vi (W.count (i:Int):Nat)):=by simp [pm,hi]
theorem JC (n:Nat) (W:Φ) (i:Nat) (hi:i<n):(pm n W).toArray.setIfInBounds i (vi ((W.count (i:Int)+1:Nat):Int))=(pm n ((i:Int)::W)).toArray:=by
 apply Array.ext';rw [Array.toList_setIfInBounds];apply Yx;intro j;rw [Ze];simp only [pm,XW,Yq,X2];by_cases h:i=j
 ·subst h;rw [Χ rfl,Χ hi,Yo hi];simp
 ·rw [Υ h];by_cases hj:j<n
  ·rw [Yo hj];simp only [YD];rw [List.count_cons_of_ne (by omega)]
  ·rw [Yi (by simp;omega)];rfl
structure Cnt (F0 F:PH) (u n:Nat) (W:Φ):Prop where
 zu:F0 u=ZR
 le:F0.le F
 qu:F u=ZO (ZP (pm n W).toArray 3)
theorem Cnt.cell {F0 F:PH} {u n:Nat} {W:Φ} (h:Cnt F0 F u n W) {k:Int} (h0:0<=k) (h1:k<n):F.cell ((ZX u 0 ZR).add (ZY k*1))=ZO (vi (W.count k:Nat)):=by obtain ⟨i,rfl⟩:=YH h0;rw [N5,Yj,show (ZX u 0 ZR).add i=⟨u,i,ZR⟩ by simp [ZW];omega,av h.qu];exact JB (by omega)
theorem Cnt.inc {F0 F:PH} {u n:Nat} {W:Φ} (h:Cnt F0 F u n W) {k:Int} (h0:0<=k) (h1:k<n) (hW:W.length<=100000) {K:Ψ} (hk:∀F',Cnt F0 F' u n (k::W)->K F'):
  ∃c e,F (ZW (ZX u 0 ZR) (ZY k*1)).block=ZO (ZP c e (0,0))/\(ZW (ZX u 0 ZR) (ZY k*1)).spot=ZR/\(ZW (ZX u 0 ZR) (ZY k*1)).off<c.size/\
   atF (F.set (ZW (ZX u 0 ZR) (ZY k*1)).block (ZP (c.setIfInBounds (ZW (ZX u 0 ZR) (ZY k*1)).off (Z0 .i64 (i64.wrap ((W.count k:Nat)+(1:Int))))) e)) K:=by
 obtain ⟨i,rfl⟩:=YH h0;have hc:W.count (i:Int)<=W.length:=List.count_le_length;rw [fF (by omega)];refine tf (b:=u) (o:=i) (by rw [N5,Yj];simp [ZW];omega) h.qu (by simp [pm];omega) ?_;rw [JC n W i (by omega)];exact hk _ ⟨h.zu,aA h.le h.zu,au _ _ _⟩
theorem DU:∀(l:List Nd),(usL l).length<=2*l.length
 |[]=>XS _
 |x::l=>by
  have:=DU l;have:(us x).length<=2:=by unfold us;split<;>(try split)<;>simp
  simp only [usL,XT,X4];omega
def JD (l:List Nd) (j:Nat):Prop:=∀i x,i<j->l[i]? =ZO x->okN i x
theorem Fs {l:List Nd} {j:Nat} (h:JD l j):∀k∈usL (l.take j),0<=k/\k+1<j:=by
 induction j with
 |zero=>intro k hk;simp [usL] at hk
 |succ j ih=>
  intro k hk;by_cases hj:j<l.length
  ·have hx:=N6 hj;have ho:=h j _ (by omega) hx;rw [Yy,hx] at hk;simp only [Option.toList_some,jF,XR] at hk;rcases hk with hk|hk
   ·unfold us at hk;obtain ⟨h0,h1,h2,h3,h4,h5,h6⟩:=ho;split at hk
    ·rename_i h2';have:=h5 (by omega);have:=h6 (by omega);simp at hk;rcases hk with rfl|rfl<;>omega
    ·split at hk
     ·rename_i h1';have:=h5 (by omega);simp at hk;subst hk;omega
     ·simp at hk
   ·have:=ih (λi x hi=>h i x (by omega)) k hk;omega
  ·rw [XY (by omega)] at hk;have:=ih (λi x hi=>h i x (by omega)) k (by rw [XY (by omega)];exact hk);omega
theorem JE {l:List Nd} (h:JD l l.length):GoodL l↔l≠[]/\∀i:Nat,i+1<l.length->(usL l).count (i:Int)=1:=by
 have hb:=Fs h;rw [XZ] at hb;constructor
 ·rintro ⟨h1,h2,h3,h4⟩;refine ⟨h1,λi hi=> ?_⟩;have:=List.nodup_iff_count.1 h3 (i:Int);have:=List.count_pos_iff.2 (h4 i hi);omega
 ·rintro ⟨h1,h2⟩;refine ⟨h1,λi x hx=>h i x (XN.1 hx).1 hx,List.nodup_iff_count.2 λa=> ?_,λi hi=>List.count_pos_iff.1 (by rw [h2 i hi];decide)⟩;by_cases ha:a∈usL l
  ·obtain ⟨a0,a1⟩:=hb a ha;obtain ⟨k,rfl⟩:=YH a0;rw [h2 k (by omega)];exact XS _
  ·rw [List.count_eq_zero.2 ha];omega
theorem Mc:tsz prog 3=ZO (1,8):=by kernel_rfl
theorem Md:bP prog 3=ZO (Z0 .i64 0):=by kernel_rfl
theorem Me:prog.underlying 67=ZO (.slice 3):=by kernel_rfl
theorem kO {s:Sl} {l:List Nd} (hs:RdS F s 5 (d7 l)):ν 198 #[s.v] F λr F'=>r=vi (fL l)/\F.le F':=by
 have hlen:=hs.nlen;refine Uj ?_;unfold N8;refine ⟨λh=>⟨?_,al F⟩,λh=> ?_⟩
 ·have e:fL l=2:=by unfold fL;rw [Χ (by omega)]
  rw [e]
 have hl:l.length<=512:=by omega
 refine bW Me Mc Md rfl (by omega) (Zv _) (by omega) (by omega) ?_;intro u hu;rw [zc1 _ rfl,N5,hlen];have em:(List.replicate l.length (vi 0)).toArray=(pm l.length []).toArray:=by
  congr 1;apply Yx;intro j;by_cases hj:j<l.length
  ·simp [pm,hj]
  ·rw [Yi (by simp;omega),Yi (by simp [pm];omega)]
 rw [em];refine ⟨_,rfl,?_⟩;have hU:Cnt F (F.set u (ZP (pm l.length []).toArray 3)) u l.length []:=⟨hu,ae _ hu,au _ _ _⟩;generalize F.set u (ZP (pm l.length []).toArray 3)=F1 at*;have bad:∀{F':PH},¬GoodL l->F.le F'->vi 40=vi (fL l)/\F.le F':=λh hl'=>⟨by rw [yH hl h],hl'⟩;refine ⟨λm i F'=>∃j:Nat,i=j/\j<=l.length/\m=l.length - j/\JD l j/\Cnt F F' u l.length (usL (l.take j)),l.length,⟨0,rfl,by omega,rfl,λi x hi=>by omega,by simpa [usL] using hU⟩,?_⟩;clear hU;rintro _ _ F2 ⟨j,rfl,hj,rfl,hg,hW⟩;unfold Dl;refine ⟨λhlt=> ?_,λhge=> ?_⟩
 ·have hjl:j<l.length:=by omega
  have hx:l[j]? =ZO l[j]:=N6 hjl;generalize l[j]=x at hx;refine (BN (hs.le hW.le) hx (by omega)).mono ?_;rintro _ F3 ⟨⟨b,rfl,hb⟩,l3⟩;have hW3:Cnt F F3 u l.length (usL (l.take j)):=⟨hW.zu,aa hW.le l3,l3 _ _ hW.qu⟩;refine ⟨b,rfl,λhbf=>bad (λhG=> ?_) hW3.le,λhbt=> ?_⟩
  ·have:=hb.2 (hG.ok j x hx);rw [this] at hbf;cases hbf
  have hok:okN j x:=hb.1 (by simpa using hbt);have hok1:JD l (j+1):=λi y hi hy=>by
   by_cases hij:i=j
   ·subst hij;rw [hx] at hy;cases hy;exact hok
   ·exact hg i y (by omega) hy
  obtain ⟨a,ha,hrow⟩:=rdn (hs.le hW3.le) hx;have hk4:=zl hok.1;obtain ⟨hn,hn0⟩:=DT hk4;have cl:∀{F':PH},F.le F'->∀(o:Nat) (y:ξ),o<5->x.arr[o]? =ZO y->F'.cell ((a.add (j*5)).add o)=ZO y:=λhle o y ho hy=>by obtain ⟨a',ha',hrow'⟩:=rdn (hs.le hle) hx;rw [ha] at ha';cases ha';have:=hrow' o (by show o<5;exact ho);rw [this];rw [<- hy];exact (Yc (xs:=x.arr) (i:=o) _).symm
  refine ⟨a,ha,by omega,by omega,x.k,by have:=cl hW3.le 0 (vi x.k) (by omega) rfl;exact this,?_⟩;refine (kK F3 x.k).mono ?_;rintro _ F4 ⟨rfl,e⟩;obtain rfl:=e.symm;refine ⟨_,_,rfl,?_⟩;rw [hn];have hlen2:(usL (l.take j)).length<=1024:=by have:=DU (l.take j);rw [XX] at this;omega
  have fin:∀F',Cnt F F' u l.length (us x++usL (l.take j))->qn (λy2_0 F_1=>∃m',m'<l.length - j/\∃j:Nat,y2_0=j/\j<=l.length/\m'=l.length - j/\JD l j/\Cnt F F_1 u l.length (usL (l.take j))) s ⟨ZO ⟨u,0,ZR⟩,l.length,l.length⟩ j (λr F'=>r=vi (fL l)/\F.le F') F':=λF' hF'=>by unfold qn;refine ⟨l.length - (j+1),by omega,j+1,fF (by omega),hjl,rfl,hok1,?_⟩;rw [Yy,hx];show Cnt F F' u l.length (usL (l.take j++[x]));rw [jF];exact hF'
  refine ⟨λh1=> ?_,λh1=> ?_⟩
  ·obtain ⟨a0,a1⟩:=hok.2.2.2.2.2.1 h1;refine ⟨a,ha,by omega,by omega,x.a,cl hW3.le 3 (vi x.a) (by omega) rfl,_,rfl,a0,by simp only;omega,_,hW3.cell a0 (by omega),_,rfl,a0,by simp only;omega,?_⟩;refine hW3.inc a0 (by omega) (by omega) λF5 hW5=> ?_;unfold qp;refine ⟨λh2=> ?_,λh2=> ?_⟩
   ·obtain ⟨b0,b1⟩:=hok.2.2.2.2.2.2 h2;refine ⟨a,ha,by omega,by omega,x.b,cl hW5.le 4 (vi x.b) (by omega) rfl,_,rfl,b0,by simp only;omega,_,hW5.cell b0 (by omega),_,rfl,b0,by simp only;omega,?_⟩;refine hW5.inc b0 (by omega) (by simp only [X4];omega) λF6 hW6=>fin F6 ?_;have:us x=[x.b,x.a]:=by unfold us;rw [Χ h2]
    rw [this];exact hW6
   ·refine fin F5 ?_;have:us x=[x.a]:=by unfold us;rw [Υ h2,Χ h1]
    rw [this];exact hW5
  ·unfold qp;refine ⟨λh2=>absurd h2 (by omega),λh2=>fin F3 ?_⟩;have:us x=[]:=by unfold us;rw [Υ h2,Υ h1]
   rw [this];exact hW3
 ·obtain rfl:j=l.length:=by omega
  rw [XZ] at hW;have hgc:=JE hg;unfold Dk;have ew:i64.wrap ((s.len:Int) - 1)=(l.length:Int) - 1:=by rw [hlen,aR (by omega)]
  refine ⟨λm i F'=>∃j:Nat,i=j/\j<=l.length/\m=l.length - j/\F'=F2/\∀i:Nat,i<j->(usL l).count (i:Int)=1,l.length,⟨0,rfl,by omega,rfl,rfl,λi hi=>by omega⟩,?_⟩;rintro _ _ F3 ⟨j,rfl,hj',rfl,e3,hall⟩;obtain rfl:=e3.symm;unfold Di;rw [ew];refine ⟨λhlt=> ?_,λhge=> ?_⟩
  ·refine ⟨_,rfl,by omega,by simp only;omega,_,hW.cell (k:=(j:Int)) (by omega) (by omega),λhm=>bad (λhG=> ?_) hW.le,λhm=>⟨l.length - (j+1),by omega,j+1,fF (by omega),by omega,rfl,rfl,λi hi=> ?_⟩⟩
   ·have:=(hgc.1 hG).2 j (by omega);rw [this] at hm;exact hm rfl
   ·by_cases hij:i=j
    ·subst hij;omega
    ·exact hall i (by omega)
  ·unfold Dh;refine ⟨λh0=>bad (λhG=>hG.ne (YG.1 (by omega))) hW.le,λh0=>⟨?_,hW.le⟩⟩;rw [uO hl (hgc.2 ⟨λe=>by rw [e] at hlen;simp at hlen;omega,λi hi=>hall i (by omega)⟩)]
end
abbrev PrQ:=Nat×Nat
section
end
section
end
end
structure Two where
 acc:PrQ->Nat->Prop
 lnk:PrQ->PrQ->Prop
 ini:PrQ->Prop
 fin:PrQ->Prop
namespace Two
end Two
section
end
section
end
structure Ov (e:TypeId) (G F:PH) (s:Sl) (vs:Ξ):Prop where
 le:G.le F
 own:bX F e 1 s vs
 oz:∀a,s.ZK=ZO a->G a.block=ZR
section
variable {e:TypeId} {G F:PH} {s:Sl} {vs:Ξ}
theorem Ov.fresh (h:Ov e G F s vs) {x:Nat} (hx:F x=ZR) (o:Obj):Ov e G (F.set x o) s vs:=
 ⟨aa h.le (ae o hx),h.own.keep λa ha=>by
  obtain ⟨o',ho⟩:=h.own.som ha
  exact aB _ _ (aI hx ho),h.oz⟩
theorem Ov.len (h:Ov e G F s vs):s.len=vs.length:=by have:=h.own.rd.len;omega
theorem Ov.push {t bytes:Nat} {z:ξ} (ht:prog.underlying t=ZO (.slice e)) (hsz:tsz prog e=ZO (1,bytes)) (hz:bP prog e=ZO z) (hzs:z.cells.size=1) (hby:bytes<=64) (h:Ov e G F s vs) {v:ξ} (hst:am v) (hl:s.len<=1000000) {K:Sl->Ψ} (k:∀s' F',Ov e G F' s' (vs++[v])->K s' F'):
  ∀x,F x=ZR->atF (F.set x (ZP #[v] e)) λF=>
   aH prog (Builtin.append_ #[t,t] t #[(ZS s),(ZS (Z4 (ZO (ZX x 0 ZR)) 1 1))]) F λv F=>∃s':Sl,v=(ZS s')/\K s' F:=by
 intro x hx;refine atI ?_;have h1:=h.fresh hx (ZP #[v] e);have q1:=au F x (ZP #[v] e);generalize F.set x (ZP #[v] e)=F1 at*;have hb:(s.len+1)*bytes<=1000001*64:=Nat.mul_le_mul (by omega) hby;refine iU (F0:=G) (x:=⟨ZO ⟨x,0,ZR⟩,1,1⟩) (news:=[v]) ht hsz hz hzs (by decide) h1.le h1.own h1.oz (RdS.new q1 rfl rfl (XS _)) (λw hw=>by rw [XO] at hw;subst hw;exact hst) (by simp only;omega) (by simp only;omega) ?_;intro s' F2 le2 ho2 hl2 hnew keep hsome;exact ⟨s',rfl,k s' F2 ⟨le2,ho2,hnew⟩⟩
end
section
end
def slc (w:Δ) (f e:Nat):Δ:=(w.drop f).take (e - f)
theorem i7 {w:Δ} {f e:Nat} (h:f<=e) (he:e<=w.length):(slc w f e).length=e - f:=by unfold slc;rw [XX,Y6];omega
theorem tO {w:Δ} {f m e:Nat} (h1:f<=m) (h2:m<=e):slc w f m++slc w m e=slc w f e:=by unfold slc;obtain ⟨a,rfl⟩:=Nat.exists_eq_add_of_le h1;obtain ⟨b,rfl⟩:=Nat.exists_eq_add_of_le h2;rw [show f+a - f=a by omega,show f+a+b - (f+a)=b by omega,show f+a+b - f=a+b by omega,<- List.drop_drop,List.take_add]
theorem vf {w:Δ} {f e:Nat} (h:f<=e) (he:e<=w.length) {u v:Δ} (hw:slc w f e=u++v):∃m,f<=m/\m<=e/\slc w f m=u/\slc w m e=v:=by
 have hl:=i7 h he;rw [hw,XT] at hl;have h1:f<=f+u.length:=by omega
 have h2:f+u.length<=e:=by omega
 have hj:=tO (w:=w) h1 h2;rw [hw] at hj;have:=List.append_inj hj (by rw [i7 h1 (by omega)];omega);exact ⟨f+u.length,h1,h2,this.1,this.2⟩
theorem DW {w:Δ} {f e:Nat} (h:f<=e) (he:e<=w.length) (hw:slc w f e=[]):f=e:=by have:=i7 h he;rw [hw] at this;simp at this;omega
theorem zn (w:Δ) (f:Nat):slc w f f=[]:=by simp [slc]
theorem DX {w:Δ} {f:Nat} (h:f<w.length):slc w f (f+1)=[w[f]]:=by unfold slc;rw [show f+1 - f=1 by omega,List.drop_eq_getElem_cons h];rfl
def Bh (P:Δ->Prop) (w fr:Δ) (e:Nat):Prop:=∃f∈fr,f<=e/\e<=w.length/\P (slc w f e)
theorem Qx {w fr:Δ} (hf:∀f∈fr,f<=w.length) (e:Nat):Bh (Lg .emp) w fr e↔e∈fr:=by
 constructor
 ·rintro ⟨f,hm,h1,h2,h3⟩;have:f=e:=DW h1 h2 h3;subst this;exact hm
 ·intro h;exact ⟨e,h,XS _,hf e h,zn _ _⟩
theorem Qy {x y:Pat} {w fr o:Δ} (ho:∀e,e∈o↔Bh (Lg x) w fr e) (e:Nat):Bh (Lg y) w o e↔Bh (Lg (.seq x y)) w fr e:=by
 constructor
 ·rintro ⟨m,hm,h1,h2,h3⟩;obtain ⟨f,hf,g1,g2,g3⟩:=(ho m).1 hm;exact ⟨f,hf,by omega,h2,_,_,(tO g1 h1).symm,g3,h3⟩
 ·rintro ⟨f,hf,h1,h2,u,v,e1,hu,hv⟩;obtain ⟨m,m1,m2,rfl,rfl⟩:=vf h1 h2 e1;exact ⟨m,(ho m).2 ⟨f,hf,m1,by omega,hu⟩,m2,h2,hv⟩
theorem Qz {x y:Pat} {w fr:Δ} (e:Nat):Bh (Lg (.alt x y)) w fr e↔Bh (Lg x) w fr e\/Bh (Lg y) w fr e:=by
 constructor
 ·rintro ⟨f,hf,h1,h2,h3|h3⟩
  ·exact .inl ⟨f,hf,h1,h2,h3⟩
  ·exact .inr ⟨f,hf,h1,h2,h3⟩
 ·rintro (⟨f,hf,h1,h2,h3⟩|⟨f,hf,h1,h2,h3⟩)
  ·exact ⟨f,hf,h1,h2,.inl h3⟩
  ·exact ⟨f,hf,h1,h2,.inr h3⟩
theorem kC.append {P:Δ->Prop} {u v:Δ} (hu:kC P u) (hv:P v):kC P (u++v):=by
 induction hu with
 |nil=>have:=kC.cons hv .nil;rw [Ys] at this;exact this
 |cons h _ ih=>rw [Yk];exact .cons h ih
theorem Mf {x:Pat} {w fr o:Δ} (ho:∀e∈o,Bh (Lg (.rep x)) w fr e) {e:Nat} (h:Bh (Lg x) w o e):Bh (Lg (.rep x)) w fr e:=by obtain ⟨m,hm,h1,h2,h3⟩:=h;obtain ⟨f,hf,g1,g2,g3⟩:=ho m hm;refine ⟨f,hf,by omega,h2,?_⟩;rw [<- tO g1 h1];exact kC.append g3 h3
theorem QA {x:Pat} {w fr o:Δ} (hi:∀f∈fr,f∈o) (ho:∀e∈o,Bh (Lg (.rep x)) w fr e) (hc:∀e,Bh (Lg x) w o e->e∈o) (e:Nat):e∈o↔Bh (Lg (.rep x)) w fr e:=by
 refine ⟨ho e,?_⟩;rintro ⟨f,hf,h1,h2,h3⟩;have key:∀u,kC (Lg x) u->∀f,f∈o->f<=e->slc w f e=u->e∈o:=by
  intro u hu;induction hu with
  |nil=>intro f hf h1 hs;have:=DW h1 h2 hs;subst this;exact hf
  |cons hu _ ih=>intro f hf h1 hs;obtain ⟨m,m1,m2,rfl,e2⟩:=vf h1 h2 hs;exact ih m (hc m ⟨f,hf,m1,by omega,hu⟩) m2 e2
 exact key _ h3 f (hi f hf) h1 rfl
def tog:Δ->Δ->Δ
 |o,[]=>o
 |o,m::ms=>tog (if m∈o then o else o++[m]) ms
theorem zo (m:Nat):∀(ms o:Δ),tog o (ms++[m])=if m∈tog o ms then tog o ms else tog o ms++[m]
 |[],o=>rfl
 |k::ms,o=>zo m ms _
theorem i8 (e:Nat):∀(ms o:Δ),e∈tog o ms↔e∈o\/e∈ms
 |[],o=>by simp [tog]
 |m::ms,o=>by
  rw [tog,i8 e ms];split
  ·rename_i h;simp only [XP];constructor
   ·rintro (h1|h1)
    ·exact .inl h1
    ·exact .inr (.inr h1)
   ·rintro (h1|rfl|h1)
    ·exact .inl h1
    ·exact .inl h
    ·exact .inr h1
  ·simp only [XR,XP,YP,or_false,or_assoc]
theorem ox:∀(ms o:Δ),o.Nodup->(tog o ms).Nodup
 |[],o,h=>h
 |m::ms,o,h=>by
  rw [tog];refine ox ms _ ?_;split
  ·exact h
  ·rename_i hm;exact Ye.2 ⟨h,by simp,λa ha b hb e=>hm (by simp at hb;subst hb;subst e;exact ha)⟩
theorem xG:∀(ms o:Δ),∃k,tog o ms=o++k
 |[],o=>⟨[],by simp [tog]⟩
 |m::ms,o=>by
  rw [tog];obtain ⟨k,hk⟩:=xG ms (if m∈o then o else o++[m]);rw [hk];split
  ·exact ⟨k,rfl⟩
  ·exact ⟨[m]++k,by simp⟩
theorem Mg (ms o:Δ):(tog o ms).length<=o.length+ms.length:=by
 induction ms generalizing o with
 |nil=>simp [tog]
 |cons m ms ih=>rw [tog];refine YQ (ih _) ?_;split<;>simp<;>omega
theorem JF {ms o:Δ} (h:(tog o ms).length<=o.length):∀m∈ms,m∈o:=by obtain ⟨k,hk⟩:=xG ms o;rw [hk,XT] at h;have:k=[]:=YG.1 (by omega);subst this;intro m hm;have:=(i8 m ms o).2 (.inr hm);rw [hk] at this;simpa using this
theorem i9 {o:Δ} {n:Nat} (h:o.Nodup) (hb:∀e∈o,e<=n):o.length<=n+1:=nodup_bound' (n+1) o h λe he=>by have:=hb e he;omega
where nodup_bound':∀(n:Nat) (ns:Δ),ns.Nodup->(∀j∈ns,j<n)->ns.length<=n
 |0,[],_,_=>XS _
 |0,j::ns,_,h=>absurd (h j (by simp)) (by omega)
 |n+1,ns,hn,h=>by
  by_cases hm:n∈ns
  ·have:=nodup_bound' n (ns.erase n) (hn.erase n) λj hj=>by
    have h1:=h j (List.mem_of_mem_erase hj);have h2:j≠n:=λe=>by rw [e] at hj;exact (hn.not_mem_erase hj)
    omega
   rw [List.length_erase_of_mem hm] at this;omega
  ·have:=nodup_bound' n ns hn λj hj=>by have h1:=h j hj;have h2:j≠n:=λe=>hm (e▸hj);omega
   omega
def il (ns:Δ):Ξ:=ns.map λ(n:Nat)=>vi n
theorem JG (a b:Δ):il (a++b)=il a++il b:=by simp [il]
theorem VU (a:Δ):∀v∈il a,am v:=λv hv=>by obtain ⟨n,_,rfl⟩:=X1.1 hv;exact ⟨λ_ h=>(by cases h),λ_ h=>(by cases h)⟩
section
variable {F:PH}
theorem oA {s:Sl} {ns:Δ} (h:RdS F s 1 (il ns)):s.len=ns.length:=by have:=h.len;simp [il] at this;omega
theorem xH {s:Sl} {ns:Δ} (h:RdS F s 1 (il ns)) {i:Nat} (hi:i<ns.length):∃a,s.ZK=ZO a/\F.cell (a.add (ZY (i:Int)*1))=ZO (vi (ns[i]:Nat)):=by have hl:=oA h;obtain ⟨b,o,hb,_⟩:=h.cells (by omega);refine ⟨_,hb,?_⟩;rw [N5,Yj];have:=h.cell hb (i:=i) (by simp [il];exact hi);rw [this];simp [il]
theorem DY {s:Sl} {ns:Δ} (h:RdS F s 1 (il ns)) (hn:ns.length<=1000000) (n:Nat):ν 213 #[s.v,vi n] F λr F'=>r=ZV (decide (n∈ns))/\F'=F:=by
 have hl:=oA h;refine Un ?_;unfold Oc;refine ⟨λm i F'=>∃j:Nat,i=j/\j<=ns.length/\m=ns.length - j/\F'=F/\n ∉ ns.take j,ns.length,⟨0,rfl,by omega,rfl,rfl,by simp⟩,?_⟩;rintro _ _ F' ⟨j,rfl,hj,rfl,e,hno⟩;obtain rfl:=e.symm;unfold Dn;refine ⟨λhlt=> ?_,λhge=> ?_⟩
 ·have hjl:j<ns.length:=by omega
  obtain ⟨a,ha,hc⟩:=xH h hjl;refine ⟨a,ha,by omega,by omega,_,hc,λhe=>⟨?_,rfl⟩,λhe=>⟨ns.length - (j+1),by omega,j+1,fF (by omega),by omega,rfl,rfl,?_⟩⟩
  ·have:n=ns[j]:=by omega
   rw [ζ (by rw [this];exact YM hjl)]
  ·rw [Yy,N6 hjl];simp only [Option.toList_some,XR,XO];rintro (h1|h1)
   ·exact hno h1
   ·exact he (by omega)
 ·unfold Dm;obtain rfl:j=ns.length:=by omega
  rw [XZ] at hno;exact ⟨by rw [ι hno],rfl⟩
def IlV (F:PH) (v:ξ) (o:Δ):Prop:=∃s:Sl,v=s.v/\RdS F s 1 (il o)
theorem nr {s s2:Sl} {ns ms:Δ} (h:RdS F s 1 (il ns)) (h2:RdS F s2 1 (il ms)) (hn:ns.length<=200000) (hm:ms.length<=200000):ν 217 #[s.v,s2.v] F λr F'=>IlV F' r (tog ns ms)/\F.le F':=by
 have hl:=oA h;have hl2:=oA h2;refine Uo ?_;unfold Od;intro b4 hb4;refine atI ?_;have l4:=ae (ZP #[] 3) hb4;have q4:=au F b4 (ZP #[] 3);generalize F.set b4 (ZP #[] 3)=F4 at*;have ho:bX F4 3 1 ⟨ZO ⟨b4,0,ZR⟩,0,0⟩ (il []):=.inr ⟨b4,#[],rfl,q4,rfl,XS _,rfl,rfl⟩;refine iU (F0:=F) Me Mc Md rfl (by decide) l4 ho (λa ha=>by cases ha;exact hb4) (h.le l4) (VU ns) (by simp only;omega) (by simp only;omega) ?_;intro s' F5 le5 ho5 hl5 hnew5 _ _;rw [show il []++il ns=il ns from rfl] at ho5;refine ⟨s',rfl,λm o i F'=>∃j:Nat,i=j/\j<=ms.length/\m=ms.length - j/\Ov 3 F F' o (il (tog ns (ms.take j))),ms.length,⟨0,rfl,by omega,rfl,⟨le5,by simpa [tog] using ho5,hnew5⟩⟩,?_⟩;clear hnew5 ho5 le5 l4 q4 hb4 ho;rintro _ o _ F6 ⟨j,rfl,hj,rfl,hO⟩;unfold Dt;refine ⟨λhlt=> ?_,λhge=> ?_⟩
 ·have hjl:j<ms.length:=by omega
  have hlen:(tog ns (ms.take j)).length<=400000:=by have:=Mg (ms.take j) ns;rw [XX] at this;omega
  have hx:ms[j]? =ZO ms[j]:=N6 hjl;obtain ⟨a,ha,hc⟩:=xH (h2.le hO.le) hjl;refine ⟨a,ha,by omega,by omega,_,hc,?_⟩;refine (DY hO.own.rd (by omega) _).mono ?_;rintro _ F7 ⟨rfl,e⟩;obtain rfl:=e.symm;have htk:tog ns (ms.take (j+1))=if ms[j]∈tog ns (ms.take j) then tog ns (ms.take j) else tog ns (ms.take j)++[ms[j]]:=by rw [Yy,hx];exact zo _ _ _
  refine ⟨_,rfl,λhno=>⟨a,ha,by omega,by omega,_,hc,?_⟩,λhin=> ?_⟩
  ·have hno':ms[j] ∉ tog ns (ms.take j):=by simpa using hno
   rw [Υ hno'] at htk;refine hO.push (t:=67) Me Mc Md rfl (by decide) ⟨λ_ h=>(by cases h),λ_ h=>(by cases h)⟩ (by rw [hO.len];simp [il];omega) λs' F' h'=> ?_;unfold qw;refine ⟨ms.length - (j+1),by omega,j+1,fF (by omega),by omega,rfl,?_⟩;rw [htk,JG];exact h'
  ·have hin':ms[j]∈tog ns (ms.take j):=by simpa using hin
   rw [Χ hin'] at htk;unfold qw;refine ⟨ms.length - (j+1),by omega,j+1,fF (by omega),by omega,rfl,?_⟩;rw [htk];exact hO
 ·unfold Ds;obtain rfl:j=ms.length:=by omega
  rw [XZ] at hO;exact ⟨⟨_,rfl,hO.own.rd⟩,hO.le⟩
end
def fR (w:Δ) (lo hi:Nat) (fr:Δ):Δ:=(fr.filter λf=>decide (f<w.length/\lo<=w.getD f 0/\w.getD f 0<=hi)).map (· +1)
theorem BO (w:Δ) (lo hi:Nat) (fr:Δ) (f:Nat):fR w lo hi (fr++[f])=if f<w.length/\lo<=w.getD f 0/\w.getD f 0<=hi then fR w lo hi fr++[f+1] else fR w lo hi fr:=by
 unfold fR;rw [List.filter_append,Yd,List.filter_cons];split
 ·rename_i h;rw [Χ (by simpa using h)];rfl
 ·rename_i h;rw [Υ (by simpa using h)];simp
theorem zp {w:Δ} {lo hi:Nat} {fr:Δ} (h:fr.Nodup):(fR w lo hi fr).Nodup:=by unfold fR;refine List.Pairwise.map (R:=(·≠·)) _ (λa b hab=>by omega) ?_;exact List.Pairwise.sublist List.filter_sublist h
theorem Ft {w:Δ} {lo hi:Nat} {fr:Δ} (e:Nat):e∈fR w lo hi fr↔Bh (Lg (.rng lo hi)) w fr e:=by
 unfold fR;simp only [X1,Zg,δ];constructor
 ·rintro ⟨f,⟨hf,h1,h2,h3⟩,rfl⟩;refine ⟨f,hf,by omega,by omega,w.getD f 0,?_,h2,h3⟩;rw [DX h1,Yg,N6 h1];rfl
 ·rintro ⟨f,hf,h1,h2,b,hb,h3,h4⟩;have hl:=i7 h1 h2;rw [hb] at hl;simp at hl;obtain rfl:e=f+1:=by omega
  rw [DX (by omega)] at hb;simp at hb;refine ⟨f,⟨hf,by omega,?_⟩,rfl⟩;rw [Yg,N6 (by omega)];simp only [Option.getD_some];omega
section
variable {F:PH}
def BhR (F:PH) (v:ξ) (P:Δ->Prop) (w fr:Δ):Prop:=∃o:Δ,IlV F v o/\o.Nodup/\∀e,e∈o↔Bh P w fr e
theorem IlV.le {F G:PH} {v:ξ} {o:Δ} (h:IlV F v o) (hl:F.le G):IlV G v o:=by obtain ⟨s,e,h⟩:=h;exact ⟨s,e,h.le hl⟩
theorem zq {P:Δ->Prop} {w fr o:Δ} (h:∀e,e∈o↔Bh P w fr e):∀e∈o,e<=w.length:=λe he=>by obtain ⟨f,_,_,h2,_⟩:=(h e).1 he;exact h2
theorem BP {s2:Sl} {fr:Δ} {st:ο} {lo hi b9 b17:Nat} {F1:PH} {x:Nd} {R:ξ->Ψ} (h2:RdS F1 s2 1 (il fr)) (hfl:fr.length<=100001) (hfb:∀f∈fr,f<=st.size) (hst:st.size<=100000) (q9:F1 b9=ZO (ZP x.arr 149)) (hlo:x.lo=lo) (hhi:x.hi=hi) (hb17:F1 b17=ZR)
  (hR:∀v F',F1.le F'->IlV F' v (fR (bs st) lo hi fr)->R v F'):
  ∃(I2:Nat->Sl->Ω) (m2:Nat),I2 m2 (Z4 (ZO (ZX b17 0 ZR)) 0 0) (0:Int) (F1.set b17 (ZP #[] 3))/\∀m2 out_10_3 k_11 F,I2 m2 out_10_3 k_11 F->
   wR (λy2_0 y2_1 F=>∃m',m'<m2/\I2 m' y2_0 y2_1 F) st s2 b9 R out_10_3 k_11 F:=by
 have hl2:=oA h2;have hwl:=cX st;refine ⟨λm o k F'=>∃j:Nat,k=j/\j<=fr.length/\m=fr.length - j/\Ov 3 F1 F' o (il (fR (bs st) lo hi (fr.take j))),fr.length,⟨0,rfl,by omega,rfl,⟨ae _ hb17,.inr ⟨b17,#[],rfl,au _ _ _,rfl,XS _,rfl,rfl⟩,λa ha=>by cases ha;exact hb17⟩⟩,?_⟩;rintro _ o _ F6 ⟨j,rfl,hj,rfl,hO⟩;unfold wR;refine ⟨λhlt=> ?_,λhge=> ?_⟩
 ·have hjl:j<fr.length:=by omega
  have hlen:(fR (bs st) lo hi (fr.take j)).length<=100001:=by unfold fR;rw [XW];refine YQ (List.length_filter_le _ _) ?_;rw [XX];omega
  have hx:fr[j]? =ZO fr[j]:=N6 hjl;obtain ⟨a,ha,hc⟩:=xH (h2.le hO.le) hjl;have hfj:=hfb _ (YM hjl);have htk:fR (bs st) lo hi (fr.take (j+1))=if fr[j]<(bs st).length/\lo<=(bs st).getD fr[j] 0/\(bs st).getD fr[j] 0<=hi then fR (bs st) lo hi (fr.take j)++[fr[j]+1] else fR (bs st) lo hi (fr.take j):=by rw [Yy,hx];exact BO _ _ _ _ _
  generalize fr[j]=f at*;have j5:∀bb:Bool,(bb=ZT↔f<(bs st).length/\lo<=(bs st).getD f 0/\(bs st).getD f 0<=hi)->mI (λy2_0 y2_1 F=>∃m',m'<fr.length - j/\∃j:Nat,y2_1=j/\j<=fr.length/\m'=fr.length - j/\Ov 3 F1 F y2_0 (il (fR (bs st) lo hi (fr.take j)))) st s2 b9 o j bb R F6:=λbb hbb=>by
   unfold mI;refine ⟨λht=>⟨a,ha,by omega,by omega,_,hc,?_⟩,λhf=> ?_⟩
   ·rw [Χ (hbb.1 ht)] at htk;rw [fF (by omega)];refine hO.push (t:=67) Me Mc Md rfl (by decide) jJ (by rw [hO.len];simp [il];omega) λs' F' h'=> ?_;unfold qv;refine ⟨fr.length - (j+1),by omega,j+1,fF (by omega),by omega,rfl,?_⟩;rw [htk,JG];exact h'
   ·rw [Υ (λh=>by rw [hbb.2 h] at hf;cases hf)] at htk;unfold qv;refine ⟨fr.length - (j+1),by omega,j+1,fF (by omega),by omega,rfl,?_⟩;rw [htk];exact hO
  have c1:F6.cell (ZX b9 1 ZR)=ZO (vi lo):=by rw [av (hO.le _ _ q9),<- hlo];rfl
  have c2:F6.cell (ZX b9 2 ZR)=ZO (vi hi):=by rw [av (hO.le _ _ q9),<- hhi];rfl
  refine ⟨a,ha,by omega,by omega,_,hc,λhlt2=> ?_,λhge2=>j5 ZQ ⟨λh=>(by cases h),λh=>absurd h.1 (by omega)⟩⟩;have hfs:f<st.size:=by omega
  have hget:∀hx:ZY (f:Int)<st.size,i64.wrap ((st[ZY (f:Int)]'hx).toNat:Int)=(((bs st).getD f 0:Nat):Int):=λhx=>by
   have e:(st[ZY (f:Int)]'hx).toNat=(bs st).getD f 0:=by rw [<- Ht];unfold cb;simp only [N5] at hx;rw [dif_pos hx];rfl
   have h256:(bs st).getD f 0<256:=by rw [Yg,N6 (by omega:f<(bs st).length)];exact T1 st _ (YM _)
   rw [e,aR (by omega)]
  refine ⟨a,ha,by omega,by omega,_,hc,by omega,by omega,by rw [N5];exact hfs,_,rfl,_,c1,λhle=>⟨a,ha,by omega,by omega,_,hc,by omega,by omega,by rw [N5];exact hfs,_,rfl,_,c2,j5 _ ?_⟩,λhgt=>j5 ZQ ⟨λh=>(by cases h),λh=> ?_⟩⟩
  ·rw [hget] at hle;rw [hget,δ];omega
  ·rw [hget] at hgt;omega
 ·unfold Dr;obtain rfl:j=fr.length:=by omega
  rw [XZ] at hO;exact hR _ _ hO.le ⟨_,rfl,hO.own.rd⟩
theorem BQ {l:List Nd} {p:Sl} {st:ο} (hst:st.size<=100000) {i:Nat} {t:Lt} {ns:Δ} (h:cY l i t ns):∀{F:PH} {s2:Sl} {fr:Δ},RdS F p 5 (d7 l)->RdS F s2 1 (il fr)->fr.Nodup->(∀f∈fr,f<=st.size)->
  ν 214 #[p.v,vi i,Z1 st,s2.v] F λr F'=>BhR F' r (Lg t.pat) (bs st) fr/\F.le F':=by
 have hwl:=cX st;have few:∀{o:Δ},o.Nodup->(∀e∈o,e<=(bs st).length)->o.length<=100001:=λh1 h2=>by have:=i9 h1 h2;omega
 induction h with
 | @emp i x hx hk=>intro F s2 fr hs h2 hnd hfb;have hlen:=hs.nlen;have hi:=(XN.1 hx).1;obtain ⟨a,ha,hrow⟩:=rdn hs hx;refine yF ?_;unfold uM;refine ⟨a,ha,by omega,by omega,x.arr,rfl,hrow,λb9 hb9=> ?_⟩;refine atI ?_;refine stW (au _ _ _) rfl rfl (gI x) ?_;rw [aW];intro b17 hb17;refine atI ?_;have l9:F.le (F.set b9 (ZP x.arr 149)):=ae _ hb9;have q9:=au F b9 (ZP x.arr 149);generalize F.set b9 (ZP x.arr 149)=F1 at*;refine ⟨x.k,by rw [av (ae _ hb17 _ _ q9)];rfl,λ_=>⟨⟨fr,⟨_,rfl,h2.le (aa l9 (ae _ hb17))⟩,hnd,λe=> ?_⟩,aa l9 (ae _ hb17)⟩,λh=>absurd hk h⟩;exact (Qx (λf hf=>by rw [hwl];exact hfb f hf) e).symm
 | @rng i lo hi x hx hk hlo hhi hle h255=>intro F s2 fr hs h2 hnd hfb;have hlen:=hs.nlen;have hi':=(XN.1 hx).1;obtain ⟨a,ha,hrow⟩:=rdn hs hx;refine yF ?_;unfold uM;refine ⟨a,ha,by omega,by omega,x.arr,rfl,hrow,λb9 hb9=> ?_⟩;refine atI ?_;refine stW (au _ _ _) rfl rfl (gI x) ?_;rw [aW];intro b17 hb17;refine atI ?_;have l9:F.le (F.set b9 (ZP x.arr 149)):=ae _ hb9;have q9:=au F b9 (ZP x.arr 149);generalize F.set b9 (ZP x.arr 149)=F1 at*;refine ⟨x.k,by rw [av (ae _ hb17 _ _ q9)];rfl,λh=>absurd h (by omega),λ_=>⟨λ_=> ?_,λh=>absurd hk h⟩⟩;refine BP (h2.le l9) (few hnd λf hf=>by rw [hwl];exact hfb f hf) hfb hst q9 hlo hhi hb17 λv F' hl' hv=> ?_;exact ⟨⟨_,hv,zp hnd,λe=>Ft e⟩,aa l9 hl'⟩
 | @seq i a b x t u na nb hx hk hxa hxb ht hu it iu=>
  intro F s2 fr hs h2 hnd hfb;have hlen:=hs.nlen;have hi':=(XN.1 hx).1;obtain ⟨ad,had,hrow⟩:=rdn hs hx;refine yF ?_;unfold uM;refine ⟨ad,had,by omega,by omega,x.arr,rfl,hrow,λb9 hb9=> ?_⟩;refine atI ?_;refine stW (au _ _ _) rfl rfl (gI x) ?_;rw [aW];intro b17 hb17;refine atI ?_;have q9:=ae (ZP #[] 3) hb17 _ _ (au F b9 (ZP x.arr 149));have l9:=aa (ae (ZP x.arr 149) hb9) (ae (ZP #[] 3) hb17);generalize (F.set b9 (ZP x.arr 149)).set b17 (ZP #[] 3)=F1 at*;have c1:∀{G:PH},F1.le G->G.cell (ZX b9 3 ZR)=ZO (vi a):=λh=>by rw [av (h _ _ q9),<- hxa];rfl
  have c2:∀{G:PH},F1.le G->G.cell (ZX b9 4 ZR)=ZO (vi b):=λh=>by rw [av (h _ _ q9),<- hxb];rfl
  refine ⟨x.k,by rw [av q9];rfl,λh=>absurd h (by omega),λ_=>⟨λh=>absurd h (by omega),λ_=>⟨λ_=> ?_,λh=>absurd hk h⟩⟩⟩;refine ⟨_,c2 (al _),_,c1 (al _),?_⟩;refine (it (hs.le l9) (h2.le l9) hnd hfb).mono ?_;rintro _ F2 ⟨⟨o,⟨s3,rfl,h3⟩,ho,hoe⟩,l2⟩;refine ⟨s3,rfl,c2 l2,?_⟩;refine (iu (hs.le (aa l9 l2)) h3 ho λf hf=>by rw [<- hwl];exact zq hoe f hf).mono ?_;rintro _ F3 ⟨⟨o2,⟨s4,rfl,h4⟩,ho2,hoe2⟩,l3⟩;refine ⟨s4,rfl,⟨o2,⟨s4,rfl,h4⟩,ho2,λe=> ?_⟩,aa l9 (aa l2 l3)⟩;rw [hoe2 e];exact Qy hoe e
 | @alt i a b x t u na nb hx hk hxa hxb ht hu it iu=>
  intro F s2 fr hs h2 hnd hfb;have hlen:=hs.nlen;have hi':=(XN.1 hx).1;obtain ⟨ad,had,hrow⟩:=rdn hs hx;refine yF ?_;unfold uM;refine ⟨ad,had,by omega,by omega,x.arr,rfl,hrow,λb9 hb9=> ?_⟩;refine atI ?_;refine stW (au _ _ _) rfl rfl (gI x) ?_;rw [aW];intro b17 hb17;refine atI ?_;have q9:=ae (ZP #[] 3) hb17 _ _ (au F b9 (ZP x.arr 149));have l9:=aa (ae (ZP x.arr 149) hb9) (ae (ZP #[] 3) hb17);generalize (F.set b9 (ZP x.arr 149)).set b17 (ZP #[] 3)=F1 at*;have c1:∀{G:PH},F1.le G->G.cell (ZX b9 3 ZR)=ZO (vi a):=λh=>by rw [av (h _ _ q9),<- hxa];rfl
  have c2:∀{G:PH},F1.le G->G.cell (ZX b9 4 ZR)=ZO (vi b):=λh=>by rw [av (h _ _ q9),<- hxb];rfl
  refine ⟨x.k,by rw [av q9];rfl,λh=>absurd h (by omega),λ_=>⟨λh=>absurd h (by omega),λ_=>⟨λh=>absurd h (by omega),λ_=>⟨λ_=> ?_,λh=>absurd hk h⟩⟩⟩⟩;refine ⟨_,c1 (al _),_,c2 (al _),?_⟩;refine (it (hs.le l9) (h2.le l9) hnd hfb).mono ?_;rintro _ F2 ⟨⟨o,⟨s3,rfl,h3⟩,ho,hoe⟩,l2⟩;refine ⟨s3,rfl,c2 l2,?_⟩;refine (iu (hs.le (aa l9 l2)) (h2.le (aa l9 l2)) hnd hfb).mono ?_;rintro _ F3 ⟨⟨o2,⟨s4,rfl,h4⟩,ho2,hoe2⟩,l3⟩;refine ⟨s4,rfl,?_⟩;have n1:=few ho (zq hoe);have n2:=few ho2 (zq hoe2);refine (nr (h3.le l3) h4 (by omega) (by omega)).mono ?_;rintro _ F4 ⟨⟨s5,rfl,h5⟩,l4⟩;refine ⟨s5,rfl,⟨_,⟨s5,rfl,h5⟩,ox _ _ ho,λe=> ?_⟩,aa l9 (aa l2 (aa l3 l4))⟩;rw [i8,hoe,hoe2];exact (Qz e).symm
 | @rep i a x t na hx hk hxa ht it=>
  intro F s2 fr hs h2 hnd hfb;have hlen:=hs.nlen;have hi':=(XN.1 hx).1;obtain ⟨ad,had,hrow⟩:=rdn hs hx;refine yF ?_;unfold uM;refine ⟨ad,had,by omega,by omega,x.arr,rfl,hrow,λb9 hb9=> ?_⟩;refine atI ?_;refine stW (au _ _ _) rfl rfl (gI x) ?_;rw [aW];intro b17 hb17;refine atI ?_;have q9:=ae (ZP #[] 3) hb17 _ _ (au F b9 (ZP x.arr 149));have l9:=aa (ae (ZP x.arr 149) hb9) (ae (ZP #[] 3) hb17);generalize (F.set b9 (ZP x.arr 149)).set b17 (ZP #[] 3)=F1 at*;have c1:∀{G:PH},F1.le G->G.cell (ZX b9 3 ZR)=ZO (vi a):=λh=>by rw [av (h _ _ q9),<- hxa];rfl
  refine ⟨x.k,by rw [av q9];rfl,λh=>absurd h (by omega),λ_=>⟨λh=>absurd h (by omega),λ_=>⟨λh=>absurd h (by omega),λ_=>⟨λh=>absurd h (by omega),λ_=> ?_⟩⟩⟩⟩;unfold Dq
  refine ⟨λm os n F'=>∃(o:Δ) (k:Nat),n=(k:Int) - 1/\k<=o.length+1/\m=st.size+3 - k/\F1.le F'/\RdS F' os 1 (il o)/\o.Nodup/\(∀f∈fr,f∈o)/\(∀e∈o,Bh (Lg (.rep t.pat)) (bs st) fr e)/\(k=o.length+1->∀e,Bh (Lg t.pat) (bs st) o e->e∈o),st.size+3,
   ⟨fr,0,by omega,by omega,by omega,al _,h2.le l9,hnd,λ_ h=>h,λe he=>⟨e,he,XS _,by rw [hwl];exact hfb e he,by rw [zn];exact .nil⟩,λh=>by omega⟩,?_⟩
  rintro _ os _ F2 ⟨o,k,rfl,hk',rfl,l2,h3,ho,hfo,hoe,hcl⟩;unfold Dp;have hos:=oA h3;have hob:∀e∈o,e<=(bs st).length:=λe he=>by obtain ⟨f,_,_,g,_⟩:=hoe e he;exact g
  have hfew:=i9 ho hob;refine ⟨λhlt=> ?_,λhge=> ?_⟩
  ·refine ⟨_,c1 l2,?_⟩;refine (it (hs.le (aa l9 l2)) h3 ho λf hf=>by rw [<- hwl];exact hob f hf).mono ?_;rintro _ F3 ⟨⟨o2,⟨s4,rfl,h4⟩,ho2,hoe2⟩,l3⟩;refine ⟨s4,rfl,?_⟩;have n2:=few ho2 (zq hoe2);refine (nr (h3.le l3) h4 (by omega) (by omega)).mono ?_;rintro _ F4 ⟨⟨s5,rfl,h5⟩,l4⟩;obtain ⟨kk,hkk⟩:=xG o2 o;refine ⟨s5,rfl,st.size+3 - (o.length+1),by omega,tog o o2,o.length+1,by omega,by rw [hkk,XT];omega,rfl,aa l2 (aa l3 l4),h5,ox _ _ ho,λf hf=>(i8 f o2 o).2 (.inl (hfo f hf)),λe he=> ?_,λhfull e he=> ?_⟩
   ·rcases (i8 e o2 o).1 he with h|h
    ·exact hoe e h
    ·exact Mf hoe ((hoe2 e).1 h)
   ·have hall:=JF (o:=o) (ms:=o2) (by omega);refine (i8 e o2 o).2 (.inr ((hoe2 e).2 ?_));obtain ⟨f,hf,g⟩:=he;refine ⟨f,?_,g⟩;rcases (i8 f o2 o).1 hf with h|h
    ·exact h
    ·exact hall f h
  ·unfold Do;exact ⟨⟨o,⟨os,rfl,h3⟩,ho,QA hfo hoe (hcl (by omega))⟩,aa l9 l2⟩
theorem JH {P:Δ->Prop} {w:Δ}:Bh P w [0] w.length↔P w:=by
 constructor
 ·rintro ⟨f,hf,_,_,h⟩;simp at hf;subst hf;simpa [slc] using h
 ·intro h;exact ⟨0,by simp,by omega,XS _,by simpa [slc] using h⟩
theorem po {s:Sl} {l:List Nd} (hs:RdS F s 5 (d7 l)) (st:ο) (hst:st.size<=100000):ν 199 #[s.v,Z1 st] F λr F'=>(∃q:Bool,r=ZV q/\(q=ZT↔fL l=0/\LgL l (bs st)))/\F.le F':=by
 refine Uk ?_;unfold N9;refine (kO hs).mono ?_;rintro _ F2 ⟨rfl,l2⟩;refine ⟨_,rfl,λh0=> ?_,λh0=>⟨⟨ZQ,rfl,λh=>(by cases h),λh=>absurd h.1 h0⟩,l2⟩⟩;obtain ⟨hG,hl⟩:=uP h0;obtain ⟨ns,ht⟩:=iP hG;have hlen:=hs.nlen;have hne:=Y2.2 hG.ne;have ew:i64.wrap ((s.len:Int) - 1)=((l.length - 1:Nat):Int):=by rw [hlen,aR (by omega)];omega
 rw [ew];intro b14 hb14;refine atI ?_;have l14:F2.le (F2.set b14 (ZP #[Z0 .i64 0] 3)):=ae _ hb14;have q14:=au F2 b14 (ZP #[Z0 .i64 0] 3);generalize F2.set b14 (ZP #[Z0 .i64 0] 3)=F3 at*;refine (BQ hst ht (s2:=⟨ZO ⟨b14,0,ZR⟩,1,1⟩) (fr:=[0]) (hs.le (aa l2 l14)) (RdS.new q14 rfl rfl (XS _)) (by simp) (by simp)).mono ?_;rintro _ F4 ⟨⟨o,⟨s4,rfl,h4⟩,ho,hoe⟩,l4⟩;refine ⟨s4,rfl,?_⟩;have n2:=i9 ho (zq hoe);rw [cX] at n2;refine (DY h4 (by omega) st.size).mono ?_;rintro _ F5 ⟨rfl,e⟩;obtain rfl:=e.symm;refine ⟨_,rfl,⟨_,rfl,?_⟩,aa (aa l2 l14) l4⟩;rw [δ,hoe,<- cX,JH];exact ⟨λh=>⟨h0,h⟩,λh=>h.2⟩
end
abbrev RB (F:PH) (P:Prop):VR:=λr F'=>(∃q:Bool,r=ZV q/\(q=ZT↔P))/\F.le F'
section
variable {F F':PH} {P Q:Prop}
theorem RB.yes (h:P) (l:F.le F'):RB F P (ZV ZT) F':=⟨⟨ZT,rfl,λ_=>h,λ_=>rfl⟩,l⟩
theorem RB.no (h:¬P) (l:F.le F'):RB F P (ZV ZQ) F':=⟨⟨ZQ,rfl,λh=>(by cases h),λhp=>absurd hp h⟩,l⟩
theorem RB.dec [Decidable Q] (h:Q↔P) (l:F.le F'):RB F P (ZV (decide Q)) F':=⟨⟨_,rfl,by rw [δ];exact h⟩,l⟩
theorem RB.is {q:Bool} (h:q=ZT↔P) (l:F.le F'):RB F P (ZV q) F':=⟨⟨_,rfl,h⟩,l⟩
end
theorem St.up {G F F':PH} {As:List (Ψ)} (h:St G F As) (l:F.le F'):St G F' As:=by obtain ⟨Hs,h1,h2⟩:=h.ex;exact ⟨aa h.le l,Hs,λi A hi=>⟨(h1 i A hi).1,(h1 i A hi).2.1,aa (h1 i A hi).2.2 l⟩,h2⟩
theorem dc {a:Bool} (h:(!a)=ZQ):a=ZT:=by cases a<;>first|rfl|cases h
section
variable {F:PH}
theorem BR (b:Nat) (F:PH):ν 196 #[Z0 .u8 (b:Int)] F (RB F (gx b)):=by refine ST ?_;unfold M8 gx;refine ⟨λh1=>⟨λh2=> .yes (by omega) (al _),λh2=>⟨λh3=>⟨λh4=> .yes (by omega) (al _),λh4=> .dec (by omega) (al _)⟩,λh3=> .dec (by omega) (al _)⟩⟩,λh1=>⟨λh3=>⟨λh4=> .yes (by omega) (al _),λh4=> .dec (by omega) (al _)⟩,λh3=> .dec (by omega) (al _)⟩⟩
theorem Fu (s:ο):jC s=ZT↔(∀i,i<s.size->(gx ((bs s).getD i 0)\/(i≠0/\iF ((bs s).getD i 0))))/\s≠emp:=by unfold jC vY;rw [Yt,Ym,cX];simp only [Yv,YE,δ,Yt,bne_iff_ne,ne_eq,YZ,List.isEmpty_eq_false_iff];refine and_congr_right λ_=>not_congr ⟨λe=>wQ (e.trans rfl),λe=>by rw [e];rfl⟩
theorem tP (s:ο) (hs:s.size<=1000000000):ν 164 #[Z1 s] F (RB F (jC s=ZT)):=by
 refine SI ?_;unfold MY;rw [Fu];refine bi (wA · s _) s.size (λk F'=>F.le F'/\∀i,i<k->(gx ((bs s).getD i 0)\/(i≠0/\iF ((bs s).getD i 0)))) ⟨al F,λi h=>by omega⟩ ?_;rintro k F1 N hk ⟨hl,hi⟩ next;unfold wA;refine ⟨λhlt=> ?_,λhge=> ?_⟩
 ·have hlt:k<s.size:=by omega
  have hx:ZY (k:Int)<s.size:=by simpa using hlt
  have hv:(((bs s).getD k 0:Nat):Int)=((s[ZY (k:Int)]'hx).toNat:Int):=by rw [<- GG s k hlt];rfl
  generalize hc:(bs s).getD k 0=c at hv;have bad:∀{F2},F1.le F2->¬(gx c\/(k≠0/\iF c))->RB F ((∀i,i<s.size->(gx ((bs s).getD i 0)\/(i≠0/\iF ((bs s).getD i 0))))/\s≠emp) (ZV ZQ) F2:=λl hn=> .no (λhp=>hn (by rw [<- hc];exact hp.1 k hlt)) (aa hl l);have good:∀{F2},F1.le F2->(gx c\/(k≠0/\iF c))->pQ N s (k:Int) (RB F ((∀i,i<s.size->(gx ((bs s).getD i 0)\/(i≠0/\iF ((bs s).getD i 0))))/\s≠emp)) F2:=λl hg=>by
   unfold pQ;rw [aC hlt];refine next _ hlt ⟨aa hl l,λi hi'=> ?_⟩;by_cases e:i=k
   ·rw [e,hc];exact hg
   ·exact hi i (by omega)
  have j3:∀d:Bool,(d=ZT↔iF c)->pR N s (k:Int) d (RB F ((∀i,i<s.size->(gx ((bs s).getD i 0)\/(i≠0/\iF ((bs s).getD i 0))))/\s≠emp)) F1:=λd hd=>by
   unfold pR;refine ⟨by omega,by omega,hx,(c:Int),hv,?_⟩;refine (BR c F1).mono ?_;rintro _ F2 ⟨⟨q,rfl,hq⟩,l2⟩;refine ⟨q,rfl,λh=> ?_,λh=>good l2 (.inl (hq.1 (dc h)))⟩;have hnl:¬gx c:=λhl'=>by rw [hq.2 hl'] at h;cases h
   refine ⟨λh1=>bad l2 ?_,λh1=>⟨λh0=>bad l2 ?_,λh0=>good l2 (.inr ⟨by omega,hd.1 (dc h1)⟩)⟩⟩
   ·rintro (h|h)
    ·exact hnl h
    ·rw [hd.2 h.2] at h1;cases h1
   ·rintro (h|h)
    ·exact hnl h
    ·omega
  refine ⟨by omega,by omega,hx,(c:Int),hv,λh1=>⟨by omega,by omega,hx,(c:Int),hv,j3 _ ?_⟩,λh1=>j3 _ ⟨λh=>(by cases h),λh=>by unfold iF at h;omega⟩⟩;rw [δ];unfold iF;omega
 ·have e:k=s.size:=by omega
  subst e;unfold CC;rw [hY];refine .is ?_ hl;rw [YZ,decide_eq_false_iff_not];exact ⟨λh=>⟨hi,h⟩,λh=>h.2⟩
theorem kq {s:Sl} {l:List ο} (hs:RL F s l) (hl:l.length<=1000000000) {n:Nat} {x:ο} (hx:l[n]? =ZO x):ν 165 #[s.v,vi n] F (RB F (x≠emp/\x ∉ l.take n)):=by
 have es:=hs.len;have hn:=(XN.1 hx).1;have get:∀{F'},F.le F'->∀{i:Nat} {y:ο},l[i]? =ZO y->∃a:Addr,s.ZK=ZO a/\0<=(i:Int)/\(i:Int)<(s.len:Int)/\F'.cell (ZW a (ZY (i:Int)*1))=ZO (Z1 y):=λ{F'} hle {i y} hy=>by have:=(XN.1 hy).1;obtain ⟨a,c,ha,hr,hc⟩:=(hs.le hle).get (by decide) hy;rw [show c= #[Z1 y] from hc] at hr;exact ⟨a,ha,by omega,by omega,by rw [N5];exact aS hr rfl⟩
 refine SJ ?_;unfold MZ;refine bi (wB · s (n:Int) _) n (λk F'=>F.le F'/\x ∉ l.take k) ⟨al F,by simp⟩ ?_;rintro k F1 N hk ⟨hle,hi⟩ next;unfold wB;refine ⟨λhlt=> ?_,λhge=> ?_⟩
 ·have hlt:k<n:=by omega
  have hy:=N6 (show k<l.length by omega);generalize l[k]=y at hy;obtain ⟨a,h1,h2,h3,h4⟩:=get hle hy;obtain ⟨a',g1,g2,g3,g4⟩:=get hle hx;refine ⟨a,h1,h2,h3,_,h4,a',g1,g2,g3,_,g4,?_⟩;dsimp only;rw [hY];refine ⟨λh=> .no (λhp=>hp.2 ?_) hle,λh=> ?_⟩
  ·rw [<- ε h];refine XQ (i:=k) ?_;rw [Yp hlt];exact hy
  ·rw [aC hlt];refine next _ hlt ⟨hle,λhm=> ?_⟩;rw [aQ hy] at hm;rcases XR.1 hm with hm|hm
   ·exact hi hm
   ·exact η h (XO.1 hm).symm
 ·have e:k=n:=by omega
  subst e;unfold CD;obtain ⟨a',g1,g2,g3,g4⟩:=get hle hx;refine ⟨a',g1,g2,g3,_,g4,?_⟩;dsimp only;rw [hY];refine .is ?_ hle;rw [YZ,decide_eq_false_iff_not];exact ⟨λh=>⟨h,hi⟩,λh=>h.1⟩
structure Sml (g:Gr):Prop where
 m:Sm g
 z:Sz g
 n:g.fam.1.length<=1000000
 t:∀t∈g.ZI,t.cond.1.length<=1000000
 p:∀t∈g.ZG,t.cond.1.length<=1000000
 l:∀t∈g.lvs,t.cond.1.length<=1000000
 f:∀t∈g.fils,t.cond.1.length<=1000000
theorem Fv {v:Γ} {g:Gr} (hg:GV F v g) (hm:Sm g):ν 114 #[ZU v] F (RB F (bN g=ZT)):=by
 obtain ⟨c,n,t,s,p,l,f,rfl,hs⟩:=hg;have ec:=hs.c.len;have et:=hs.t.len;have es:=hs.s.len;have ep:=hs.p.len;have el:=hs.l.len;have ef:=hs.f.len;have hpm:=hm.p;have hL:bN g=ZT↔(64<g.ZJ.length\/256<g.ZI.length\/4096<g.fils.length\/2000<g.ZH.length\/2000<g.ZG.length\/2000<g.lvs.length)\/∃p∈g.ZG,16<p.right.length\/16<p.lay.length:=by unfold bN;rw [YE,δ,YO];simp only [δ]
 refine Si ?_;unfold MF;refine fresh λb1 F1 l1 q1 _=> ?_;rw [hL];refine ⟨_,ld q1 rfl,λh=> .yes (.inl (by omega)) l1,λh1=>⟨_,ld q1 rfl,λh=> .yes (.inl (by omega)) l1,λh2=>⟨_,ld q1 rfl,λh=> .yes (.inl (by omega)) l1,λh3=>⟨_,ld q1 rfl,λh=> .yes (.inl (by omega)) l1,λh4=>⟨_,ld q1 rfl,λh=> .yes (.inl (by omega)) l1,λh5=>⟨_,ld q1 rfl,λh=> .yes (.inl (by omega)) l1,λh6=> ?_⟩⟩⟩⟩⟩⟩;refine bi (wl · b1 _) g.ZG.length (λk F'=>F1.le F'/\∀p∈g.ZG.take k,¬(16<p.right.length\/16<p.lay.length)) ⟨al _,by simp⟩ ?_;rintro k F2 N hk ⟨l2,hi⟩ next;unfold wl;have l12:=aa l1 l2;refine ⟨_,ld (l2 _ _ q1) rfl,λhlt=> ?_,λhge=> ?_⟩
 ·have hlt:k<g.ZG.length:=by omega
  refine ⟨_,ld (l2 _ _ q1) rfl,ixc (hs.p.le l12) (by decide) (by omega) (by omega) λa cc x hx hr hc=> ?_⟩;rw [N5] at hx;have hxm:=XQ hx;obtain ⟨r1,n1,y1,rfl,hr1,hn1,hy1⟩:=hc;have e1:=hr1.len;have e2:=hy1.len;refine ⟨_,aZ hr rfl,λh=> .yes (.inr ⟨x,hxm,by omega⟩) l12,λha=>⟨_,ld (l2 _ _ q1) rfl,ixc (hs.p.le l12) (by decide) (by omega) (by omega) λa' c' x' hx' hr' hc'=> ?_⟩⟩;rw [N5,hx] at hx';cases hx';obtain ⟨r2,n2,y2,rfl,hr2,hn2,hy2⟩:=hc';have e3:=hy2.len;refine ⟨_,aZ hr' rfl,λh=> .yes (.inr ⟨x,hxm,by omega⟩) l12,λhb=> ?_⟩;rw [aC hlt];refine next _ hlt ⟨l2,λp hp=> ?_⟩;rw [aQ hx] at hp;rcases XR.1 hp with hp|hp
  ·exact hi p hp
  ·rw [XO.1 hp];omega
 ·have e:k=g.ZG.length:=by omega
  subst e;rw [XZ] at hi;unfold Cm;exact .no (λh=>h.elim (λh=>by omega) λ⟨p,hp,h⟩=>hi p hp h) l12
theorem BS {v:Γ} {g:Gr} (hg:GV F v g) (hz:Sml g):ν 115 #[ZU v] F (RB F (gh g)):=by
 obtain ⟨c,n,t,s,p,l,f,rfl,hs⟩:=hg;have ec:=hs.c.len;have hcl:=hz.m.c;have hfl:=hz.n;refine Sj ?_;unfold MH;refine fresh λb1 F1 l1 q1 _=> ?_;refine bi (wm · b1 _) g.ZJ.length (λk F'=>F1.le F'/\(∀s∈g.ZJ.take k,nJ s)/\bA (g.ZJ.take k)) ⟨al _,by simp,by simp [bA]⟩ ?_;rintro k F2 N hk ⟨l2,hi,hi2⟩ next;have l12:=aa l1 l2;unfold wm;refine ⟨_,ld (l2 _ _ q1) rfl,λhlt=> ?_,λhge=> ?_⟩
 ·have hlt:k<g.ZJ.length:=by omega
  refine ⟨_,ld (l2 _ _ q1) rfl,ixc (hs.c.le l12) (by decide) (by omega) (by omega) λa cc x hx hr hc=> ?_⟩;rw [N5] at hx;rw [show cc= #[Z1 x] from hc] at hr;have hxm:x∈g.ZJ:=XQ hx;refine ⟨_,aS hr rfl,?_⟩;refine (tP x (hz.z.c x hxm)).mono ?_;rintro _ F3 ⟨⟨b,rfl,hb⟩,l3⟩;have l13:=aa l12 l3;have q3:=l3 _ _ (l2 _ _ q1);refine ⟨b,rfl,λh=> .no (λhn=>by rw [hb.2 (hn.1 x hxm).1] at h;cases h) l13,λh1=>⟨_,ld q3 rfl,?_⟩⟩;refine (kq (hs.c.le l13) hcl hx).mono ?_;rintro _ F4 ⟨⟨b',rfl,hb'⟩,l4⟩;have l14:=aa l13 l4;refine ⟨b',rfl,λh=> .no (λhn=> ?_) l14,λh2=> ?_⟩
  ·have:=fX hn.2.1 (k+1);rw [aQ hx,cJ] at this;rw [hb'.2 this.2] at h;cases h
  ·rw [hY,hY];refine ⟨λh=> .no (λhn=>(hn.1 x hxm).2.1 (ε h)) l14,λh3=>⟨λh=> .no (λhn=>(hn.1 x hxm).2.2 (ε h)) l14,λh4=> ?_⟩⟩;rw [aC hlt];refine next _ hlt ⟨aa l2 (aa l3 l4),λs hs'=> ?_,?_⟩
   ·rw [aQ hx] at hs';rcases XR.1 hs' with hs'|hs'
    ·exact hi s hs'
    ·rw [XO.1 hs'];exact ⟨hb.1 (dc h1),η h3,η h4⟩
   ·rw [aQ hx,cJ];exact ⟨hi2,hb'.1 (dc h2)⟩
 ·have e:k=g.ZJ.length:=by omega
  subst e;rw [XZ] at hi hi2;unfold Co;refine ⟨#[n.v,vi g.fam.2],rfl,iM (l2 _ _ q1) rfl,_,ld (l2 _ _ q1) rfl,?_⟩;dsimp only;rw [ec];refine (jw (d:=g.fam) (DV.mk (hs.n.le l12)) (by unfold Fit;omega) hfl).mono ?_;rintro _ F3 ⟨rfl,l3⟩;refine ⟨_,rfl,λh=>⟨_,ld (l3 _ _ (l2 _ _ q1)) rfl,?_⟩,λh=> .no (λhn=> ?_) (aa l12 l3)⟩
  ·exact .dec ⟨λh0=>⟨hi,hi2,bG.1 h,h0⟩,λhn=>hn.2.2.2⟩ (aa l12 l3)
  ·rw [bG.2 hn.2.2.1] at h;cases h
theorem JI {v:Γ} {g:Gr} (hg:GV F v g) (hz:Sml g):ν 117 #[ZU v] F (RB F (eZ g)):=by
 obtain ⟨c,n,t,s,p,l,f,rfl,hs⟩:=hg;have ec:=hs.s.len;have hcl:=hz.m.s;refine Sn ?_;unfold MJ;refine fresh λb1 F1 l1 q1 _=> ?_;refine bi (wn · b1 _) g.ZH.length (λk F'=>F1.le F'/\bA (g.ZH.take k)) ⟨al _,by simp [bA]⟩ ?_;rintro k F2 N hk ⟨l2,hi2⟩ next;have l12:=aa l1 l2;unfold wn;refine ⟨_,ld (l2 _ _ q1) rfl,λhlt=> ?_,λhge=> ?_⟩
 ·have hlt:k<g.ZH.length:=by omega
  have hx:=N6 hlt;generalize g.ZH[k]=x at hx;refine ⟨_,ld (l2 _ _ q1) rfl,?_⟩;refine (kq (hs.s.le l12) hcl hx).mono ?_;rintro _ F4 ⟨⟨b',rfl,hb'⟩,l4⟩;have l14:=aa l12 l4;refine ⟨b',rfl,λh=> .no (λhn=> ?_) l14,λh2=> ?_⟩
  ·have:=fX hn.1 (k+1);rw [aQ hx,cJ] at this;rw [hb'.2 this.2] at h;cases h
  ·rw [aC hlt];refine next _ hlt ⟨aa l2 l4,?_⟩;rw [aQ hx,cJ];exact ⟨hi2,hb'.1 (dc h2)⟩
 ·have e:k=g.ZH.length:=by omega
  subst e;rw [XZ] at hi2;unfold Cr;refine ⟨_,ld (l2 _ _ q1) rfl,λh=>⟨_,ld (l2 _ _ q1) rfl,_,ld (l2 _ _ q1) rfl,.dec ?_ l12⟩,λh=> .no (λhn=>h hn.2.1) l12⟩;rw [ec];exact ⟨λh'=>⟨hi2,h,h'⟩,λh=>h.2.2⟩
theorem vh {v:Γ} {x:Pr} (hp:Mem.rep F x v) (k:Int) (hr:x.right.length<=1000000000):ν 200 #[ZU v,vi k] F (RB F (k=0\/(0<k/\k<=x.right.length/\∃s,x.right[(k - 1).toNat]? =ZO s/\s.t=ZT))):=by
 obtain ⟨r,n,l,rfl,h1,h2,h3⟩:=hp;have er:=h1.len;refine SU ?_;unfold M9;refine fresh λb2 F1 l1 q1 _=>⟨λh=> .yes (.inl h) l1,λh0=>⟨λhk=>⟨_,ld q1 rfl,λhle=> ?_,λh=> .no (λhp=> ?_) l1⟩,λh=> .no (λhp=> ?_) l1⟩⟩
 ·refine ⟨_,ld q1 rfl,?_⟩;dsimp only;have ew:i64.wrap (k - 1)=k - 1:=aR (by omega);rw [ew];refine ixc (h1.le l1) (by decide) (by omega) (by omega) λa c y hy hr' hc=> ?_;rw [show c=y.arr from hc] at hr';refine ⟨_,aS hr' rfl,.is ⟨λh=> .inr ⟨hk,by omega,y,hy,h⟩,λhp=> ?_⟩ l1⟩;rcases hp with hp|⟨_,_,s,hs,ht⟩
  ·exact absurd hp h0
  ·rw [hy] at hs;cases hs;exact ht
 ·rcases hp with hp|hp
  ·exact h0 hp
  ·omega
 ·rcases hp with hp|hp
  ·exact h0 hp
  ·exact h hp.1
theorem Fw {v:Γ} {x:Pr} (hp:Mem.rep F x v) (hr:x.right.length<=1000000000):ν 170 #[ZU v] F (RB F (cW x.right x.sco.d x.sco.k 1 7/\cW x.right x.sco.u x.sco.a 0 255)):=by
 have hp0:=hp;obtain ⟨r,n,l,rfl,h1,h2,h3⟩:=hp;refine SO ?_;unfold M4;refine fresh λb1 F1 l1 q1 _=>⟨x.sco.arr,rfl,iM q1 rfl,?_⟩;refine var1 (by simp [am]) (λb3 F2 l2 q3=> ?_) rfl rfl;have l12:=aa l1 l2;refine ⟨_,rfl,ac (l2 _ _ q1),_,ld q3 rfl,?_⟩;refine (vh (Mem.le l12 hp0) x.sco.d hr).mono ?_;rintro _ F3 ⟨⟨b,rfl,hb⟩,l3⟩;have l13:=aa l12 l3;have q1':=l3 _ _ (l2 _ _ q1);have q3':=l3 _ _ q3;refine ⟨b,rfl,λh=> .no (λhn=> ?_) l13,λhd=>⟨_,rfl,ac q1',_,ld q3' rfl,?_⟩⟩
 ·have:b=ZT:=hb.2 (hn.1.elim (λh=> .inl h.1) λh=> .inr ⟨h.1,h.2.1,h.2.2.1⟩);rw [this] at h;cases h
 refine (vh (Mem.le l13 hp0) x.sco.u hr).mono ?_;rintro _ F4 ⟨⟨b',rfl,hb'⟩,l4⟩;have l14:=aa l13 l4;have q4:=l4 _ _ q3';refine ⟨b',rfl,λh=> .no (λhn=> ?_) l14,λhu=> ?_⟩
 ·have:b'=ZT:=hb'.2 (hn.2.elim (λh=> .inl h.1) λh=> .inr ⟨h.1,h.2.1,h.2.2.1⟩);rw [this] at h;cases h
 have hD:=hb.1 (dc hd);have hU:=hb'.1 (dc hu);have eD:cW x.right x.sco.d x.sco.k 1 7↔(x.sco.d=0/\x.sco.k=0)\/(x.sco.d≠0/\1<=x.sco.k/\x.sco.k<=7):=by
  unfold cW;constructor
  ·rintro (h|h)
   ·exact .inl h
   ·exact .inr ⟨by omega,h.2.2.2⟩
  ·rintro (h|h)
   ·exact .inl h
   ·have h':=hD.resolve_left h.1;exact .inr ⟨h'.1,h'.2.1,h'.2.2,h.2⟩
 have eU:cW x.right x.sco.u x.sco.a 0 255↔(x.sco.u=0/\x.sco.a=0)\/(x.sco.u≠0/\0<=x.sco.a/\x.sco.a<=255):=by
  unfold cW;constructor
  ·rintro (h|h)
   ·exact .inl h
   ·exact .inr ⟨by omega,h.2.2.2⟩
  ·rintro (h|h)
   ·exact .inl h
   ·have h':=hU.resolve_left h.1;exact .inr ⟨h'.1,h'.2.1,h'.2.2,h.2⟩
 rw [eD,eU];have j2:∀a c:Bool,(a=ZT↔(x.sco.d=0/\x.sco.k=0)\/(x.sco.d≠0/\1<=x.sco.k/\x.sco.k<=7))->(c=ZT↔(x.sco.u=0/\x.sco.a=0)\/(x.sco.u≠0/\0<=x.sco.a/\x.sco.a<=255))->fY a c (RB F (((x.sco.d=0/\x.sco.k=0)\/(x.sco.d≠0/\1<=x.sco.k/\x.sco.k<=7))/\((x.sco.u=0/\x.sco.a=0)\/(x.sco.u≠0/\0<=x.sco.a/\x.sco.a<=255)))) F4:=λa c ha hc=>by unfold fY;exact ⟨λh=> .is ⟨λh'=>⟨ha.1 h,hc.1 h'⟩,λh'=>hc.2 h'.2⟩ l14,λh=> .no (λh'=>by rw [ha.2 h'.1] at h;cases h) l14⟩
 have j1:∀a:Bool,(a=ZT↔(x.sco.d=0/\x.sco.k=0)\/(x.sco.d≠0/\1<=x.sco.k/\x.sco.k<=7))->fZ b3 a (RB F (((x.sco.d=0/\x.sco.k=0)\/(x.sco.d≠0/\1<=x.sco.k/\x.sco.k<=7))/\((x.sco.u=0/\x.sco.a=0)\/(x.sco.u≠0/\0<=x.sco.a/\x.sco.a<=255)))) F4:=λa ha=>by
  unfold fZ;refine ⟨_,ld q4 rfl,λk1=>⟨_,ld q4 rfl,λk2=>j2 a _ ha ⟨λ_=> .inl ⟨k1,k2⟩,λ_=>rfl⟩,λk2=>⟨_,ld q4 rfl,λk3=>absurd k1 k3,λ_=>j2 a _ ha ⟨λh=>(by cases h),λh=>by omega⟩⟩⟩,λk1=>⟨_,ld q4 rfl,λk3=>⟨_,ld q4 rfl,λk4=>⟨_,ld q4 rfl,j2 a _ ha ?_⟩,λk4=>j2 a _ ha ⟨λh=>(by cases h),λh=>by omega⟩⟩,λk3=>absurd k1 k3⟩⟩;rw [δ];constructor
  ·intro h;exact .inr ⟨k1,k4,h⟩
  ·intro h;omega
 refine ⟨_,ld q4 rfl,λk1=>⟨_,ld q4 rfl,λk2=>j1 _ ⟨λ_=> .inl ⟨k1,k2⟩,λ_=>rfl⟩,λk2=>⟨_,ld q4 rfl,λk3=>absurd k1 k3,λ_=>j1 _ ⟨λh=>(by cases h),λh=>by omega⟩⟩⟩,λk1=>⟨_,ld q4 rfl,λk3=>⟨_,ld q4 rfl,λk4=>⟨_,ld q4 rfl,j1 _ ?_⟩,λk4=>j1 _ ⟨λh=>(by cases h),λh=>by omega⟩⟩,λk3=>absurd k1 k3⟩⟩;rw [δ];constructor
 ·intro h;exact .inr ⟨k1,k4,h⟩
 ·intro h;omega
end
def QB (n:Nat) (t:Tk):Prop:=0<=t.cls/\t.cls<=2/\iI t.cond n/\(t.lit≠emp->t.smp=emp/\t.pat=[])/\(t.lit=emp->fL t.pat=0/\(t.cls=0->t.smp≠emp/\LgL t.pat (bs t.smp))/\(t.cls≠0->t.smp=emp))
theorem JJ {n:Nat} {done:List ο} {t:Tk}:Aq n done t↔(t.name≠emp/\t.name ∉ done)/\QB n t:=by unfold Aq QB;rw [and_assoc]
section
variable {F:PH}
theorem Fx {v:Γ} {x:Tk} {n:Nat} (hx:Mem.rep F x v) (hc:x.cond.1.length<=1000000) (hs:x.smp.size<=100000):ν 167 #[ZU v,vi n] F (RB F (QB n x)):=by
 obtain ⟨p,m,rfl,hp,hm⟩:=hx;have ep:=hp.len;refine SL ?_;unfold M1;refine fresh λb2 F1 l1 q1 _=>⟨_,ld q1 rfl,λh=> .no (λhn=>by have:=hn.1;omega) l1,λh0=>⟨_,ld q1 rfl,λh=> .no (λhn=>by have:=hn.2.1;omega) l1,λh1=>⟨#[m.v,vi x.cond.2],rfl,iM q1 rfl,?_⟩⟩⟩;refine (jw (d:=x.cond) (DV.mk (hm.le l1)) (by unfold Fit;omega) hc).mono ?_;rintro _ F2 ⟨rfl,l2⟩;have l12:=aa l1 l2;refine ⟨_,rfl,λh=> .no (λhn=> ?_) l12,λhf=>⟨_,ld (l2 _ _ q1) rfl,?_⟩⟩
 ·rw [bG.2 hn.2.2.1] at h;cases h
 have hfit:=bG.1 (dc hf);dsimp only;rw [hY];refine ⟨λhl=> ?_,λhl=> ?_⟩
 ·have hl:x.lit≠emp:=λe=>by rw [ζ e] at hl;cases hl
  refine ⟨_,ld (l2 _ _ q1) rfl,λh=>⟨_,ld (l2 _ _ q1) rfl,?_⟩,λh=> .no (λhn=> ?_) l12⟩
  ·dsimp only;rw [hY];refine .dec ⟨λe=>⟨by omega,by omega,hfit,λ_=>⟨e,X9 (by omega)⟩,λe=>absurd e hl⟩,λhn=>(hn.2.2.2.1 hl).1⟩ l12
  ·rw [(hn.2.2.2.1 hl).2] at ep;exact h (by rw [ep];rfl)
 ·have hl:x.lit=emp:=by
   cases e:decide (x.lit=emp) with
   |true=>exact ε e
   |false=>rw [e] at hl;cases hl
  refine ⟨_,ld (l2 _ _ q1) rfl,?_⟩;refine (kO (RL.nds.1 (hp.le l12))).mono ?_;rintro _ F3 ⟨rfl,l3⟩;have l13:=aa l12 l3;have q3:=l3 _ _ (l2 _ _ q1);refine ⟨_,rfl,λh=> .no (λhn=>h (hn.2.2.2.2 hl).1) l13,λhk=>⟨_,ld q3 rfl,λhc0=>⟨_,ld q3 rfl,?_⟩,λhc0=>⟨_,ld q3 rfl,?_⟩⟩⟩
  ·dsimp only;rw [hY];exact .dec ⟨λe=>⟨by omega,by omega,hfit,λh=>absurd hl h,λ_=>⟨Zw.1 hk,λh=>absurd h hc0,λ_=>e⟩⟩,λhn=>(hn.2.2.2.2 hl).2.2 hc0⟩ l13
  ·have hc0:=Zw.1 hc0;dsimp only;rw [hY];refine ⟨λhse=>⟨_,ld q3 rfl,_,ld q3 rfl,?_⟩,λhse=> .no (λhn=> ?_) l13⟩
   ·refine (po (RL.nds.1 (hp.le l13)) x.smp hs).mono ?_;rintro _ F4 ⟨⟨q,rfl,hq⟩,l4⟩;refine ⟨q,rfl,.is ⟨λh=> ?_,λhn=>hq.2 ⟨(hn.2.2.2.2 hl).1,((hn.2.2.2.2 hl).2.1 hc0).2⟩⟩ (aa l13 l4)⟩;have:=hq.1 h;exact ⟨by omega,by omega,hfit,λh=>absurd hl h,λ_=>⟨this.1,λ_=>⟨λe=>(by rw [ζ e] at hse;cases hse),this.2⟩,λh=>absurd hc0 h⟩⟩
   ·have:=((hn.2.2.2.2 hl).2.1 hc0).1;rw [ι this] at hse;cases hse
theorem tQ {G F:PH} {s:Sl} {l:List ο} {As:List (Ψ)} (h:St G F (own s 9 1 (l.map Z1)::As)) (x:ο) (hl:l.length<=10000000000) {K:Sl->Ψ}
  (k:∀s' G' F',G.le G'->St G' F' (own s' 9 1 ((l++[x]).map Z1)::As)->RL F' s' (l++[x])->K s' F'):
  ∀b,F b=ZR->atF (F.set b (ZP #[Z1 x] 9)) λF=>aH prog (Builtin.append_ #[28,28] 28 #[s.v,ZS (Z4 (ZO (ZX b 0 ZR)) 1 1)]) F λv F=>∃s':Sl,v=ZS s'/\K s' F:=by
 have hs:s.len=l.length:=by have:=(h.ownAt (i:=0) rfl).1.rd.len;rw [XW] at this;omega
 refine h.push0 RX (c:= #[Z1 x]) rfl (by simp [am]) (by omega) λs' G' F' l' h' _=> ?_;have e:l.map Z1++(#[Z1 x]:Γ).toList=(l++[x]).map Z1:=by rw [Yd];rfl
 rw [e] at h';exact k s' G' F' l' h' (RL.strs.2 (h'.ownAt (i:=0) rfl).1.rd)
theorem BT {v:Γ} {g:Gr} (hg:GV F v g) (hz:Sml g):ν 116 #[ZU v] F (RB F (dn g.ZJ.length [] g.ZI)):=by
 obtain ⟨c,n,t,s,p,l,f,rfl,hs⟩:=hg;have ec:=hs.c.len;have et:=hs.t.len;have hcl:=hz.m.t;refine Sk ?_;unfold MI;refine (St.start F).newG λb1 G1 F1 l1 q1 _ h=> ?_;refine h.new λb5 F2 h=> ?_;have h:=h.imp (A':=own (Z4 (ZO (ZX b5 0 ZR)) 0 0) 9 1 []) 0 rfl λH _ hH=>eY hH
 refine ⟨λm nm i F'=>∃(k:Nat) (G:PH),i=(k:Int)/\m=g.ZI.length - k/\k<=g.ZI.length/\G1.le G/\St G F' [own nm 9 1 (((g.ZI.take k).map Tk.name).map Z1)]/\(dn g.ZJ.length [] g.ZI↔dn g.ZJ.length ((g.ZI.take k).map Tk.name) (g.ZI.drop k)),g.ZI.length,
  ⟨0,G1,rfl,rfl,by omega,al _,h,Iff.rfl⟩,?_⟩
 rintro m nm i F3 ⟨k,G,rfl,rfl,hk,lG,h,hE⟩;have l1G:=aa l1 lG;unfold Cq;have lF:=aa l1G h.le;refine ⟨_,ld (h.le _ _ (lG _ _ q1)) rfl,λhlt=> ?_,λhge=> ?_⟩
 ·have hlt:k<g.ZI.length:=by omega
  refine ⟨_,ld (h.le _ _ (lG _ _ q1)) rfl,ixc (hs.t.le lF) (by decide) (by omega) (by omega) λa cc x hx hr hc=> ?_⟩;rw [N5] at hx;have hxm:=XQ hx;obtain ⟨pp,pn,rfl,hpp,hpn⟩:=hc;rw [bQ hx,dn,JJ] at hE;refine ⟨_,aS hr rfl,?_⟩;refine tQ h x.name (by rw [XW,XX];omega) λs' G' F4 lG' h hrl=> ?_;have lF4:=aa l1G (aa lG' h.le);have hnx:((g.ZI.take k).map Tk.name++[x.name])[k]? =ZO x.name:=by rw [X6 (by rw [XW,XX];omega),XW,XX,Nat.min_eq_left hk,Nat.sub_self];rfl
  have htk:((g.ZI.take k).map Tk.name++[x.name]).take k=(g.ZI.take k).map Tk.name:=by rw [Yb (by rw [XW,XX];omega),XY (by rw [XW,XX];omega)]
  refine (kq hrl (by rw [XT,XW,XX,X3];omega) hnx).mono ?_;rintro _ F5 ⟨⟨b,rfl,hb⟩,l5⟩;rw [htk] at hb;have h:=h.up l5;have lF5:=aa lF4 l5;have q5:=h.le _ _ (lG' _ _ (lG _ _ q1));refine ⟨b,rfl,λhn=> .no (λho=> ?_) lF5,λhn=>⟨_,ld q5 rfl,ixc (hs.t.le lF5) (by decide) (by omega) (by omega) λa' c' x' hx' hr' hc'=> ?_⟩⟩
  ·rw [hb.2 (hE.1 ho).1.1] at hn;cases hn
  ·rw [N5,hx] at hx';cases hx';refine ⟨_,Mem.len hc',hr',_,ld q5 rfl,?_⟩;dsimp only;rw [ec];refine (Fx hc' (hz.t x hxm) (hz.z.t x hxm)).mono ?_;rintro _ F6 ⟨⟨b',rfl,hb'⟩,l6⟩;have h:=h.up l6;have lF6:=aa lF5 l6;refine ⟨b',rfl,ld (l6 _ _ q5) rfl,ld (l6 _ _ q5) rfl,λhn'=> .no (λho=> ?_) lF6,λhn'=> ?_⟩
   ·rw [hb'.2 (hE.1 ho).1.2] at hn';cases hn'
   ·rw [aC hlt];refine ⟨g.ZI.length - (k+1),by omega,k+1,G',rfl,rfl,by omega,aa lG lG',?_,?_⟩
    ·rw [aQ hx,Yd];exact h
    ·rw [aQ hx,Yd];exact hE.trans ⟨λh=>h.2,λh=>⟨⟨hb.1 (dc hn),hb'.1 (dc hn')⟩,h⟩⟩
 ·have e:k=g.ZI.length:=by omega
  rw [e,YB,dn] at hE;unfold Cp;exact .yes (hE.2 trivial) lF
theorem zr {v w:Γ} {g:Gr} {x:Pr} (hg:GV F v g) (hx:Mem.rep F x w) (hl:x.right.length<=1000000000):ν 168 #[ZU v,ZU w] F (RB F (fa g x)):=by
 obtain ⟨c,n,t,s,p,l,f,rfl,hs⟩:=hg;obtain ⟨r,m,y,rfl,hr,hm,hy⟩:=hx;have et:=hs.t.len;have es:=hs.s.len;have er:=hr.len;refine SM ?_;unfold M2;refine fresh λb2 F1 l1 q2 _=>fresh λb3 F2 l2 q3 _=> ?_;have l12:=aa l1 l2;have q2:=l2 _ _ q2;refine bi (wD · b2 b3 _) x.right.length (λk F'=>F2.le F'/\∀s∈x.right.take k,kB g s) ⟨al _,by simp⟩ ?_;rintro k F3 N hk ⟨l3,hi⟩ next;have l13:=aa l12 l3;unfold wD;refine ⟨_,ld (l3 _ _ q3) rfl,λhlt=> ?_,λhge=> ?_⟩
 ·have hlt:k<x.right.length:=by omega
  refine ⟨_,ld (l3 _ _ q3) rfl,ixc (hr.le l13) (by decide) (by omega) (by omega) λa cc z hz hrz hc=> ?_⟩;rw [N5] at hz;rw [show cc=z.arr from hc] at hrz;have hzm:=XQ hz;refine ⟨_,rfl,hrz,?_⟩;refine var1 (by simp [am]) (λb6 F4 l4 q6=> ?_) rfl rfl;have l14:=aa l13 l4;have p2:=l4 _ _ (l3 _ _ q2);have good:kB g z->pS N b2 b3 (k:Int) (RB F (fa g x)) F4:=λh=>by
   unfold pS;rw [aC hlt];refine next _ hlt ⟨aa l3 l4,λs hs'=> ?_⟩;rw [aQ hz] at hs';rcases XR.1 hs' with hs'|hs'
   ·exact hi s hs'
   ·rw [XO.1 hs'];exact h
  have bad:¬kB g z->RB F (fa g x) (ZV ZQ) F4:=λh=> .no (λho=>h (ho.2 z hzm)) l14;have j3:∀most:Nat,most=(if z.t then g.ZI.length else g.ZH.length)->pT N b2 b3 (k:Int) b6 (most:Int) (RB F (fa g x)) F4:=λmost hmost=>by
   unfold pT;refine ⟨_,ld q6 rfl,λh=>bad λhn=>by have:=hn.1;omega,λh0=>⟨_,ld q6 rfl,λh=>bad λhn=> ?_,λh1=>⟨_,ld q6 rfl,λht=>⟨_,ld p2 rfl,_,ld q6 rfl,?_⟩,λht=>good ⟨by omega,λ_=> ?_,λh=>by rw [ht] at h;cases h⟩⟩⟩⟩
   ·cases e:z.t with
    |true=>rw [e,Χ rfl] at hmost;obtain ⟨u,hu,_⟩:=hn.2.2 e;have:=(XN.1 hu).1;have:=hn.1;omega
    |false=>rw [e,Υ (by decide)] at hmost;have:=hn.2.1 e;omega
   ·rw [ht,Χ rfl] at hmost;refine ixc (hs.t.le l14) (by decide) (by omega) (by omega) λa2 c2 u hu hru hcu=> ?_;obtain ⟨p2,n2,rfl,_⟩:=hcu;refine ⟨_,aZ hru rfl,λh=>bad λhn=> ?_,λh=>good ⟨by omega,λh=>(by rw [ht] at h;cases h),λ_=>⟨u,hu,Zw.1 h⟩⟩⟩;obtain ⟨u',hu',hc'⟩:=hn.2.2 ht;rw [hu] at hu';cases hu';exact h hc'
   ·rw [ht,Υ (by decide)] at hmost;omega
  refine ⟨_,ld p2 rfl,_,ld q6 rfl,λht=>⟨_,ld p2 rfl,?_⟩,λht=> ?_⟩
  ·dsimp only;rw [et];exact j3 _ (by rw [ht];rfl)
  ·rw [es];exact j3 _ (by rw [ht];rfl)
 ·have e:k=x.right.length:=by omega
  subst e;rw [XZ] at hi;unfold CF;refine ⟨_,ld (l3 _ _ q3) rfl,λh0=>⟨_,ld (l3 _ _ q3) rfl,_,ld (l3 _ _ q2) rfl,.dec ?_ l13⟩,λh=> .no (λho=>h ho.1.1) l13⟩;rw [es];exact ⟨λh=>⟨⟨h0,λ_=>h,λh=>(by cases h)⟩,hi⟩,λho=>ho.1.2.1 rfl⟩
theorem pq {w:Γ} {x:Pr} (hx:Mem.rep F x w) (_:x.right.length<=1000000000) (h2:x.lay.length<=1000000000):ν 169 #[ZU w] F (RB F (∀y∈x.lay,lP x.right y)):=by
 obtain ⟨r,m,y,rfl,hr,hm,hy⟩:=hx;have er:=hr.len;have ey:=hy.len;refine SN ?_;unfold M3;refine fresh λb1 F1 l1 q1 _=> ?_;refine bi (wE · b1 _) x.lay.length (λk F'=>F1.le F'/\∀s∈x.lay.take k,lP x.right s) ⟨al _,by simp⟩ ?_;rintro k F3 N hk ⟨l3,hi⟩ next;have l13:=aa l1 l3;unfold wE;refine ⟨_,ld (l3 _ _ q1) rfl,λhlt=> ?_,λhge=> ?_⟩
 ·have hlt:k<x.lay.length:=by omega
  refine ⟨_,ld (l3 _ _ q1) rfl,ixc (hy.le l13) (by decide) (by omega) (by omega) λa cc z hz hrz hc=> ?_⟩;rw [N5] at hz;rw [show cc=z.arr from hc] at hrz;have hzm:=XQ hz;refine ⟨_,rfl,hrz,?_⟩;refine var1 (by simp [am]) (λb4 F4 l4 q4=> ?_) rfl rfl;have l14:=aa l13 l4;have p1:=l4 _ _ (l3 _ _ q1);have good:lP x.right z->pU N b1 (k:Int) (RB F (∀y∈x.lay,lP x.right y)) F4:=λh=>by
   unfold pU;rw [aC hlt];refine next _ hlt ⟨aa l3 l4,λs hs'=> ?_⟩;rw [aQ hz] at hs';rcases XR.1 hs' with hs'|hs'
   ·exact hi s hs'
   ·rw [XO.1 hs'];exact h
  have bad:¬lP x.right z->RB F (∀y∈x.lay,lP x.right y) (ZV ZQ) F4:=λh=> .no (λho=>h (ho z hzm)) l14;unfold lP at good bad;refine ⟨_,ld q4 rfl,λh=>bad (by omega),λg1=>⟨_,ld q4 rfl,λh=>bad (by omega),λg2=>⟨_,ld q4 rfl,λh=>bad (by omega),λg3=>⟨_,ld q4 rfl,_,ld p1 rfl,λh=>bad (by omega),λg4=>⟨_,ld q4 rfl,λh=>bad (by omega),λg5=>⟨_,ld q4 rfl,_,ld p1 rfl,λh=>bad (by omega),λg6=>⟨_,ld q4 rfl,λk1=>⟨_,ld q4 rfl,λh=>bad λhn=>h (hn.2.2.2.2.2.2 k1),λh=>good ?_⟩,λk1=>good ?_⟩⟩⟩⟩⟩⟩⟩
  ·exact ⟨by omega,by omega,by omega,by omega,by omega,by omega,λ_=>Zw.1 h⟩
  ·exact ⟨by omega,by omega,by omega,by omega,by omega,by omega,λh=>absurd h k1⟩
 ·have e:k=x.lay.length:=by omega
  subst e;rw [XZ] at hi;unfold CG;exact .yes hi l13
end
