/-
  Package facts: cyclic: the sets of steps.
-/
import Derived.Test.YtcemhghkipgdiaaGreatDoorAx
import Derived.Test.YtcemhghkipgdiaaGreatDoorAb
namespace Go.Proofs.YtcemhghkipgdiaaGreatDoor
open Go Go.Proofs.Tryz Tr
set_option maxRecDepth 10000
def que (e:TypeId) (s:Sl) (vs:Ξ):Ψ:=λH=>∃b o cur,s.base=some ⟨b,o,none⟩/\H b=some (.cells cur e (0,0))/\o+s.cap<=cur.size/\s.len<=s.cap/\vs.length=s.len/\(cur.toList.drop o).take s.len=vs
section
variable {G F H:PH} {As:List (Ψ)} {e:TypeId} {s:Sl} {vs:Ξ}
theorem LN (h:que e s vs H):RdS H s 1 vs:=by obtain ⟨b,o,cur,h1,h2,h3,h4,h5,h6⟩:=h;refine ⟨by omega,h4,λ_=>⟨b,o,h1,λi hi=> ?_⟩⟩;rw [am h2];have:=congrArg (λl=>l[i]?) h6;simp only [Tq (show i<s.len by omega),List.getElem?_drop,TV] at this;rw [this,N5 hi]
theorem Hu {v:Value} (h:que e s (v::vs) H):que e (Sl.cut s 1 1 s.len s.cap) vs H:=by
 obtain ⟨b,o,cur,h1,h2,h3,h4,h5,h6⟩:=h;rw [ST] at h5;by_cases hc:s.cap=1
 ·have hvs:vs=[]:=SU (by omega);refine ⟨b,o,cur,by unfold Sl.cut;rw [if_pos hc];exact h1,h2,by unfold Sl.cut;dsimp only;omega,by unfold Sl.cut;dsimp only;omega,by unfold Sl.cut;dsimp only;omega,?_⟩;unfold Sl.cut;dsimp only;rw [hvs,show s.len - 1=0 by omega,TF]
 ·refine ⟨b,o+1,cur,?_,h2,by unfold Sl.cut;dsimp only;omega,by unfold Sl.cut;dsimp only;omega,by unfold Sl.cut;dsimp only;omega,?_⟩
  ·unfold Sl.cut;rw [if_neg hc,h1];rfl
  ·unfold Sl.cut;dsimp only;have:=congrArg (λl=>l.drop 1) h6;simp only [List.drop_take,List.drop_drop,Ul,Te] at this;exact this
theorem B9 {b:Nat} (h:H b=some (.cells #[] e)):que e (Sl.mk (some (Addr.mk b 0 none)) 0 0) [] H:=⟨b,0,#[],rfl,h,by simp,SC _,rfl,by simp⟩
theorem St.queAt (h:St G F As) {i:Nat} (hi:As[i]? =some (que e s vs)):RdS F s 1 vs:=by obtain ⟨H,h1,_,h3⟩:=h.get hi;exact (LN h1).le h3
theorem St.quePush {t bytes:Nat} {z:Value} (T:SlT t e 1 bytes z) {x:Sl} {v:Value} {ty:TypeId} (h:St G F As) (i:Nat) (hi:As[i]? =some (que e s vs)) (hx:RdS F x 1 [v]) (hst:ak v) (hlen:s.len<=400000000000) {K:Sl->Ψ}
  (k:∀s' F',St G F' (As.set i (que e s' (vs++[v])))->s'.len=s.len+1->K s' F'):aD prog (Builtin.append_ #[t,t] ty #[s.v,x.v]) F λr F=>∃s':Sl,r=Sl.v s'/\K s' F:=by
 have hxl:x.len=1:=by have:=hx.len;rw [SO] at this;omega
 have hq:=h.queAt hi;have hql:=hq.len;have put:∀{s':Sl} {b:Nat} {ob:Obj},que e s' (vs++[v]) (F.set b ob)->s'.len=s.len+1->(∀a,s'.base=some a->a.block=b)->((∃a,s.base=some a/\a.block=b)\/F b=none)->K s' (F.set b ob):=λ{s' b ob} hq' hl' hbase hb=>by
  obtain ⟨H,a1,a2,a3,a4⟩:=h.set (A':=que e s' (vs++[v])) hi;have hb':H b≠none\/F b=none:=by
   rcases hb with ⟨a,ha,rfl⟩|hb
   ·obtain ⟨b0,o0,c0,e1,e2,_⟩:=a1;rw [e1] at ha;cases ha;exact .inl (by rw [e2];simp)
   ·exact .inr hb
  refine k s' _ (a4 (PH.set (λ_=>none) b ob) _ ?_ (λx hx=> ?_) (λx p hx=> ?_) (λx p hx hn=> ?_)) hl'
  ·obtain ⟨b1,o1,c1,e1,e2,e3⟩:=hq';have:b1=b:=hbase _ e1;subst this;rw [al] at e2;exact ⟨b1,o1,c1,e1,by rw [al];exact e2,e3⟩
  ·by_cases e':x=b
   ·rw [e'];exact hb'
   ·rw [az _ _ e'] at hx;exact absurd rfl hx
  ·by_cases e':x=b
   ·rw [e',al] at hx ⊢;exact hx
   ·rw [az _ _ e'] at hx;cases hx
  ·have e':x≠b:=λe'=>by
    subst e';rcases hb' with h|h
    ·exact h hn
    ·rw [h] at hx;cases hx
   rw [az _ _ e'];exact hx
 refine iS T.ht T.hsz T.hz T.hzs hq hx (λw hw=>by rw [SA.1 hw];exact hst) (CI T.hb (by omega)) (by omega) (λh0 _=>by omega) (λ_ hroom=> ?_) (λhgt cap b hc hb=> ?_)
 ·obtain ⟨H,a1,_,a3⟩:=h.get hi;obtain ⟨b,o,cur,h1,h2,h3,h4,h5,h6⟩:=a1;have hcl:cur.toList.length=cur.size:=SH;refine ⟨b,o,cur,e,h1,a3 _ _ h2,by omega,_,rfl,put ⟨b,o,_,h1,al _ _ _,by rw [dJ];exact h3,hroom,by rw [SF,SO,h5,hxl],?_⟩ (by rw [hxl]) (λa ha=>by rw [h1] at ha;cases ha;rfl) (.inl ⟨_,h1,rfl⟩)⟩;have hw:=dI [v] cur.toList (o+s.len*1) (by rw [SO];omega);rw [show cur.toList.toArray=cur by simp] at hw;rw [hw];dsimp only;rw [hxl,Tb];have e1:(List.take (o+s.len) cur.toList).drop o=vs:=by rw [<- h6,List.drop_take,Nat.add_sub_cancel_left]
  rw [Ta,List.drop_append_of_le_length (by rw [SR];omega),e1];rw [<- Ta,S5 (by rw [SF,SO];omega),SI (by rw [SF,SO];omega)]
 ·refine ⟨_,rfl,put ⟨b,0,_,rfl,al _ _ _,?_,hc,by rw [SF,SO];show vs.length+1=s.len+x.len;omega,?_⟩ (by rw [hxl]) (λa ha=>by cases ha;rfl) (.inr hb)⟩
  ·simp [Builtin.zeroCells,T.hzs];omega
  ·simp only [List.append_toArray,Array.toList_append,Te,hxl];rw [S5 (by rw [SF,SO];omega),SI (by rw [SF,SO];omega)]
end
theorem LO:∃b z,SlT 67 3 1 b z:=⟨_,_,underlying67,sz3,zr3,rfl,by decide,by decide⟩
theorem RV:bP prog 67=some (Sl.v Sl.nil):=by kernel_rfl
theorem LP:fL prog 164 aI (Sl.v Sl.nil):=⟨_,_,underlying164,RV,GU⟩
section
variable {G F:PH} {As:List (Ψ)} {k b14 b18 b4 b19 mn mr mt:Nat} {nx:Int->Φ} {T:Int×Int->Tr}
structure CyE (G:PH) (b14 mn b4 mt:Nat) (nx:Int->Φ) (T:Int×Int->Tr):Prop where
 q14:G b14=some (.cells #[.map (some mn)] 164)
 q4:G b4=some (.cells #[.map (some mt)] 113)
 nx:∃o mp,G mn=some o/\dY aI mp o/\∀a,(mp a=none/\nx a=[])\/∃s,mp a=some (Sl.v s)/\RL G s (nx a)
 st:∃o mp,G mt=some o/\dY bM mp o/\i6 G T mp
theorem CyE.le {G':PH} (h:CyE G b14 mn b4 mt nx T) (l:G.le G'):CyE G' b14 mn b4 mt nx T:=by obtain ⟨h1,h2,⟨o,mp,h3,h4,h5⟩,⟨o',mp',h6,h7,h8⟩⟩:=h;refine ⟨l _ _ h1,l _ _ h2,⟨o,mp,l _ _ h3,h4,λa=>(h5 a).imp id λ⟨s,a,b⟩=>⟨s,a,b.le l⟩⟩,⟨o',mp',l _ _ h6,h7,h8.le l⟩⟩
theorem CyE.look (h:CyE G b14 mn b4 mt nx T) (l:G.le F) (a:Int):∃s,rdo prog (Instr.lookup 164 (.map (some mn)) (vi a) false) F (Sl.v s)/\RL G s (nx a):=by
 obtain ⟨o,mp,h3,h4,h5⟩:=h.nx;have hl:=bE (F:=F) LP (l _ _ h3) h4 a false;rcases h5 a with ⟨e1,e2⟩|⟨s,e1,e2⟩
 ·rw [e1] at hl;exact ⟨Sl.nil,hl,by rw [e2];exact RL.nil G⟩
 ·rw [e1] at hl;exact ⟨s,hl,e2⟩
theorem CyE.step (h:CyE G b14 mn b4 mt nx T) (l:G.le F) (n:Int×Int):∃w,rdo prog (Instr.lookup 113 (.map (some mt)) (.agg (ul n)) false) F (.agg w)/\(DV G w (dia (T n))):=by
 obtain ⟨o,mp,h3,h4,h5⟩:=h.st;have hl:=bE (F:=F) EZ (l _ _ h3) h4 n false;rcases h5 n with ⟨e1,e2⟩|⟨w,e1,e2⟩
 ·rw [e1] at hl;exact ⟨zD,hl,by rw [e2];exact DV.mk (s:=Sl.nil) (d:=dia (leaf false)) (RL.nil G)⟩
 ·rw [e1] at hl;exact ⟨w,hl,e2⟩
structure EV (k:Nat) (keys:Φ) (T:Int×Int->Tr) (a:Int) (d:Tr) (l:Φ) (R R':Int->Tr) (ps:Φ):Prop where
 sx:Sxs k R'
 le:Lt' R R'
 snd:∀m c,(R' m).ev c=true->(R m).ev c=true\/(d.ev c=true/\(T (a,m)).ev c=true)
 cpl:∀m∈l,∀c,d.ev c=true->(T (a,m)).ev c=true->(R' m).ev c=true
 pu:∀m,R' m≠R m->m∈ps
 mu:mu k keys R'+ps.length<=mu k keys R
theorem EV.add {keys:Φ} {a:Int} {d:Tr} {l:Φ} {R R':Int->Tr} {ps:Φ} (h:EV k keys T a d l R R' ps) (hT:Sxs k T) (hd:Sx k d) {m:Int} (hm:m∈keys):
  (cu R' m (ap2 aV d (T (a,m)))≠R'->EV k keys T a d (l++[m]) R (cu R' m (ap2 aV d (T (a,m)))) (ps++[m]))/\(cu R' m (ap2 aV d (T (a,m)))=R'->EV k keys T a d (l++[m]) R R' ps):=by
 have hx:Sx k (ap2 aV d (T (a,m))):=hd.ap2 (o:=aV) (hT _);have ex:∀c,(ap2 aV d (T (a,m))).ev c=(d.ev c && (T (a,m)).ev c):=(aZ hd.1 (hT _).1).2;have key:∀i c,(cu R' m (ap2 aV d (T (a,m))) i).ev c=true↔(R' i).ev c=true\/(i=m/\d.ev c=true/\(T (a,m)).ev c=true):=λi c=>by rw [fk h.sx hx,ex,TA,SX,SX,decide_eq_true_eq]
 have cp:∀i∈l++[m],∀c,d.ev c=true->(T (a,i)).ev c=true->(cu R' m (ap2 aV d (T (a,m))) i).ev c=true:=λi hi c h1 h2=>by
  rcases SD.1 hi with hi|hi
  ·exact (key i c).2 (.inl (h.cpl i hi c h1 h2))
  ·have:=SA.1 hi;subst this;exact (key i c).2 (.inr ⟨rfl,h1,h2⟩)
 have hsx:=dm h.sx hx (n:=m);constructor
 ·intro hne;refine ⟨hsx,h.le.trans (dZ h.sx hx),λi c hc=> ?_,cp,λi hi=> ?_,?_⟩
  ·rcases (key i c).1 hc with hc|⟨rfl,h1,h2⟩
   ·exact h.snd i c hc
   ·exact .inr ⟨h1,h2⟩
  ·by_cases e:i=m
   ·rw [e];simp
   ·have:cu R' m (ap2 aV d (T (a,m))) i=R' i:=by unfold cu eC;rw [if_neg e]
    rw [this] at hi;exact SD.2 (.inl (h.pu i hi))
  ·have h1:=(za h.sx hsx (dZ h.sx hx) keys).2 m hm λe=>hne (by
    funext i;by_cases ei:i=m
    ·rw [ei];exact e.symm
    ·unfold cu eC;rw [if_neg ei])
   have:=h.mu;rw [SF,SO];omega
 ·intro he;rw [he] at cp;exact ⟨h.sx,h.le,h.snd,cp,h.pu,h.mu⟩
theorem nD {n:Int} {d:Tr} {w:Γ} {R:Int->Tr} {qs:Sl} {q keys:Φ} (hk:k<=6) (E:CyE G b14 mn b4 mt nx T) (q18:G b18=some (.cells #[.map (some mr)] 95)) (hT:Sxs k T) (hd:Sx k d) (hw:DV G w (dia d)) (hR:Sxs k R)
  (hn:∀m,T (n,m)≠leaf false->m∈nx n) (hk2:∀m∈nx n,m∈keys) (hl:(nx n).length<=1000000) (hq:q.length<=100000000)
  (h:St G F (mS aI G mr R::pt b19 (.cells #[Sl.v qs] 67)::que 3 qs (q.map vi)::As)):
  aj prog 121 #[vi n,.agg w,.pointer (some ⟨b14,0,none⟩),.pointer (some ⟨b18,0,none⟩),.pointer (some ⟨b4,0,none⟩),.pointer (some ⟨b19,0,none⟩)] F λr F'=>∃G' R' ps qs',r=.tuple #[]/\G.le G'/\Vis k keys T n d R R' ps/\
   St G' F' (mS aI G' mr R'::pt b19 (.cells #[Sl.v qs'] 67)::que 3 qs' ((q++ps).map vi)::As):=by
 obtain ⟨_,_,TI⟩:=LO;refine Qi ?_;unfold JQ;refine h.newG λb7 G1 F1 l1 q7 _ h=> ?_;have E1:=E.le l1;obtain ⟨sn,hlk,hsn⟩:=E1.look h.le n;refine ⟨_,rfl,_,ld (h.le _ _ E1.q14) rfl,sn,hlk,?_⟩;have hsl:=hsn.len (by decide)
 refine bu (vh · n _ _ _ b7 sn _) (nx n).length (λi F'=>∃(G':PH) (R':Int->Tr) (ps:Φ) (qs':Sl),G1.le G'/\ps.length<=i/\EV k keys T n d ((nx n).take i) R R' ps/\∃Bs,
  St G' F' ((mS aI G' mr R'::pt b19 (.cells #[Sl.v qs'] 67)::que 3 qs' ((q++ps).map vi)::As)++Bs)) ⟨G1,R,[],qs,aq _,SC _,⟨hR,Lt'.refl R,λm c h=> .inl h,λm hm=>(by simp at hm),λm h=>absurd rfl h,SC _⟩,[],
   by rw [Tn,Tn];exact h.imp 0 rfl λ_ _ hH=>hH.le l1⟩ ?_
 rintro i F2 N hi ⟨G2,R2,ps,qs2,l2,hpl,hv,Bs,h⟩ next;replace h:St G2 F2 (mS aI G2 mr R2::pt b19 (.cells #[Sl.v qs2] 67)::que 3 qs2 ((q++ps).map vi)::As):=h.pick id (λ_ _ _ _ e=>e) λi hi=>by rw [id,SJ hi]
 unfold vh;refine ⟨λhlt=> ?_,λhge=> ?_⟩
 ·have hlt:i<(nx n).length:=by omega
  refine ixc (hsn.le l2) (by decide) (by omega) (by omega) λa18 c18 m hm hrow hc=> ?_;rw [N4] at hm;obtain rfl:c18= #[vi m]:=hc;have hmm:=SE hm;refine ⟨m,aY (aT h.le hrow) rfl,_,rfl,_,ld (h.le _ _ (l2 _ _ (l1 _ _ q18))) rfl,?_⟩;refine (eZ h (aq _) m).mono ?_;rintro _ F3 ⟨G3,u,rfl,hu,l3,h⟩;refine ⟨u,rfl,?_⟩;refine h.var hu.st (λb10 G4 F4 l4 q10 h=> ?_) rfl hu.size;have l14:=aa l2 (aa l3 l4);have E4:=E1.le l14;have hu4:=hu.le l4;obtain ⟨v,hlv,hv4⟩:=E4.step h.le (n,m);refine ⟨u,hu.size,ac (h.le _ _ q10),w,hw.size,ac (h.le _ _ (l14 _ _ q7)),_,rfl,_,ld (h.le _ _ E4.q4) rfl,v,hlv,?_⟩;have hx:Sx k (ap2 aV d (T (n,m))):=hd.ap2 (o:=aV) (hT _);have hA:∀{G':PH},G4.le G'->aj prog 35 #[.agg w,.agg v] G' λr G''=>(∃y,r=.tuple #[.agg y,vi 0]/\DV G'' y (dia (ap2 aV d (T (n,m)))))/\G'.le G'':=
   λl=>(gc hk hd (hT _) (hw.le (aa l1 (aa l14 l))) (hv4.le l)).mono λr F' ⟨x,a,b,c⟩=>⟨⟨x,a,b⟩,c⟩
  have hO:∀{G':PH} {y:Γ},G4.le G'->DV G' y (dia (ap2 aV d (T (n,m))))->aj prog 28 #[.agg u,.agg y] G' λr G''=>(∃y,r=.tuple #[.agg y,vi 0]/\DV G'' y (dia (ap2 oOr (R2 m) (ap2 aV d (T (n,m))))))/\G'.le G'':=
   λl hy=>(i7 hk (hv.sx m) hx (hu4.le l) hy).mono λr F' ⟨x,a,b,c⟩=>⟨⟨x,a,b⟩,c⟩
  obtain ⟨va1,va2⟩:=hv.add hT hd (hk2 m hmm);have et:=cS hm;have fin:∀{G' F':PH} {y w0:Γ} {b11:Nat},w0.size=2->G4.le G'->DV G' y (dia (ap2 oOr (R2 m) (ap2 aV d (T (n,m)))))->St G' F' (pt b11 (.cells w0 31)::mS aI G2 mr R2::pt b19 (.cells #[Sl.v qs2] 67)::que 3 qs2 ((q++ps).map vi)::As)->
    au F' (Addr.mk b11 0 none) 2 y λF=>ig N n (Addr.mk b18 0 none) (some (Addr.mk b4 0 none)) (some (Addr.mk b19 0 none)) b7 m b10 sn (i:Int) (some (Addr.mk b11 0 none)) (λr F'=>∃G' R' ps qs',r=.tuple #[]/\G.le G'/\Vis k keys T n d R R' ps/\
     St G' F' (mS aI G' mr R'::pt b19 (.cells #[Sl.v qs'] 67)::que 3 qs' ((q++ps).map vi)::As)) F:=λ{G' F' y w0 b11} hw0 l hy h=>by
   refine h.put0 hy.size hw0 hy.st λF5 h=> ?_;unfold ig;refine ⟨u,hu.size,ac (h.le _ _ (l _ _ q10)),_,rfl,y,hy.size,ac (h.ptAt (i:=0) rfl),?_⟩;refine h.runv (eI (hu4.le l) hy (oe ((hv.sx m).small hk))) λG6 F6 l6 h=>⟨_,rfl,?_⟩;have kk:=(hv.sx m).ap2 (o:=oOr) hx;have l26:=aa (aa l3 l4) (aa l l6);refine ⟨λhne=> ?_,λhe=> ?_⟩
   ·have hne:ap2 oOr (R2 m) (ap2 aV d (T (n,m)))≠R2 m:=λe=>by rw [e,decide_eq_true rfl] at hne;cases hne
    refine ⟨_,ld (h.le _ _ (aa l2 l26 _ _ (l1 _ _ q18))) rfl,y,hy.size,ac (h.ptAt (i:=0) rfl),?_⟩;obtain ⟨o,mp,m1,m2,m3⟩:=h.mS_at (i:=1) rfl;refine aR wS m1 m2 m (.agg y) λo' ho'=> ?_;have h:=h.mS_set 1 rfl (G1:=G6) (S':=cu R2 m (ap2 aV d (T (n,m)))) ho' ((m3.le l26).put (hy.le l6));refine ⟨_,rfl,qs2,ld (h.ptAt (i:=2) rfl) rfl,?_⟩;have hql:qs2.len=(q++ps).length:=by have:=(h.queAt (i:=3) rfl).len;rw [SM,Tb] at this;exact this.symm
    rw [SF] at hql;refine h.newG λb47 G7 F7 l7 q47 _ h=> ?_;refine h.quePush TI 3 rfl (RdS.new (h.le _ _ q47) rfl rfl (SC _)) (by simp [ak]) (by omega) λs' F8 h hs'=> ?_;refine h.set2 (w':= #[Sl.v s']) (by show 0<1;decide) rfl λF9 h=> ?_;unfold oZ;rw [aE hlt (by omega)];refine next _ hlt ⟨G7,_,ps++[m],s',aa l2 (aa l26 l7),by rw [SF,SO];omega,by rw [et];exact va1 λe=>hne (jy.1 e),[pt b11 (.cells y 31)],?_⟩;rw [<- Ta,Tf (l₁:=q++ps)];exact (h.imp 1 rfl λ_ _ hH=>mS.le hH l7).rot
   ·have e:ap2 oOr (R2 m) (ap2 aV d (T (n,m)))=R2 m:=by
     have:decide (dia (R2 m)=dia (ap2 oOr (R2 m) (ap2 aV d (T (n,m)))))=true:=by simpa using he
     exact (ot (hv.sx m).1 kk.1 (of_decide_eq_true this)).symm
    unfold oZ;rw [aE hlt (by omega)];refine next _ hlt ⟨G6,R2,ps,qs2,aa l2 l26,by omega,by rw [et];exact va2 (jy.2 e),[pt b11 (.cells y 31)],?_⟩;exact (h.imp 1 rfl λ_ _ hH=>mS.le hH l26).rot
  have c4:∀{G' F':PH} {As:List (Ψ)},G4.le G'->St G' F' As->F'.cell (Addr.mk b4 0 none)=some (.map (some mt)):=λl h=>ld (h.le _ _ (E4.le l).q4) rfl;have r10:∀{G' F':PH} {As:List (Ψ)},G4.le G'->St G' F' As->F'.row (Addr.mk b10 0 none) u:=λl h=>ac (h.le _ _ (l _ _ q10));refine ⟨?_,?_⟩
  ·refine h.run (hA (aq _)) λ_ G5 F5 hr5 l5 h=> ?_;obtain ⟨y,rfl,hy⟩:=hr5;refine ⟨_,_,rfl,c4 l5 h,r10 l5 h,?_,?_⟩
   ·refine h.runv (bj hy) λG6 F6 l6 h=>⟨_,rfl,c4 (aa l5 l6) h,r10 (aa l5 l6) h,?_,?_⟩
    ·refine h.run (hO (aa l5 l6) (hy.le l6)) λ_ G7 F7 hr7 l7 h=> ?_;obtain ⟨z,rfl,hz⟩:=hr7;have l57:=aa (aa l5 l6) l7;refine ⟨_,_,rfl,c4 l57 h,?_,?_⟩
     ·refine h.runv (bj hz) λG8 F8 l8 h=>⟨_,rfl,c4 (aa l57 l8) h,?_⟩;exact h.new λb11 F9 h=>fin rfl (aa l57 l8) (hz.le l8) h
     ·refine h.new λb11 F8 h=> ?_;exact h.runv (bj hz) λG8 F8 l8 h=>⟨_,rfl,c4 (aa l57 l8) h,fin rfl (aa l57 l8) (hz.le l8) h⟩
    ·refine h.new λb11 F7 h=> ?_;refine h.run (hO (aa l5 l6) (hy.le l6)) λ_ G7 F7 hr7 l7 h=> ?_;obtain ⟨z,rfl,hz⟩:=hr7;refine ⟨_,_,rfl,c4 (aa (aa l5 l6) l7) h,?_⟩;exact h.runv (bj hz) λG8 F8 l8 h=>⟨_,rfl,c4 (aa (aa l5 l6) (aa l7 l8)) h,fin rfl (aa (aa l5 l6) (aa l7 l8)) (hz.le l8) h⟩
   ·refine h.new λb11 F6 h=> ?_;refine h.runv (bj hy) λG6 F6 l6 h=>⟨_,rfl,c4 (aa l5 l6) h,r10 (aa l5 l6) h,?_⟩;refine h.run (hO (aa l5 l6) (hy.le l6)) λ_ G7 F7 hr7 l7 h=> ?_;obtain ⟨z,rfl,hz⟩:=hr7;refine ⟨_,_,rfl,c4 (aa (aa l5 l6) l7) h,?_⟩;exact h.runv (bj hz) λG8 F8 l8 h=>⟨_,rfl,c4 (aa (aa l5 l6) (aa l7 l8)) h,fin rfl (aa (aa l5 l6) (aa l7 l8)) (hz.le l8) h⟩
  ·refine h.new λb11 F5 h=> ?_;refine h.run (hA (aq _)) λ_ G5 F5 hr5 l5 h=> ?_;obtain ⟨y,rfl,hy⟩:=hr5;refine ⟨_,_,rfl,c4 l5 h,r10 l5 h,?_⟩;refine h.runv (bj hy) λG6 F6 l6 h=>⟨_,rfl,c4 (aa l5 l6) h,r10 (aa l5 l6) h,?_⟩;refine h.run (hO (aa l5 l6) (hy.le l6)) λ_ G7 F7 hr7 l7 h=> ?_;obtain ⟨z,rfl,hz⟩:=hr7;refine ⟨_,_,rfl,c4 (aa (aa l5 l6) l7) h,?_⟩;exact h.runv (bj hz) λG8 F8 l8 h=>⟨_,rfl,c4 (aa (aa l5 l6) (aa l7 l8)) h,fin rfl (aa (aa l5 l6) (aa l7 l8)) (hz.le l8) h⟩
 ·have e:i=(nx n).length:=by omega
  subst e;rw [SK] at hv;exact ⟨G2,R2,ps,qs2,rfl,aa l1 l2,⟨hv.sx,hv.le,hv.snd,λm c h1 h2=>hv.cpl m (hn m λe=>by rw [e] at h2;cases h2) c h1 h2,hv.pu,hv.mu⟩,h⟩
end
section
end
theorem RL.cut {α:Type} [Mem α] {G:PH} {s:Sl} {l:List α} {n k:Nat} (h:RL G s l) (hn:Mem.n α=n) (hk:k<=s.len):RL G (Sl.cut s n 0 k s.cap) (l.take k):=by subst hn;obtain ⟨vs,hr,hd⟩:=h;refine ⟨vs.take k,hr.take k,?_⟩;have:=hd.cut (l:=0) (r:=k) (m:=s.cap) (by omega) hk (by have:=hd.cap;omega);rw [TN,Te,TZ,hr.cat_take] at this;exact this
section
variable {F G F1:PH} {b8 b9:Nat} {g:Gr} {c m t s p l f:Sl} {part:Nat} {d:Dia} {kc kt kn kp:Nat} {tk:Tk} {pr:Pr}
structure KK (F G:PH) (g:Gr) (c m t s p l f:Sl) (b8:Nat):Prop where
 lF:F.le G
 hT:Tab G
 gs:GS G g c m t s p l f
 q8:G b8=some (.cells (g.arr c m t s p l f) 37)
 mg:MG g
 bd:Bd g 18 10
theorem KK.le {G':PH} (h:KK F G g c m t s p l f b8) (hl:G.le G'):KK F G' g c m t s p l f b8:=⟨aa h.lF hl,h.hT.le hl,h.gs.le hl,hl _ _ h.q8,h.mg,h.bd⟩
end
theorem RL.cutD {α:Type} [Mem α] {G:PH} {s:Sl} {l:List α} {n k:Nat} (h:RL G s l) (hn:Mem.n α=n) (h0:0<n) (hk:k<=s.len):RL G (Sl.cut s n k s.len s.cap) (l.drop k):=by subst hn;have hl:=h.len h0;obtain ⟨vs,hr,hd⟩:=h;refine ⟨vs.drop k,hr.drop k,?_⟩;have:=hd.cut (l:=k) (r:=s.len) (m:=s.cap) hk (SC _) hd.cap;rw [hr.cat_drop,SI (by rw [(hr.drop k).cat_len,List.length_drop,hl];exact SC _)] at this;exact this
theorem JO:∃b z,SlT 50 63 2 b z:=⟨_,_,underlying50,M2,M6,rfl,by decide,by decide⟩
theorem wJ:∀a b:Int×Int,bM a=bM b->a=b:=λa b h=>by
 injection h with h
 have h:=congrArg Array.toList h;simp at h;exact Prod.ext h.1 h.2
theorem wK:∀a b:Int,aI a=aI b->a=b:=λa b h=>by have h:(vi a)=vi b:=h;injection h
section
variable {κ:Type} [DecidableEq κ] {enc:κ->Value} {G G0 G1 F:PH} {As:List (Ψ)} {m:Nat} {S S':κ->Tr} {K:List κ} {A:Ψ}
theorem St.mA_at (h:St G F As) {i:Nat} (hi:As[i]? =some A) (hA:∀H,A H->mS enc G0 m S H):∃o mp,F m=some o/\dY enc mp o/\i6 G0 S mp:=by obtain ⟨H,hH,_,h4⟩:=h.get hi;obtain ⟨o,mp,h1,h2,h3⟩:=hA H hH;exact ⟨o,mp,h4 _ _ h1,h2,h3⟩
def mG (enc:κ->Value) (K:List κ) (G:PH) (m:Nat) (S:κ->Tr):Ψ:=λH=>∃o mp,H m=some o/\wL enc mp o/\i6 G S mp/\∀n,mp n≠none->n∈K
theorem mG.mS {H:PH} (h:mG enc K G m S H):mS enc G m S H:=by obtain ⟨o,mp,h1,h2,h3,_⟩:=h;exact ⟨o,mp,h1,h2.mapO,h3⟩
theorem mG.le {H:PH} (h:mG enc K G0 m S H) (l:G0.le G1):mG enc K G1 m S H:=by obtain ⟨o,mp,h1,h2,h3,h4⟩:=h;exact ⟨o,mp,h1,h2,h3.le l,h4⟩
theorem St.mG_new (enc:κ->Value) (K:List κ) (h:St G F (pt m (.map #[] 0)::As)):St G F (mG enc K G m (λ_=>leaf false)::As):=
 h.imp (A':=mG enc K G m (λ_=>leaf false)) 0 rfl λH _ hH=>⟨_,_,hH,wL.empty enc,i6.empty G,λ_ h=>absurd rfl h⟩
theorem St.mG_put {mt:TypeId} {z:Value} (hm:fL prog mt enc z) (inj:∀a b,enc a=enc b->a=b) (h:St G F As) (i:Nat) (hi:As[i]? =some (mG enc K G0 m S)) (l0:G0.le G) {n:κ} (hn:n∈K) {w:Γ} {t:Tr} (hw:DV G w (dia t)) {C:Ψ}
  (k:∀F',St G F' (As.set i (mG enc K G m (eC S n t)))->C F'):aD prog (Instr.mapUpdate mt (.map (some m)) (enc n) (.agg w)) F λ_ F=>C F:=by
 obtain ⟨H,⟨o,mp,a1,a2,a3,a4⟩,b2,b3,b4⟩:=h.set (A':=mG enc K G m (eC S n t)) hi;refine Cc hm inj (b3 _ _ a1) a2 n (.agg w) λo' ho'=>k _ ?_;refine b4 (H.set m o') _ ⟨o',_,al _ _ _,ho',(a3.le l0).put hw,λx hx=> ?_⟩ (λx hx=> ?_) (λx p hx=> ?_) (λx p hx hn=> ?_)
 ·by_cases e:x=n
  ·rw [e];exact hn
  ·rw [if_neg e] at hx;exact a4 x hx
 ·by_cases e:x=m
  ·rw [e,a1];exact .inl (by simp)
  ·rw [az _ _ e] at hx;exact .inl hx
 ·by_cases e:x=m
  ·rw [e,al] at hx ⊢;exact hx
  ·rw [az _ _ e] at hx ⊢;exact b3 _ _ hx
 ·have e:x≠m:=λe=>by rw [e,a1] at hn;cases hn
  rw [az _ _ e];exact hx
end
section
variable {G G0 F:PH} {As:List (Ψ)} {m:Nat} {k:Nat} {A:Ψ}
theorem Cb {S:Int×Int->Tr} (hA:∀H,A H->mS bM G0 m S H) (h:St G F (A::As)) (l0:G0.le G) (n:Int×Int):
  aj prog 75 #[.map (some m),.agg (ul n)] F λr F'=>∃G' w,r=.agg w/\DV G' w (dia (S n))/\G.le G'/\St G' F' (A::As):=by
 refine Qg ?_;unfold LX;refine h.new λb3 Fa h=> ?_;refine h.new λb4 F1 h=> ?_;refine ⟨_,rfl,ac (h.ptAt (i:=1) rfl),?_⟩;obtain ⟨o,mp,h1,h2,h3⟩:=h.mA_at (i:=2) rfl hA;have hlk:=bE (F:=F1) EZ h1 h2 n true;rcases h3 n with ⟨e1,e2⟩|⟨w,e1,e2⟩
 ·rw [e1] at hlk;refine ⟨_,_,hlk,?_⟩;refine h.new λb5 F2 h=> ?_;refine h.put0 (w':=zD) rfl rfl (by simp [ak]) λF3 h=>⟨λhc=>(by cases hc),λ_=> ?_⟩;refine (h.call (bX false)).mono ?_;rintro _ F4 ⟨G',⟨w,rfl,hw,l1⟩,h⟩;refine ⟨w,rfl,?_⟩;refine h.put1 (w':=w) hw.size rfl hw.st λF5 h=>⟨w,hw.size,ac (h.ptAt (i:=1) rfl),?_⟩;exact ⟨G',w,rfl,by rw [e2];exact hw,l1,h.tail.tail.tail⟩
 ·rw [e1] at hlk;refine ⟨_,_,hlk,?_⟩;have hw:=e2.le l0;refine h.new λb5 F2 h=> ?_;refine h.put0 (w':=w) hw.size rfl hw.st λF3 h=>⟨λ_=>⟨w,hw.size,ac (h.ptAt (i:=0) rfl),?_⟩,λhc=>(by cases hc)⟩;refine h.put1 (w':=w) hw.size rfl hw.st λF5 h=>⟨w,hw.size,ac (h.ptAt (i:=1) rfl),?_⟩;exact ⟨G,w,rfl,hw,aq _,h.tail.tail.tail⟩
end
section
variable {G F Gn:PH} {g:Gr} {k ms mn ban b4:Nat} {N:Int->Tr} {R:VR}
theorem PI {q p:Sl} (hk:OkK g k) (hN:Sxs k N) (lN:Gn.le G) (hl:∀x∈g.prods,x.right.length<=1000000) (hp:g.prods.length<=1000000) (hrp:RL G p g.prods) (qa:∃c n t s p l f,G ban=some (.cells (anA g c n t s p l f q) 107)) (hq:RL G q (nT g g.prods.length))
  (q4:G b4=some (.cells #[.map (some ms)] 113)) (h:St G F [mG bM (ip g.prods) G ms (λ_=>leaf false),mS aI Gn mn N])
  (fin:∀G' F',G.le G'->St G' F' [mG bM (ip g.prods) G' ms (rK N (aF g) 0 g.prods λ_=>leaf false)]->u0 (some (Addr.mk ban 0 none)) b4 R F'):
  Lp (0:Int) F λN v F=>u7 N (Addr.mk ban 0 none) (some mn) b4 p R v F:=by
 obtain ⟨_,_,T⟩:=JO;obtain ⟨c',n',t',s',p',l',f',qa⟩:=qa;have ep:=hrp.len (by decide);have eq:=hq.len (by decide);rw [i9] at eq
 refine bu (u7 · (Addr.mk ban 0 none) (some mn) b4 p R) g.prods.length (λi F'=>∃(G':PH) (S:Int×Int->Tr),G.le G'/\Sxs k S/\(rK N (aF g) 0 g.prods λ_=>leaf false)=rK N (aF g) i (g.prods.drop i) S/\
  St G' F' [mG bM (ip g.prods) G' ms S,mS aI Gn mn N]) ⟨G,_,aq _,λ_=>Sx.leaf k false,by rw [Te],h⟩ ?_
 rintro i F1 N1 hi ⟨G1,S1,l1,hS1,hst,h⟩ next;unfold u7;refine ⟨λhlt=> ?_,λhge=> ?_⟩
 ·have hlt:i<g.prods.length:=by omega
  refine h.ix (hrp.le l1) (by decide) (by omega) (by omega) λa c6 x hx hrow hc6=>⟨c6,Mem.len hc6,hrow,?_⟩;rw [N4] at hx;have hxm:=SE hx;have hlx:=hl x hxm;have edrop:g.prods.drop i=x::g.prods.drop (i+1):=cv hx;refine h.var (Mem.st hc6) (λb6 G2 F2 l2 q6 h=> ?_) rfl (Mem.len hc6);obtain ⟨r,n6,l6,rfl,hr,hn6,_⟩:=hc6;have l12:=aa l1 l2;have hr2:=hr.le l2;have er:=hr2.len (by decide);have erc:=hr2.cap;refine ⟨_,ld (h.le _ _ q6) rfl,?_⟩
  refine bu (yT N1 · (Addr.mk ban 0 none) (some mn) b4 (i:Int) b6 p r R) x.right.length (λj F'=>∃(G':PH) (S2:Int×Int->Tr),G2.le G'/\Sxs k S2/\rg N (aF g i) x 0 x.right S1=rg N (aF g i) x j (x.right.drop j) S2/\
   ∃Bs,St G' F' ([mG bM (ip g.prods) G' ms S2,mS aI Gn mn N]++Bs)) ⟨G2,S1,aq _,hS1,by rw [Te],[],h.imp 0 rfl λ_ _ hH=>mG.le hH l2⟩ ?_
  rintro j F3 N2 hj ⟨G3,S2,l3,hS2,hsx,Bs,h⟩ next2;replace h:St G3 F3 [mG bM (ip g.prods) G3 ms S2,mS aI Gn mn N]:=h.pick id (λ_ _ _ _ e=>e) λi hi=>by rw [id,SJ hi]
  unfold yT;refine ⟨λhjl=> ?_,λhjg=> ?_⟩
  ·have hjl:j<x.right.length:=by omega
   refine ixc (hr2.le l3) (by decide) (by omega) (by omega) λa8 c8 sy hsy hrow8 hc8=>⟨c8,Mem.len hc8,aT h.le hrow8,?_⟩;rw [N4] at hsy;obtain rfl:c8=sy.arr:=hc8;have edr:x.right.drop j=sy::x.right.drop (j+1):=cv hsy;refine h.var (by simp [ak]) (λb8 G4 F4 l4 q8 h=>⟨_,ld (h.le _ _ q8) rfl,λhyt=> ?_,λhyt=> ?_⟩) rfl rfl
   ·have hyt:sy.t=true:=hyt;unfold mN;rw [aE hjl (by omega)];refine next2 _ hjl ⟨G4,S2,aa l3 l4,hS2,?_,[],h.imp 0 rfl λ_ _ hH=>mG.le hH l4⟩;rw [hsx,edr];show rg N (aF g i) x (j+1) _ (if sy.t=true then S2 else _)=_;rw [if_pos hyt]
   ·have hyt:sy.t=false:=hyt;have l34:=aa l3 l4;have q64:=l34 _ _ q6;have hr4:=hr2.le l34;have hw1:IntKind.i64.wrap ((j:Int)+1)=((j+1:Nat):Int):=aE hjl (by omega);refine ⟨_,ld (h.le _ _ q64) rfl,by omega,by omega,by rw [N4];omega,_,ld (h.le _ _ q64) rfl,?_⟩;dsimp only;rw [hw1];refine ⟨by omega,by rw [N4];omega,erc,?_⟩;simp only [N4];obtain ⟨v1,ha1,hb1⟩:=hr4.cut (n:=2) rfl (k:=j) (by omega);obtain ⟨v2,ha2,hb2⟩:=hr4.cutD (n:=2) rfl (by decide) (k:=j+1) (by omega);refine h.new λb46 F5 h=> ?_;have h:=h.imp (A':=own (Sl.mk (some (Addr.mk b46 0 none)) 0 0) 63 2 []) 0 rfl λH _ hH=>jc hH;have hcl1:(Sl.cut r 2 0 j r.cap).len=j:=by unfold Sl.cut;dsimp only;omega
    have hcl2:(Sl.cut r 2 (j+1) r.len r.cap).len=r.len - (j+1):=rfl;refine h.app0 T (hb1.le h.le) ha1.st (by rw [hcl1];show 0+j<=_;omega) λs1 F6 h hs1=> ?_;rw [S8] at h;refine ⟨ld (h.le _ _ q64) rfl,ld (h.le _ _ q64) rfl,?_⟩;have hs1:s1.len=0+j:=by rw [hs1,hcl1]
    refine h.app0 T (hb2.le h.le) ha2.st (by rw [hcl2];omega) λs2 F7 h hs2=> ?_;refine ⟨ld (h.le _ _ q64) rfl,ld (h.le _ _ q64) rfl,?_⟩;obtain ⟨G5,l5,hd5,h⟩:=h.pinO;have hoth:RL G5 s2 (x.right.eraseIdx j):=by rw [List.eraseIdx_eq_take_drop_succ];refine ⟨v1++v2,(ha1.le l5).append (ha2.le l5),?_⟩;rw [cj];exact hd5
    have hol:(x.right.eraseIdx j).length<=1000000:=by have:=List.length_eraseIdx_le x.right j;omega
    have eol:=hoth.len (by decide);have l15:=aa l12 (aa l34 l5);refine ⟨_,by rw [aC];exact ld (h.le _ _ (l15 _ _ qa)) rfl,?_⟩;refine ixc (hq.le l15) (by decide) (by omega) (by omega) λa9 c9 dd hdd hrow9 hc9=>⟨c9,Mem.len hc9,aT h.le hrow9,?_⟩;rw [N4] at hdd;have hdd:dd=dia (aF g i):=by unfold nT at hdd;rw [SQ,Ts hlt] at hdd;exact (SY hdd).symm
    have hc9:DV G5 c9 (dia (aF g i)):=by rw [<- hdd];exact hc9
    refine (gL h.swap (aa lN l15) hk.le hN (hk.prs i) hc9 hoth hol).mono ?_;rintro _ F8 ⟨G6,u,rfl,hu,l6,h⟩;have h:=h.swap;refine ⟨u,rfl,?_⟩;refine h.new λb10 F9 h=> ?_;refine h.put0 (w':=u) hu.size rfl hu.st λF10 h=> ?_;obtain ⟨hal,_⟩:=bl hN (x.right.eraseIdx j) (hk.prs i);obtain ⟨hsd,_⟩:=ia hN (hk.prs i) x.right j;have l56:=aa l5 l6
    refine bu (yS N1 N2 · (Addr.mk ban 0 none) (some mn) b4 (i:Int) b6 b8 b10 p r (j:Int) s2 R) (x.right.eraseIdx j).length (λe F'=>∃(G':PH) (y:Γ),G6.le G'/\
     DV G' y (dia (if ((x.right.eraseIdx j).take e).any (·.t)=true then leaf false else dn N (aF g i) (x.right.eraseIdx j)))/\St G' F' [pt b10 (.cells y 31),mG bM (ip g.prods) G3 ms S2,mS aI Gn mn N]) ⟨G6,u,aq _,by rw [TF];exact hu,h⟩ ?_
    rintro e F11 N3 he ⟨G7,y,l7,hy,h⟩ next3;unfold yS;have l57:=aa l6 l7;refine ⟨λhel=> ?_,λheg=> ?_⟩
    ·have hel:e<(x.right.eraseIdx j).length:=by omega
     refine ixc (hoth.le l57) (by decide) (by omega) (by omega) λa12 c12 sz hsz hrow12 hc12=>⟨c12,Mem.len hc12,aT h.le hrow12,?_⟩;rw [N4] at hsz;obtain rfl:c12=sz.arr:=hc12;have et:=cS hsz;refine h.var (by simp [ak]) (λb12 G8 F12 l8 q12 h=>⟨_,ld (h.le _ _ q12) rfl,λhzt=> ?_,λhzt=> ?_⟩) rfl rfl
     ·have hzt:sz.t=true:=hzt;refine (h.call (bX false)).mono ?_;rintro _ F13 ⟨G9,⟨w,rfl,hw,l9⟩,h⟩;refine ⟨w,rfl,?_⟩;refine h.put0 (w':=w) hw.size hy.size hw.st λF14 h=> ?_;unfold u6;rw [aE hel (by omega)];refine next3 _ hel ⟨G9,w,aa l7 (aa l8 l9),?_,h⟩;rw [et,List.any_append,List.any_cons,hzt,Bool.true_or,Bool.or_true,if_pos rfl];exact hw
     ·have hzt:sz.t=false:=hzt;unfold u6;rw [aE hel (by omega)];refine next3 _ hel ⟨G8,y,aa l7 l8,?_,h⟩;rw [et,List.any_append,List.any_cons,hzt,List.any_nil,Ur,Ur];exact hy.le l8
    ·have he:e=(x.right.eraseIdx j).length:=by omega
     subst he;rw [SK] at hy;have hy:DV G7 y (dia (mL N (aF g i) x.right j)):=hy;have l37:=aa l4 (aa l5 l57);have go:∀{G' F':PH} {Bs:List (Ψ)},G7.le G'->St G' F' ([mG bM (ip g.prods) G' ms (cu S2 (x.left,sy.i) (mL N (aF g i) x.right j)),mS aI Gn mn N]++Bs)->mN N1 N2 (Addr.mk ban 0 none) (some mn) b4 (i:Int) b6 p r (j:Int) R F':=λ{G' F' Bs} l h=>by unfold mN;rw [hw1];refine next2 _ hjl ⟨G',_,aa l3 (aa l37 l),dm hS2 hsd,?_,Bs,h⟩;rw [hsx,edr];show rg N (aF g i) x (j+1) _ (if sy.t=true then S2 else _)=_;rw [hyt,if_neg TX]
     unfold Fo;obtain ⟨sd,ey,_⟩:=id hy;have q67:=aa (aa l3 l37) (aq _) _ _ q6;refine ⟨_,ld (h.ptAt (i:=0) rfl) (by rw [ey];rfl),λh0=> ?_,λh0=> ?_⟩
     ·refine ⟨_,ld (h.le _ _ q67) rfl,_,ld (h.le _ _ (aa l5 l57 _ _ q8)) rfl,?_⟩;refine h.var (by simp [ak]) (λb13 G8 F12 l8 q13 h=> ?_) rfl rfl;have l18:=aa l15 (aa l57 l8);have q48:=l18 _ _ q4;have key:(x.left,sy.i)∈ip g.prods:=Un.2 ⟨x,hxm,SL.2 ⟨sy,SE hsy,rfl⟩⟩;refine ⟨_,ld (h.le _ _ q48) rfl,_,rfl,ac (h.le _ _ q13),_,ld (h.le _ _ q48) rfl,_,rfl,ac (h.le _ _ q13),y,hy.size,ac (h.ptAt (i:=0) rfl),?_⟩;refine (Cb (λH hH=>mG.mS hH) h.swap (aa l37 l8) (x.left,sy.i)).mono ?_;rintro _ F13 ⟨G9,w,rfl,hw,l9,h⟩;have h:=h.swap;have q139:=l9 _ _ q13;have q49:=l9 _ _ q48;refine ⟨w,rfl,ac (h.ptAt (i:=0) rfl),ac (h.le _ _ q139),ld (h.le _ _ q49) rfl,?_⟩;refine h.run (P:=λr' G'=>∃z,r'=.tuple #[.agg z,vi 0]/\DV G' z (dia (ap2 oOr (S2 (x.left,sy.i)) (mL N (aF g i) x.right j)))) ((i7 hk.le (hS2 _) hsd hw (hy.le (aa l8 l9))).mono λr F' ⟨x,a,b,c⟩=>⟨⟨x,a,b⟩,c⟩) λ_ G10 F14 hr10 l10 h=> ?_;obtain ⟨z,rfl,hz⟩:=hr10;refine ⟨_,_,rfl,ac (h.le _ _ (l10 _ _ q139)),ld (h.le _ _ (l10 _ _ q49)) rfl,?_⟩;refine h.runv (bj hz) λG11 F15 l11 h=>⟨_,rfl,ac (h.le _ _ (l11 _ _ (l10 _ _ q139))),ld (h.le _ _ (l11 _ _ (l10 _ _ q49))) rfl,?_⟩;have l711:=aa l8 (aa l9 (aa l10 l11));refine h.mG_put EZ wJ 1 rfl (aa l37 l711) key (hz.le l11) λF16 h=> ?_;exact go (Bs:=[pt b10 (.cells y 31)]) l711 h.rot
     ·have e0:mL N (aF g i) x.right j=leaf false:=(fa hsd.1).1 (by simpa using h0);refine go (Bs:=[pt b10 (.cells y 31)]) (aq _) ?_;rw [e0,dk hS2];exact (h.imp 1 rfl λ_ _ hH=>mG.le hH l37).rot
  ·have hj:j=x.right.length:=by omega
   subst hj;rw [Tv] at hsx;have hsx:rg N (aF g i) x 0 x.right S1=S2:=hsx;unfold Fm;rw [aE hlt (by omega)];refine next _ hlt ⟨G3,S2,aa l12 l3,hS2,?_,h⟩;rw [hst,edrop];show rK N (aF g) (i+1) _ (rg N (aF g i) x 0 x.right S1)=_;rw [hsx]
 ·have e:i=g.prods.length:=by omega
  subst e;rw [Tv] at hst;have hst:(rK N (aF g) 0 g.prods λ_=>leaf false)=S1:=hst;refine fin G1 F1 l1 ?_;rw [hst];exact h.hd
end
end Go.Proofs.YtcemhghkipgdiaaGreatDoor
