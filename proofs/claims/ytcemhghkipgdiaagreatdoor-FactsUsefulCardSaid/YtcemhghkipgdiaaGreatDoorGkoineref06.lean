/-
  What functions of the program do, in a clean form, each with the proof that its code does so. Printed by a program.
-/
import Derived.Test.YtcemhghkipgdiaaGreatDoorCb
import Derived.Test.YtcemhghkipgdiaaGreatDoorAt
import Derived.Test.YtcemhghkipgdiaaGreatDoorAm
import Derived.Test.YtcemhghkipgdiaaGreatDoorAb
import Derived.Test.YtcemhghkipgdiaaGreatDoorPhp
import Derived.Test.YtcemhghkipgdiaaGreatDoorGdiagram
namespace Go.Proofs.YtcemhghkipgdiaaGreatDoor
open Go.IntKind (i64 u8 u64)
open Go Go.Proofs.Tryz Tr
set_option maxRecDepth 10000
theorem Mu:aB prog 58=true:=by kernel_rfl
theorem Mv:aB prog 71=true:=by kernel_rfl
def Mw (k:Nat) (g:Gr) (ds:List Dia):Prop:=∃C,mh k g.nons.length g.prods (aF g) C/\ds=eP C g.nons.length
def kI (g:Gr):Prop:=∃(n:Nat) (c:Cf),n<g.nons.length/\Tg (Stp g.prods (aF g) c) n n
section
variable {G F:PH} {g:Gr} {k:Nat}
theorem mi {ban:Nat} {As:List (Ψ)} (hk:OkK g k) (hAn:AnV G ban g) (h:St G F As):
  aj prog 59 #[.pointer (some ⟨ban,0,none⟩)] F λr F'=>∃G' mo C,r=.map (some mo)/\G.le G'/\mh k g.nons.length g.prods (aF g) C/\St G' F' (mG aI (dc g.nons.length) G' mo C::As):=by
 have h0:St G F ([]++As):=h;refine (h0.callL (P:=λr G'=>∃mo C,r=.map (some mo)/\mh k g.nons.length g.prods (aF g) C) (Bs':=λr G'=>[λH=>∃mo C,(r=.map (some mo)/\mh k g.nons.length g.prods (aF g) C)/\mG aI (dc g.nons.length) G' mo C H]) λF1 h1=> ?_).mono ?_
 ·refine (xe hk hAn h1).mono ?_;rintro r F2 ⟨G',mo,C,h1,h2,h3,h4⟩;exact ⟨G',⟨mo,C,h1,h3⟩,h2,h4.imp 0 rfl λH _ hH=>⟨mo,C,⟨h1,h3⟩,hH⟩⟩
 ·rintro r F2 ⟨G',_,h2,h⟩;obtain ⟨mo,h⟩:=h.exI 0 rfl;obtain ⟨C,h⟩:=h.exI 0 rfl;obtain ⟨⟨e1,e2⟩,h⟩:=h.prI 0 rfl;exact ⟨G',mo,C,e1,h2,e2,h⟩
theorem vH {v:Γ} {ban b1 b2:Nat} (hk:OkK g k) (hAn:AnV G ban g) (q1:G b1=some (.cells v 37)) (hg:GV G v g)
  (h:St G F [pt b2 (.cells #[Sl.v Sl.nil] 39)]):aj prog 58 #[.pointer (some ⟨ban,0,none⟩),.pointer (some ⟨b1,0,none⟩),.pointer (some ⟨b2,0,none⟩)] F λr F'=>∃G',r=.tuple #[]/\G.le G'/\St G' F' (FS (Mw k g) b2 G'):=by
 obtain ⟨o1,o2,o3,o4⟩:=dz hk.ok;obtain ⟨c,n,t,s,p,l,f,rfl,hgs⟩:=hg;have es:=hgs.s.len (by decide);refine SI ?_;unfold Qt;refine ⟨_,rfl,_,by rw [aC];exact ld (h.le _ _ q1) rfl,?_⟩;refine (mi hk hAn h).mono ?_;rintro _ F1 ⟨G1,mo,C,rfl,l1,hC,h⟩;have h:=h.imp 0 rfl λ_ _ hH=>mG.mS hH;refine ⟨_,rfl,by rw [aC];exact ld (h.le _ _ (l1 _ _ q1)) rfl,?_⟩;rw [es];refine (ff h hk.le g.nons.length (λi _=>hC.sx i) (by omega)).mono ?_;rintro _ F2 ⟨G2,sl,rfl,l2,hsl,h⟩;refine ⟨_,rfl,by rw [aC];exact ld (h.le _ _ (l2 _ _ (l1 _ _ q1))) rfl,_,rfl,?_⟩;refine h.set0 (w':= #[Sl.v sl]) (by show 0<1;decide) rfl λF3 h=>⟨G2,rfl,aa l1 l2,?_⟩;exact h.imp 0 rfl λH _ hH=>⟨sl,_,⟨C,hC,rfl⟩,hsl,hH⟩
theorem rS {v:Γ} (hT:Tab F) (hg:GV F v g) (hz:Sz g) (hk:OkK g k):
  aj prog 19 #[.agg v] F λr F'=>(∃sl ds,r=.tuple #[Sl.v sl,vi 0]/\Mw k g ds/\RL F' sl ds)/\F.le F':=by
 obtain ⟨o1,o2,o3,o4⟩:=dz hk.ok;refine Sv ?_;unfold Qj;refine (St.start F).newG λb1 G1 F1 l1 q1 _ h=>h.new λb2 F2 h=>⟨v,hg.size,ac (h.le _ _ q1),?_⟩;refine (dZ (kr:=58) (fst:= #[]) (cap:= #[.pointer (some ⟨b1,0,none⟩),.pointer (some ⟨b2,0,none⟩)]) (Bs:=FS (Mw k g) b2) (hT.le l1) (hg.le l1) hz hk (λx hx=>by have:=o4 x hx;omega) (by omega) h Mu λG' ban F' l hAn h=> ?_).mono ?_
 ·have e:(#[]++ #[.pointer (some ⟨ban,0,none⟩)]++ #[.pointer (some ⟨b1,0,none⟩),.pointer (some ⟨b2,0,none⟩)]:Γ)= #[.pointer (some ⟨ban,0,none⟩),.pointer (some ⟨b1,0,none⟩),.pointer (some ⟨b2,0,none⟩)]:=by simp
  rw [e];exact vH hk hAn (l _ _ q1) ((hg.le l1).le l) h
 rintro _ F3 ⟨rfl,G3,l3,h⟩;obtain ⟨sl,ds,h1,h2,h⟩:=tT h;refine ⟨_,rfl,sl,h.ld0 rfl,?_⟩;refine h.set0 (w':= #[Sl.v sl]) (by show 0<1;decide) rfl λF4 h=>⟨_,h.ld0 rfl,⟨sl,ds,rfl,h1,h2.le h.le⟩,aa l1 (aa l3 h.le)⟩
theorem Ih {C:Int->Tr} (hC:mh k g.nons.length g.prods (aF g) C):(∃n:Nat,n<g.nons.length/\C n≠leaf false)↔kI g:=by
 constructor
 ·rintro ⟨n,hn,hne⟩;have hex:¬∀c,(C n).ev c=(leaf false).ev c:=λh=>hne (cS (hC.sx n).1 trivial h);obtain ⟨c,hc⟩:=Classical.not_forall.1 hex;refine ⟨n,c,hn,(hC.iff n c hn).1 ?_⟩;cases e:(C n).ev c with
  |true=>rfl
  |false=>rw [e] at hc;exact absurd rfl hc
 ·rintro ⟨n,c,hn,h⟩;have:=(hC.iff n c hn).2 h;exact ⟨n,hn,λe=>by rw [e] at this;cases this⟩
def QT (A:Bool->Prop) (b:Nat) (_:PH):List (Ψ):=[λH=>∃q,A q/\H b=some (.cells #[.bool q] 4)]
theorem xx {ban b3:Nat} (hk:OkK g k) (hAn:AnV G ban g)
  (h:St G F [pt b3 (.cells #[.bool false] 4)]):aj prog 71 #[.pointer (some ⟨ban,0,none⟩),.pointer (some ⟨b3,0,none⟩)] F λr F'=>∃G',r=.tuple #[]/\G.le G'/\St G' F' (QT (λq=>q=true↔kI g) b3 G'):=by
 refine SQ ?_;unfold QB;refine (mi hk hAn h).mono ?_;rintro _ F1 ⟨G1,mo,C,rfl,l1,hC,h⟩;refine ⟨_,rfl,?_⟩;obtain ⟨G2,l2,⟨H,⟨o,mp,e1,⟨es,c,L,rfl,hL⟩,e3,e4⟩,hH⟩,h⟩:=h.pin;have qo:=hH _ _ e1;have hS:=e3.le l2;refine h.rangeG underlying95 aI (h.le _ _ qo) λb7 F2 h=> ?_
 refine ⟨λq F'=>∃(G':PH) (ks:Φ) (fd:Bool),q=es.size - ks.length/\G2.le G'/\ks.Nodup/\(∀n∈ks,∃v,mp n=some v)/\(fd=true↔∃n∈ks,C n≠leaf false)/\
  St G' F' [itG aI mo b7 es c ks,pt b3 (.cells #[.bool fd] 4)],_,⟨G2,[],false,rfl,aq _,List.nodup_nil,λ_ h=>(by cases h),by simp,h⟩,?_⟩
 rintro q F3 ⟨G3,ks,fd,rfl,l3,hkn,hks,hfd,h⟩;unfold FL;refine h.nextG hL xa hkn hks (h.le _ _ (l3 _ _ qo)) (λhall=> ?_) λn v F4 hnv hnk hlt h hr hent=> ?_
 ·refine ⟨_,rfl,false,rfl,λhc=>(by cases hc),λ_=> ?_⟩;refine ⟨G3,rfl,aa l1 (aa l2 l3),h.tail.imp 0 rfl λH _ hH=>⟨fd,?_,hH⟩⟩;dsimp only;rw [hfd,<- Ih hC];constructor
  ·rintro ⟨n,hn,hne⟩;obtain ⟨v,hv⟩:=hks n hn;have hm:=e4 n (by rw [hv];simp);obtain ⟨i,hi,rfl⟩:=Tw.1 hm;exact ⟨i,Ua.1 hi,hne⟩
  ·rintro ⟨n,hn,hne⟩;rcases hS (n:Int) with ⟨_,e⟩|⟨w,e,_⟩
   ·exact absurd e hne
   ·exact ⟨n,hall _ _ e,hne⟩
 ·refine ⟨_,rfl,true,rfl,λ_=> ?_,λhc=>(by cases hc)⟩;have hw:∃w,v=.agg w/\DV G2 w (dia (C n)):=by
   rcases hS n with ⟨e,_⟩|⟨w,e,hw⟩
   ·rw [e] at hnv;cases hnv
   ·rw [e] at hnv;cases hnv;exact ⟨w,rfl,hw⟩
  obtain ⟨w,rfl,hw⟩:=hw;refine ⟨_,hent,w,rfl,?_⟩;refine h.var hw.st (λb4 G4 F5 l4 q4 h=> ?_) rfl hw.size;have l34:=aa l3 l4;have nd:(ks++[n]).Nodup:=by rw [TN];exact ⟨hkn,by simp,λa ha b hb e=>hnk (by rw [Ti.1 hb] at e;rw [<- e];exact ha)⟩
  have hks':∀x∈ks++[n],∃v,mp x=some v:=λx hx=>by
   rcases Tm.1 hx with hx|hx
   ·exact hks x hx
   ·rw [Ti.1 hx];exact ⟨_,hnv⟩
  have ms:es.size - (ks++[n]).length<es.size - ks.length:=by rw [Tn,Ty];omega
  refine ⟨_,rfl,fd,ld (h.ptAt (i:=1) rfl) rfl,λht=> ?_,λhf=> ?_⟩
  ·refine h.set1 (w':= #[.bool true]) (by show 0<1;decide) rfl λF6 h=> ?_;refine ⟨_,ms,G4,ks++[n],true,rfl,l34,nd,hks',⟨λ_=> ?_,λ_=>rfl⟩,h⟩;obtain ⟨x,hx,hne⟩:=hfd.1 ht;exact ⟨x,Tm.2 (.inl hx),hne⟩
  ·obtain ⟨sd,ew,_⟩:=id hw;refine ⟨_,ld (h.le _ _ q4) (by rw [ew];rfl),?_⟩;refine h.set1 (w':= #[.bool (decide ((dia (C n)).2≠0))]) (by show 0<1;decide) rfl λF6 h=> ?_;refine ⟨_,ms,G4,ks++[n],_,rfl,l34,nd,hks',?_,h⟩;rw [decide_eq_true_eq];have hno:¬∃n∈ks,C n≠leaf false:=λh=>by rw [hfd.2 h] at hf;cases hf
   constructor
   ·intro hne;exact ⟨n,by simp,λe=>hne ((dN (hC.sx n).1).2 e)⟩
   ·rintro ⟨x,hx,hne⟩ h0;rcases Tm.1 hx with hx|hx
    ·exact hno ⟨x,hx,hne⟩
    ·rw [Ti.1 hx] at hne;exact hne ((dN (hC.sx n).1).1 h0)
theorem rT {v:Γ} (hT:Tab F) (hg:GV F v g) (hz:Sz g) (hk:OkK g k):
  aj prog 23 #[.agg v] F λr F'=>(kI g/\r=vi 60\/¬kI g/\r=vi 0)/\F.le F':=by
 obtain ⟨o1,o2,o3,o4⟩:=dz hk.ok;refine SA ?_;unfold Ql;refine (St.start F).newG λb1 G1 F1 l1 q1 _ h=>h.new λb3 F2 h=> ?_;refine h.set0 (w':= #[.bool false]) (by show 0<1;decide) rfl λF3 h=>⟨v,hg.size,ac (h.le _ _ q1),?_⟩;refine (dZ (kr:=71) (fst:= #[]) (cap:= #[.pointer (some ⟨b3,0,none⟩)]) (Bs:=QT (λq=>q=true↔kI g) b3) (hT.le l1) (hg.le l1) hz hk (λx hx=>by have:=o4 x hx;omega) (by omega) h Mv λG' ban F' l hAn h=> ?_).mono ?_
 ·have e:(#[]++ #[.pointer (some ⟨ban,0,none⟩)]++ #[.pointer (some ⟨b3,0,none⟩)]:Γ)= #[.pointer (some ⟨ban,0,none⟩),.pointer (some ⟨b3,0,none⟩)]:=by simp
  rw [e];exact xx hk hAn h
 rintro _ F3 ⟨rfl,G3,l3,h⟩;obtain ⟨q,h⟩:=h.exI 0 rfl;obtain ⟨hq,h⟩:=h.prI 0 rfl;have h:St G3 F3 [pt b3 (.cells #[.bool q] 4)]:=h;refine ⟨_,rfl,λ_=>⟨q,h.ld0 rfl,λht=> ?_,λhf=> ?_⟩,λe=>absurd rfl e⟩
 ·exact ⟨.inl ⟨hq.1 ht,rfl⟩,aa l1 (aa l3 h.le)⟩
 ·exact ⟨.inr ⟨λhc=>(by rw [hq.2 hc] at hf;cases hf),rfl⟩,aa l1 (aa l3 h.le)⟩
end
def mkC (nm:ByteArray) (left:Int) (right:List Sy) (d:Dia):Pr:=⟨nm,left,right,d,false,0,[],⟨false,0,0,0,0⟩⟩
def nST:List ByteArray:=[⟨#[83]⟩,⟨#[84]⟩]
def sgG (l:List Pr):Gr:={cz nST with prods:=l}
def sp1:List Pr:=[mkC ⟨#[115]⟩ 0 [⟨true,0⟩,⟨false,1⟩] aK,mkC ⟨#[116]⟩ 1 [] (dia (tv 0)),mkC ⟨#[117]⟩ 1 [⟨true,1⟩,⟨false,1⟩] (dia (tv 1))]
def sp2:List Pr:=[mkC ⟨#[115]⟩ 0 [⟨false,1⟩] aK,mkC ⟨#[116]⟩ 1 [⟨false,0⟩] (dia (tv 0)),mkC ⟨#[117]⟩ 1 [⟨true,0⟩] aK]
def sp3:List Pr:=[mkC ⟨#[115]⟩ 0 [⟨false,1⟩,⟨false,0⟩,⟨false,1⟩] (dia (tv 0)),mkC ⟨#[116]⟩ 0 [⟨true,0⟩] aK,mkC ⟨#[117]⟩ 1 [] aK]
theorem nz {α:Type} {a b d x:α} {i:Nat} (h:[a,b,d][i]? =some x):(i=0/\x=a)\/(i=1/\x=b)\/(i=2/\x=d):=by
 match i,h with
 |0,h=>cases h;exact .inl ⟨rfl,rfl⟩
 |1,h=>cases h;exact .inr (.inl ⟨rfl,rfl⟩)
 |2,h=>cases h;exact .inr (.inr ⟨rfl,rfl⟩)
 |i+3,h=>simp at h
theorem FW {l:List Pr} (h3:(l.map Pr.name).Nodup) (h4:∀s∈l.map Pr.name,CN s) (h5:∀p∈l,PrI 2 2 p):MG (sgG l):=
 nA (n:=2) (by decide) rfl rfl rfl rfl (by show bz nST;unfold bz;decide) (by show ∀s∈nST,s.size<=10;decide) h3 h4 h5 ⟨trivial,λ_ h=>(by cases h)⟩ λ_ h=>by cases h
theorem Ko {l:List Pr} (h0:l.length≠0) (h1:l.length<=3):Bd (sgG l) 3 0:=
 ⟨by show 2<=3;decide,by show (2:Nat)≠0;decide,by show 2<=3;decide,h0,h1,rfl,by show 0<=0;decide,λ_ h=>(by cases h),by show 0<=0;decide⟩
theorem zq:MG (sgG sp1):=FW (by decide) (by decide) λp hp=>by
 obtain ⟨i,hi⟩:=List.getElem?_of_mem hp;rcases nz hi with ⟨_,rfl⟩|⟨_,rfl⟩|⟨_,rfl⟩
 ·exact aZ (by decide) (aR _)
 ·exact aZ (by decide) (dQ (by decide) (by decide))
 ·exact aZ (by decide) (dQ (by decide) (by decide))
theorem zr:MG (sgG sp2):=FW (by decide) (by decide) λp hp=>by
 obtain ⟨i,hi⟩:=List.getElem?_of_mem hp;rcases nz hi with ⟨_,rfl⟩|⟨_,rfl⟩|⟨_,rfl⟩
 ·exact aZ (by decide) (aR _)
 ·exact aZ (by decide) (dQ (by decide) (by decide))
 ·exact aZ (by decide) (aR _)
theorem zt:MG (sgG sp3):=FW (by decide) (by decide) λp hp=>by
 obtain ⟨i,hi⟩:=List.getElem?_of_mem hp;rcases nz hi with ⟨_,rfl⟩|⟨_,rfl⟩|⟨_,rfl⟩
 ·exact aZ (by decide) (dQ (by decide) (by decide))
 ·exact aZ (by decide) (aR _)
 ·exact aZ (by decide) (aR _)
theorem FX {l:List Pr} (h:MG (sgG l)) (h0:l.length≠0) (h1:l.length<=3):OkK (sgG l) 2:=⟨h.ok (Ko h0 h1) (by decide) (by decide),rfl,by decide⟩
theorem CM:∀t∈dX,t.cond=aK:=by intro t ht;have e:dX.map sC=dX:=rfl;rw [<- e] at ht;obtain ⟨u,_,rfl⟩:=Tw.1 ht;rfl
theorem mj {l:List Pr} (h:OkK (sgG l) 2) {i:Nat} {x:Pr} {t:Tr} (hx:l[i]? =some x) (hc:x.cond=dia t) (ht:t.ok) (c:Cf):(aF (sgG l) i).ev c=t.ev c:=by
 have hx':(sgG l).prods[i]? =some x:=hx;have hm:=To hx';have e1:tre (sgG l).fam=leaf true:=fD (t:=leaf true) trivial;rw [h.prs_ev hx',e1,hc,fD ht];have:(x.right.all λs=> !s.t || (im (sgG l) s.i).ev c)=true:=by
  rw [TU];intro s hs;cases hst:s.t with
  |false=>rfl
  |true=>
   obtain ⟨u,hu,_⟩:=((h.prod hm).2.2.2 s hs).2.2 hst;have hu':dX[s.i.toNat]? =some u:=hu;have e2:=CM u (To hu');have e3:im (sgG l) s.i=leaf true:=by unfold im;rw [hu];dsimp only;rw [e2];exact fD (t:=leaf true) trivial
   rw [e3];rfl
 rw [this];show (true && t.ev c && true)=_;simp
theorem iF (v:Nat) (c:Cf):(tv v).ev c=c v:=by show (if c v=true then true else false)=c v;cases c v<;>rfl
structure Sg (l:List Pr) (f:Nat->Tr):Prop where
 mg:MG (sgG l)
 ok:OkK (sgG l) 2
 ev:∀i x,l[i]? =some x->∀c,(aF (sgG l) i).ev c=(f i).ev c
def sf1 (i:Nat):Tr:=if i=0 then leaf true else if i=1 then tv 0 else tv 1
def sf2 (i:Nat):Tr:=if i=1 then tv 0 else leaf true
def sf3 (i:Nat):Tr:=if i=0 then tv 0 else leaf true
theorem sg1:Sg sp1 sf1:=by
 have h:=FX zq (by decide) (by decide);refine ⟨zq,h,λi x hi c=> ?_⟩;rcases nz hi with ⟨rfl,rfl⟩|⟨rfl,rfl⟩|⟨rfl,rfl⟩
 ·exact mj h hi (t:=leaf true) rfl trivial c
 ·exact mj h hi (t:=tv 0) rfl (qA (by decide)) c
 ·exact mj h hi (t:=tv 1) rfl (qA (by decide)) c
theorem sg2:Sg sp2 sf2:=by
 have h:=FX zr (by decide) (by decide);refine ⟨zr,h,λi x hi c=> ?_⟩;rcases nz hi with ⟨rfl,rfl⟩|⟨rfl,rfl⟩|⟨rfl,rfl⟩
 ·exact mj h hi (t:=leaf true) rfl trivial c
 ·exact mj h hi (t:=tv 0) rfl (qA (by decide)) c
 ·exact mj h hi (t:=leaf true) rfl trivial c
theorem sg3:Sg sp3 sf3:=by
 have h:=FX zt (by decide) (by decide);refine ⟨zt,h,λi x hi c=> ?_⟩;rcases nz hi with ⟨rfl,rfl⟩|⟨rfl,rfl⟩|⟨rfl,rfl⟩
 ·exact mj h hi (t:=tv 0) rfl (qA (by decide)) c
 ·exact mj h hi (t:=leaf true) rfl trivial c
 ·exact mj h hi (t:=leaf true) rfl trivial c
section
variable {c:Cf} {st:Bool}
theorem QU:(aF (sgG sp1) 0).ev c=true:=sg1.ev 0 _ rfl c
theorem QV:(aF (sgG sp1) 1).ev c=c 0:=(sg1.ev 1 _ rfl c).trans (iF 0 c)
theorem Ii:(aF (sgG sp1) 2).ev c=c 1:=(sg1.ev 2 _ rfl c).trans (iF 1 c)
theorem rU {n:Int} (d:Der sp1 (aF (sgG sp1)) st c n):c 0=true:=by
 induction d with
 |mk i x hi hp ht hd ih=>
  rcases nz hi with ⟨rfl,rfl⟩|⟨rfl,rfl⟩|⟨rfl,rfl⟩
  ·exact ih ⟨false,1⟩ (by decide) rfl
  ·rw [QV] at hp;exact hp
  ·exact ih ⟨false,1⟩ (by decide) rfl
theorem jK (h:c 0=true):Der sp1 (aF (sgG sp1)) true c 1:=.mk 1 (mkC ⟨#[116]⟩ 1 [] (dia (tv 0))) rfl (by rw [QV];exact h) (λ_ h=>(by cases h)) λ_ h=>by cases h
theorem Ij (h:c 0=true):Der sp1 (aF (sgG sp1)) false c 0:=.mk 0 (mkC ⟨#[115]⟩ 0 [⟨true,0⟩,⟨false,1⟩] aK) rfl QU (λ_ _ _=>rfl) λs hs ht=>by
 rcases Th.1 hs with rfl|hs
 ·cases ht
 ·rw [Ti.1 hs];exact (jK h).up
theorem Ik:¬Der sp1 (aF (sgG sp1)) true c 0:=by
 rw [Der.inv];rintro ⟨i,x,hi,hl,hp,ht,hd⟩;rcases nz hi with ⟨rfl,rfl⟩|⟨rfl,rfl⟩|⟨rfl,rfl⟩
 ·exact absurd (ht ⟨true,0⟩ (by decide) rfl) (by decide)
 ·exact absurd hl (by decide)
 ·exact absurd hl (by decide)
theorem Mx:Fst sp1 (aF (sgG sp1)) c 1 1↔c 0=true/\c 1=true:=by
 constructor
 ·intro f;refine ⟨rU f.der,?_⟩;obtain ⟨i,x,hi,hl,hp,hr⟩:=f.pres;rcases nz hi with ⟨rfl,rfl⟩|⟨rfl,rfl⟩|⟨rfl,rfl⟩
  ·exact absurd hl (by decide)
  ·exact absurd rfl hr
  ·rw [Ii] at hp;exact hp
 ·rintro ⟨h0,h1⟩;refine .tok 2 0 (mkC ⟨#[117]⟩ 1 [⟨true,1⟩,⟨false,1⟩] (dia (tv 1))) ⟨true,1⟩ rfl (by rw [Ii];exact h1) (λy hy hyt=> ?_) rfl (λm y hm=>by omega) rfl;rcases Th.1 hy with rfl|hy
  ·cases hyt
  ·rw [Ti.1 hy];exact (jK h0).up
theorem My:Use sp1 (aF (sgG sp1)) (leaf true) 0 c 2↔c 0=true/\c 1=true:=by
 constructor
 ·rintro ⟨x,hi,hp,_,hd⟩;cases hi;rw [Ii] at hp;exact ⟨rU (hd ⟨false,1⟩ (by decide) rfl),hp⟩
 ·rintro ⟨h0,h1⟩;have hd:∀y∈([⟨true,0⟩,⟨false,1⟩]:List Sy),y.t=false->Der sp1 (aF (sgG sp1)) false c y.i:=λy hy hyt=>by
   rcases Th.1 hy with rfl|hy
   ·cases hyt
   ·rw [Ti.1 hy];exact (jK h0).up
  refine ⟨_,rfl,by rw [Ii];exact h1,?_,λy hy hyt=> ?_⟩
  ·exact .step 0 (mkC ⟨#[115]⟩ 0 [⟨true,0⟩,⟨false,1⟩] aK) ⟨false,1⟩ rfl QU (.start rfl) hd (by decide) rfl
  ·rcases Th.1 hy with rfl|hy
   ·cases hyt
   ·rw [Ti.1 hy];exact (jK h0).up
theorem Mz {a b:Int}:¬Stp sp1 (aF (sgG sp1)) c a b:=by
 rintro ⟨i,j,x,s,hi,hj,hs,_,_,_,ho⟩;rcases nz hi with ⟨rfl,rfl⟩|⟨rfl,rfl⟩|⟨rfl,rfl⟩
 ·match j,hj with
  |0,hj=>cases hj;cases hs
  |j+1,_=>exact absurd (ho 0 ⟨true,0⟩ (by omega) rfl).1 (by decide)
 ·simp [mkC] at hj
 ·match j,hj with
  |0,hj=>cases hj;cases hs
  |j+1,_=>exact absurd (ho 0 ⟨true,1⟩ (by omega) rfl).1 (by decide)
theorem QW:(aF (sgG sp2) 1).ev c=c 0:=(sg2.ev 1 _ rfl c).trans (iF 0 c)
theorem S9:(aF (sgG sp2) 0).ev c=true:=sg2.ev 0 _ rfl c
theorem tV {r:Sy} {m:Nat} {y:Sy} {p:Prop} (hm:m≠0) (hy:[r][m]? =some y):p:=by
 match m,hm,hy with
 |0,hm,_=>exact absurd rfl hm
 |m+1,_,hy=>simp at hy
theorem zv {a b:Int} (h:Stp sp2 (aF (sgG sp2)) c a b):(a=0/\b=1)\/(a=1/\b=0/\c 0=true):=by
 obtain ⟨i,j,x,s,hi,hj,hs,ha,hb,hp,ho⟩:=h;rcases nz hi with ⟨rfl,rfl⟩|⟨rfl,rfl⟩|⟨rfl,rfl⟩
 ·match j,hj with
  |0,hj=>cases hj;exact .inl ⟨ha.symm,hb.symm⟩
  |j+1,hj=>simp [mkC] at hj
 ·match j,hj with
  |0,hj=>cases hj;rw [QW] at hp;exact .inr ⟨ha.symm,hb.symm,hp⟩
  |j+1,hj=>simp [mkC] at hj
 ·match j,hj with
  |0,hj=>cases hj;cases hs
  |j+1,hj=>simp [mkC] at hj
theorem FY:Stp sp2 (aF (sgG sp2)) c 0 1:=⟨0,0,_,⟨false,1⟩,rfl,rfl,rfl,rfl,rfl,S9,λ_ _ hm hy=>tV hm hy⟩
theorem Bq (h:c 0=true):Stp sp2 (aF (sgG sp2)) c 1 0:=⟨1,0,_,⟨false,0⟩,rfl,rfl,rfl,rfl,rfl,by rw [QW];exact h,λ_ _ hm hy=>tV hm hy⟩
theorem zw {n:Int} (hn:n=0\/n=1):Tg (Stp sp2 (aF (sgG sp2)) c) n n↔c 0=true:=by
 constructor
 ·intro h;rcases hn with rfl|rfl
  ·generalize hb:(0:Int)=b at h;cases h with
   |one h=>
    subst hb;rcases zv h with ⟨_,h⟩|⟨_,_,h⟩
    ·exact absurd h (by decide)
    ·exact h
   |snoc _ h=>
    subst hb;rcases zv h with ⟨_,h⟩|⟨_,_,h⟩
    ·exact absurd h (by decide)
    ·exact h
  ·obtain ⟨d,h⟩:=h.head;rcases zv h with ⟨h,_⟩|⟨_,_,h⟩
   ·exact absurd h (by decide)
   ·exact h
 ·intro h;rcases hn with rfl|rfl
  ·exact .snoc (.one FY) (Bq h)
  ·exact .snoc (.one (Bq h)) FY
theorem QX:(aF (sgG sp3) 0).ev c=c 0:=(sg3.ev 0 _ rfl c).trans (iF 0 c)
theorem Ta:(aF (sgG sp3) 2).ev c=true:=sg3.ev 2 _ rfl c
theorem FZ {n:Int} (d:Der sp3 (aF (sgG sp3)) true c n):n≠0:=by
 induction d with
 |mk i x hi hp ht hd ih=>
  rcases nz hi with ⟨rfl,rfl⟩|⟨rfl,rfl⟩|⟨rfl,rfl⟩
  ·exact absurd rfl (ih ⟨false,0⟩ (by decide) rfl)
  ·exact absurd (ht ⟨true,0⟩ (by decide) rfl) (by decide)
  ·decide
theorem Ga:Der sp3 (aF (sgG sp3)) true c 1:=.mk 2 (mkC ⟨#[117]⟩ 1 [] aK) rfl Ta (λ_ h=>(by cases h)) λ_ h=>by cases h
theorem Gb {a b:Int} (h:Stp sp3 (aF (sgG sp3)) c a b):a=0/\b=0/\c 0=true:=by
 obtain ⟨i,j,x,s,hi,hj,hs,ha,hb,hp,ho⟩:=h;rcases nz hi with ⟨rfl,rfl⟩|⟨rfl,rfl⟩|⟨rfl,rfl⟩
 ·match j,hj with
  |0,hj=>exact absurd rfl (FZ (ho 1 ⟨false,0⟩ (by decide) rfl).2)
  |1,hj=>cases hj;rw [QX] at hp;exact ⟨ha.symm,hb.symm,hp⟩
  |j+2,hj=>exact absurd rfl (FZ (ho 1 ⟨false,0⟩ (by omega) rfl).2)
 ·match j,hj with
  |0,hj=>cases hj;cases hs
  |j+1,hj=>simp [mkC] at hj
 ·simp [mkC] at hj
theorem Il:Tg (Stp sp3 (aF (sgG sp3)) c) 0 0↔c 0=true:=by
 constructor
 ·intro h;obtain ⟨d,h⟩:=h.head;exact (Gb h).2.2
 ·intro h;refine .one ⟨0,1,_,⟨false,0⟩,rfl,rfl,rfl,rfl,rfl,by rw [QX];exact h,λm y hm hy=> ?_⟩
  match m,hm,hy with
  |0,_,hy=>cases hy;exact ⟨rfl,Ga⟩
  |1,hm,_=>exact absurd rfl hm
  |2,_,hy=>cases hy;exact ⟨rfl,Ga⟩
  |m+3,_,hy=>simp [mkC] at hy
theorem Im:¬Tg (Stp sp3 (aF (sgG sp3)) c) 1 1:=λh=>by obtain ⟨d,h⟩:=h.head;exact absurd (Gb h).1 (by decide)
end
theorem iA {k:Nat} {t u:Tr} (ht:Sx k t) (hu:u.ok) (h:∀c,t.ev c=true↔u.ev c=true):t=u:=
 cS ht.1 hu λc=>Tp.2 (h c)
theorem tW {k:Nat} {t:Tr} (ht:Sx k t) (h:∀c,t.ev c≠true):t=leaf false:=iA ht trivial λc=>⟨λh'=>absurd h' (h c),λh'=>by cases h'⟩
noncomputable abbrev rV:Tr:=ap2 aX (tv 0) (tv 1)
theorem pD:Sx 2 rV:=(Sx.tv (by decide) (by decide)).ap2 (o:=aX) (Sx.tv (by decide) (by decide))
theorem Bt (c:Cf):rV.ev c=true↔c 0=true/\c 1=true:=by rw [(bi (qA (by decide)) (qA (by decide))).2,iF,iF];exact TH
variable {R:VR} {F:PH}
set_option maxRecDepth 10000
set_option maxHeartbeats 4000000
def vI (b c:Nat) (R:VR) (F:PH):Prop:=Lr F 9 (Am c 0) λa=>az F (Am b 0) 9 a λF=>Rr 9 (Am b 0) R F
def vJ (c:Ω) (_:Sl) (_ _:Nat) (b:Int) (_:VR) (F:PH):Prop:=c (i64.wrap (b+1)) F
def vK (u:Ω) (a:Sl) (v f:Nat) (d:Int) (w:Θ) (R:VR) (F:PH):Prop:=Ix a d λo=>Lk F .u8 (Addr.add (Addr.add o (Int.toNat d*4)) 2) λp=>Ls F (Am f 0) λk=>Ca 33 #[.int .u8 p,(vi (k.len:Int))] F λq F=>F.cell (Am f 0)=some (Sl.v k)/\∃c,w=some c/\az F (Addr.add c 3) 2 q λF=>Ls F (Am f 5) λe=>Lr F 13 c λb=>((Nb F (.cells #[] 55) λr F=>((Ap 33 #[Sl.v (Sb r 0),Sl.v e] F λs F=>F.row c b/\b.size=13/\Nb F (.cells b 55) λx F=>Ap 33 #[Sl.v s,Sl.v (Sb x 1)] F λt F=>sto F (Am f 5) (Sl.v t) λF=>vJ u a v f d R F)/\(b.size=13/\Nb F (.cells b 55) λl F=>Ap 33 #[Sl.v (Sb r 0),Sl.v e] F λg F=>Ap 33 #[Sl.v g,Sl.v (Sb l 1)] F λh F=>sto F (Am f 5) (Sl.v h) λF=>vJ u a v f d R F)))/\(b.size=13/\Nb F (.cells b 55) λm F=>Nb F (.cells #[] 55) λn F=>Ap 33 #[Sl.v (Sb n 0),Sl.v e] F λi F=>Ap 33 #[Sl.v i,Sl.v (Sb m 1)] F λj F=>sto F (Am f 5) (Sl.v j) λF=>vJ u a v f d R F))
def vL (_ k:Ω) (_:Sl) (_ _:Nat) (_:Int) (f:Θ) (_:Sl) (g:Int) (h:Nat) (_:VR) (F:PH):Prop:=∃a,f=some a/\Ls F (Addr.add a 2) λc=>Lr F 2 (Am h 0) λb=>b.size=2/\Nb F (.cells b 63) λi F=>Ap 50 #[Sl.v c,Sl.v (Sb i 1)] F λd F=>sto F (Addr.add a 2) (Sl.v d) λF=>k (i64.wrap (g+1)) F
def zx (o q:Ω) (a:Sl) (p h:Nat) (d:Int) (e:Θ) (c:Sl) (R:VR) (b:Int) (F:PH):Prop:=Bc (b<(c.len:Int)) (Bc (b<3) (Ix c b λi=>Lk F .u8 (Addr.add i (Int.toNat b*1)) λj=>Ls F (Am h 4) λg=>(g.len:Int)≠0/\Nb F (.cells (#[.bool false,vi 0]) 63) λf F=>az F (Am f 0) 2 (#[.bool false,(vi (Int.tmod (i64.wrap j) (g.len:Int)))]:Γ) λF=>Ix c b λk=>Lk F .u8 (Addr.add k (Int.toNat b*1)) λl=>Bc (200<l) (Ix c b λm=>Lk F .u8 (Addr.add m (Int.toNat b*1)) λn=>az F (Am f 0) 2 (#[.bool true,(vi (Int.tmod (i64.wrap n) 9))]:Γ) λF=>vL o q a p h d e c b f R F) (vL o q a p h d e c b f R F)) (vK o a p h d e R F)) (vK o a p h d e R F)
def vM (i:Ω) (a:Sl) (j k:Nat) (b:Int) (g:Θ) (R:VR) (F:PH):Prop:=Ix a b λc=>Ls F (Addr.add (Addr.add c (Int.toNat b*4)) 1) λd=>(∃(h:Nat->Ω) (f:Nat),h f 0 F/\∀f e F,h f e F-> zx i (nx1 h f) a j k b g d R e F)
def zy (m:Ω) (a:Sl) (k i:Nat) (R:VR) (c:Int) (F:PH):Prop:=Bc (c<(a.len:Int)) (Bc (c<4) (Ix a c λj=>Lk F .u8 (Addr.add j (Int.toNat c*4)) λf=>Ls F (Am i 4) λd=>(d.len:Int)≠0/\((Nb F (.cells #[.int .u8 (u8.wrap (i64.wrap (97+c)))] 5) λl F=>∃e,rdo prog (Conv.bytesToString (Sl.v (Sb l 1))) F (.string e)/\(ByteArray.mk #[113]).size+e.size<=9223372036854775807/\Nb F (.cells zP 55) λn F=>az F (Am n 0) 13 (#[.string ((ByteArray.mk #[113])++e),(vi (Int.tmod (i64.wrap f) (d.len:Int))),.slice none 0 0,.slice none 0 0,vi 0,.bool false,vi 0,.slice none 0 0,.bool false,vi 0,vi 0,vi 0,vi 0]:Γ) λF=>vM m a k i c (some (Am n 0)) R F)/\(Nb F (.cells zP 55) λg F=>Nb F (.cells #[.int .u8 (u8.wrap (i64.wrap (97+c)))] 5) λh F=>∃b,rdo prog (Conv.bytesToString (Sl.v (Sb h 1))) F (.string b)/\(ByteArray.mk #[113]).size+b.size<=9223372036854775807/\az F (Am g 0) 13 (#[.string ((ByteArray.mk #[113])++b),(vi (Int.tmod (i64.wrap f) (d.len:Int))),.slice none 0 0,.slice none 0 0,vi 0,.bool false,vi 0,.slice none 0 0,.bool false,vi 0,vi 0,vi 0,vi 0]:Γ) λF=>vM m a k i c (some (Am g 0)) R F))) (vI k i R F)) (vI k i R F)
def QY (d:Γ) (a:Sl) (R:VR) (F:PH):Prop:=Nb F (.cells d 26) λg F=>Nb F (.cells zG 37) λh F=>Lr F 5 (Am g 0) λb=>Ca 32 #[.agg b] F λc F=>Nb F (.cells zG 37) λf F=>az F (Am f 0) 9 c λF=>Lp 0 F λN e F=>zy N a h f R e F
theorem Tb {b:Γ} {a:Sl} (h:QY b a R F):aj prog 13 #[.agg b,Sl.v a] F R:=Rx.sxC (args:=[.agg b,Sl.v a]) (.T .N (.T .N (.J false [] (.T .N (.L [(6,.int .i64)] (.T .N (.J false [] (.J false [(7,.ptr)] .N (.T .N (.J false [] (.T .N (.L [(9,.int .i64)] (.T .N (.T (.T .N (.J false [] .N .N)) .N)))) .N))) .N)))) .N))) (by kernel_rfl) h
def Gc (R:VR) (F:PH):Prop:=R (.bool true) F
def zA (i:Ω) (b h:Sl) (R:VR) (a:Int) (F:PH):Prop:=Bc (a<(b.len:Int)) (Ix b a λc=>Lr F 2 (Addr.add c (Int.toNat a*2)) λd=>Ix h a λe=>Lr F 2 (Addr.add e (Int.toNat a*2)) λf=>Cbo 50 #[.agg d,.agg f] F λg F=>Bb ((!g)) (R (.bool false) F) (i (i64.wrap (a+1)) F)) (Gc R F)
def QZ (a b:Sl) (R:VR) (F:PH):Prop:=Bc ((a.len:Int)≠(b.len:Int)) (R (.bool false) F) (Lp 0 F λN c F=>zA N a b R c F)
theorem Tc {a:Sl} {b:Sl} (h:QZ a b R F):aj prog 18 #[Sl.v a,Sl.v b] F R:=Rx.sxC (args:=[Sl.v a,Sl.v b]) (.T .N (.T .N (.J false [] (.T .N (.L [(5,.int .i64)] .N)) .N))) (by kernel_rfl) h
def Ge (d:Nat) (c:Θ) (R:VR) (F:PH):Prop:=∃a,c=some a/\Lr F 2 a λb=>az F (Am d 0) 2 b λF=>Rr 2 (Am d 0) R F
def vN (c:Ω) (_ _:Nat) (_:Θ) (_:Sl) (a:Int) (_:VR) (F:PH):Prop:=c (i64.wrap (a+1)) F
def zB (p:Ω) (n o:Nat) (g:Θ) (b:Sl) (R:VR) (c:Int) (F:PH):Prop:=Bc (c<(b.len:Int)) (Ix b c λh=>Lb F (Addr.add h (Int.toNat c*2)) λi=>Bb (i) (∃a,g=some a/\Lr F 2 a λj=>Ls F (Am n 3) λe=>Ix b c λf=>Li F (Addr.add (Addr.add f (Int.toNat c*2)) 1) λd=>Ix e d λk=>Lr F 2 (Addr.add (Addr.add k (Int.toNat d*7)) 5) λl=>Ca 45 #[.agg j,.agg l] F λm F=>F.cell (Addr.add (Addr.add f (Int.toNat c*2)) 1)=some (vi d)/\F.cell (Am n 3)=some (Sl.v e)/\az F a 2 m λF=>vN p n o (some a) b c R F) (vN p n o g b c R F)) (Ge o g R F)
def vO (a:Int) (g h:Nat) (e:Θ) (R:VR) (F:PH):Prop:=Ls F (Am g 5) λb=>Ix b a λc=>Ls F (Addr.add (Addr.add c (Int.toNat a*13)) 2) λd=>Lp 0 F λN f F=>zB N g h e d R f F
def Q0 (j:Γ) (b:Int) (R:VR) (F:PH):Prop:=Nb F (.cells j 37) λf F=>Nb F (.cells zD 31) λk F=>Lr F 2 (Am f 1) λg=>Ls F (Am f 5) λa=>Ix a b λh=>Lr F 2 (Addr.add (Addr.add h (Int.toNat b*13)) 3) λd=>((Ca 45 #[.agg g,.agg d] F λi F=>F.cell (Am f 5)=some (Sl.v a)/\Nb F (.cells zD 31) λl F=>az F (Am l 0) 2 i λF=>vO b f k (some (Am l 0)) R F)/\(Nb F (.cells zD 31) λe F=>Ca 45 #[.agg g,.agg d] F λc F=>F.cell (Am f 5)=some (Sl.v a)/\az F (Am e 0) 2 c λF=>vO b f k (some (Am e 0)) R F))
theorem Td {a:Γ} {b:Int} (h:Q0 a b R F):aj prog 70 #[.agg a,(vi b)] F R:=Rx.sxC (args:=[.agg a,(vi b)]) (.T .N (.J false [(5,.ptr)] .N (.T .N (.J false [] (.T .N (.L [(7,.int .i64)] (.T .N (.J false [(5,.ptr)] .N .N)))) .N)))) (by kernel_rfl) h
end Go.Proofs.YtcemhghkipgdiaaGreatDoor
