/-
  Arguments of the laws of grammars, opened: a change of one field.
-/
import Derived.Test.YtenpmjhnhepfdaaGreatDoorGkoinelaw05
import Derived.Test.YtenpmjhnhepfdaaGreatDoorGkoineref04
namespace Go.Proofs.YtenpmjhnhepfdaaGreatDoor
open Go Go.Proofs.Tryz Tr
set_option maxRecDepth 10000
theorem mQ (x:Bool) (F:PH):ae prog 30 #[.bool x] F λr F'=>uR (dia (leaf x)) r F'/\F.le F':=
 (sW x).mono λ_ _ ⟨w,h1,h2,h3⟩=>⟨⟨w,h1,h2⟩,h3⟩
abbrev prS:Pr:=bh ⟨#[115]⟩ 0 []
section
variable {G F:PH} {As:List (Ψ)}
theorem St.first (h:St G F As) {Q:Value->Ψ} (k:∀G' F' b n s,G.le G'->RL G' n aL.1->RL G' s aW.nons->St G' F' (pt b (.cells (prS.arr Sl.nil n Sl.nil) 67)::As)->
   Q (.agg (aW.arr Sl.nil n Sl.nil s (Sl.mk (some (Addr.mk b 0 none)) 1 1) Sl.nil Sl.nil)) F'):ae prog 34 #[] F Q:=by
 refine VZ ?_;unfold QB;refine h.new λb0 F1 h=> ?_;refine h.run (mQ true _) λ_ G1 F2 hr l1 h=> ?_;obtain ⟨_,rfl,hw⟩:=hr;obtain ⟨n,rfl,hn⟩:=hw.out;refine ⟨_,rfl,?_⟩;refine h.new λb1 F3 h=> ?_;refine h.put0 (w':= #[n.v,vi aL.2]) rfl rfl (by simp [ai,Sl.v]) λF4 h=> ?_;refine ⟨_,rfl,h.whole0,?_⟩;refine h.newG λb4 G2 F5 l2 q4 _ h=> ?_;refine ⟨_,rfl,h.whole0,rfl,rfl,?_⟩;refine h.new λb7 F6 h=> ?_;refine ⟨rfl,?_⟩;refine h.put2 (w':=aW.arr Sl.nil n Sl.nil (Sl.mk (some (Addr.mk b4 0 none)) 1 1) (Sl.mk (some (Addr.mk b7 0 none)) 1 1) Sl.nil Sl.nil) rfl rfl (by simp [ai,Sl.v]) λF7 h=> ?_;refine ⟨_,rfl,h.whole2,?_⟩;exact k G2 F7 b7 n _ (aa l1 l2) (hn.le l2) (RL.strs.2 (RdS.new q4 rfl rfl (XA _))) h.front1.tail.front1.tail
theorem pU {b:Nat} {p:Pr} {r n l:Sl} {e:TypeId} (q:G b=some (.cells (p.arr r n l) e)) (h1:RL G r p.right) (h2:RL G n p.cond.1) (h3:RL G l p.lay):RL G (Sl.mk (some (Addr.mk b 0 none)) 1 1) [p]:=
 ⟨[_],.cons ⟨r,n,l,rfl,h1,h2,h3⟩ .nil,RdS.new q (by rw [bL];rfl) rfl (XA _)⟩
theorem St.firstG (h:St G F As) {Q:Value->Ψ} (k:∀G' F' n s p,G.le G'->RL G' n aL.1->RL G' s aW.nons->RL G' p aW.prods->St G' F' As->
   Q (.agg (aW.arr Sl.nil n Sl.nil s p Sl.nil Sl.nil)) F'):ae prog 34 #[] F Q:=by
 refine h.first λG1 F1 b n s l1 hn hs h=> ?_;obtain ⟨G2,l2,⟨H,hA,hH⟩,h⟩:=h.pin;exact k G2 F1 n s _ (aa l1 l2) (hn.le l2) (hs.le l2) (pU (hH _ _ hA) (.nil _) (hn.le l2) (.nil _)) h
end
theorem uz (F:PH):ae prog 36 #[] F λr F'=>(∃s:Sl,r=.slice s.base s.len s.cap/\RdS F' s 1 (yF.map vB))/\F.le F':=by refine V0 ?_;unfold QC;refine (St.start F).newG λb1 G1 F1 l1 q1 _ h=> ?_;exact ⟨⟨_,rfl,RdS.new (h.le _ _ q1) rfl rfl (XA _)⟩,aa l1 h.le⟩
def EI (ns:Δ):ByteArray:=⟨(ns.map UInt8.ofNat).toArray⟩
theorem wO {F:PH} (P:Program):∀(ns:Δ) (s:ByteArray),
  rdo P (forIn (ns.map vB) s λc s=>do
   let .int .u8 n:=c|stuck "bytesToString: byte expected"
   let s:=s.push (UInt8.ofNat n.toNat)
   pure (ForInStep.yield s)) F (ns.foldl (λs n=>s.push (UInt8.ofNat n)) s)
 |[],s=>by simp [rdo]
 |n::ns,s=>by
  simp only [Yh,List.forIn_cons,ak,List.foldl_cons];refine ⟨.yield (s.push (UInt8.ofNat n)),?_,?_⟩
  ·simp [rdo]
  ·exact wO P ns _
theorem wP:∀(ns:Δ) (s:ByteArray),ns.foldl (λs n=>s.push (UInt8.ofNat n)) s=⟨s.data++(ns.map UInt8.ofNat).toArray⟩
 |[],s=>by simp
 |n::ns,s=>by rw [List.foldl_cons,wP ns];simp [ByteArray.push]
theorem g0 {F:PH} {P:Program} {s:Sl} {ns:Δ} (h:RdS F s 1 (ns.map vB)):rdo P (Conv.bytesToString s.v) F (.string (EI ns)):=by
 obtain ⟨base,len,cap⟩:=s;have hl:=h.len;simp only [XH,XS] at hl;unfold Conv.bytesToString Sl.v;cases base with
 |none=>
  have h0:len=0:=by
   rcases YQ len with h0|h0
   ·exact h0
   ·obtain ⟨b,o,h1,_⟩:=h.cells h0;cases h1
  subst h0;have:ns=[]:=Yg.1 (by omega);subst this;rfl
 |some a=>
  simp only [ak];refine ⟨(ns.map vB).toArray,?_,?_⟩
  ·have hr:=h.row (a:=a) rfl 0 (ns.map vB).toArray (by rw [YX,YH,XF]);rw [show a.add 0=a from rfl] at hr;have:=dU (P:=P) hr;simp only [YH,XH] at this;rw [hl] at this;exact this
  ·refine ⟨ns.foldl (λs n=>s.push (UInt8.ofNat n)) .empty,?_,?_⟩
   ·rw [<- Array.forIn_toList];exact wO P ns .empty
   ·rw [wP];show (Value.string _)=_;simp [EI,ByteArray.empty,ByteArray.emptyWithCapacity];rfl
structure SK (F G:PH) (b1 b2:Nat) (n:Sl) (w2:Γ):Prop where
 lF:F.le G
 hT:Tab G
 q1:G b1=some (.cells #[Sl.v n,vi aL.2] 33)
 hn:RL G n aL.1
 q2:G b2=some (.cells w2 39)
 g2:GV G w2 aW
theorem SK.le {F G G':PH} {b1 b2:Nat} {n:Sl} {w2:Γ} (h:SK F G b1 b2 n w2) (l:G.le G'):SK F G' b1 b2 n w2:=⟨aa h.lF l,h.hT.le l,l _ _ h.q1,h.hn.le l,l _ _ h.q2,h.g2.le l⟩
abbrev RT (F:PH):VR:=λr F'=>r=.bool true/\F.le F'
section
variable {F G F1:PH} {b1 b2:Nat} {n:Sl} {w2:Γ}
theorem Ot (K:SK F G b1 b2 n w2) (h:St G F1 []) {s:Sl} (hs:RdS G s 1 (yF.map vB)):gl true true s 0 true (RT F) F1:=by unfold gl;refine ⟨λ_=>⟨λ_=>⟨λ_=>⟨λ_=> ?_,λhc=>absurd rfl hc⟩,λhc=>(by cases hc)⟩,λhc=>(by cases hc)⟩,λhc=>(by cases hc)⟩;refine ⟨_,g0 (hs.le h.le),?_⟩;refine h.run (uz _) λ_ G2 F2 hr l2 h=> ?_;obtain ⟨s2,rfl,hs2⟩:=hr;refine ⟨s2,rfl,g0 ((hs.le l2).le h.le),_,g0 (hs2.le h.le),?_,aa K.lF (aa l2 h.le)⟩;simp
theorem Ow (K:SK F G b1 b2 n w2) (h:St G F1 []):ku b2 true true (RT F) F1:=by unfold ku;refine h.firstG λG1 F2 m s p l1 hm hs hp h=> ?_;replace K:=K.le l1;refine ⟨_,rfl,?_⟩;refine h.new λb15 F3 h=> ?_;refine h.put0 (w':=aW.arr Sl.nil m Sl.nil s p Sl.nil Sl.nil) rfl rfl (by simp [ai,Sl.v]) λF4 h=> ?_;refine h.newG λb150 G2 F5 l2 q150 _ h=> ?_;replace K:=K.le l2;refine h.set0 (w':=Gr.arr {aW with conds:=[⟨#[65]⟩,⟨#[66]⟩]} (Sl.mk (some (Addr.mk b150 0 none)) 2 2) m Sl.nil s p Sl.nil Sl.nil) (by show 0<9;decide) rfl λF6 h=> ?_;refine h.newG λb152 G3 F7 l3 q152 _ h=> ?_;replace K:=K.le l3;have hr:RdS G3 (Sl.mk (some (Addr.mk b152 0 none)) 1 1) 1 (([14]:Φ).map (Value.int .u8)):=RdS.new q152 rfl rfl (XA _);refine h.run (P:=λr G=>uR (dia Dw) r G) ((jq (n:=2) (by decide) hr).mono λr F' ⟨u,t,h1,⟨h2,h3⟩,h4,h5⟩=>⟨⟨u,h1,by subst h3;exact h4⟩,h5⟩) λ_ G4 F8 hr l4 h=> ?_;obtain ⟨_,rfl,hw⟩:=hr;obtain ⟨m',rfl,hm'⟩:=hw.out;replace K:=K.le l4;refine ⟨_,rfl,?_⟩;refine h.putR0 (o:=1) (w':=uI.arr (Sl.mk (some (Addr.mk b150 0 none)) 2 2) m' Sl.nil s p Sl.nil Sl.nil) rfl (by simp [ai,Sl.v]) (by show 1+2<=9;decide) rfl λF9 h=> ?_;obtain ⟨G5,l5,⟨H,hA,hH⟩,h⟩:=h.pin;have q15:=hH _ _ hA;replace K:=K.le l5;have l34:=aa l3 (aa l4 l5);have l24:=aa l2 l34;have hg:GV G5 (uI.arr (Sl.mk (some (Addr.mk b150 0 none)) 2 2) m' Sl.nil s p Sl.nil Sl.nil) uI:=⟨_,_,_,_,_,_,_,rfl,RL.strs.2 (RdS.new (l34 _ _ q150) rfl rfl (XA _)),hm'.le l5,.nil _,hs.le l24,hp.le l24,.nil _,.nil _⟩;have hz:Sz uI:=fk (by decide) (λt ht=>(by cases ht)) (λl hl=>(by cases hl)) rfl;refine ⟨_,rfl,aj (h.le _ _ q15),?_⟩;refine h.run (ln K.hT hg hz (by decide) 2) λ_ G6 F10 hr l6 h=> ?_;obtain ⟨s6,rfl,hs6⟩:=hr;rw [uJ] at hs6 ⊢;replace K:=K.le l6;refine ⟨_,_,rfl,_,rfl,aj (h.le _ _ (l6 _ _ q15)),?_⟩;refine h.run (ln K.hT (hg.le l6) hz (by decide) 3) λ_ G7 F11 hr l7 h=> ?_;obtain ⟨s7,rfl,hs7⟩:=hr;rw [uK] at hs7 ⊢;replace K:=K.le l7;refine ⟨_,_,rfl,_,K.g2.size,aj (h.le _ _ K.q2),?_⟩;refine h.run (nT K.hT K.g2 (fk (λs hs=>(by cases hs)) (λt ht=>(by cases ht)) (λl hl=>(by cases hl)) rfl) E4 λ_=>⟨E3,by rw [tg];decide⟩) λ_ G8 F12 hr l8 h=> ?_;obtain ⟨s8,rfl,hs8⟩:=hr;rw [mT,if_pos rfl,tg] at hs8;rw [mT];replace K:=K.le l8;have l78:=aa l7 l8;have e6:=hs6.len;have e7:=hs7.len;simp at e6 e7;obtain ⟨a6,o6,ha6,hc6⟩:=(hs6.le l78).cells (by omega);obtain ⟨a7,o7,ha7,hc7⟩:=(hs7.le l8).cells (by omega);have c0:=au h.le (((hs6.le l78).cell ha6 (i:=0) (by decide)));have c1:=au h.le (((hs6.le l78).cell ha6 (i:=1) (by decide)));have d2:=au h.le (((hs7.le l8).cell ha7 (i:=2) (by decide)));have hj:gl true true s8 0 true (RT F) F12:=Ot K h hs8;refine ⟨_,_,rfl,λ_=>⟨_,ha6,by decide,by omega,1,c0,λ_=>⟨_,ha6,by decide,by omega,2,c1,λ_=>⟨λ_=>⟨λ_=>⟨_,ha7,by decide,by omega,3,d2,λ_=>hj,λhc=>absurd rfl hc⟩,λhc=>absurd (by omega) hc⟩,λhc=>(by cases hc)⟩,λhc=>absurd rfl hc⟩,λhc=>absurd rfl hc⟩,λhc=>absurd (by omega) hc⟩
end
theorem St.pin7 {G F:PH} {a1 a2 a3 a4 a5 a6 a7:Nat} {o1 o2 o3 o4 o5 o6 o7:Obj} (h:St G F [pt a1 o1,pt a2 o2,pt a3 o3,pt a4 o4,pt a5 o5,pt a6 o6,pt a7 o7]):
  ∃G',G.le G'/\G' a1=some o1/\G' a2=some o2/\G' a3=some o3/\G' a4=some o4/\G' a5=some o5/\G' a6=some o6/\G' a7=some o7/\St G' F []:=by
 obtain ⟨G1,l1,⟨H1,p1,r1⟩,h⟩:=h.pin;obtain ⟨G2,l2,⟨H2,p2,r2⟩,h⟩:=h.pin;obtain ⟨G3,l3,⟨H3,p3,r3⟩,h⟩:=h.pin;obtain ⟨G4,l4,⟨H4,p4,r4⟩,h⟩:=h.pin;obtain ⟨G5,l5,⟨H5,p5,r5⟩,h⟩:=h.pin;obtain ⟨G6,l6,⟨H6,p6,r6⟩,h⟩:=h.pin;obtain ⟨G7,l7,⟨H7,p7,r7⟩,h⟩:=h.pin;have k6:=l7;have k5:=aa l6 k6;have k4:=aa l5 k5;have k3:=aa l4 k4;have k2:=aa l3 k3;have k1:=aa l2 k2;exact ⟨G7,aa l1 k1,k1 _ _ (r1 _ _ p1),k2 _ _ (r2 _ _ p2),k3 _ _ (r3 _ _ p3),k4 _ _ (r4 _ _ p4),k5 _ _ (r5 _ _ p5),k6 _ _ (r6 _ _ p6),r7 _ _ p7,h⟩
theorem eJ {F:PH} {v:Γ} {g:Gr} {k:Int} (hT:Tab F) (hg:GV F v g) (hz:Sz g) (e:bW g=k):ae prog 20 #[.agg v] F λr F'=>r=vi k/\F.le F':=e▸gb hT hg hz
theorem EJ {G:PH} {b:Nat} {x:Tk} {p n:Sl} {e:TypeId} (q:G b=some (.cells (x.arr p n) e)) (hp:RL G p x.pat) (hn:RL G n x.cond.1):RL G (Sl.mk (some (Addr.mk b 0 none)) 1 1) [x]:=⟨[_],.cons (ia hp hn) .nil,RdS.new q (by rw [bL];rfl) rfl (XA _)⟩
theorem Ox {G:PH} {b:Nat} {x:Nd} {e:TypeId} (q:G b=some (.cells x.arr e)):RL G (Sl.mk (some (Addr.mk b 0 none)) 1 1) [x]:=⟨[_],.cons rfl .nil,RdS.new q (by rw [bL];rfl) rfl (XA _)⟩
section
variable {F G F1:PH} {b1 b2:Nat} {n:Sl} {w2:Γ}
theorem Oy (K:SK F G b1 b2 n w2) (h:St G F1 []):iS b1 b2 true (RT F) F1:=by unfold iS;refine h.firstG λG1 F2 m1 s1 p1 l1 hm1 hs1 hp1 h=> ?_;refine ⟨_,rfl,?_⟩;refine h.firstG λG2 F3 m2 s2 p2 l2 hm2 hs2 hp2 h=> ?_;refine ⟨_,rfl,?_⟩;refine h.first λG3 F4 bb m3 s3 l3 hm3 hs3 h=> ?_;refine ⟨_,rfl,?_⟩;refine h.first λG4 F5 br m4 s4 l4 hm4 hs4 h=> ?_;refine ⟨_,rfl,?_⟩;refine h.firstG λG5 F6 m5 s5 p5 l5 hm5 hs5 hp5 h=> ?_;refine ⟨_,rfl,?_⟩;have l45:=aa l4 l5;have l35:=aa l3 l45;have l25:=aa l2 l35;replace K:=K.le (aa l1 l25);replace hm1:=hm1.le l25;replace hs1:=hs1.le l25;replace hp1:=hp1.le l25;replace hm2:=hm2.le l35;replace hs2:=hs2.le l35;replace hp2:=hp2.le l35;replace hm3:=hm3.le l45;replace hs3:=hs3.le l45;replace hm4:=hm4.le l5;replace hs4:=hs4.le l5;clear l1 l2 l3 l4 l5 l45 l35 l25;refine h.new λb9 F7 h=> ?_;refine h.new λb10 F7 h=> ?_;refine h.new λb11 F7 h=> ?_;refine h.new λb12 F7 h=> ?_;refine h.new λb13 F7 h=> ?_;refine h.put4 (w':=aW.arr Sl.nil m1 Sl.nil s1 p1 Sl.nil Sl.nil) rfl rfl (by simp [ai,Sl.v]) λF8 h=> ?_;refine h.put3 (w':=aW.arr Sl.nil m2 Sl.nil s2 p2 Sl.nil Sl.nil) rfl rfl (by simp [ai,Sl.v]) λF8 h=> ?_;refine h.put2 (w':=aW.arr Sl.nil m3 Sl.nil s3 (Sl.mk (some (Addr.mk bb 0 none)) 1 1) Sl.nil Sl.nil) rfl rfl (by simp [ai,Sl.v]) λF8 h=> ?_;refine h.put1 (w':=aW.arr Sl.nil m4 Sl.nil s4 (Sl.mk (some (Addr.mk br 0 none)) 1 1) Sl.nil Sl.nil) rfl rfl (by simp [ai,Sl.v]) λF8 h=> ?_;refine h.put0 (w':=aW.arr Sl.nil m5 Sl.nil s5 p5 Sl.nil Sl.nil) rfl rfl (by simp [ai,Sl.v]) λF8 h=> ?_;refine ⟨_,rfl,aj (h.le _ _ K.q1),rfl,rfl,?_⟩;refine h.newG λb78 G6 F9 l6 q78 _ h=> ?_;refine h.set4 (w':=Gr.arr wS Sl.nil m1 (Sl.mk (some (Addr.mk b78 0 none)) 1 1) s1 p1 Sl.nil Sl.nil) (by show 3<9;decide) rfl λF10 h=> ?_;refine ⟨rfl,?_⟩;refine h.newG λb81 G7 F9 l7 q81 _ h=> ?_;have l67:=aa l6 l7;refine ⟨_,rfl,aj (h.le _ _ (l67 _ _ K.q1)),rfl,rfl,?_⟩;refine h.newG λb84 G8 F9 l8 q84 _ h=> ?_;have l68:=aa l67 l8;refine h.set3 (w':=Gr.arr iR Sl.nil m2 (Sl.mk (some (Addr.mk b84 0 none)) 1 1) s2 p2 Sl.nil Sl.nil) (by show 3<9;decide) rfl λF10 h=> ?_;refine ⟨_,rfl,aj (h.le _ _ (l68 _ _ K.q1)),rfl,_,rfl,aj (h.le _ _ (l68 _ _ K.q1)),rfl,rfl,rfl,?_⟩;refine h.newG λb90 G9 F9 l9 q90 _ h=> ?_;have l69:=aa l68 l9;refine h.set2 (w':=Gr.arr {aW with toks:=uF} Sl.nil m3 (Sl.mk (some (Addr.mk b90 0 none)) 2 2) s3 (Sl.mk (some (Addr.mk bb 0 none)) 1 1) Sl.nil Sl.nil) (by show 3<9;decide) rfl λF10 h=> ?_;refine ⟨_,h.ld2 rfl,rfl,rfl,rfl,?_⟩;refine h.newG λb97 G10 F9 l10 q97 _ h=> ?_;have l610:=aa l69 l10;refine ⟨_,rfl,by decide,by (show (0:Int)<1;decide),?_⟩;simp only [av];refine h.set6 (i:=2) (w':=Pr.arr {wT with brk:=false} (Sl.mk (some (Addr.mk b97 0 none)) 3 3) m3 Sl.nil) (by show 2<13;decide) rfl λF11 h=> ?_;refine ⟨_,h.ld2 rfl,_,rfl,by decide,by (show (0:Int)<1;decide),?_⟩;simp only [av];refine h.set6 (i:=5) (w':=Pr.arr wT (Sl.mk (some (Addr.mk b97 0 none)) 3 3) m3 Sl.nil) (by show 5<13;decide) rfl λF11 h=> ?_;refine ⟨_,h.ld2 rfl,?_⟩;refine h.set1 (w':=Gr.arr {aW with toks:=uF} Sl.nil m4 (Sl.mk (some (Addr.mk b90 0 none)) 2 2) s4 (Sl.mk (some (Addr.mk br 0 none)) 1 1) Sl.nil Sl.nil) (by show 3<9;decide) rfl λF12 h=> ?_;refine ⟨_,h.ld1 rfl,_,h.ld2 rfl,_,rfl,by decide,by (show (0:Int)<1;decide),wT.arr (Sl.mk (some (Addr.mk b97 0 none)) 3 3) m3 Sl.nil,rfl,by simp only [av];exact h.whole6,_,rfl,by decide,by (show (0:Int)<1;decide),?_⟩;simp only [av];refine h.put5 (w':=wT.arr (Sl.mk (some (Addr.mk b97 0 none)) 3 3) m3 Sl.nil) rfl rfl (by simp [ai,Sl.v]) λF13 h=> ?_;refine ⟨_,h.ld1 rfl,_,rfl,by decide,by (show (0:Int)<1;decide),?_⟩;simp only [av];refine h.set5 (i:=6) (w':=Pr.arr {wT with rank:=1} (Sl.mk (some (Addr.mk b97 0 none)) 3 3) m3 Sl.nil) (by show 6<13;decide) rfl λF14 h=> ?_;refine h.newG λb118 G11 F9 l11 q118 _ h=> ?_;have l611:=aa l610 l11;refine ⟨_,rfl,aj (h.le _ _ (l611 _ _ K.q1)),rfl,?_⟩;refine h.newG λb121 G12 F9 l12 q121 _ h=> ?_;have l612:=aa l611 l12;refine ⟨_,rfl,aj (h.le _ _ (l612 _ _ K.q1)),rfl,rfl,rfl,?_⟩;refine h.newG λb124 G13 F9 l13 q124 _ h=> ?_;have l613:=aa l612 l13;refine h.set0 (w':=Gr.arr mS Sl.nil m5 Sl.nil s5 p5 (Sl.mk (some (Addr.mk b124 0 none)) 2 2) Sl.nil) (by show 7<9;decide) rfl λF15 h=> ?_;obtain ⟨G14,l14,e13,e12,e11,e10,e9,er,eb,h⟩:=h.pin7;have lE:_:=aa l613 l14;have l1314:=l14;have l1214:=aa l13 l14;have l1114:=aa l12 l1214;have l1014:=aa l11 l1114;have l914:=aa l10 l1014;have l814:=aa l9 l914;have l714:=aa l8 l814;have l614:=aa l7 l714;replace K:=K.le lE;have tkb:RL G14 (Sl.mk (some (Addr.mk b90 0 none)) 2 2) uF:=⟨[_,_],.cons (ia (p:=Sl.nil) (n:=n) (.nil _) K.hn) (.cons (ia (p:=Sl.nil) (n:=n) (.nil _) K.hn) .nil),RdS.new (l914 _ _ q90) (by kernel_rfl) rfl (XA _)⟩;have syb:RL G14 (Sl.mk (some (Addr.mk b97 0 none)) 3 3) wT.right:=⟨[_,_,_],.cons rfl (.cons rfl (.cons rfl .nil)),RdS.new (l1014 _ _ q97) (by kernel_rfl) rfl (XA _)⟩;have g9:GV G14 (Gr.arr wS Sl.nil m1 (Sl.mk (some (Addr.mk b78 0 none)) 1 1) s1 p1 Sl.nil Sl.nil) wS:=⟨_,_,_,_,_,_,_,rfl,.nil _,hm1.le lE,EJ (p:=Sl.nil) (l614 _ _ q78) (.nil _) K.hn,hs1.le lE,hp1.le lE,.nil _,.nil _⟩;have g10:GV G14 (Gr.arr iR Sl.nil m2 (Sl.mk (some (Addr.mk b84 0 none)) 1 1) s2 p2 Sl.nil Sl.nil) iR:=⟨_,_,_,_,_,_,_,rfl,.nil _,hm2.le lE,EJ (p:=Sl.mk (some (Addr.mk b81 0 none)) 1 1) (l814 _ _ q84) (Ox (x:=⟨1,97,122,0,0⟩) (l714 _ _ q81)) K.hn,hs2.le lE,hp2.le lE,.nil _,.nil _⟩;have g11:GV G14 (Gr.arr {aW with toks:=uF} Sl.nil m3 (Sl.mk (some (Addr.mk b90 0 none)) 2 2) s3 (Sl.mk (some (Addr.mk bb 0 none)) 1 1) Sl.nil Sl.nil) pX:=⟨_,_,_,_,_,_,_,rfl,.nil _,hm3.le lE,tkb,hs3.le lE,pU eb syb (hm3.le lE) (.nil _),.nil _,.nil _⟩;have g12:GV G14 (Gr.arr {aW with toks:=uF} Sl.nil m4 (Sl.mk (some (Addr.mk b90 0 none)) 2 2) s4 (Sl.mk (some (Addr.mk br 0 none)) 1 1) Sl.nil Sl.nil) ER:=⟨_,_,_,_,_,_,_,rfl,.nil _,hm4.le lE,tkb,hs4.le lE,pU er syb (hm3.le lE) (.nil _),.nil _,.nil _⟩;have lvt:RL G14 (Sl.mk (some (Addr.mk b124 0 none)) 2 2) mS.lvs:=⟨[_,_],.cons (eN (n:=n) (d9 (l1114 _ _ q118)) K.hn) (.cons (eN (n:=n) (d9 (l1214 _ _ q121)) K.hn) .nil),RdS.new (l1314 _ _ q124) (by kernel_rfl) rfl (XA _)⟩;have g13:GV G14 (Gr.arr mS Sl.nil m5 Sl.nil s5 p5 (Sl.mk (some (Addr.mk b124 0 none)) 2 2) Sl.nil) mS:=⟨_,_,_,_,_,_,_,rfl,.nil _,hm5.le lE,.nil _,hs5.le lE,hp5.le lE,lvt,.nil _⟩;have z9:Sz wS:=fk (λs hs=>(by cases hs)) (by decide) (λl hl=>(by cases hl)) rfl;have z10:Sz iR:=fk (λs hs=>(by cases hs)) (by decide) (λl hl=>(by cases hl)) rfl;have z11:Sz pX:=fk (λs hs=>(by cases hs)) (by decide) (λl hl=>(by cases hl)) rfl;have z12:Sz ER:=fk (λs hs=>(by cases hs)) (by decide) (λl hl=>(by cases hl)) rfl;have z13:Sz mS:=fk (λs hs=>(by cases hs)) (λt ht=>(by cases ht)) (by decide) rfl;refine ⟨_,rfl,aj (h.le _ _ e9),?_⟩;refine h.runv (eJ K.hT g9 z9 EW) λGa Fa la h=>⟨_,rfl,λ_=>⟨_,rfl,aj (h.le _ _ (la _ _ e10)),?_⟩,λhc=>absurd rfl hc⟩;refine h.runv (eJ (K.hT.le la) (g10.le la) z10 wU) λGb Fb lb h=>⟨_,rfl,λ_=>⟨_,rfl,aj (h.le _ _ (lb _ _ (la _ _ e11))),?_⟩,λhc=>absurd rfl hc⟩;have lab:=aa la lb;refine h.runv (eJ (K.hT.le lab) (g11.le lab) z11 wV) λGc Fc lc h=>⟨_,rfl,λ_=>⟨_,rfl,aj (h.le _ _ (lc _ _ (lab _ _ e12))),?_⟩,λhc=>absurd rfl hc⟩;have lac:=aa lab lc;refine h.runv (eJ (K.hT.le lac) (g12.le lac) z12 EX) λGd Fd ld' h=>⟨_,rfl,λ_=>⟨_,rfl,aj (h.le _ _ (ld' _ _ (lac _ _ e13))),?_⟩,λhc=>absurd rfl hc⟩;have lad:=aa lac ld';refine h.runv (eJ (K.hT.le lad) (g13.le lad) z13 Dv) λGe Fe le' h=>⟨_,rfl,?_⟩;dsimp only;rw [show decide ((53:Int)=53)=true from rfl];exact Ow (K.le (aa lad le')) h
theorem EL (hT:Tab F):ae prog 11 #[] F (RT F):=by refine VX ?_;unfold Qz;refine (St.start F).run (mQ true _) λ_ G1 F1 hr l1 h=> ?_;obtain ⟨_,rfl,hw⟩:=hr;obtain ⟨n,rfl,hn⟩:=hw.out;refine ⟨_,rfl,?_⟩;refine h.var (w:= #[n.v,vi aL.2]) (by simp [ai,Sl.v]) (λb1 G2 F2 l2 q1 h=> ?_) rfl rfl;refine h.firstG λG3 F3 m s p l3 hm hs hp h=> ?_;refine ⟨_,rfl,?_⟩;refine h.var (w:=aW.arr Sl.nil m Sl.nil s p Sl.nil Sl.nil) (by simp [ai,Sl.v]) (λb2 G4 F4 l4 q2 h=> ?_) rfl rfl;have l34:=aa l3 l4;have l24:=aa l2 l34;have K:SK F G4 b1 b2 n (aW.arr Sl.nil m Sl.nil s p Sl.nil Sl.nil):=⟨aa l1 l24,hT.le (aa l1 l24),l34 _ _ q1,hn.le l24,q2,⟨_,_,_,_,_,_,_,rfl,.nil _,hm.le l4,.nil _,hs.le l4,hp.le l4,.nil _,.nil _⟩⟩;clear l1 l2 l3 l4 l34 l24 hm hs hp hn q1 q2;refine h.firstG λG1 F2 m1 s1 p1 l1 hm1 hs1 hp1 h=> ?_;refine ⟨_,rfl,?_⟩;refine h.first λG2 F3 bl m2 s2 l2 hm2 hs2 h=> ?_;refine ⟨_,rfl,?_⟩;refine h.first λG3 F4 bn m3 s3 l3 hm3 hs3 h=> ?_;refine ⟨_,rfl,?_⟩;refine h.firstG λG4 F5 m4 s4 p4 l4 hm4 hs4 hp4 h=> ?_;refine ⟨_,rfl,?_⟩;refine h.firstG λG5 F6 m5 s5 p5 l5 hm5 hs5 hp5 h=> ?_;refine ⟨_,rfl,?_⟩;have l45:=aa l4 l5;have l35:=aa l3 l45;have l25:=aa l2 l35;replace K:=K.le (aa l1 l25);replace hm1:=hm1.le l25;replace hs1:=hs1.le l25;replace hp1:=hp1.le l25;replace hm2:=hm2.le l35;replace hs2:=hs2.le l35;replace hm3:=hm3.le l45;replace hs3:=hs3.le l45;replace hm4:=hm4.le l5;replace hs4:=hs4.le l5;replace hp4:=hp4.le l5;clear l1 l2 l3 l4 l5 l45 l35 l25;refine h.new λb3 F7 h=> ?_;refine h.new λb4 F7 h=> ?_;refine h.new λb5 F7 h=> ?_;refine h.new λb6 F7 h=> ?_;refine h.new λb7 F7 h=> ?_;refine h.put4 (w':=aW.arr Sl.nil m1 Sl.nil s1 p1 Sl.nil Sl.nil) rfl rfl (by simp [ai,Sl.v]) λF8 h=> ?_;refine h.put3 (w':=aW.arr Sl.nil m2 Sl.nil s2 (Sl.mk (some (Addr.mk bl 0 none)) 1 1) Sl.nil Sl.nil) rfl rfl (by simp [ai,Sl.v]) λF8 h=> ?_;refine h.put2 (w':=aW.arr Sl.nil m3 Sl.nil s3 (Sl.mk (some (Addr.mk bn 0 none)) 1 1) Sl.nil Sl.nil) rfl rfl (by simp [ai,Sl.v]) λF8 h=> ?_;refine h.put1 (w':=aW.arr Sl.nil m4 Sl.nil s4 p4 Sl.nil Sl.nil) rfl rfl (by simp [ai,Sl.v]) λF8 h=> ?_;refine h.put0 (w':=aW.arr Sl.nil m5 Sl.nil s5 p5 Sl.nil Sl.nil) rfl rfl (by simp [ai,Sl.v]) λF8 h=> ?_;refine h.set4 (w':=Gr.arr uD Sl.nil m1 Sl.nil s1 p1 Sl.nil Sl.nil) (by show 6<9;decide) rfl λF9 h=> ?_;refine ⟨_,h.ld3 rfl,_,rfl,by decide,by (show (0:Int)<1;decide),?_⟩;simp only [av];refine h.set6 (i:=1) (w':=Pr.arr (bh ⟨#[115]⟩ (-1) []) Sl.nil m2 Sl.nil) (by show 1<13;decide) rfl λF10 h=> ?_;refine ⟨_,h.ld2 rfl,_,rfl,by decide,by (show (0:Int)<1;decide),?_⟩;simp only [av];refine h.set5 (i:=0) (w':=Pr.arr (bh ⟨#[]⟩ 0 []) Sl.nil m3 Sl.nil) (by show 0<13;decide) rfl λF11 h=> ?_;refine h.newG λb39 G6 F12 l6 q39 _ h=> ?_;refine h.set1 (w':=Gr.arr jB (Sl.mk (some (Addr.mk b39 0 none)) 1 1) m4 Sl.nil s4 p4 Sl.nil Sl.nil) (by show 0<9;decide) rfl λF13 h=> ?_;refine h.run (mQ false _) λ_ G7 F14 hr l7 h=> ?_;obtain ⟨_,rfl,hw⟩:=hr;obtain ⟨m6,rfl,hm6⟩:=hw.out;refine ⟨_,rfl,?_⟩;refine h.putR0 (o:=1) (w':=uE.arr Sl.nil m6 Sl.nil s5 p5 Sl.nil Sl.nil) rfl (by simp [ai,Sl.v]) (by show 1+2<=9;decide) rfl λF15 h=> ?_;obtain ⟨G8,l8,e7,e6,e5,e4,e3,en,el,h⟩:=h.pin7;have l78:=aa l7 l8;have lE:=aa l6 l78;replace K:=K.le lE;have g3:GV G8 (Gr.arr uD Sl.nil m1 Sl.nil s1 p1 Sl.nil Sl.nil) uD:=⟨_,_,_,_,_,_,_,rfl,.nil _,hm1.le lE,.nil _,hs1.le lE,hp1.le lE,.nil _,.nil _⟩;have g4:GV G8 (aW.arr Sl.nil m2 Sl.nil s2 (Sl.mk (some (Addr.mk bl 0 none)) 1 1) Sl.nil Sl.nil) Lz:=⟨_,_,_,_,_,_,_,rfl,.nil _,hm2.le lE,.nil _,hs2.le lE,pU el (.nil _) (hm2.le lE) (.nil _),.nil _,.nil _⟩;have g5:GV G8 (aW.arr Sl.nil m3 Sl.nil s3 (Sl.mk (some (Addr.mk bn 0 none)) 1 1) Sl.nil Sl.nil) LA:=⟨_,_,_,_,_,_,_,rfl,.nil _,hm3.le lE,.nil _,hs3.le lE,pU en (.nil _) (hm3.le lE) (.nil _),.nil _,.nil _⟩;have g6:GV G8 (Gr.arr jB (Sl.mk (some (Addr.mk b39 0 none)) 1 1) m4 Sl.nil s4 p4 Sl.nil Sl.nil) jB:=⟨_,_,_,_,_,_,_,rfl,RL.strs.2 (RdS.new (l78 _ _ q39) rfl rfl (XA _)),hm4.le lE,.nil _,hs4.le lE,hp4.le lE,.nil _,.nil _⟩;have g7:GV G8 (uE.arr Sl.nil m6 Sl.nil s5 p5 Sl.nil Sl.nil) uE:=⟨_,_,_,_,_,_,_,rfl,.nil _,hm6.le l8,.nil _,hs5.le lE,hp5.le lE,.nil _,.nil _⟩;have zz:∀g:Gr,(∀s∈g.conds,s.size<=1000000000)->g.toks=[]->g.lvs=[]->g.fils=[]->Sz g:=λg h1 h2 h3 h4=>fk h1 (λt ht=>by rw [h2] at ht;cases ht) (λl hl=>by rw [h3] at hl;cases hl) h4;refine ⟨_,rfl,aj (h.le _ _ K.q2),?_⟩;refine h.runv (eJ K.hT K.g2 (zz _ (λs hs=>(by cases hs)) rfl rfl rfl) mT) λGa Fa la h=>⟨_,rfl,λ_=>⟨_,rfl,aj (h.le _ _ (la _ _ e3)),?_⟩,λhc=>absurd rfl hc⟩;refine h.runv (eJ (K.hT.le la) (g3.le la) (zz _ (λs hs=>(by cases hs)) rfl rfl rfl) Dt) λGb Fb lb h=>⟨_,rfl,λ_=>⟨_,rfl,aj (h.le _ _ (lb _ _ (la _ _ e4))),?_⟩,λhc=>absurd rfl hc⟩;have lab:=aa la lb;refine h.runv (eJ (K.hT.le lab) (g4.le lab) (zz _ (λs hs=>(by cases hs)) rfl rfl rfl) EU) λGc Fc lc h=>⟨_,rfl,λ_=>⟨_,rfl,aj (h.le _ _ (lc _ _ (lab _ _ e5))),?_⟩,λhc=>absurd rfl hc⟩;have lac:=aa lab lc;refine h.runv (eJ (K.hT.le lac) (g5.le lac) (zz _ (λs hs=>(by cases hs)) rfl rfl rfl) EV) λGd Fd ld' h=>⟨_,rfl,λ_=>⟨_,rfl,aj (h.le _ _ (ld' _ _ (lac _ _ e6))),?_⟩,λhc=>absurd rfl hc⟩;have lad:=aa lac ld';refine h.runv (eJ (K.hT.le lad) (g6.le lad) (zz _ (by decide) rfl rfl rfl) uH) λGe Fe le' h=>⟨_,rfl,λ_=>⟨_,rfl,aj (h.le _ _ (le' _ _ (lad _ _ e7))),?_⟩,λhc=>absurd rfl hc⟩;have lae:=aa lad le';refine h.runv (eJ (K.hT.le lae) (g7.le lae) (zz _ (λs hs=>(by cases hs)) rfl rfl rfl) Du) λGf Ff lf h=>⟨_,rfl,?_⟩;dsimp only;rw [show decide ((54:Int)=54)=true from rfl];exact Oy (K.le (aa lae lf)) h
end
section
end
section
end
section
end
end Go.Proofs.YtenpmjhnhepfdaaGreatDoor
namespace Go.Proofs.YtenpmjhnhepfdaaGreatDoor
open Go Go.ChangeShapes Go.WideShapes Go.ChangeAt Go.RowKit Go.Deep Go.Proofs.Tryz
set_option maxRecDepth 100000
section
variable {H:Type} {enc:TypeId×Value->H} {P:Program} {W:World}
theorem wQ {α:Type} {cells:α->Ξ} {k:Nat} (hk:∀o,(cells o).length=k):∀{os:List α} {i j:Nat},j<k->(os.flatMap cells)[i*k+j]? =(os[i]?).bind λo=>(cells o)[j]?
 |[],i,j,_=>by simp
 |o::os,0,j,hj=>by rw [XT,YR,XZ,X5 (by rw [hk];exact hj)];rfl
 |o::os,i+1,j,hj=>by rw [XT,Yb (by rw [hk,YS];omega),hk,show (i+1)*k+j - k=i*k+j by rw [YS];omega,wQ hk hj];rfl
theorem iQ {α:Type} {cells:α->Ξ} {k:Nat} (hk:∀o,(cells o).length=k):∀os:List α,(os.flatMap cells).length=os.length*k
 |[]=>by simp
 |o::os=>by rw [XT,N3,hk,iQ hk os,XI,YS,Nat.add_comm]
theorem tf {α:Type} [Inhabited α] {t e k:Nat} {cells:α->Ξ} {Q:α->Prop} (ht:P.underlying t=some (.slice e)) (hk:P.cellsOf e=k) (hk0:0<k) (hlen:∀o,(cells o).length=k)
  (elem:∀{fuel:Nat} {cs:Ξ} {x:DataW H×List MemPlace},DataW.trod enc P W 0 (λ_=>true) true fuel e cs=some x->(x.1.weights P e).all (·<=reachBytes)=true->∃o,cs=cells o/\Q o)
  {fuel:Nat} {c:Value} {x:DataW H×List MemPlace} (h:DataW.trod enc P W 0 (λ_=>true) true fuel t [c]=some x) (hw:(x.1.weights P t).all (·<=reachBytes)=true):
  ∃(sl:Sl) (os:List α),c=Sl.v sl/\RdS (hF W) sl k (os.flatMap cells)/\(∀o∈os,Q o)/\os.length=sl.len/\sl.len*P.bytesOf e<=reachBytes:=by
 rcases open_slice ht h with ⟨hcs,rfl⟩|⟨a,len,cap,m,n,D,Pl,hcs,_,hl,hm,hmm,rfl,hx⟩
 ·cases hcs;exact ⟨Sl.nil,[],rfl,RdS.nil _ _,by simp,rfl,by simp [Sl.nil]⟩
 ·cases hcs;simp only [if_true] at hmm;subst hmm;rw [hk] at hx;have hwD:∀i,i<len->((D i).weights P e).all (·<=reachBytes)=true:=λi hi=>by
   rw [Yw] at hw ⊢;intro y hy;refine hw y ?_;simp only [DataW.weights,ht];refine Yc _ (YT _ ?_);have gen:∀(l:List (DataW H)) (d:DataW H),d∈l->∀y∈d.weights P e,y∈DataW.weightsAll P e l:=by
    intro l;induction l with
    |nil=>intro d hd;cases hd
    |cons a l ih=>
     intro d hd y hy;simp only [DataW.weightsAll,XD];rcases XB.1 hd with rfl|hd
     ·exact .inl hy
     ·exact .inr (ih d hd y hy)
   exact gen _ (D i) (X3.2 ⟨i,Yu.2 hi,rfl⟩) y hy
  have hb:m*P.bytesOf e<=reachBytes:=by simp only [DataW.weights,ht,List.all_cons,Ya,decide_eq_true_eq,XH,Ym] at hw;rw [show len+(m - len)=m by omega] at hw;exact hw.1
  have ho:∀i,i<len->∃o:α,W.cells? 0 (a.add (i*k)) k=some (cells o)/\Q o:=λi hi=>by obtain ⟨cs,h1,h2⟩:=hx i (by omega);obtain ⟨o,rfl,h3⟩:=elem h2 (hwD i hi);exact ⟨o,h1,h3⟩
  obtain ⟨O,hO⟩:=choose_lt ho;refine ⟨⟨some a,len,m⟩,(List.range len).map O,rfl,⟨?_,hl,λhp=> ?_⟩,?_,by simp,X1 (Yl _ hl) hb⟩
  ·rw [iQ hlen];simp
  ·simp only at hp;have h0:=(World.cells?_some (hO 0 (by omega)).1).2.2 0 hk0;obtain ⟨v0,hv0⟩:∃v,(cells (O 0))[0]? =some v:=⟨_,N4 (by rw [hlen];exact hk0)⟩;have hs:=World.cell?_spot (v:=v0) (by rw [h0];exact hv0);obtain ⟨b,o,spot⟩:=a;simp [Addr.add] at hs;subst hs;refine ⟨b,o,rfl,λi hi=> ?_⟩;rw [iQ hlen,XH,Ym] at hi;have hik:i / k<len:=Nat.div_lt_of_lt_mul (by rw [Nat.mul_comm];exact hi);have hr:i % k<k:=YB _ hk0;have h1:=(World.cells?_some (hO (i / k) hik).1).2.2 (i % k) hr;have h2:=wQ hlen (os:=(List.range len).map O) (i:=i / k) (j:=i % k) hr;have hdm:i / k*k+i % k=i:=by rw [Nat.mul_comm];exact Nat.div_add_mod i k
   rw [hdm] at h2;rw [<- N4,h2];simp only [XM,Yi hik,Yj,YW];rw [<- h1,av,av,Y4,hdm];rfl
  ·intro o ho;obtain ⟨i,hi,rfl⟩:=X3.1 ho;exact (hO i (Yu.1 hi)).2
end
section
variable {H:Type} {enc:TypeId×Value->H} {W:World}
instance:Inhabited (Ln×Sl):=⟨⟨⟨0,[],0,0⟩,Sl.nil⟩⟩
instance:Inhabited Ru:=⟨⟨0,0,0,0,0⟩⟩
theorem EM:prog.cellsOf 22=1:=by kernel_rfl
theorem AQ:prog.cellsOf 110=4:=by kernel_rfl
theorem AR:prog.cellsOf 113=5:=by kernel_rfl
theorem Ji:prog.cellsOf 26=5:=by kernel_rfl
theorem Jj:prog.cellsOf 23=1:=by kernel_rfl
theorem Jk:prog.cellsOf 24=1:=by kernel_rfl
theorem eK {z:Int} (h:(Lit.int .u8 z).wf=true):∃n:Nat,z=n/\n<256:=by obtain ⟨h1,h2⟩:=PL h;exact ⟨z.toNat,by omega,by omega⟩
theorem ks {fuel:Nat} {c:Value} {x:DataW H×List MemPlace} (h:DataW.trod enc prog W 0 (λ_=>true) true fuel 22 [c]=some x) (hw:(x.1.weights prog 22).all (·<=reachBytes)=true):
  ∃(sl:Sl) (ns:Δ),c=Sl.v sl/\RdS (hF W) sl 1 (ns.map vB)/\(∀n∈ns,n<256)/\ns.length<=9000000000000000:=by
 obtain ⟨sl,zs,rfl,hr,hz,hb,_⟩:=HO underlying22 underlying5 ny h hw;have e:(zs.map Int.toNat).map vB=zs.map (Value.int .u8):=by rw [List.map_map];refine Y6 λz hz'=> ?_;obtain ⟨n,rfl,_⟩:=eK (hz z hz');simp only [Function.comp,N5]
 refine ⟨sl,zs.map Int.toNat,rfl,by rw [e];exact hr,λn hn=> ?_,by rw [XH];exact KJ hr hb⟩;obtain ⟨z,hz',rfl⟩:=X3.1 hn;obtain ⟨n,rfl,hn'⟩:=eK (hz z hz');rw [N5];exact hn'
theorem Do {fuel:Nat} {cs:Ξ} {x:DataW H×List MemPlace} (h:DataW.trod enc prog W 0 (λ_=>true) true fuel 110 cs=some x) (hw:(x.1.weights prog 110).all (·<=reachBytes)=true):
  ∃o:Ln×Sl,cs=[vB o.1.left,o.2.v,vB o.1.cond,vB o.1.mark]/\(RdS (hF W) o.2 1 (o.1.right.map vB)/\o.1.left<256/\o.1.cond<256/\o.1.mark<256/\∀y∈o.1.right,y<256):=by
 obtain ⟨xs,n,_,rfl,hl,hxl,hf⟩:=DataW.trod_struct underlying110 h;rw [AQ] at hl
 match cs,hl with
 |[c0,c1,c2,c3],_=>
 match xs,hxl with
 |[x0,x1,x2,x3],_=>
 have f0:=hf 0 _ rfl;have f1:=hf 1 _ rfl;have f2:=hf 2 _ rfl;have f3:=hf 3 _ rfl;simp only [ny,EM,YX,List.drop_succ_cons,List.take_succ_cons,List.take_zero,YF,Yz] at f0 f1 f2 f3;obtain ⟨z0,e0,_,w0⟩:=DataW.trod_int underlying5 f0;obtain ⟨z2,e2,_,w2⟩:=DataW.trod_int underlying5 f2;obtain ⟨z3,e3,_,w3⟩:=DataW.trod_int underlying5 f3;cases e0;cases e2;cases e3;have hw1:(x1.1.weights prog 22).all (·<=reachBytes)=true:=by rw [Yw] at hw ⊢;intro y hy;refine hw y ?_;simp only [DataW.weights,underlying110];exact DataW.weights_mem_each (j:=1) rfl rfl y hy
 obtain ⟨sl,ns,rfl,hr,hn,_⟩:=ks f1 hw1;obtain ⟨n0,rfl,k0⟩:=eK w0;obtain ⟨n2,rfl,k2⟩:=eK w2;obtain ⟨n3,rfl,k3⟩:=eK w3;exact ⟨⟨⟨n0,ns,n2,n3⟩,sl⟩,rfl,hr,k0,k2,k3,hn⟩
theorem Dp {fuel:Nat} {cs:Ξ} {x:DataW H×List MemPlace} (h:DataW.trod enc prog W 0 (λ_=>true) true fuel 113 cs=some x) (_hw:(x.1.weights prog 113).all (·<=reachBytes)=true):
  ∃o:Ru,cs=[vB o.kind,vB o.a,vB o.b,vB o.c,vB o.cond]/\(o.kind<256/\o.a<256/\o.b<256/\o.c<256/\o.cond<256):=by
 obtain ⟨xs,n,_,rfl,hl,hxl,hf⟩:=DataW.trod_struct underlying113 h;rw [AR] at hl
 match cs,hl with
 |[c0,c1,c2,c3,c4],_=>
 match xs,hxl with
 |[x0,x1,x2,x3,x4],_=>
 have f0:=hf 0 _ rfl;have f1:=hf 1 _ rfl;have f2:=hf 2 _ rfl;have f3:=hf 3 _ rfl;have f4:=hf 4 _ rfl;simp only [ny,YX,List.drop_succ_cons,List.take_succ_cons,List.take_zero,YF,Yz] at f0 f1 f2 f3 f4;obtain ⟨z0,e0,_,w0⟩:=DataW.trod_int underlying5 f0;obtain ⟨z1,e1,_,w1⟩:=DataW.trod_int underlying5 f1;obtain ⟨z2,e2,_,w2⟩:=DataW.trod_int underlying5 f2;obtain ⟨z3,e3,_,w3⟩:=DataW.trod_int underlying5 f3;obtain ⟨z4,e4,_,w4⟩:=DataW.trod_int underlying5 f4;cases e0;cases e1;cases e2;cases e3;cases e4;obtain ⟨n0,rfl,k0⟩:=eK w0;obtain ⟨n1,rfl,k1⟩:=eK w1;obtain ⟨n2,rfl,k2⟩:=eK w2;obtain ⟨n3,rfl,k3⟩:=eK w3;obtain ⟨n4,rfl,k4⟩:=eK w4;exact ⟨⟨n0,n1,n2,n3,n4⟩,rfl,k0,k1,k2,k3,k4⟩
theorem uA {α β:Type} [Mem β] {F:PH} {cells:α->Ξ} {f:α->β}:∀{os:List α},(∀o∈os,Mem.rep F (f o) (cells o).toArray)->dr F (os.map f) (os.map λo=>(cells o).toArray)
 |[],_=> .nil
 |o::os,h=> .cons (h o (by simp)) (uA λx hx=>h x (by simp [hx]))
theorem EN {α:Type} (cells:α->Ξ) (os:List α):cat (os.map λo=>(cells o).toArray)=os.flatMap cells:=by unfold cat;rw [List.flatMap_map]
theorem EO {fuel:Nat} {cs:Γ} {x:DataW H×List MemPlace} (h:DataW.trod enc prog W 0 (λ_=>true) true fuel 26 cs.toList=some x) (hw:(x.1.weights prog 26).all (·<=reachBytes)=true):
  ∃r:Rw,Dx (hF W) cs r:=by
 obtain ⟨xs,n,_,rfl,hl,hxl,hf⟩:=DataW.trod_struct underlying26 h;rw [Ji] at hl;obtain ⟨cs⟩:=cs
 match cs,hl with
 |[c0,c1,c2,c3,c4],_=>
 match xs,hxl with
 |[x0,x1,x2,x3,x4],_=>
 have f0:=hf 0 _ rfl;have f1:=hf 1 _ rfl;have f2:=hf 2 _ rfl;have f3:=hf 3 _ rfl;have f4:=hf 4 _ rfl;simp only [ny,EM,Jj,Jk,YX,List.drop_succ_cons,List.take_succ_cons,List.take_zero,YF,Yz] at f0 f1 f2 f3 f4;obtain ⟨z0,e0,_,w0⟩:=DataW.trod_int underlying5 f0;obtain ⟨z1,e1,_,w1⟩:=DataW.trod_int underlying5 f1;cases e0;cases e1;have hw2:(x2.1.weights prog 22).all (·<=reachBytes)=true:=by rw [Yw] at hw ⊢;intro y hy;refine hw y ?_;simp only [DataW.weights,underlying26];exact DataW.weights_mem_each (j:=2) rfl rfl y hy
 have hw3:(x3.1.weights prog 23).all (·<=reachBytes)=true:=by rw [Yw] at hw ⊢;intro y hy;refine hw y ?_;simp only [DataW.weights,underlying26];exact DataW.weights_mem_each (j:=3) rfl rfl y hy
 have hw4:(x4.1.weights prog 24).all (·<=reachBytes)=true:=by rw [Yw] at hw ⊢;intro y hy;refine hw y ?_;simp only [DataW.weights,underlying26];exact DataW.weights_mem_each (j:=4) rfl rfl y hy
 obtain ⟨sf,ns,rfl,hr2,hn2,_⟩:=ks f2 hw2;obtain ⟨sl,ls,rfl,hr3,hq3,_,_⟩:=tf (k:=4) (cells:=λo:Ln×Sl=>[vB o.1.left,o.2.v,vB o.1.cond,vB o.1.mark]) underlying23 AQ (by decide) (λ_=>rfl) Do f3 hw3;obtain ⟨sr,rs,rfl,hr4,hq4,_,_⟩:=tf (k:=5) (cells:=λo:Ru=>[vB o.kind,vB o.a,vB o.b,vB o.c,vB o.cond]) underlying24 AR (by decide) (λ_=>rfl) Dp f4 hw4;obtain ⟨n0,rfl,k0⟩:=eK w0;obtain ⟨n1,rfl,k1⟩:=eK w1;refine ⟨⟨n0,n1,ns,ls.map Prod.fst,rs⟩,⟨sf,sl,sr,rfl,hr2,⟨_,uA (f:=Prod.fst) (cells:=λo:Ln×Sl=>[vB o.1.left,o.2.v,vB o.1.cond,vB o.1.mark]) λo ho=> ?_,by rw [EN];exact hr3⟩,⟨_,?_,by rw [EN (λo:Ru=>[vB o.kind,vB o.a,vB o.b,vB o.c,vB o.cond])];exact hr4⟩⟩,k0,k1⟩
 ·obtain ⟨h1,h2⟩:=hq3 o ho;exact ⟨o.2,rfl,h1,h2⟩
 ·have:=uA (F:=hF W) (f:=λo:Ru=>o) (cells:=λo:Ru=>[vB o.kind,vB o.a,vB o.b,vB o.c,vB o.cond]) (os:=rs) λo ho=>⟨rfl,hq4 o ho⟩;rw [List.map_id'] at this;exact this
end
set_option maxRecDepth 100000
section
variable {H:Type} {enc:TypeId×Value->H} {W:World}
theorem Jl:prog.cellsOf 28=3:=by kernel_rfl
theorem Oz:prog.cellsOf 3=1:=by kernel_rfl
theorem Dq {fuel:Nat} {cs:Γ} {x:DataW H×List MemPlace} (h:DataW.trod enc prog W 0 (λ_=>true) true fuel 28 cs.toList=some x):
  ∃(w a:Nat) (b:Int),cs= #[.int .u8 (w:Int),.int .u8 (a:Int),vi b]/\w<256/\a<256:=by
 obtain ⟨xs,n,_,rfl,hl,hxl,hf⟩:=DataW.trod_struct underlying28 h;rw [Jl] at hl;obtain ⟨cs⟩:=cs
 match cs,hl with
 |[c0,c1,c2],_=>
 match xs,hxl with
 |[x0,x1,x2],_=>
 have f0:=hf 0 _ rfl;have f1:=hf 1 _ rfl;have f2:=hf 2 _ rfl;simp only [ny,Oz,YX,List.drop_succ_cons,List.take_succ_cons,List.take_zero,YF,Yz] at f0 f1 f2;obtain ⟨z0,e0,_,w0⟩:=DataW.trod_int underlying5 f0;obtain ⟨z1,e1,_,w1⟩:=DataW.trod_int underlying5 f1;obtain ⟨z2,e2,_,w2⟩:=DataW.trod_int underlying3 f2;cases e0;cases e1;cases e2;obtain ⟨n0,rfl,k0⟩:=eK w0;obtain ⟨n1,rfl,k1⟩:=eK w1;exact ⟨n0,n1,z2,rfl,k0,k1⟩
end
end Go.Proofs.YtenpmjhnhepfdaaGreatDoor
