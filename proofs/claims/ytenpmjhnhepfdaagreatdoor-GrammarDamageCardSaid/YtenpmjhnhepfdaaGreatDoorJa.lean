/-
  Damage: the plain law, and the last part of the walk.
-/
import Derived.Test.YtenpmjhnhepfdaaGreatDoorGkoinelaw05
namespace Go.Proofs.YtenpmjhnhepfdaaGreatDoor
open Go Go.Proofs.Tryz Tr
set_option maxRecDepth 10000
theorem km (x:Bool) (F:PH):ae prog 30 #[.bool x] F fun r F'=>rj (dia (leaf x)) r F'∧F.le F':=
 (eZ x).mono fun _ _ ⟨w,h1,h2,h3⟩=>⟨⟨w,h1,h2⟩,h3⟩
abbrev prS:Pr:=aY ⟨#[115]⟩ 0 []
section
variable {G F:PH} {As:List (PH→Prop)}
theorem St.first (h:St G F As) {Q:Value→PH→Prop} (k:∀G' F' b n s,G.le G'→RL G' n aF.1→RL G' s aR.nons→St G' F' (pt b (.cells (prS.arr Sl.nil n Sl.nil) 67)::As)→
   Q (.agg (aR.arr Sl.nil n Sl.nil s (Sl.mk (some (Addr.mk b 0 none)) 1 1) Sl.nil Sl.nil)) F'):ae prog 34 #[] F Q:=by
 refine MI ?_
 unfold Im
 refine h.new fun b0 F1 h=> ?_
 refine h.run (km true _) fun _ G1 F2 hr l1 h=> ?_
 obtain ⟨_,rfl,hw⟩:=hr
 obtain ⟨n,rfl,hn⟩:=hw.out
 refine ⟨_,rfl,?_⟩
 refine h.new fun b1 F3 h=> ?_
 refine h.put0 (w':= #[n.v,vi aF.2]) rfl rfl (by simp [ai,Sl.v]) fun F4 h=> ?_
 refine ⟨_,rfl,h.whole0,?_⟩
 refine h.newG fun b4 G2 F5 l2 q4 _ h=> ?_
 refine ⟨_,rfl,h.whole0,rfl,rfl,?_⟩
 refine h.new fun b7 F6 h=> ?_
 refine ⟨rfl,?_⟩
 refine h.put2 (w':=aR.arr Sl.nil n Sl.nil (Sl.mk (some (Addr.mk b4 0 none)) 1 1) (Sl.mk (some (Addr.mk b7 0 none)) 1 1) Sl.nil Sl.nil) rfl rfl (by simp [ai,Sl.v]) fun F7 h=> ?_
 refine ⟨_,rfl,h.whole2,?_⟩
 exact k G2 F7 b7 n _ (aa l1 l2) (hn.le l2) (RL.strs.2 (RdS.new q4 rfl rfl (Nat.le_refl _))) h.front1.tail.front1.tail
theorem mP {b:Nat} {p:Pr} {r n l:Sl} {e:TypeId} (q:G b=some (.cells (p.arr r n l) e)) (h1:RL G r p.right) (h2:RL G n p.cond.1) (h3:RL G l p.lay):RL G (Sl.mk (some (Addr.mk b 0 none)) 1 1) [p]:=
 ⟨[_],.cons ⟨r,n,l,rfl,h1,h2,h3⟩ .nil,RdS.new q (by rw [cJ];rfl) rfl (Nat.le_refl _)⟩
theorem St.firstG (h:St G F As) {Q:Value→PH→Prop} (k:∀G' F' n s p,G.le G'→RL G' n aF.1→RL G' s aR.nons→RL G' p aR.prods→St G' F' As→
   Q (.agg (aR.arr Sl.nil n Sl.nil s p Sl.nil Sl.nil)) F'):ae prog 34 #[] F Q:=by
 refine h.first fun G1 F1 b n s l1 hn hs h=> ?_
 obtain ⟨G2,l2,⟨H,hA,hH⟩,h⟩:=h.pin
 exact k G2 F1 n s _ (aa l1 l2) (hn.le l2) (hs.le l2) (mP (hH _ _ hA) (.nil _) (hn.le l2) (.nil _)) h
end
theorem qL (F:PH):ae prog 36 #[] F fun r F'=>(∃s:Sl,r=.slice s.base s.len s.cap∧RdS F' s 1 (ut.map vB))∧F.le F':=by
 refine MJ ?_
 unfold In
 refine (St.start F).newG fun b1 G1 F1 l1 q1 _ h=> ?_
 exact ⟨⟨_,rfl,RdS.new (h.le _ _ q1) rfl rfl (Nat.le_refl _)⟩,aa l1 h.le⟩
def Ij (ns:List Nat):ByteArray:=⟨(ns.map UInt8.ofNat).toArray⟩
theorem sN {F:PH} (P:Program):∀(ns:List Nat) (s:ByteArray),
  rdo P (forIn (ns.map vB) s fun c s=>do
   let .int .u8 n:=c|stuck "bytesToString: byte expected"
   let s:=s.push (UInt8.ofNat n.toNat)
   pure (ForInStep.yield s)) F (ns.foldl (fun s n=>s.push (UInt8.ofNat n)) s)
 |[],s=>by simp [rdo]
 |n::ns,s=>by
  simp only [List.map_cons,List.forIn_cons,ak,List.foldl_cons]
  refine ⟨.yield (s.push (UInt8.ofNat n)),?_,?_⟩
  ·simp [rdo]
  ·exact sN P ns _
theorem sO:∀(ns:List Nat) (s:ByteArray),ns.foldl (fun s n=>s.push (UInt8.ofNat n)) s=⟨s.data++(ns.map UInt8.ofNat).toArray⟩
 |[],s=>by simp
 |n::ns,s=>by
  rw [List.foldl_cons,sO ns]
  simp [ByteArray.push]
theorem qM {F:PH} {P:Program} {s:Sl} {ns:List Nat} (h:RdS F s 1 (ns.map vB)):rdo P (Conv.bytesToString s.v) F (.string (Ij ns)):=by
 obtain ⟨base,len,cap⟩:=s
 have hl:=h.len
 simp only [List.length_map,Nat.mul_one] at hl
 unfold Conv.bytesToString Sl.v
 cases base with
 |none=>
  have h0:len=0:=by
   rcases Nat.eq_zero_or_pos len with h0|h0
   ·exact h0
   ·obtain ⟨b,o,h1,_⟩:=h.cells h0
    cases h1
  subst h0
  have:ns=[]:=List.length_eq_zero_iff.1 (by omega)
  subst this
  rfl
 |some a=>
  simp only [ak]
  refine ⟨(ns.map vB).toArray,?_,?_⟩
  ·have hr:=h.row (a:=a) rfl 0 (ns.map vB).toArray (by rw [List.drop_zero,List.size_toArray,List.take_length])
   rw [show a.add 0=a from rfl] at hr
   have:=cY (P:=P) hr
   simp only [List.size_toArray,List.length_map] at this
   rw [hl] at this
   exact this
  ·refine ⟨ns.foldl (fun s n=>s.push (UInt8.ofNat n)) .empty,?_,?_⟩
   ·rw [← Array.forIn_toList]
    exact sN P ns .empty
   ·rw [sO]
    show (Value.string _)=_
    simp [Ij,ByteArray.empty,ByteArray.emptyWithCapacity]
    rfl
structure SK (F G:PH) (b1 b2:Nat) (n:Sl) (w2:Array Value):Prop where
 lF:F.le G
 hT:Tab G
 q1:G b1=some (.cells #[Sl.v n,vi aF.2] 33)
 hn:RL G n aF.1
 q2:G b2=some (.cells w2 39)
 g2:GV G w2 aR
theorem SK.le {F G G':PH} {b1 b2:Nat} {n:Sl} {w2:Array Value} (h:SK F G b1 b2 n w2) (l:G.le G'):SK F G' b1 b2 n w2:=⟨aa h.lF l,h.hT.le l,l _ _ h.q1,h.hn.le l,l _ _ h.q2,h.g2.le l⟩
abbrev RT (F:PH):VR:=fun r F'=>r=.bool true∧F.le F'
section
variable {F G F1:PH} {b1 b2:Nat} {n:Sl} {w2:Array Value}
theorem Gs (K:SK F G b1 b2 n w2) (h:St G F1 []) {s:Sl} (hs:RdS G s 1 (ut.map vB)):eO true true s 0 true (RT F) F1:=by
 unfold eO
 refine ⟨fun _=>⟨fun _=>⟨fun _=>⟨fun _=> ?_,fun hc=>absurd rfl hc⟩,fun hc=>(by cases hc)⟩,fun hc=>(by cases hc)⟩,fun hc=>(by cases hc)⟩
 refine ⟨_,qM (hs.le h.le),?_⟩
 refine h.run (qL _) fun _ G2 F2 hr l2 h=> ?_
 obtain ⟨s2,rfl,hs2⟩:=hr
 refine ⟨s2,rfl,qM ((hs.le l2).le h.le),_,qM (hs2.le h.le),?_,aa K.lF (aa l2 h.le)⟩
 simp
theorem Gt (K:SK F G b1 b2 n w2) (h:St G F1 []):iR b2 true true (RT F) F1:=by
 unfold iR
 refine h.firstG fun G1 F2 m s p l1 hm hs hp h=> ?_
 replace K:=K.le l1
 refine ⟨_,rfl,?_⟩
 refine h.new fun b15 F3 h=> ?_
 refine h.put0 (w':=aR.arr Sl.nil m Sl.nil s p Sl.nil Sl.nil) rfl rfl (by simp [ai,Sl.v]) fun F4 h=> ?_
 refine h.newG fun b150 G2 F5 l2 q150 _ h=> ?_
 replace K:=K.le l2
 refine h.set0 (w':=Gr.arr {aR with conds:=[⟨#[65]⟩,⟨#[66]⟩]} (Sl.mk (some (Addr.mk b150 0 none)) 2 2) m Sl.nil s p Sl.nil Sl.nil) (by show 0<9;decide) rfl fun F6 h=> ?_
 refine h.newG fun b152 G3 F7 l3 q152 _ h=> ?_
 replace K:=K.le l3
 have hr:RdS G3 (Sl.mk (some (Addr.mk b152 0 none)) 1 1) 1 (([14]:List Int).map (Value.int .u8)):=RdS.new q152 rfl rfl (Nat.le_refl _)
 refine h.run (P:=fun r G=>rj (dia yf) r G) ((gR (n:=2) (by decide) hr).mono fun r F' ⟨u,t,h1,⟨h2,h3⟩,h4,h5⟩=>⟨⟨u,h1,by subst h3;exact h4⟩,h5⟩) fun _ G4 F8 hr l4 h=> ?_
 obtain ⟨_,rfl,hw⟩:=hr
 obtain ⟨m',rfl,hm'⟩:=hw.out
 replace K:=K.le l4
 refine ⟨_,rfl,?_⟩
 refine h.putR0 (o:=1) (w':=qT.arr (Sl.mk (some (Addr.mk b150 0 none)) 2 2) m' Sl.nil s p Sl.nil Sl.nil) rfl (by simp [ai,Sl.v]) (by show 1+2≤9;decide) rfl fun F9 h=> ?_
 obtain ⟨G5,l5,⟨H,hA,hH⟩,h⟩:=h.pin
 have q15:=hH _ _ hA
 replace K:=K.le l5
 have l34:=aa l3 (aa l4 l5)
 have l24:=aa l2 l34
 have hg:GV G5 (qT.arr (Sl.mk (some (Addr.mk b150 0 none)) 2 2) m' Sl.nil s p Sl.nil Sl.nil) qT:=⟨_,_,_,_,_,_,_,rfl,RL.strs.2 (RdS.new (l34 _ _ q150) rfl rfl (Nat.le_refl _)),hm'.le l5,.nil _,hs.le l24,hp.le l24,.nil _,.nil _⟩
 have hz:Sz qT:=dR (by decide) (fun t ht=>(by cases ht)) (fun l hl=>(by cases hl)) rfl
 refine ⟨_,rfl,aj (h.le _ _ q15),?_⟩
 refine h.run (fK K.hT hg hz (by decide) 2) fun _ G6 F10 hr l6 h=> ?_
 obtain ⟨s6,rfl,hs6⟩:=hr
 rw [qU] at hs6 ⊢
 replace K:=K.le l6
 refine ⟨_,_,rfl,_,rfl,aj (h.le _ _ (l6 _ _ q15)),?_⟩
 refine h.run (fK K.hT (hg.le l6) hz (by decide) 3) fun _ G7 F11 hr l7 h=> ?_
 obtain ⟨s7,rfl,hs7⟩:=hr
 rw [qV] at hs7 ⊢
 replace K:=K.le l7
 refine ⟨_,_,rfl,_,K.g2.size,aj (h.le _ _ K.q2),?_⟩
 refine h.run (kU K.hT K.g2 (dR (fun s hs=>(by cases hs)) (fun t ht=>(by cases ht)) (fun l hl=>(by cases hl)) rfl) zM fun _=>⟨zK,by rw [pK];decide⟩) fun _ G8 F12 hr l8 h=> ?_
 obtain ⟨s8,rfl,hs8⟩:=hr
 rw [kq,if_pos rfl,pK] at hs8
 rw [kq]
 replace K:=K.le l8
 have l78:=aa l7 l8
 have e6:=hs6.len
 have e7:=hs7.len
 simp at e6 e7
 obtain ⟨a6,o6,ha6,hc6⟩:=(hs6.le l78).cells (by omega)
 obtain ⟨a7,o7,ha7,hc7⟩:=(hs7.le l8).cells (by omega)
 have c0:=aq h.le (((hs6.le l78).cell ha6 (i:=0) (by decide)))
 have c1:=aq h.le (((hs6.le l78).cell ha6 (i:=1) (by decide)))
 have d2:=aq h.le (((hs7.le l8).cell ha7 (i:=2) (by decide)))
 have hj:eO true true s8 0 true (RT F) F12:=Gs K h hs8
 refine ⟨_,_,rfl,fun _=>⟨_,ha6,by decide,by omega,1,c0,fun _=>⟨_,ha6,by decide,by omega,2,c1,fun _=>⟨fun _=>⟨fun _=>⟨_,ha7,by decide,by omega,3,d2,fun _=>hj,fun hc=>absurd rfl hc⟩,fun hc=>absurd (by omega) hc⟩,fun hc=>(by cases hc)⟩,fun hc=>absurd rfl hc⟩,fun hc=>absurd rfl hc⟩,fun hc=>absurd (by omega) hc⟩
end
theorem St.pin7 {G F:PH} {a1 a2 a3 a4 a5 a6 a7:Nat} {o1 o2 o3 o4 o5 o6 o7:Obj} (h:St G F [pt a1 o1,pt a2 o2,pt a3 o3,pt a4 o4,pt a5 o5,pt a6 o6,pt a7 o7]):
  ∃G',G.le G'∧G' a1=some o1∧G' a2=some o2∧G' a3=some o3∧G' a4=some o4∧G' a5=some o5∧G' a6=some o6∧G' a7=some o7∧St G' F []:=by
 obtain ⟨G1,l1,⟨H1,p1,r1⟩,h⟩:=h.pin
 obtain ⟨G2,l2,⟨H2,p2,r2⟩,h⟩:=h.pin
 obtain ⟨G3,l3,⟨H3,p3,r3⟩,h⟩:=h.pin
 obtain ⟨G4,l4,⟨H4,p4,r4⟩,h⟩:=h.pin
 obtain ⟨G5,l5,⟨H5,p5,r5⟩,h⟩:=h.pin
 obtain ⟨G6,l6,⟨H6,p6,r6⟩,h⟩:=h.pin
 obtain ⟨G7,l7,⟨H7,p7,r7⟩,h⟩:=h.pin
 have k6:=l7
 have k5:=aa l6 k6
 have k4:=aa l5 k5
 have k3:=aa l4 k4
 have k2:=aa l3 k3
 have k1:=aa l2 k2
 exact ⟨G7,aa l1 k1,k1 _ _ (r1 _ _ p1),k2 _ _ (r2 _ _ p2),k3 _ _ (r3 _ _ p3),k4 _ _ (r4 _ _ p4),k5 _ _ (r5 _ _ p5),k6 _ _ (r6 _ _ p6),r7 _ _ p7,h⟩
theorem de {F:PH} {v:Array Value} {g:Gr} {k:Int} (hT:Tab F) (hg:GV F v g) (hz:Sz g) (e:bC g=k):ae prog 20 #[.agg v] F fun r F'=>r=vi k∧F.le F':=e▸dU hT hg hz
theorem zk {G:PH} {b:Nat} {x:Tk} {p n:Sl} {e:TypeId} (q:G b=some (.cells (x.arr p n) e)) (hp:RL G p x.pat) (hn:RL G n x.cond.1):RL G (Sl.mk (some (Addr.mk b 0 none)) 1 1) [x]:=⟨[_],.cons (fJ hp hn) .nil,RdS.new q (by rw [cJ];rfl) rfl (Nat.le_refl _)⟩
theorem Gu {G:PH} {b:Nat} {x:Nd} {e:TypeId} (q:G b=some (.cells x.arr e)):RL G (Sl.mk (some (Addr.mk b 0 none)) 1 1) [x]:=⟨[_],.cons rfl .nil,RdS.new q (by rw [cJ];rfl) rfl (Nat.le_refl _)⟩
section
variable {F G F1:PH} {b1 b2:Nat} {n:Sl} {w2:Array Value}
theorem Gv (K:SK F G b1 b2 n w2) (h:St G F1 []):gr b1 b2 true (RT F) F1:=by
 unfold gr
 refine h.firstG fun G1 F2 m1 s1 p1 l1 hm1 hs1 hp1 h=> ?_
 refine ⟨_,rfl,?_⟩
 refine h.firstG fun G2 F3 m2 s2 p2 l2 hm2 hs2 hp2 h=> ?_
 refine ⟨_,rfl,?_⟩
 refine h.first fun G3 F4 bb m3 s3 l3 hm3 hs3 h=> ?_
 refine ⟨_,rfl,?_⟩
 refine h.first fun G4 F5 br m4 s4 l4 hm4 hs4 h=> ?_
 refine ⟨_,rfl,?_⟩
 refine h.firstG fun G5 F6 m5 s5 p5 l5 hm5 hs5 hp5 h=> ?_
 refine ⟨_,rfl,?_⟩
 have l45:=aa l4 l5
 have l35:=aa l3 l45
 have l25:=aa l2 l35
 replace K:=K.le (aa l1 l25)
 replace hm1:=hm1.le l25
 replace hs1:=hs1.le l25
 replace hp1:=hp1.le l25
 replace hm2:=hm2.le l35
 replace hs2:=hs2.le l35
 replace hp2:=hp2.le l35
 replace hm3:=hm3.le l45
 replace hs3:=hs3.le l45
 replace hm4:=hm4.le l5
 replace hs4:=hs4.le l5
 clear l1 l2 l3 l4 l5 l45 l35 l25
 refine h.new fun b9 F7 h=> ?_
 refine h.new fun b10 F7 h=> ?_
 refine h.new fun b11 F7 h=> ?_
 refine h.new fun b12 F7 h=> ?_
 refine h.new fun b13 F7 h=> ?_
 refine h.put4 (w':=aR.arr Sl.nil m1 Sl.nil s1 p1 Sl.nil Sl.nil) rfl rfl (by simp [ai,Sl.v]) fun F8 h=> ?_
 refine h.put3 (w':=aR.arr Sl.nil m2 Sl.nil s2 p2 Sl.nil Sl.nil) rfl rfl (by simp [ai,Sl.v]) fun F8 h=> ?_
 refine h.put2 (w':=aR.arr Sl.nil m3 Sl.nil s3 (Sl.mk (some (Addr.mk bb 0 none)) 1 1) Sl.nil Sl.nil) rfl rfl (by simp [ai,Sl.v]) fun F8 h=> ?_
 refine h.put1 (w':=aR.arr Sl.nil m4 Sl.nil s4 (Sl.mk (some (Addr.mk br 0 none)) 1 1) Sl.nil Sl.nil) rfl rfl (by simp [ai,Sl.v]) fun F8 h=> ?_
 refine h.put0 (w':=aR.arr Sl.nil m5 Sl.nil s5 p5 Sl.nil Sl.nil) rfl rfl (by simp [ai,Sl.v]) fun F8 h=> ?_
 refine ⟨_,rfl,aj (h.le _ _ K.q1),rfl,rfl,?_⟩
 refine h.newG fun b78 G6 F9 l6 q78 _ h=> ?_
 refine h.set4 (w':=Gr.arr sR Sl.nil m1 (Sl.mk (some (Addr.mk b78 0 none)) 1 1) s1 p1 Sl.nil Sl.nil) (by show 3<9;decide) rfl fun F10 h=> ?_
 refine ⟨rfl,?_⟩
 refine h.newG fun b81 G7 F9 l7 q81 _ h=> ?_
 have l67:=aa l6 l7
 refine ⟨_,rfl,aj (h.le _ _ (l67 _ _ K.q1)),rfl,rfl,?_⟩
 refine h.newG fun b84 G8 F9 l8 q84 _ h=> ?_
 have l68:=aa l67 l8
 refine h.set3 (w':=Gr.arr gq Sl.nil m2 (Sl.mk (some (Addr.mk b84 0 none)) 1 1) s2 p2 Sl.nil Sl.nil) (by show 3<9;decide) rfl fun F10 h=> ?_
 refine ⟨_,rfl,aj (h.le _ _ (l68 _ _ K.q1)),rfl,_,rfl,aj (h.le _ _ (l68 _ _ K.q1)),rfl,rfl,rfl,?_⟩
 refine h.newG fun b90 G9 F9 l9 q90 _ h=> ?_
 have l69:=aa l68 l9
 refine h.set2 (w':=Gr.arr {aR with toks:=qQ} Sl.nil m3 (Sl.mk (some (Addr.mk b90 0 none)) 2 2) s3 (Sl.mk (some (Addr.mk bb 0 none)) 1 1) Sl.nil Sl.nil) (by show 3<9;decide) rfl fun F10 h=> ?_
 refine ⟨_,h.ld2 rfl,rfl,rfl,rfl,?_⟩
 refine h.newG fun b97 G10 F9 l10 q97 _ h=> ?_
 have l610:=aa l69 l10
 refine ⟨_,rfl,by decide,by (show (0:Int)<1;decide),?_⟩
 simp only [aI]
 refine h.set6 (i:=2) (w':=Pr.arr {sS with brk:=false} (Sl.mk (some (Addr.mk b97 0 none)) 3 3) m3 Sl.nil) (by show 2<13;decide) rfl fun F11 h=> ?_
 refine ⟨_,h.ld2 rfl,_,rfl,by decide,by (show (0:Int)<1;decide),?_⟩
 simp only [aI]
 refine h.set6 (i:=5) (w':=Pr.arr sS (Sl.mk (some (Addr.mk b97 0 none)) 3 3) m3 Sl.nil) (by show 5<13;decide) rfl fun F11 h=> ?_
 refine ⟨_,h.ld2 rfl,?_⟩
 refine h.set1 (w':=Gr.arr {aR with toks:=qQ} Sl.nil m4 (Sl.mk (some (Addr.mk b90 0 none)) 2 2) s4 (Sl.mk (some (Addr.mk br 0 none)) 1 1) Sl.nil Sl.nil) (by show 3<9;decide) rfl fun F12 h=> ?_
 refine ⟨_,h.ld1 rfl,_,h.ld2 rfl,_,rfl,by decide,by (show (0:Int)<1;decide),sS.arr (Sl.mk (some (Addr.mk b97 0 none)) 3 3) m3 Sl.nil,rfl,by simp only [aI];exact h.whole6,_,rfl,by decide,by (show (0:Int)<1;decide),?_⟩
 simp only [aI]
 refine h.put5 (w':=sS.arr (Sl.mk (some (Addr.mk b97 0 none)) 3 3) m3 Sl.nil) rfl rfl (by simp [ai,Sl.v]) fun F13 h=> ?_
 refine ⟨_,h.ld1 rfl,_,rfl,by decide,by (show (0:Int)<1;decide),?_⟩
 simp only [aI]
 refine h.set5 (i:=6) (w':=Pr.arr {sS with rank:=1} (Sl.mk (some (Addr.mk b97 0 none)) 3 3) m3 Sl.nil) (by show 6<13;decide) rfl fun F14 h=> ?_
 refine h.newG fun b118 G11 F9 l11 q118 _ h=> ?_
 have l611:=aa l610 l11
 refine ⟨_,rfl,aj (h.le _ _ (l611 _ _ K.q1)),rfl,?_⟩
 refine h.newG fun b121 G12 F9 l12 q121 _ h=> ?_
 have l612:=aa l611 l12
 refine ⟨_,rfl,aj (h.le _ _ (l612 _ _ K.q1)),rfl,rfl,rfl,?_⟩
 refine h.newG fun b124 G13 F9 l13 q124 _ h=> ?_
 have l613:=aa l612 l13
 refine h.set0 (w':=Gr.arr kp Sl.nil m5 Sl.nil s5 p5 (Sl.mk (some (Addr.mk b124 0 none)) 2 2) Sl.nil) (by show 7<9;decide) rfl fun F15 h=> ?_
 obtain ⟨G14,l14,e13,e12,e11,e10,e9,er,eb,h⟩:=h.pin7
 have lE:_:=aa l613 l14
 have l1314:=l14
 have l1214:=aa l13 l14
 have l1114:=aa l12 l1214
 have l1014:=aa l11 l1114
 have l914:=aa l10 l1014
 have l814:=aa l9 l914
 have l714:=aa l8 l814
 have l614:=aa l7 l714
 replace K:=K.le lE
 have tkb:RL G14 (Sl.mk (some (Addr.mk b90 0 none)) 2 2) qQ:=⟨[_,_],.cons (fJ (p:=Sl.nil) (n:=n) (.nil _) K.hn) (.cons (fJ (p:=Sl.nil) (n:=n) (.nil _) K.hn) .nil),RdS.new (l914 _ _ q90) (by kernel_rfl) rfl (Nat.le_refl _)⟩
 have syb:RL G14 (Sl.mk (some (Addr.mk b97 0 none)) 3 3) sS.right:=⟨[_,_,_],.cons rfl (.cons rfl (.cons rfl .nil)),RdS.new (l1014 _ _ q97) (by kernel_rfl) rfl (Nat.le_refl _)⟩
 have g9:GV G14 (Gr.arr sR Sl.nil m1 (Sl.mk (some (Addr.mk b78 0 none)) 1 1) s1 p1 Sl.nil Sl.nil) sR:=⟨_,_,_,_,_,_,_,rfl,.nil _,hm1.le lE,zk (p:=Sl.nil) (l614 _ _ q78) (.nil _) K.hn,hs1.le lE,hp1.le lE,.nil _,.nil _⟩
 have g10:GV G14 (Gr.arr gq Sl.nil m2 (Sl.mk (some (Addr.mk b84 0 none)) 1 1) s2 p2 Sl.nil Sl.nil) gq:=⟨_,_,_,_,_,_,_,rfl,.nil _,hm2.le lE,zk (p:=Sl.mk (some (Addr.mk b81 0 none)) 1 1) (l814 _ _ q84) (Gu (x:=⟨1,97,122,0,0⟩) (l714 _ _ q81)) K.hn,hs2.le lE,hp2.le lE,.nil _,.nil _⟩
 have g11:GV G14 (Gr.arr {aR with toks:=qQ} Sl.nil m3 (Sl.mk (some (Addr.mk b90 0 none)) 2 2) s3 (Sl.mk (some (Addr.mk bb 0 none)) 1 1) Sl.nil Sl.nil) mS:=⟨_,_,_,_,_,_,_,rfl,.nil _,hm3.le lE,tkb,hs3.le lE,mP eb syb (hm3.le lE) (.nil _),.nil _,.nil _⟩
 have g12:GV G14 (Gr.arr {aR with toks:=qQ} Sl.nil m4 (Sl.mk (some (Addr.mk b90 0 none)) 2 2) s4 (Sl.mk (some (Addr.mk br 0 none)) 1 1) Sl.nil Sl.nil) zw:=⟨_,_,_,_,_,_,_,rfl,.nil _,hm4.le lE,tkb,hs4.le lE,mP er syb (hm3.le lE) (.nil _),.nil _,.nil _⟩
 have lvt:RL G14 (Sl.mk (some (Addr.mk b124 0 none)) 2 2) kp.lvs:=⟨[_,_],.cons (df (n:=n) (cE (l1114 _ _ q118)) K.hn) (.cons (df (n:=n) (cE (l1214 _ _ q121)) K.hn) .nil),RdS.new (l1314 _ _ q124) (by kernel_rfl) rfl (Nat.le_refl _)⟩
 have g13:GV G14 (Gr.arr kp Sl.nil m5 Sl.nil s5 p5 (Sl.mk (some (Addr.mk b124 0 none)) 2 2) Sl.nil) kp:=⟨_,_,_,_,_,_,_,rfl,.nil _,hm5.le lE,.nil _,hs5.le lE,hp5.le lE,lvt,.nil _⟩
 have z9:Sz sR:=dR (fun s hs=>(by cases hs)) (by decide) (fun l hl=>(by cases hl)) rfl
 have z10:Sz gq:=dR (fun s hs=>(by cases hs)) (by decide) (fun l hl=>(by cases hl)) rfl
 have z11:Sz mS:=dR (fun s hs=>(by cases hs)) (by decide) (fun l hl=>(by cases hl)) rfl
 have z12:Sz zw:=dR (fun s hs=>(by cases hs)) (by decide) (fun l hl=>(by cases hl)) rfl
 have z13:Sz kp:=dR (fun s hs=>(by cases hs)) (fun t ht=>(by cases ht)) (by decide) rfl
 refine ⟨_,rfl,aj (h.le _ _ e9),?_⟩
 refine h.runv (de K.hT g9 z9 zC) fun Ga Fa la h=>⟨_,rfl,fun _=>⟨_,rfl,aj (h.le _ _ (la _ _ e10)),?_⟩,fun hc=>absurd rfl hc⟩
 refine h.runv (de (K.hT.le la) (g10.le la) z10 sT) fun Gb Fb lb h=>⟨_,rfl,fun _=>⟨_,rfl,aj (h.le _ _ (lb _ _ (la _ _ e11))),?_⟩,fun hc=>absurd rfl hc⟩
 have lab:=aa la lb
 refine h.runv (de (K.hT.le lab) (g11.le lab) z11 sU) fun Gc Fc lc h=>⟨_,rfl,fun _=>⟨_,rfl,aj (h.le _ _ (lc _ _ (lab _ _ e12))),?_⟩,fun hc=>absurd rfl hc⟩
 have lac:=aa lab lc
 refine h.runv (de (K.hT.le lac) (g12.le lac) z12 zE) fun Gd Fd ld' h=>⟨_,rfl,fun _=>⟨_,rfl,aj (h.le _ _ (ld' _ _ (lac _ _ e13))),?_⟩,fun hc=>absurd rfl hc⟩
 have lad:=aa lac ld'
 refine h.runv (de (K.hT.le lad) (g13.le lad) z13 ye) fun Ge Fe le' h=>⟨_,rfl,?_⟩
 dsimp only
 rw [show decide ((53:Int)=53)=true from rfl]
 exact Gt (K.le (aa lad le')) h
theorem zl (hT:Tab F):ae prog 11 #[] F (RT F):=by
 refine MH ?_
 unfold Il
 refine (St.start F).run (km true _) fun _ G1 F1 hr l1 h=> ?_
 obtain ⟨_,rfl,hw⟩:=hr
 obtain ⟨n,rfl,hn⟩:=hw.out
 refine ⟨_,rfl,?_⟩
 refine h.var (w:= #[n.v,vi aF.2]) (by simp [ai,Sl.v]) (fun b1 G2 F2 l2 q1 h=> ?_) rfl rfl
 refine h.firstG fun G3 F3 m s p l3 hm hs hp h=> ?_
 refine ⟨_,rfl,?_⟩
 refine h.var (w:=aR.arr Sl.nil m Sl.nil s p Sl.nil Sl.nil) (by simp [ai,Sl.v]) (fun b2 G4 F4 l4 q2 h=> ?_) rfl rfl
 have l34:=aa l3 l4
 have l24:=aa l2 l34
 have K:SK F G4 b1 b2 n (aR.arr Sl.nil m Sl.nil s p Sl.nil Sl.nil):=⟨aa l1 l24,hT.le (aa l1 l24),l34 _ _ q1,hn.le l24,q2,⟨_,_,_,_,_,_,_,rfl,.nil _,hm.le l4,.nil _,hs.le l4,hp.le l4,.nil _,.nil _⟩⟩
 clear l1 l2 l3 l4 l34 l24 hm hs hp hn q1 q2
 refine h.firstG fun G1 F2 m1 s1 p1 l1 hm1 hs1 hp1 h=> ?_
 refine ⟨_,rfl,?_⟩
 refine h.first fun G2 F3 bl m2 s2 l2 hm2 hs2 h=> ?_
 refine ⟨_,rfl,?_⟩
 refine h.first fun G3 F4 bn m3 s3 l3 hm3 hs3 h=> ?_
 refine ⟨_,rfl,?_⟩
 refine h.firstG fun G4 F5 m4 s4 p4 l4 hm4 hs4 hp4 h=> ?_
 refine ⟨_,rfl,?_⟩
 refine h.firstG fun G5 F6 m5 s5 p5 l5 hm5 hs5 hp5 h=> ?_
 refine ⟨_,rfl,?_⟩
 have l45:=aa l4 l5
 have l35:=aa l3 l45
 have l25:=aa l2 l35
 replace K:=K.le (aa l1 l25)
 replace hm1:=hm1.le l25
 replace hs1:=hs1.le l25
 replace hp1:=hp1.le l25
 replace hm2:=hm2.le l35
 replace hs2:=hs2.le l35
 replace hm3:=hm3.le l45
 replace hs3:=hs3.le l45
 replace hm4:=hm4.le l5
 replace hs4:=hs4.le l5
 replace hp4:=hp4.le l5
 clear l1 l2 l3 l4 l5 l45 l35 l25
 refine h.new fun b3 F7 h=> ?_
 refine h.new fun b4 F7 h=> ?_
 refine h.new fun b5 F7 h=> ?_
 refine h.new fun b6 F7 h=> ?_
 refine h.new fun b7 F7 h=> ?_
 refine h.put4 (w':=aR.arr Sl.nil m1 Sl.nil s1 p1 Sl.nil Sl.nil) rfl rfl (by simp [ai,Sl.v]) fun F8 h=> ?_
 refine h.put3 (w':=aR.arr Sl.nil m2 Sl.nil s2 (Sl.mk (some (Addr.mk bl 0 none)) 1 1) Sl.nil Sl.nil) rfl rfl (by simp [ai,Sl.v]) fun F8 h=> ?_
 refine h.put2 (w':=aR.arr Sl.nil m3 Sl.nil s3 (Sl.mk (some (Addr.mk bn 0 none)) 1 1) Sl.nil Sl.nil) rfl rfl (by simp [ai,Sl.v]) fun F8 h=> ?_
 refine h.put1 (w':=aR.arr Sl.nil m4 Sl.nil s4 p4 Sl.nil Sl.nil) rfl rfl (by simp [ai,Sl.v]) fun F8 h=> ?_
 refine h.put0 (w':=aR.arr Sl.nil m5 Sl.nil s5 p5 Sl.nil Sl.nil) rfl rfl (by simp [ai,Sl.v]) fun F8 h=> ?_
 refine h.set4 (w':=Gr.arr qO Sl.nil m1 Sl.nil s1 p1 Sl.nil Sl.nil) (by show 6<9;decide) rfl fun F9 h=> ?_
 refine ⟨_,h.ld3 rfl,_,rfl,by decide,by (show (0:Int)<1;decide),?_⟩
 simp only [aI]
 refine h.set6 (i:=1) (w':=Pr.arr (aY ⟨#[115]⟩ (-1) []) Sl.nil m2 Sl.nil) (by show 1<13;decide) rfl fun F10 h=> ?_
 refine ⟨_,h.ld2 rfl,_,rfl,by decide,by (show (0:Int)<1;decide),?_⟩
 simp only [aI]
 refine h.set5 (i:=0) (w':=Pr.arr (aY ⟨#[]⟩ 0 []) Sl.nil m3 Sl.nil) (by show 0<13;decide) rfl fun F11 h=> ?_
 refine h.newG fun b39 G6 F12 l6 q39 _ h=> ?_
 refine h.set1 (w':=Gr.arr gX (Sl.mk (some (Addr.mk b39 0 none)) 1 1) m4 Sl.nil s4 p4 Sl.nil Sl.nil) (by show 0<9;decide) rfl fun F13 h=> ?_
 refine h.run (km false _) fun _ G7 F14 hr l7 h=> ?_
 obtain ⟨_,rfl,hw⟩:=hr
 obtain ⟨m6,rfl,hm6⟩:=hw.out
 refine ⟨_,rfl,?_⟩
 refine h.putR0 (o:=1) (w':=qP.arr Sl.nil m6 Sl.nil s5 p5 Sl.nil Sl.nil) rfl (by simp [ai,Sl.v]) (by show 1+2≤9;decide) rfl fun F15 h=> ?_
 obtain ⟨G8,l8,e7,e6,e5,e4,e3,en,el,h⟩:=h.pin7
 have l78:=aa l7 l8
 have lE:=aa l6 l78
 replace K:=K.le lE
 have g3:GV G8 (Gr.arr qO Sl.nil m1 Sl.nil s1 p1 Sl.nil Sl.nil) qO:=⟨_,_,_,_,_,_,_,rfl,.nil _,hm1.le lE,.nil _,hs1.le lE,hp1.le lE,.nil _,.nil _⟩
 have g4:GV G8 (aR.arr Sl.nil m2 Sl.nil s2 (Sl.mk (some (Addr.mk bl 0 none)) 1 1) Sl.nil Sl.nil) DY:=⟨_,_,_,_,_,_,_,rfl,.nil _,hm2.le lE,.nil _,hs2.le lE,mP el (.nil _) (hm2.le lE) (.nil _),.nil _,.nil _⟩
 have g5:GV G8 (aR.arr Sl.nil m3 Sl.nil s3 (Sl.mk (some (Addr.mk bn 0 none)) 1 1) Sl.nil Sl.nil) DZ:=⟨_,_,_,_,_,_,_,rfl,.nil _,hm3.le lE,.nil _,hs3.le lE,mP en (.nil _) (hm3.le lE) (.nil _),.nil _,.nil _⟩
 have g6:GV G8 (Gr.arr gX (Sl.mk (some (Addr.mk b39 0 none)) 1 1) m4 Sl.nil s4 p4 Sl.nil Sl.nil) gX:=⟨_,_,_,_,_,_,_,rfl,RL.strs.2 (RdS.new (l78 _ _ q39) rfl rfl (Nat.le_refl _)),hm4.le lE,.nil _,hs4.le lE,hp4.le lE,.nil _,.nil _⟩
 have g7:GV G8 (qP.arr Sl.nil m6 Sl.nil s5 p5 Sl.nil Sl.nil) qP:=⟨_,_,_,_,_,_,_,rfl,.nil _,hm6.le l8,.nil _,hs5.le lE,hp5.le lE,.nil _,.nil _⟩
 have zz:∀g:Gr,(∀s∈g.conds,s.size≤1000000000)→g.toks=[]→g.lvs=[]→g.fils=[]→Sz g:=fun g h1 h2 h3 h4=>dR h1 (fun t ht=>by rw [h2] at ht;cases ht) (fun l hl=>by rw [h3] at hl;cases hl) h4
 refine ⟨_,rfl,aj (h.le _ _ K.q2),?_⟩
 refine h.runv (de K.hT K.g2 (zz _ (fun s hs=>(by cases hs)) rfl rfl rfl) kq) fun Ga Fa la h=>⟨_,rfl,fun _=>⟨_,rfl,aj (h.le _ _ (la _ _ e3)),?_⟩,fun hc=>absurd rfl hc⟩
 refine h.runv (de (K.hT.le la) (g3.le la) (zz _ (fun s hs=>(by cases hs)) rfl rfl rfl) yc) fun Gb Fb lb h=>⟨_,rfl,fun _=>⟨_,rfl,aj (h.le _ _ (lb _ _ (la _ _ e4))),?_⟩,fun hc=>absurd rfl hc⟩
 have lab:=aa la lb
 refine h.runv (de (K.hT.le lab) (g4.le lab) (zz _ (fun s hs=>(by cases hs)) rfl rfl rfl) zA) fun Gc Fc lc h=>⟨_,rfl,fun _=>⟨_,rfl,aj (h.le _ _ (lc _ _ (lab _ _ e5))),?_⟩,fun hc=>absurd rfl hc⟩
 have lac:=aa lab lc
 refine h.runv (de (K.hT.le lac) (g5.le lac) (zz _ (fun s hs=>(by cases hs)) rfl rfl rfl) zB) fun Gd Fd ld' h=>⟨_,rfl,fun _=>⟨_,rfl,aj (h.le _ _ (ld' _ _ (lac _ _ e6))),?_⟩,fun hc=>absurd rfl hc⟩
 have lad:=aa lac ld'
 refine h.runv (de (K.hT.le lad) (g6.le lad) (zz _ (by decide) rfl rfl rfl) qS) fun Ge Fe le' h=>⟨_,rfl,fun _=>⟨_,rfl,aj (h.le _ _ (le' _ _ (lad _ _ e7))),?_⟩,fun hc=>absurd rfl hc⟩
 have lae:=aa lad le'
 refine h.runv (de (K.hT.le lae) (g7.le lae) (zz _ (fun s hs=>(by cases hs)) rfl rfl rfl) yd) fun Gf Ff lf h=>⟨_,rfl,?_⟩
 dsimp only
 rw [show decide ((54:Int)=54)=true from rfl]
 exact Gv (K.le (aa lae lf)) h
end
theorem pH {g:Gr} {q:Pr} (hq:¬dk g q):∀(l:List Pr) (k:Nat) (done:List ByteArray),(∀p∈l,dk g p∧p.name≠emp∧fQ p.cond g.conds.length∧-1≤p.rank∧p.rank≤1∧iX p)→(done++l.map Pr.name).Nodup→k<l.length→bU g done (l.set k q)=50
 |[],k,_,_,_,hk=>by simp at hk
 |p::l,0,done,_,_,_=>pJ hq _ _
 |p::l,k+1,done,h,hn,hk=>by
  obtain ⟨h1,h2,h3,h4,h5,h6⟩:=h p (by simp)
  have hnd:p.name ∉ done:=fun hm=>by
   rw [List.map_cons,List.nodup_append] at hn
   exact hn.2.2 _ hm _ (by simp) rfl
  rw [List.set_cons_succ]
  unfold bU
  rw [if_neg (not_not_intro h1),if_neg (not_not_intro ⟨h2,hnd,h3,h4,h5,h6⟩)]
  refine pH hq l k _ (fun q hq=>h q (by simp [hq])) ?_ (by simpa using hk)
  rw [List.append_assoc]
  exact hn
def Far (n:Int):Prop:=n<0∨2000≤n
section
variable {g:Gr} {a b:Nat} {n:Int}
theorem v8 (hb:Bd g a b) (hn:Far n) (t:Bool):¬iF g ⟨t,n⟩:=fun h=>by
 have h1:=hb.n
 have h2:=hb.t
 have h0:0≤n:=h.1
 cases t with
 |false=>
  have:n<g.nons.length:=h.2.1 rfl
  rcases hn with h|h<;>omega
 |true=>
  obtain ⟨t,ht,_⟩:=h.2.2 rfl
  have:=(List.getElem?_eq_some_iff.1 ht).1
  have:n.toNat<g.toks.length:=this
  rcases hn with h|h<;>omega
theorem sP (h:MG g) (hb:Bd g a b) (ha:a≤2000) (hb':b≤2000) {k:Nat} (hk:k<g.prods.length) {q:Pr} (h1:q.right.length≤5) (h2:q.lay.length≤2) (hq:¬dk {g with prods:=g.prods.set k q} q):bC {g with prods:=g.prods.set k q}=50:=by
 have hO:=h.ok hb ha hb'
 have hcl:=hb.c
 refine je ?_ hO.fam hO.toks hO.nons ?_ (by decide)
 ·have hl:=hO.large
  unfold bJ at hl ⊢
  rw [Bool.or_eq_false_iff] at hl ⊢
  refine ⟨?_,?_⟩
  ·simp only [List.length_set]
   exact hl.1
  ·rw [List.any_eq_false] at hl ⊢
   intro p hp
   rcases List.mem_or_eq_of_mem_set hp with hp|rfl
   ·exact hl.2 p hp
   ·rw [decide_eq_true_eq]
    omega
 ·refine pH hq _ _ _ (fun p hp=> ?_) (by rw [List.nil_append];exact h.names.1) hk
  have hI:=h.prods p hp
  exact ⟨⟨h.sym ⟨hI.left.1,fun h=>(by cases h),fun _=>hI.left.2⟩,fun s hs=>h.sym (hI.right s hs)⟩,hI.nm.1,hI.cond.fit (by omega),hI.rank.1,hI.rank.2,hI.det⟩
theorem zn (h:MG g) (hb:Bd g a b) (ha:a≤2000) (hb':b≤2000) (hn:Far n) {k:Nat} {p:Pr} (hp:g.prods[k]? =some p):bC {g with prods:=g.prods.set k {p with left:=n}}=50:=by
 have hI:=h.prods p (List.mem_of_getElem? hp)
 exact sP h hb ha hb' (List.getElem?_eq_some_iff.1 hp).1 hI.rl hI.lay fun hs=>v8 hb hn false hs.1
theorem pI (h:MG g) (hb:Bd g a b) (ha:a≤2000) (hb':b≤2000) (hn:Far n) (t:Bool) {k:Nat} {p:Pr} (hp:g.prods[k]? =some p):bC {g with prods:=g.prods.set k {p with right:=[⟨t,n⟩]}}=50:=by
 have hI:=h.prods p (List.mem_of_getElem? hp)
 exact sP h hb ha hb' (List.getElem?_eq_some_iff.1 hp).1 (by show 1≤5;decide) hI.lay fun hs=>v8 hb hn t (hs.2 _ (List.mem_singleton.2 rfl))
theorem ya (h:MG g) (hb:Bd g a b) (ha:a≤2000) (hb':b≤2000) (hn:Far n):bC {g with start:=n}=50:=by
 have hO:=h.ok hb ha hb'
 have h1:=hb.n
 refine wb hO.large hO.fam hO.toks fun hN=> ?_
 have h2:0≤n:=hN.2.1
 have h3:n<g.nons.length:=hN.2.2
 rcases hn with h|h<;>omega
theorem Ct (h:MG g) (hb:Bd g a b) (ha:a≤2000) (hb':b≤2000) (hn:Far n):bC {g with lvs:=[⟨[n],0,g.fam⟩]}=53:=by
 have hO:=h.ok hb ha hb'
 have h1:=hb.p
 refine wc ?_ hO.fam hO.toks hO.nons (jg _ _ (fun p hp=> ?_) (by rw [List.nil_append];exact h.names.1)) fun hl=> ?_
 ·have hl:=hO.large
  unfold bJ at hl ⊢
  rw [Bool.or_eq_false_iff] at hl ⊢
  refine ⟨decide_eq_false ?_,hl.2⟩
  have:=of_decide_eq_false hl.1
  simp only [List.length_singleton]
  omega
 ·have hI:=h.prods p hp
  have hcl:=hb.c
  exact ⟨⟨h.sym ⟨hI.left.1,fun h=>(by cases h),fun _=>hI.left.2⟩,fun s hs=>h.sym (hI.right s hs)⟩,hI.nm.1,hI.cond.fit (by omega),hI.rank.1,hI.rank.2,hI.det⟩
 ·have h2:=hl.1.2.2.2.1 n (List.mem_singleton.2 rfl)
  have h3:n<g.prods.length:=h2.2
  rcases hn with h|h<;>omega
theorem qN (h:MG g) (hb:Bd g a b) (ha:a≤2000) (hb':b≤2000) {y:Fi} (hy:¬bB g y):bC {g with fils:=[y]}=53:=by
 have hO:=h.ok hb ha hb'
 refine Cz ?_ hO.fam hO.toks hO.nons (jg _ _ (fun p hp=> ?_) (by rw [List.nil_append];exact h.names.1)) (di (g:=g) (by rfl) (by exact Nat.le_refl _) _ _ hO.lvs) fun hl=>hy (hl y (List.mem_singleton.2 rfl))
 ·have hl:=hO.large
  unfold bJ at hl ⊢
  rw [Bool.or_eq_false_iff] at hl ⊢
  refine ⟨decide_eq_false ?_,hl.2⟩
  have:=of_decide_eq_false hl.1
  simp only [List.length_singleton]
  omega
 ·have hI:=h.prods p hp
  have hcl:=hb.c
  exact ⟨⟨h.sym ⟨hI.left.1,fun h=>(by cases h),fun _=>hI.left.2⟩,fun s hs=>h.sym (hI.right s hs)⟩,hI.nm.1,hI.cond.fit (by omega),hI.rank.1,hI.rank.2,hI.det⟩
theorem zo (hb:Bd g a b) (ha:a≤2000) (hn:Far n):¬bB g ⟨1,n,0,0,0,0,[],g.fam⟩:=fun h=>by
 have h1:=hb.p
 rcases h.2 with ⟨_,⟨h0,_,_,p,q,hp,_⟩,_⟩|⟨k,_⟩|⟨k,_⟩
 ·have h0:0≤n:=h0
  have:=(List.getElem?_eq_some_iff.1 hp).1
  have:n.toNat<g.prods.length:=this
  rcases hn with h|h<;>omega
 ·rcases k with k|k<;>cases k
 ·cases k
theorem zp (hb:Bd g a b) (hn:Far n):¬bB g ⟨3,0,0,0,n,0,[0],g.fam⟩:=fun h=>by
 have h1:=hb.n
 rcases h.2 with ⟨k,_⟩|⟨_,⟨h0,h2,_⟩,_⟩|⟨k,_⟩
 ·rcases k with k|k<;>cases k
 ·have h0:0≤n:=h0
  have h2:n<g.nons.length:=h2
  rcases hn with h|h<;>omega
 ·cases k
theorem zq (hb:Bd g a b) (hn:Far n):¬bB g ⟨5,0,0,0,0,n,[5],g.fam⟩:=fun h=>by
 have h1:=hb.t
 rcases h.2 with ⟨k,_⟩|⟨k,_⟩|⟨_,⟨_,h0,t,ht,_⟩,_⟩
 ·rcases k with k|k<;>cases k
 ·rcases k with k|k<;>cases k
 ·have h0:0≤n:=h0
  have:=(List.getElem?_eq_some_iff.1 ht).1
  have:n.toNat<g.toks.length:=this
  rcases hn with h|h<;>omega
end
section
variable {F G F1:PH} {b8:Nat} {w:Array Value} {g:Gr} {want:Int}
theorem zr (hF:F.le G) (hT:Tab G) (hg:GV G w g) (hz:Sz g) (hm:Sm g) (hc:g.conds.length≤30) (he:bC g=want) (h0:want≠0) (st:St G F1 [pt b8 (.cells w 39)]):
  gg true b8 want (RT F) F1:=by
 obtain ⟨G1,l1,⟨H,hA,hH⟩,h⟩:=st.pin
 have q8:=hH _ _ hA
 replace hT:=hT.le l1
 replace hg:=hg.le l1
 replace hF:=aa hF l1
 unfold gg
 refine ⟨_,hg.size,aj (h.le _ _ q8),?_⟩
 refine h.run (Ao hT hg hz hm (by decide) (by decide)) fun _ G2 F2 hr l2 h=> ?_
 obtain ⟨v2,rfl,hv2⟩:=hr
 have e1:po g 0=want:=by unfold po;rw [if_pos (by rw [he];exact h0),he]
 rw [e1]
 refine ⟨_,_,rfl,?_⟩
 refine h.var hv2.st (fun b11 G3 F3 l3 q11 h=> ?_) rfl hv2.size
 have l23:=aa l2 l3
 refine ⟨_,hg.size,aj (h.le _ _ (l23 _ _ q8)),?_⟩
 refine h.run (kU (hT.le l23) (hg.le l23) hz hm fun hc=>absurd (he.symm.trans hc) h0) fun _ G4 F4 hr l4 h=> ?_
 obtain ⟨s4,rfl,hs4⟩:=hr
 have l24:=aa l23 l4
 rw [he]
 refine ⟨_,_,rfl,_,hg.size,aj (h.le _ _ (l24 _ _ q8)),?_⟩
 refine h.run (fK (hT.le l24) (hg.le l24) hz hc 5) fun _ G5 F5 hr l5 h=> ?_
 obtain ⟨s5,rfl,hs5⟩:=hr
 have l25:=aa l24 l5
 have e2:gh g 5=([],false):=by unfold gh;rw [if_pos (.inl (by rw [he];exact h0))]
 rw [e2] at hs5 ⊢
 have e5:=hs5.len
 simp at e5
 refine ⟨_,_,rfl,_,hg.size,aj (h.le _ _ (l25 _ _ q8)),?_⟩
 refine h.runv (de (hT.le l25) (hg.le l25) hz he) fun G6 F6 l6 h=> ?_
 have l26:=aa l25 l6
 refine ⟨_,rfl,fun _=>⟨fun _=>⟨fun _=>⟨fun _=>⟨fun _=>⟨_,hg.size,aj (h.le _ _ (l26 _ _ q8)),?_⟩,fun hc=>(by cases hc)⟩,fun hc=>absurd (by omega) hc⟩,fun hc=>absurd rfl hc⟩,fun hc=>absurd rfl hc⟩,fun hc=>absurd rfl hc⟩
 refine h.runv (An (hT.le l26) (hg.le l26) hz (by decide) (by decide)) fun G7 F7 l7 h=> ?_
 have e3:inG g 0=false:=by unfold inG;rw [he,decide_eq_false h0];rfl
 rw [e3]
 exact ⟨_,rfl,fun _=>⟨rfl,aa hF (aa l26 (aa l7 h.le))⟩,fun hc=>(by cases hc)⟩
end
end Go.Proofs.YtenpmjhnhepfdaaGreatDoor
