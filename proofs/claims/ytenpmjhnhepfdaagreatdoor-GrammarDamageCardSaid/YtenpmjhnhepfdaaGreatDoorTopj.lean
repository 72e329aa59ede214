/-
  Arguments of the laws of grammars, opened: descriptions of grammars.
-/
import Derived.Test.YtenpmjhnhepfdaaGreatDoorJa
import Derived.Test.YtenpmjhnhepfdaaGreatDoorHa
namespace Go.Proofs.YtenpmjhnhepfdaaGreatDoor
open Go Go.Proofs.Tryz Tr
set_option maxRecDepth 10000
section
variable {F G F1:PH} {b8:Nat} {g:Gr} {c n t s s1 l f:Sl} {vs:List (Array Value)} {by':Int} {how:Nat}
structure DK (F G:PH) (g:Gr) (c n t s l f:Sl) (vs:List (Array Value)):Prop where
 lF:F.le G
 hT:Tab G
 gs:GS G {g with prods:=[]} c n t s Sl.nil l f
 r:cw G g.prods vs
 mg:MG g
 bd:Bd g 18 10
theorem DK.le {G':PH} (h:DK F G g c n t s l f vs) (hl:G.le G'):DK F G' g c n t s l f vs:=⟨aa h.lF hl,h.hT.le hl,h.gs.le hl,h.r.le hl,h.mg,h.bd⟩
theorem vW {g':Gr} (h:Sz g) (h1:g'.conds=g.conds) (h2:g'.toks=g.toks) (h3:∀l∈g'.lvs,l.ps.length≤1000000000) (h4:∀f∈g'.fils,f.toks.length≤1000000000):Sz g':=⟨by rw [h1];exact h.c,by rw [h2];exact h.t,h3,h4⟩
theorem vX {g':Gr} (h:Sm g) (h1:g'.conds=g.conds) (h2:g'.fam=g.fam) (h3:g'.toks=g.toks) (h4:g'.nons=g.nons) (h5:g'.prods.length≤1000000000) (h6:g'.lvs.length≤1000000000) (h7:g'.fils.length≤1000000000)
  (h8:∀x∈g'.prods,x.right.length≤1000000000∧x.cond.1.length≤1000000000∧x.lay.length≤1000000000) (h9:∀x∈g'.lvs,x.ps.length≤1000000000∧x.cond.1.length≤1000000000) (h10:∀x∈g'.fils,x.toks.length≤1000000000∧x.cond.1.length≤1000000000):Sm g':=
 ⟨by rw [h1];exact h.c,by rw [h2];exact h.n,by rw [h3];exact h.t,by rw [h4];exact h.s,h5,h6,h7,by rw [h3];exact h.ti,h8,h9,h10⟩
theorem DK.sz (h:DK F G g c n t s l f vs):Sz g:=h.mg.sz h.bd
theorem DK.sm (h:DK F G g c n t s l f vs):Sm g:=h.mg.sm h.bd (by decide) (by decide)
theorem kj (K:DK F G g c n t s l f vs) {k:Nat} {p q:Pr} (hp:g.prods[k]? =some p) (h1:q.right.length≤5) (h2:q.cond=p.cond) (h3:q.lay=p.lay) (he:bC {g with prods:=g.prods.set k q}=50) {vs':List (Array Value)} (hr:cw G (g.prods.set k q) vs')
  (st:St G F1 [own s1 67 13 (cat vs'),pt b8 (.cells (g.arr c n t s s1 l f) 39)]):gg true b8 50 (RT F) F1:=by
 obtain ⟨G',l',⟨H,hA,hH⟩,st⟩:=st.pin
 have hps:RL G' s1 (g.prods.set k q):=⟨vs',hr.le l',(bI.rd hA).le hH⟩
 replace K:=K.le l'
 have hsm:=K.sm
 refine zr (g:={g with prods:=g.prods.set k q}) (w:=g.arr c n t s s1 l f) K.lF K.hT ⟨c,n,t,s,s1,l,f,rfl,K.gs.c,K.gs.n,K.gs.t,K.gs.s,hps,K.gs.l,K.gs.f⟩ (vW K.sz rfl rfl K.sz.l K.sz.f) (vX hsm rfl rfl rfl rfl (by rw [List.length_set];exact hsm.p) hsm.l hsm.f (fun x hx=> ?_) hsm.li hsm.fi) (by have:=K.bd.c;show g.conds.length≤30;omega) he (by decide) st
 rcases List.mem_or_eq_of_mem_set hx with hx|rfl
 ·exact hsm.pi x hx
 ·have:=hsm.pi p (List.mem_of_getElem? hp)
  exact ⟨by omega,by rw [h2];exact this.2.1,by rw [h3];exact this.2.2⟩
theorem fb (K:DK F G g c n t s l f vs) {g':Gr} {l' f':Sl} {want:Int} (e1:g'.conds=g.conds) (e2:g'.fam=g.fam) (e3:g'.toks=g.toks) (e4:g'.nons=g.nons) (e5:g'.prods=g.prods) (hl:RL G l' g'.lvs) (hf:RL G f' g'.fils) (h1:∀x∈g'.lvs,x.ps.length≤1000000000∧x.cond.1.length≤1000000000) (h2:∀x∈g'.fils,x.toks.length≤1000000000∧x.cond.1.length≤1000000000) (h3:g'.lvs.length≤1000000000) (h4:g'.fils.length≤1000000000) (he:bC g'=want) (h0:want≠0)
  (st:St G F1 [own s1 67 13 (cat vs),pt b8 (.cells (g'.arr c n t s s1 l' f') 39)]):gg true b8 want (RT F) F1:=by
 obtain ⟨G',lG,⟨H,hA,hH⟩,st⟩:=st.pin
 have hps:RL G' s1 g.prods:=⟨vs,K.r.le lG,(bI.rd hA).le hH⟩
 replace K:=K.le lG
 have hsm:=K.sm
 exact zr (g:=g') (w:=g'.arr c n t s s1 l' f') K.lF K.hT ⟨c,n,t,s,s1,l',f',rfl,by rw [e1];exact K.gs.c,by rw [e2];exact K.gs.n,by rw [e3];exact K.gs.t,by rw [e4];exact K.gs.s,by rw [e5];exact hps,hl.le lG,hf.le lG⟩ (vW K.sz e1 e3 (fun x hx=>(h1 x hx).1) fun x hx=>(h2 x hx).1) (vX hsm e1 e2 e3 e4 (by rw [e5];exact hsm.p) h3 h4 (by rw [e5];exact hsm.pi) h1 h2) (by have:=K.bd.c;rw [e1];omega) he h0 st
theorem Gq {p:Sl} (hF:F.le G) (hT:Tab G) (hg:GS G g c n t s p l f) (mg:MG g) (bd:Bd g 18 10) (hh:how<256) (hn:Far by') (st:St G F1 [pt b8 (.cells (g.arr c n t s p l f) 39)]):
  sW (how:Int) true b8 by' (RT F) F1:=by
 obtain ⟨_,_,T⟩:=Ai
 have ep:=hg.p.len (by decide)
 have hpl:=bd.p
 have hp0:=bd.p0
 obtain ⟨vs,hr,hrd⟩:=hg.p
 have K:DK F G g c n t s l f vs:=⟨hF,hT,⟨hg.c,hg.n,hg.t,hg.s,.nil _,hg.l,hg.f⟩,hr,mg,bd⟩
 have hsm:=K.sm
 unfold sW
 refine st.new fun b28 F2 st=> ?_
 have st:=st.imp (A':=own (Sl.mk (some (Addr.mk b28 0 none)) 0 0) 67 13 []) 0 rfl fun H _ hH=>gY hH
 refine ⟨_,st.ld1 rfl,?_⟩
 refine St.app0 T st (hrd.le st.le) hr.st (by show 0+p.len≤_;omega) fun s1 F3 st hl1=> ?_
 rw [List.nil_append] at st
 have hs1:s1.len=g.prods.length:=by rw [hl1];show 0+p.len=_;omega
 refine st.set1 (w':=g.arr c n t s s1 l f) (by show 5<9;decide) rfl fun F4 st=> ?_
 have e8:Int.tmod (how:Int) 8=((how % 8:Nat):Int):=fc how 8
 have ek:Int.tmod (IntKind.i64.wrap (IntKind.u8.wrap (Int.tdiv (how:Int) (8:Int)))) (s1.len:Int)=((how / 8 % g.prods.length:Nat):Int):=by
  rw [hs1,Int.tdiv_eq_ediv_of_nonneg (by omega),show (how:Int) / 8=((how / 8:Nat):Int) by omega,tf (by omega)]
  exact wN (by omega)
 refine ⟨_,st.ld1 rfl,by omega,?_⟩
 rw [e8,ek]
 have hlt:=Nat.mod_lt (how / 8) (Nat.pos_of_ne_zero hp0)
 generalize how / 8 % g.prods.length=k at hlt
 have hp:=List.getElem?_eq_getElem hlt
 generalize g.prods[k]=q at hp
 have hI:=mg.prods q (List.mem_of_getElem? hp)
 obtain ⟨w,hw1,hw2,_⟩:=hr.get hp
 obtain ⟨rr,rn,rl,rfl,hw3,hw4,hw5⟩:=hw2
 have hz0:0<13:=by decide
 have fl:g.fam.1.length≤1000000000:=hsm.n
 have no0:(50:Int)≠0:=by decide
 have no1:(53:Int)≠0:=by decide
 refine ⟨fun _=> ?_,fun _=>⟨fun _=> ?_,fun _=>⟨fun _=> ?_,fun _=>⟨fun _=> ?_,fun _=>⟨fun _=> ?_,fun _=>⟨fun _=> ?_,fun _=>⟨fun _=> ?_,fun _=> ?_⟩⟩⟩⟩⟩⟩⟩
 ·refine st.set1 (w':=Gr.arr {g with start:=by'} c n t s s1 l f) (by show 6<9;decide) rfl fun F5 st=> ?_
  exact fb K (g':={g with start:=by'}) rfl rfl rfl rfl rfl K.gs.l K.gs.f hsm.li hsm.fi hsm.l hsm.f (ya mg bd (by decide) (by decide) hn) no0 st
 ·refine ⟨_,st.ld1 rfl,?_⟩
  refine st.el1 0 rfl hr.sz hw1 hz0 (by decide) fun F5 st=> ?_
  exact kj K hp (q:={q with left:=by'}) hI.rl rfl rfl (zn mg bd (by decide) (by decide) hn hp) (hr.set ⟨rr,rn,rl,rfl,hw3,hw4,hw5⟩) st
 ·refine ⟨_,st.ld1 rfl,rfl,?_⟩
  refine st.newG fun b68 G2 F5 l2 q68 _ st=> ?_
  refine st.el1 0 rfl hr.sz hw1 hz0 (by decide) fun F6 st=> ?_
  exact kj (K.le l2) hp (q:={q with right:=[⟨true,by'⟩]}) (by show 1≤5;decide) rfl rfl (pI mg bd (by decide) (by decide) hn true hp) ((hr.le l2).set ⟨_,rn,rl,rfl,⟨[_],.cons rfl .nil,RdS.new q68 rfl rfl (Nat.le_refl _)⟩,hw4.le l2,hw5.le l2⟩) st
 ·refine ⟨_,st.ld1 rfl,rfl,?_⟩
  refine st.newG fun b68 G2 F5 l2 q68 _ st=> ?_
  refine st.el1 0 rfl hr.sz hw1 hz0 (by decide) fun F6 st=> ?_
  exact kj (K.le l2) hp (q:={q with right:=[⟨false,by'⟩]}) (by show 1≤5;decide) rfl rfl (pI mg bd (by decide) (by decide) hn false hp) ((hr.le l2).set ⟨_,rn,rl,rfl,⟨[_],.cons rfl .nil,RdS.new q68 rfl rfl (Nat.le_refl _)⟩,hw4.le l2,hw5.le l2⟩) st
 ·refine st.newG fun b84 G2 F5 l2 q84 _ st=> ?_
  refine ⟨#[n.v,vi g.fam.2],rfl,st.row1 rfl,rfl,rfl,?_⟩
  refine st.newG fun b88 G3 F6 l3 q88 _ st=> ?_
  refine st.set1 (w':=Gr.arr {g with lvs:=[⟨[by'],0,g.fam⟩]} c n t s s1 (Sl.mk (some (Addr.mk b88 0 none)) 1 1) f) (by show 7<9;decide) rfl fun F7 st=> ?_
  replace K:=K.le (aa l2 l3)
  exact fb K (g':={g with lvs:=[⟨[by'],0,g.fam⟩]}) rfl rfl rfl rfl rfl ⟨[_],.cons (df (cE (l3 _ _ q84)) K.gs.n) .nil,RdS.new q88 (by kernel_rfl) rfl (Nat.le_refl _)⟩ K.gs.f (fun x hx=>by rw [List.mem_singleton.1 hx];exact ⟨by show 1≤_;decide,fl⟩) hsm.fi (by show 1≤_;decide) hsm.f (Ct mg bd (by decide) (by decide) hn) no1 st
 ·refine ⟨#[n.v,vi g.fam.2],rfl,st.row1 rfl,rfl,rfl,?_⟩
  refine st.newG fun b96 G3 F6 l3 q96 _ st=> ?_
  refine st.set1 (w':=Gr.arr {g with fils:=[⟨1,by',0,0,0,0,[],g.fam⟩]} c n t s s1 l (Sl.mk (some (Addr.mk b96 0 none)) 1 1)) (by show 8<9;decide) rfl fun F7 st=> ?_
  replace K:=K.le l3
  exact fb K (g':={g with fils:=[⟨1,by',0,0,0,0,[],g.fam⟩]}) rfl rfl rfl rfl rfl K.gs.l ⟨[_],.cons (fI (t:=Sl.nil) (.nil _) K.gs.n) .nil,RdS.new q96 (by kernel_rfl) rfl (Nat.le_refl _)⟩ hsm.li (fun x hx=>by rw [List.mem_singleton.1 hx];exact ⟨by show 0≤_;decide,fl⟩) hsm.l (by show 1≤_;decide) (qN mg bd (by decide) (by decide) (zo bd (by decide) hn)) no1 st
 ·refine st.newG fun b101 G2 F5 l2 q101 _ st=> ?_
  refine ⟨#[n.v,vi g.fam.2],rfl,st.row1 rfl,rfl,rfl,?_⟩
  refine st.newG fun b105 G3 F6 l3 q105 _ st=> ?_
  refine st.set1 (w':=Gr.arr {g with fils:=[⟨3,0,0,0,by',0,[0],g.fam⟩]} c n t s s1 l (Sl.mk (some (Addr.mk b105 0 none)) 1 1)) (by show 8<9;decide) rfl fun F7 st=> ?_
  replace K:=K.le (aa l2 l3)
  exact fb K (g':={g with fils:=[⟨3,0,0,0,by',0,[0],g.fam⟩]}) rfl rfl rfl rfl rfl K.gs.l ⟨[_],.cons (fI (cE (l3 _ _ q101)) K.gs.n) .nil,RdS.new q105 (by kernel_rfl) rfl (Nat.le_refl _)⟩ hsm.li (fun x hx=>by rw [List.mem_singleton.1 hx];exact ⟨by show 1≤_;decide,fl⟩) hsm.l (by show 1≤_;decide) (qN mg bd (by decide) (by decide) (zp bd hn)) no1 st
 ·refine st.newG fun b43 G2 F5 l2 q43 _ st=> ?_
  refine ⟨#[n.v,vi g.fam.2],rfl,st.row1 rfl,rfl,rfl,?_⟩
  refine st.newG fun b47 G3 F6 l3 q47 _ st=> ?_
  refine st.set1 (w':=Gr.arr {g with fils:=[⟨5,0,0,0,0,by',[5],g.fam⟩]} c n t s s1 l (Sl.mk (some (Addr.mk b47 0 none)) 1 1)) (by show 8<9;decide) rfl fun F7 st=> ?_
  replace K:=K.le (aa l2 l3)
  exact fb K (g':={g with fils:=[⟨5,0,0,0,0,by',[5],g.fam⟩]}) rfl rfl rfl rfl rfl K.gs.l ⟨[_],.cons (fI (cE (l3 _ _ q43)) K.gs.n) .nil,RdS.new q47 (by kernel_rfl) rfl (Nat.le_refl _)⟩ hsm.li (fun x hx=>by rw [List.mem_singleton.1 hx];exact ⟨by show 1≤_;decide,fl⟩) hsm.l (by show 1≤_;decide) (qN mg bd (by decide) (by decide) (zq bd hn)) no1 st
end
theorem sL {F:PH} {v:Array Value} {x:Rw} {how:Nat} {n:Int} (hT:Tab F) (hx:yi F v x) (hh:how<256):ae prog 7 #[.agg v,.int .u8 (how:Int),vi n] F (RT F):=by
 refine cQ7 ?_
 unfold bQ7
 refine (St.start F).newG fun b3 G1 F1 l1 q3 _ h=> ?_
 refine h.runv (zl (hT.le l1)) fun G2 F2 l2 h=> ?_
 have l12:=aa l1 l2
 have hv5:v.size=5:=by obtain ⟨⟨_,_,_,rfl,_⟩,_,_⟩:=hx;rfl
 refine ⟨_,rfl,v,hv5,aj (h.le _ _ (l2 _ _ q3)),?_⟩
 refine h.run (sZ (hx.le l12)) fun _ G3 F3 hr l3 h=> ?_
 obtain ⟨w,rfl,hw⟩:=hr
 have l13:=aa l12 l3
 refine ⟨_,rfl,?_⟩
 refine h.new fun b8 F4 h=> ?_
 refine h.put0 (w':=w) hw.size rfl hw.st fun F5 h=> ?_
 obtain ⟨mg,bd⟩:=Cy x
 generalize kQ x=g at*
 obtain ⟨c,m,t,s,p,l,f,rfl,hs⟩:=hw
 have j1:∀n',Far n'→sW (how:Int) true b8 n' (RT F) F5:=fun n' hn=>Gq l13 (hT.le l13) hs mg bd hh hn h
 refine ⟨fun h0=> ?_,fun h0=> ?_⟩
 ·unfold wh
  refine ⟨fun hc=> ?_,fun hc=> ?_⟩
  ·have hc:=of_decide_eq_true hc
   rw [aM (by omega) (by omega)]
   exact j1 _ (.inr (by omega))
  ·have hc:=of_decide_eq_false hc
   exact j1 _ (.inr (by omega))
 ·unfold wh
  exact ⟨fun hc=>(by cases hc),fun _=>j1 _ (.inl (by omega))⟩
end Go.Proofs.YtenpmjhnhepfdaaGreatDoor
namespace Go.Proofs.YtenpmjhnhepfdaaGreatDoor
open Go Go.ChangeShapes Go.WideShapes Go.ChangeAt Go.RowKit Go.Deep Go.Proofs.Tryz
set_option maxRecDepth 100000
section
variable {H:Type} {enc:TypeId×Value→H} {P:Program} {W:World}
theorem sM {α:Type} {cells:α→List Value} {k:Nat} (hk:∀o,(cells o).length=k):∀{os:List α} {i j:Nat},j<k→(os.flatMap cells)[i*k+j]? =(os[i]?).bind fun o=>(cells o)[j]?
 |[],i,j,_=>by simp
 |o::os,0,j,hj=>by
  rw [List.flatMap_cons,Nat.zero_mul,Nat.zero_add,List.getElem?_append_left (by rw [hk];exact hj)]
  rfl
 |o::os,i+1,j,hj=>by
  rw [List.flatMap_cons,List.getElem?_append_right (by rw [hk,Nat.succ_mul];omega),hk,show (i+1)*k+j - k=i*k+j by rw [Nat.succ_mul];omega,sM hk hj]
  rfl
theorem gp {α:Type} {cells:α→List Value} {k:Nat} (hk:∀o,(cells o).length=k):∀os:List α,(os.flatMap cells).length=os.length*k
 |[]=>by simp
 |o::os=>by rw [List.flatMap_cons,List.length_append,hk,gp hk os,List.length_cons,Nat.succ_mul,Nat.add_comm]
theorem pG {α:Type} [Inhabited α] {t e k:Nat} {cells:α→List Value} {Q:α→Prop} (ht:P.underlying t=some (.slice e)) (hk:P.cellsOf e=k) (hk0:0<k) (hlen:∀o,(cells o).length=k)
  (elem:∀{fuel:Nat} {cs:List Value} {x:DataW H×List MemPlace},DataW.trod enc P W 0 (fun _=>true) true fuel e cs=some x→(x.1.weights P e).all (·≤reachBytes)=true→∃o,cs=cells o∧Q o)
  {fuel:Nat} {c:Value} {x:DataW H×List MemPlace} (h:DataW.trod enc P W 0 (fun _=>true) true fuel t [c]=some x) (hw:(x.1.weights P t).all (·≤reachBytes)=true):
  ∃(sl:Sl) (os:List α),c=Sl.v sl∧RdS (hF W) sl k (os.flatMap cells)∧(∀o∈os,Q o)∧os.length=sl.len∧sl.len*P.bytesOf e≤reachBytes:=by
 rcases open_slice ht h with ⟨hcs,rfl⟩|⟨a,len,cap,m,n,D,Pl,hcs,_,hl,hm,hmm,rfl,hx⟩
 ·cases hcs
  exact ⟨Sl.nil,[],rfl,RdS.nil _ _,by simp,rfl,by simp [Sl.nil]⟩
 ·cases hcs
  simp only [if_true] at hmm
  subst hmm
  rw [hk] at hx
  have hwD:∀i,i<len→((D i).weights P e).all (·≤reachBytes)=true:=fun i hi=>by
   rw [List.all_eq_true] at hw ⊢
   intro y hy
   refine hw y ?_
   simp only [DataW.weights,ht]
   refine List.mem_cons_of_mem _ (List.mem_append_left _ ?_)
   have gen:∀(l:List (DataW H)) (d:DataW H),d∈l→∀y∈d.weights P e,y∈DataW.weightsAll P e l:=by
    intro l
    induction l with
    |nil=>intro d hd;cases hd
    |cons a l ih=>
     intro d hd y hy
     simp only [DataW.weightsAll,List.mem_append]
     rcases List.mem_cons.1 hd with rfl|hd
     ·exact .inl hy
     ·exact .inr (ih d hd y hy)
   exact gen _ (D i) (List.mem_map.2 ⟨i,List.mem_range.2 hi,rfl⟩) y hy
  have hb:m*P.bytesOf e≤reachBytes:=by
   simp only [DataW.weights,ht,List.all_cons,Bool.and_eq_true,decide_eq_true_eq,List.length_map,List.length_range] at hw
   rw [show len+(m - len)=m by omega] at hw
   exact hw.1
  have ho:∀i,i<len→∃o:α,W.cells? 0 (a.add (i*k)) k=some (cells o)∧Q o:=fun i hi=>by
   obtain ⟨cs,h1,h2⟩:=hx i (by omega)
   obtain ⟨o,rfl,h3⟩:=elem h2 (hwD i hi)
   exact ⟨o,h1,h3⟩
  obtain ⟨O,hO⟩:=choose_lt ho
  refine ⟨⟨some a,len,m⟩,(List.range len).map O,rfl,⟨?_,hl,fun hp=> ?_⟩,?_,by simp,Nat.le_trans (Nat.mul_le_mul_right _ hl) hb⟩
  ·rw [gp hlen];simp
  ·simp only at hp
   have h0:=(World.cells?_some (hO 0 (by omega)).1).2.2 0 hk0
   obtain ⟨v0,hv0⟩:∃v,(cells (O 0))[0]? =some v:=⟨_,List.getElem?_eq_getElem (by rw [hlen];exact hk0)⟩
   have hs:=World.cell?_spot (v:=v0) (by rw [h0];exact hv0)
   obtain ⟨b,o,spot⟩:=a
   simp [Addr.add] at hs
   subst hs
   refine ⟨b,o,rfl,fun i hi=> ?_⟩
   rw [gp hlen,List.length_map,List.length_range] at hi
   have hik:i / k<len:=Nat.div_lt_of_lt_mul (by rw [Nat.mul_comm];exact hi)
   have hr:i % k<k:=Nat.mod_lt _ hk0
   have h1:=(World.cells?_some (hO (i / k) hik).1).2.2 (i % k) hr
   have h2:=sM hlen (os:=(List.range len).map O) (i:=i / k) (j:=i % k) hr
   have hdm:i / k*k+i % k=i:=by rw [Nat.mul_comm];exact Nat.div_add_mod i k
   rw [hdm] at h2
   rw [← List.getElem?_eq_getElem,h2]
   simp only [List.getElem?_map,List.getElem?_range hik,Option.map_some,Option.bind_some]
   rw [← h1,aI,aI,Nat.add_assoc,hdm]
   rfl
  ·intro o ho
   obtain ⟨i,hi,rfl⟩:=List.mem_map.1 ho
   exact (hO i (List.mem_range.1 hi)).2
end
section
variable {H:Type} {enc:TypeId×Value→H} {W:World}
instance:Inhabited (Ln×Sl):=⟨⟨⟨0,[],0,0⟩,Sl.nil⟩⟩
instance:Inhabited Ru:=⟨⟨0,0,0,0,0⟩⟩
theorem zh:prog.cellsOf 22=1:=by kernel_rfl
theorem vY:prog.cellsOf 110=4:=by kernel_rfl
theorem vZ:prog.cellsOf 113=5:=by kernel_rfl
theorem Cp:prog.cellsOf 26=5:=by kernel_rfl
theorem Cq:prog.cellsOf 23=1:=by kernel_rfl
theorem Cr:prog.cellsOf 24=1:=by kernel_rfl
theorem dL {z:Int} (h:(Lit.int .u8 z).wf=true):∃n:Nat,z=n∧n<256:=by
 obtain ⟨h1,h2⟩:=GU h
 exact ⟨z.toNat,by omega,by omega⟩
theorem mO {fuel:Nat} {c:Value} {x:DataW H×List MemPlace} (h:DataW.trod enc prog W 0 (fun _=>true) true fuel 22 [c]=some x) (hw:(x.1.weights prog 22).all (·≤reachBytes)=true):
  ∃(sl:Sl) (ns:List Nat),c=Sl.v sl∧RdS (hF W) sl 1 (ns.map vB)∧(∀n∈ns,n<256)∧ns.length≤9000000000000000:=by
 obtain ⟨sl,zs,rfl,hr,hz,hb,_⟩:=Az underlying22 underlying5 nG h hw
 have e:(zs.map Int.toNat).map vB=zs.map (Value.int .u8):=by
  rw [List.map_map]
  refine List.map_congr_left fun z hz'=> ?_
  obtain ⟨n,rfl,_⟩:=dL (hz z hz')
  simp only [Function.comp,Int.toNat_natCast]
 refine ⟨sl,zs.map Int.toNat,rfl,by rw [e];exact hr,fun n hn=> ?_,by rw [List.length_map];exact C0 hr hb⟩
 obtain ⟨z,hz',rfl⟩:=List.mem_map.1 hn
 obtain ⟨n,rfl,hn'⟩:=dL (hz z hz')
 rw [Int.toNat_natCast];exact hn'
theorem x8 {fuel:Nat} {cs:List Value} {x:DataW H×List MemPlace} (h:DataW.trod enc prog W 0 (fun _=>true) true fuel 110 cs=some x) (hw:(x.1.weights prog 110).all (·≤reachBytes)=true):
  ∃o:Ln×Sl,cs=[vB o.1.left,o.2.v,vB o.1.cond,vB o.1.mark]∧(RdS (hF W) o.2 1 (o.1.right.map vB)∧o.1.left<256∧o.1.cond<256∧o.1.mark<256∧∀y∈o.1.right,y<256):=by
 obtain ⟨xs,n,_,rfl,hl,hxl,hf⟩:=DataW.trod_struct underlying110 h
 rw [vY] at hl
 match cs,hl with
 |[c0,c1,c2,c3],_=>
 match xs,hxl with
 |[x0,x1,x2,x3],_=>
 have f0:=hf 0 _ rfl
 have f1:=hf 1 _ rfl
 have f2:=hf 2 _ rfl
 have f3:=hf 3 _ rfl
 simp only [nG,zh,List.drop_zero,List.drop_succ_cons,List.take_succ_cons,List.take_zero,List.getElem?_cons_zero,List.getElem?_cons_succ] at f0 f1 f2 f3
 obtain ⟨z0,e0,_,w0⟩:=DataW.trod_int underlying5 f0
 obtain ⟨z2,e2,_,w2⟩:=DataW.trod_int underlying5 f2
 obtain ⟨z3,e3,_,w3⟩:=DataW.trod_int underlying5 f3
 cases e0;cases e2;cases e3
 have hw1:(x1.1.weights prog 22).all (·≤reachBytes)=true:=by
  rw [List.all_eq_true] at hw ⊢
  intro y hy
  refine hw y ?_
  simp only [DataW.weights,underlying110]
  exact DataW.weights_mem_each (j:=1) rfl rfl y hy
 obtain ⟨sl,ns,rfl,hr,hn,_⟩:=mO f1 hw1
 obtain ⟨n0,rfl,k0⟩:=dL w0
 obtain ⟨n2,rfl,k2⟩:=dL w2
 obtain ⟨n3,rfl,k3⟩:=dL w3
 exact ⟨⟨⟨n0,ns,n2,n3⟩,sl⟩,rfl,hr,k0,k2,k3,hn⟩
theorem x9 {fuel:Nat} {cs:List Value} {x:DataW H×List MemPlace} (h:DataW.trod enc prog W 0 (fun _=>true) true fuel 113 cs=some x) (_hw:(x.1.weights prog 113).all (·≤reachBytes)=true):
  ∃o:Ru,cs=[vB o.kind,vB o.a,vB o.b,vB o.c,vB o.cond]∧(o.kind<256∧o.a<256∧o.b<256∧o.c<256∧o.cond<256):=by
 obtain ⟨xs,n,_,rfl,hl,hxl,hf⟩:=DataW.trod_struct underlying113 h
 rw [vZ] at hl
 match cs,hl with
 |[c0,c1,c2,c3,c4],_=>
 match xs,hxl with
 |[x0,x1,x2,x3,x4],_=>
 have f0:=hf 0 _ rfl
 have f1:=hf 1 _ rfl
 have f2:=hf 2 _ rfl
 have f3:=hf 3 _ rfl
 have f4:=hf 4 _ rfl
 simp only [nG,List.drop_zero,List.drop_succ_cons,List.take_succ_cons,List.take_zero,List.getElem?_cons_zero,List.getElem?_cons_succ] at f0 f1 f2 f3 f4
 obtain ⟨z0,e0,_,w0⟩:=DataW.trod_int underlying5 f0
 obtain ⟨z1,e1,_,w1⟩:=DataW.trod_int underlying5 f1
 obtain ⟨z2,e2,_,w2⟩:=DataW.trod_int underlying5 f2
 obtain ⟨z3,e3,_,w3⟩:=DataW.trod_int underlying5 f3
 obtain ⟨z4,e4,_,w4⟩:=DataW.trod_int underlying5 f4
 cases e0;cases e1;cases e2;cases e3;cases e4
 obtain ⟨n0,rfl,k0⟩:=dL w0
 obtain ⟨n1,rfl,k1⟩:=dL w1
 obtain ⟨n2,rfl,k2⟩:=dL w2
 obtain ⟨n3,rfl,k3⟩:=dL w3
 obtain ⟨n4,rfl,k4⟩:=dL w4
 exact ⟨⟨n0,n1,n2,n3,n4⟩,rfl,k0,k1,k2,k3,k4⟩
theorem qK {α β:Type} [Mem β] {F:PH} {cells:α→List Value} {f:α→β}:∀{os:List α},(∀o∈os,Mem.rep F (f o) (cells o).toArray)→cw F (os.map f) (os.map fun o=>(cells o).toArray)
 |[],_=> .nil
 |o::os,h=> .cons (h o (by simp)) (qK fun x hx=>h x (by simp [hx]))
theorem zi {α:Type} (cells:α→List Value) (os:List α):cat (os.map fun o=>(cells o).toArray)=os.flatMap cells:=by
 unfold cat
 rw [List.flatMap_map]
theorem zj {fuel:Nat} {cs:Array Value} {x:DataW H×List MemPlace} (h:DataW.trod enc prog W 0 (fun _=>true) true fuel 26 cs.toList=some x) (hw:(x.1.weights prog 26).all (·≤reachBytes)=true):
  ∃r:Rw,yi (hF W) cs r:=by
 obtain ⟨xs,n,_,rfl,hl,hxl,hf⟩:=DataW.trod_struct underlying26 h
 rw [Cp] at hl
 obtain ⟨cs⟩:=cs
 match cs,hl with
 |[c0,c1,c2,c3,c4],_=>
 match xs,hxl with
 |[x0,x1,x2,x3,x4],_=>
 have f0:=hf 0 _ rfl
 have f1:=hf 1 _ rfl
 have f2:=hf 2 _ rfl
 have f3:=hf 3 _ rfl
 have f4:=hf 4 _ rfl
 simp only [nG,zh,Cq,Cr,List.drop_zero,List.drop_succ_cons,List.take_succ_cons,List.take_zero,List.getElem?_cons_zero,List.getElem?_cons_succ] at f0 f1 f2 f3 f4
 obtain ⟨z0,e0,_,w0⟩:=DataW.trod_int underlying5 f0
 obtain ⟨z1,e1,_,w1⟩:=DataW.trod_int underlying5 f1
 cases e0;cases e1
 have hw2:(x2.1.weights prog 22).all (·≤reachBytes)=true:=by
  rw [List.all_eq_true] at hw ⊢
  intro y hy
  refine hw y ?_
  simp only [DataW.weights,underlying26]
  exact DataW.weights_mem_each (j:=2) rfl rfl y hy
 have hw3:(x3.1.weights prog 23).all (·≤reachBytes)=true:=by
  rw [List.all_eq_true] at hw ⊢
  intro y hy
  refine hw y ?_
  simp only [DataW.weights,underlying26]
  exact DataW.weights_mem_each (j:=3) rfl rfl y hy
 have hw4:(x4.1.weights prog 24).all (·≤reachBytes)=true:=by
  rw [List.all_eq_true] at hw ⊢
  intro y hy
  refine hw y ?_
  simp only [DataW.weights,underlying26]
  exact DataW.weights_mem_each (j:=4) rfl rfl y hy
 obtain ⟨sf,ns,rfl,hr2,hn2,_⟩:=mO f2 hw2
 obtain ⟨sl,ls,rfl,hr3,hq3,_,_⟩:=pG (k:=4) (cells:=fun o:Ln×Sl=>[vB o.1.left,o.2.v,vB o.1.cond,vB o.1.mark]) underlying23 vY (by decide) (fun _=>rfl) x8 f3 hw3
 obtain ⟨sr,rs,rfl,hr4,hq4,_,_⟩:=pG (k:=5) (cells:=fun o:Ru=>[vB o.kind,vB o.a,vB o.b,vB o.c,vB o.cond]) underlying24 vZ (by decide) (fun _=>rfl) x9 f4 hw4
 obtain ⟨n0,rfl,k0⟩:=dL w0
 obtain ⟨n1,rfl,k1⟩:=dL w1
 refine ⟨⟨n0,n1,ns,ls.map Prod.fst,rs⟩,⟨sf,sl,sr,rfl,hr2,⟨_,qK (f:=Prod.fst) (cells:=fun o:Ln×Sl=>[vB o.1.left,o.2.v,vB o.1.cond,vB o.1.mark]) fun o ho=> ?_,by rw [zi];exact hr3⟩,⟨_,?_,by rw [zi (fun o:Ru=>[vB o.kind,vB o.a,vB o.b,vB o.c,vB o.cond])];exact hr4⟩⟩,k0,k1⟩
 ·obtain ⟨h1,h2⟩:=hq3 o ho
  exact ⟨o.2,rfl,h1,h2⟩
 ·have:=qK (F:=hF W) (f:=fun o:Ru=>o) (cells:=fun o:Ru=>[vB o.kind,vB o.a,vB o.b,vB o.c,vB o.cond]) (os:=rs) fun o ho=>⟨rfl,hq4 o ho⟩
  rw [List.map_id'] at this
  exact this
end
end Go.Proofs.YtenpmjhnhepfdaaGreatDoor
