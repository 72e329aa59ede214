/-
  sanity: the last part.
-/
import Derived.Test.YtenpmjhnhepfdaaGreatDoorIu
import Derived.Test.YtenpmjhnhepfdaaGreatDoorPhp
import Derived.Test.YtenpmjhnhepfdaaGreatDoorPhz
namespace Go.Proofs.YtenpmjhnhepfdaaGreatDoor
open Go Go.Proofs.Tryz Tr
set_option maxRecDepth 10000
theorem xa {g:Gr} (h1:cn g=false) (h2:¬eV g):cf g=54:=by
 unfold cf;rw [if_neg (by rw [h1];decide),if_pos h2]
theorem xd {g:Gr} (h1:cn g=false) (h2:eV g) (h3:¬du g.conds.length [] g.toks):cf g=51:=by
 unfold cf;rw [if_neg (by rw [h1];decide),if_neg (not_not_intro h2),if_pos h3]
theorem DM {g:Gr} (h1:cn g=false) (h2:eV g) (h3:du g.conds.length [] g.toks) (h4:¬d3 g):cf g=50:=by
 unfold cf;rw [if_neg (by rw [h1];decide),if_neg (not_not_intro h2),if_neg (not_not_intro h3),if_pos h4]
theorem nK {g:Gr} {e:Int} (h1:cn g=false) (h2:eV g) (h3:du g.conds.length [] g.toks) (h4:d3 g) (h5:bY g [] g.prods=e) (h6:e≠0):cf g=e:=by
 unfold cf;rw [if_neg (by rw [h1];decide),if_neg (not_not_intro h2),if_neg (not_not_intro h3),if_neg (not_not_intro h4),if_pos (by rw [h5];exact h6),h5]
theorem DN {g:Gr} (h1:cn g=false) (h2:eV g) (h3:du g.conds.length [] g.toks) (h4:d3 g) (h5:bY g [] g.prods=0) (h6:¬dv g [] g.lvs):cf g=53:=by
 unfold cf;rw [if_neg (by rw [h1];decide),if_neg (not_not_intro h2),if_neg (not_not_intro h3),if_neg (not_not_intro h4),if_neg (by rw [h5];decide),if_pos h6]
theorem y9 {g:Gr} {p:Pr} (h:¬dH g p) (l:List Pr) (done:List ByteArray):bY g done (p::l)=50:=by unfold bY;rw [if_pos h]
theorem tJ {g:Gr} {p:Pr} {done:List ByteArray} (h1:dH g p) (h:¬vH g done p) (l:List Pr):bY g done (p::l)=52:=by unfold bY;rw [if_neg (not_not_intro h1),if_pos h]
theorem lh {g:Gr} {p:Pr} (h1:dH g p) (h:vH g [] p):bY g [] [p]=0:=by unfold bY;rw [if_neg (not_not_intro h1),if_neg (not_not_intro h)];rfl
theorem jB (n:Nat) (hn:n≤6):gK aH n:=(aR n).fit hn
def aS:Gr:=⟨[],aH,[],[⟨#[83]⟩],[aY ⟨#[115]⟩ 0 []],0,[],[]⟩
def rF:Gr:={aS with start:=1}
def Fw:Gr:={aS with prods:=[aY ⟨#[115]⟩ (-1) []]}
def Fx:Gr:={aS with prods:=[aY ⟨#[]⟩ 0 []]}
def iv:Gr:={aS with conds:=[⟨#[116,114,117,101]⟩]}
def rG:Gr:={aS with fam:=dia (leaf false)}
def tK:Gr:={aS with toks:=[⟨⟨#[116]⟩,0,⟨#[43]⟩,[],⟨#[43]⟩,aH⟩]}
def gN:Gr:={aS with toks:=[⟨⟨#[116]⟩,0,⟨#[]⟩,[⟨1,97,122,0,0⟩],⟨#[43]⟩,aH⟩]}
def rH:List Tk:=[tkL ⟨#[40]⟩,tkL ⟨#[41]⟩]
def tL:Pr:={aY ⟨#[115]⟩ 0 [⟨true,0⟩,⟨false,0⟩,⟨true,1⟩] with brk:=true}
def nL:Gr:={aS with toks:=rH,prods:=[tL]}
def AB:Gr:={aS with toks:=rH,prods:=[{tL with rank:=1}]}
def lj:Gr:={aS with lvs:=[⟨[0],0,aH⟩,⟨[0],0,aH⟩]}
theorem rI {g:Gr} (h1:g.conds=[]) (h2:g.fam=aH):eV g:=by
 unfold eV bj
 rw [h1,h2]
 exact ⟨fun s hs=>(by cases hs),⟨.nil,by simp⟩,jB 0 (by decide),by decide⟩
theorem nN {g:Gr} (h1:g.nons=[⟨#[83]⟩]) (h2:g.start=0):d3 g:=by
 unfold d3 bj
 rw [h1,h2]
 exact ⟨by decide,by decide,by decide⟩
theorem Fy {g:Gr} {p:Pr} (h1:p.name≠emp) (h2:p.cond=aH) (hc:g.conds=[]) (h3: -1≤p.rank∧p.rank≤1) (h4:jT p):vH g [] p:=⟨h1,by simp,by rw [h2,hc];exact jB 0 (by decide),h3.1,h3.2,h4⟩
theorem AC {g:Gr} {p:Pr} (h1:g.nons=[⟨#[83]⟩]) (h2:p.left=0) (h3:p.right=[]):dH g p:=by
 unfold dH iZ
 rw [h1,h2,h3]
 exact ⟨⟨by decide,fun _=>by decide,fun h=>(by cases h)⟩,fun s hs=>(by cases hs)⟩
theorem nO {g:Gr} (h1:g.nons=[⟨#[83]⟩]) (hc:g.conds=[]) (hp:g.prods=[aY ⟨#[115]⟩ 0 []]):bY g [] g.prods=0:=by
 rw [hp]
 exact lh (AC h1 rfl rfl) (Fy (by decide) rfl hc (by decide) (by decide))
theorem AD:OkG aS:=⟨by decide,rI rfl rfl,trivial,nN rfl rfl,nO rfl rfl rfl,trivial,fun x hx=>(by cases hx)⟩
theorem ln:cf aS=0:=eZ.2 AD
theorem za:cf rF=50:=DM (by decide) (rI rfl rfl) trivial fun h=>by have:=h.2.2;revert this;decide
theorem AE:cf Fw=50:=nK (by decide) (rI rfl rfl) trivial (nN rfl rfl) (y9 (fun h=>by have:=h.1.1;revert this;decide) _ _) (by decide)
theorem AG:cf Fx=52:=nK (by decide) (rI rfl rfl) trivial (nN rfl rfl) (tJ (AC rfl rfl rfl) (fun h=>h.1 rfl) _) (by decide)
theorem rJ:cf iv=54:=xa (by decide) fun h=>(h.1 _ (List.mem_singleton.2 rfl)).2.1 rfl
theorem zc:cf rG=54:=xa (by decide) fun h=>h.2.2.2 rfl
theorem AH:cf tK=51:=xd (by decide) (rI rfl rfl) fun h=>by have:=(h.1.2.2.2.2.2.1 (by decide)).1;revert this;decide
theorem DO:GoodL [⟨1,97,122,0,0⟩]:=mF (by decide) (by decide) (by decide) (by decide)
theorem tM:cf gN=51:=xd (by decide) (rI rfl rfl) fun h=>by
 obtain ⟨-,hw⟩:=(h.1.2.2.2.2.2.2 rfl).2.1 rfl
 have e0:([⟨1,97,122,0,0⟩]:List Nd)[0]? =some ⟨1,97,122,0,0⟩:=rfl
 obtain ⟨ns,ht⟩:=gA DO
 unfold LgL at hw
 have hw:Lg (bv [⟨1,97,122,0,0⟩]).pat (bs ⟨#[43]⟩):=hw
 generalize bv [⟨1,97,122,0,0⟩]=t at ht hw
 have ht:cd [⟨1,97,122,0,0⟩] 0 t ns:=ht
 cases ht with
 |emp hx hk=>rw [e0] at hx;cases hx;cases hk
 |seq hx hk=>rw [e0] at hx;cases hx;cases hk
 |alt hx hk=>rw [e0] at hx;cases hx;cases hk
 |rep hx hk=>rw [e0] at hx;cases hx;cases hk
 | @rng _ lo hi x hx hk hlo hhi _ _=>
  rw [e0] at hx
  cases hx
  obtain ⟨b,hb,h1,h2⟩:=hw
  have hb:[43]=[b]:=hb
  have:(97:Int)=lo:=hlo
  cases hb
  omega
theorem xe {g:Gr} (hc:g.conds=[]) (ht:g.toks=rH):du g.conds.length [] g.toks:=by
 rw [ht]
 refine nQ _ _ ⟨fj (by decide) (by decide),fj (by decide) (by decide),trivial⟩ fun t ht=> ?_
 rw [hc]
 rcases List.mem_cons.1 ht with rfl|ht
 ·exact jB 0 (by decide)
 ·rw [List.mem_singleton.1 ht];exact jB 0 (by decide)
theorem xf {g:Gr} {p:Pr} (h1:g.nons=[⟨#[83]⟩]) (ht:g.toks=rH) (h2:p.left=0) (h3:p.right=[⟨true,0⟩,⟨false,0⟩,⟨true,1⟩]):dH g p:=by
 unfold dH iZ
 rw [h1,h2,h3,ht]
 refine ⟨⟨by decide,fun _=>by decide,fun h=>(by cases h)⟩,fun s hs=> ?_⟩
 rcases List.mem_cons.1 hs with rfl|hs
 ·exact ⟨by decide,fun h=>(by cases h),fun _=>⟨_,rfl,rfl⟩⟩
 rcases List.mem_cons.1 hs with rfl|hs
 ·exact ⟨by decide,fun _=>by decide,fun h=>(by cases h)⟩
 rcases List.mem_cons.1 hs with rfl|hs
 ·exact ⟨by decide,fun h=>(by cases h),fun _=>⟨_,rfl,rfl⟩⟩
 cases hs
theorem tN:cf nL=0:=eZ.2 ⟨by decide,rI rfl rfl,xe rfl rfl,nN rfl rfl,lh (xf rfl rfl rfl rfl) (Fy (by decide) rfl rfl (by decide) (by decide)),trivial,fun x hx=>(by cases hx)⟩
theorem AI:cf AB=52:=nK (by decide) (rI rfl rfl) (xe rfl rfl) (nN rfl rfl) (tJ (xf rfl rfl rfl rfl) (fun h=>by have:=(h.2.2.2.2.2.2.2.2 rfl).2.1;revert this;decide) _) (by decide)
theorem zd:cf lj=53:=DN (by decide) (rI rfl rfl) trivial (nN rfl rfl) (nO rfl rfl rfl) fun h=>h.2.1.2.2.2.2.2 0 (by decide) (by decide)
theorem vc {l:List Int} {n:Nat} (hn:n≤6) {m v k:Nat} (h:v+(m+1)=n) (c:Cf):(d5 l (m+1) v k).ev c=((c v && (d5 l m (v+1) (k+2 ^ v)).ev c) || ((d5 l m (v+1) k).ev c && (!c v))):=by
 have hv:Sx n (tv v):=Sx.tv (by omega) hn
 have h1:=jj l hn m (v+1) (k+2 ^ v) (by omega)
 have h2:=jj l hn m (v+1) k (by omega)
 have hx:=hv.ap2 (o:=ii) (Sx.leaf n true)
 have e1:(tv v).ev c=c v:=by
  show (if c v=true then (leaf true).ev c else (leaf false).ev c)=c v
  cases c v<;>rfl
 have et:d5 l (m+1) v k=ap2 oOr (ap2 ig (tv v) (d5 l m (v+1) (k+2 ^ v))) (ap2 ig (d5 l m (v+1) k) (ap2 ii (tv v) (leaf true))):=rfl
 rw [et,(fS (hv.ap2 (o:=ig) h1).1 (h2.ap2 (o:=ig) hx).1).2,(fS hv.1 h1.1).2,(fS h2.1 hx.1).2,(fS hv.1 (Sx.leaf n true).1).2,e1]
 cases c v<;>cases (d5 l m (v+1) (k+2 ^ v)).ev c<;>cases (d5 l m (v+1) k).ev c<;>rfl
noncomputable def ze:Tr:=d5 [14] 2 0 0
theorem AJ (c:Cf):ze.ev c=(c 0 || c 1):=by
 unfold ze
 rw [vc (n:=2) (by decide) rfl,vc (n:=2) (by decide) rfl,vc (n:=2) (by decide) rfl]
 have b0:oA [14] 0=false:=by decide
 have b1:oA [14] 1=true:=by decide
 have b2:oA [14] 2=true:=by decide
 have b3:oA [14] 3=true:=by decide
 show (c 0 && (c 1 && oA [14] 3 || oA [14] 1 && !c 1) || (c 1 && oA [14] 2 || oA [14] 0 && !c 1) && !c 0)=_
 rw [b0,b1,b2,b3]
 cases c 0<;>cases c 1<;>rfl
noncomputable def rK:Gr:={aS with conds:=[⟨#[65]⟩,⟨#[66]⟩],fam:=dia ze}
theorem AK:Sx 2 ze:=jj _ (by decide) 2 0 0 rfl
theorem AL:OkG rK:=by
 obtain ⟨o1,o2,_⟩:=AR (n:=2) (by decide)
 refine ⟨by decide,⟨o1,o2,AK.fit (by decide),fun e=> ?_⟩,trivial,nN rfl rfl,?_,trivial,fun x hx=>(by cases hx)⟩
 ·have:=tS e
  have h1:=AJ (fun _=>true)
  rw [this] at h1
  cases h1
 ·exact lh (AC rfl rfl rfl) ⟨by decide,by simp,jB 2 (by decide),by decide,by decide,by decide⟩
theorem tO:zR rK=[1,2,3]:=by
 unfold zR
 have e:tre rK.fam=ze:=sQ AK.1
 rw [e]
 simp only [AJ]
 decide
theorem rL:i8 rK 2=([1,2],false):=by
 unfold i8
 rw [if_neg (by rw [eZ.2 AL];decide),tO]
 rfl
theorem rM:i8 rK 3=([1,2,3],true):=by
 unfold i8
 rw [if_neg (by rw [eZ.2 AL];decide),tO]
 rfl
theorem d9 {g:Gr} (h1:∀s∈g.conds,s.size≤1000000000) (h2:∀t∈g.toks,t.smp.size≤100000) (h3:∀l∈g.lvs,l.ps.length≤1000000000) (h4:g.fils=[]):Sz g:=⟨h1,h2,h3,fun f hf=>by rw [h4] at hf;cases hf⟩
def vd:List Nat:=[0,0,1,0,1,1,83,1,1,115,0,0,0,1,0,1,0,0,0,0,0,0,0,0,0]
theorem qy:eGr aS=vd:=by decide+kernel
theorem AM:NN aS:=by
 refine ⟨⟨fun b hb=>(by cases hb),by decide⟩,fun t ht=>(by cases ht),fun p hp=> ?_,by decide,fun l hl=>(by cases hl),fun f hf=>(by cases hf)⟩
 rw [List.mem_singleton.1 hp]
 exact ⟨by decide,fun s hs=>(by cases hs),⟨fun b hb=>(by cases hb),by decide⟩,by decide,by decide,fun x hx=>(by cases hx),by decide,by decide,by decide,by decide⟩
theorem AN:Sm aS:=by
 refine ⟨by decide,by decide,by decide,by decide,by decide,by decide,by decide,fun x hx=>(by cases hx),fun x hx=> ?_,fun x hx=>(by cases hx),fun x hx=>(by cases hx)⟩
 rw [List.mem_singleton.1 hx]
 exact ⟨by decide,by decide,by decide⟩
variable {R:VR} {F:PH}
set_option maxRecDepth 10000
set_option maxHeartbeats 4000000
def tP (cut_2:Int) (b3:Nat) (v_18:Bool) (R:VR) (F:PH):Prop:=
 Lr F 5 (Am b3 0) fun v_58=>
 Ca 13 #[(.agg v_58)] F fun v_59 F=>
 ac prog 14 #[(.agg v_59)] F fun v F=>∃v_60,∃v_60_1,v=(.tuple #[(Sl.v v_60),(.int .i64 v_60_1)])∧
 (Bc (v_60_1≠0) (
  R (.bool false) F) (
  (Bc ((v_60.len:Int)=0) (
   R (.bool false) F) (
   (v_60.len:Int)≠0∧0≤(Int.tmod (IntKind.i64.wrap cut_2) (v_60.len:Int))∧0≤(Int.toNat (Int.tmod (IntKind.i64.wrap cut_2) (v_60.len:Int)))∧(Int.toNat (Int.tmod (IntKind.i64.wrap cut_2) (v_60.len:Int)))≤v_60.cap∧
   ac prog 16 #[(Sl.v (Sl.cut v_60 1 0 (Int.toNat (Int.tmod (IntKind.i64.wrap cut_2) (v_60.len:Int))) v_60.cap))] F fun v F=>∃v_78,∃v_78_1,v=(.tuple #[(.agg v_78),(.int .i64 v_78_1)])∧
   Nb F (.cells zG 39) fun b14 F=>
   aA F (Am b14 0) 9 v_78 fun F=>
   Nb F (.cells #[] 5) fun b82 F=>
   Ap 22 #[(Sl.v (Sb b82 0)),(Sl.v v_60)] F fun v_84 F=>
   Nb F (.cells #[(.int .u8 (IntKind.u8.wrap cut_2))] 5) fun b87 F=>
   Ap 22 #[(Sl.v v_84),(Sl.v (Sb b87 1))] F fun v_88 F=>
   ac prog 16 #[(Sl.v v_88)] F fun v F=>∃v_89,∃v_89_1,v=(.tuple #[(.agg v_89),(.int .i64 v_89_1)])∧
   Nb F (.cells zG 39) fun b16 F=>
   aA F (Am b16 0) 9 v_89 fun F=>
   (Bc (v_78_1=55) (
    (Bc (v_89_1=55) (
     R (.bool v_18) F) (
     R (.bool false) F))) (
    R (.bool false) F))))))
def bQ5 (x_0:Array Value) (b_1:Sl) (cut_2:Int) (R:VR) (F:PH):Prop:=
 Nb F (.cells x_0 26) fun b3 F=>
 Cbo 11 #[] F fun v_18 F=>
 (Bc ((5000:Int)<(b_1.len:Int)) (
  R (.bool v_18) F) (
  ac prog 16 #[(Sl.v b_1)] F fun v F=>∃v_25,∃v_25_1,v=(.tuple #[(.agg v_25),(.int .i64 v_25_1)])∧
  Nb F (.cells zG 39) fun b8 F=>
  aA F (Am b8 0) 9 v_25 fun F=>
  (Bc (v_25_1=0) (
   Lr F 9 (Am b8 0) fun v_31=>
   ac prog 14 #[(.agg v_31)] F fun v F=>∃v_32,∃v_32_1,v=(.tuple #[(Sl.v v_32),(.int .i64 v_32_1)])∧
   (Bc (v_32_1≠0) (
    R (.bool false) F) (
    ∃v_39,rdo prog (Conv.bytesToString (Sl.v v_32)) F (.string v_39)∧
    ∃v_41,rdo prog (Conv.bytesToString (Sl.v b_1)) F (.string v_41)∧
    (Bb ((!(v_39.toList==v_41.toList))) (
     R (.bool false) F) (
     Lr F 9 (Am b8 0) fun v_45=>
     Ci 20 #[(.agg v_45)] F fun v_46 F=>
     (Bc (v_46≠0) (
      R (.bool false) F) (
      tP cut_2 b3 v_18 R F))))))) (
   (Bc (v_25_1≠55) (
    R (.bool false) F) (
    Lr F 9 (Am b8 0) fun v_52=>
    Cbo 19 #[(.agg v_52),(.agg zG)] F fun v_54 F=>
    (Bb ((!v_54)) (
     R (.bool false) F) (
     tP cut_2 b3 v_18 R F))))))))
theorem cQ5 {x_0:Array Value} {b_1:Sl} {cut_2:Int} (h:bQ5 x_0 b_1 cut_2 R F):ac prog 5 #[(.agg x_0),(Sl.v b_1),(.int .u16 cut_2)] F R:=Rx.sxC (args:=[(.agg x_0),(Sl.v b_1),(.int .u16 cut_2)]) (.T .N (.T .N (.T .N (.T .N (.J false [] .N .N))))) (by kernel_rfl) h
def fh (codes_8 more_14:Bool) (v_167:Sl) (v_167_1:Int) (lists_22:Bool) (R:VR) (F:PH):Prop:=
 (Bb (codes_8) (
  (Bb (more_14) (
   (Bb (lists_22) (
    (Bc (v_167_1=0) (
     ∃v_216,rdo prog (Conv.bytesToString (Sl.v v_167)) F (.string v_216)∧
     Cs 36 #[] F fun v_217 F=>
     rdo prog (Conv.bytesToString (Sl.v v_167)) F (.string v_216)∧∃v_218,rdo prog (Conv.bytesToString (Sl.v v_217)) F (.string v_218)∧
     R (.bool (v_216.toList==v_218.toList)) F) (
     R (.bool false) F))) (
    R (.bool false) F))) (
   R (.bool false) F))) (
  R (.bool false) F))
def ji (b2:Nat) (codes_8 more_14:Bool) (R:VR) (F:PH):Prop:=
 Ca 34 #[] F fun v_149 F=>
 Nb F (.cells zG 39) fun b15 F=>
 aA F (Am b15 0) 9 v_149 fun F=>
 Nb F (.cells #[(.string ⟨#[65]⟩),(.string ⟨#[66]⟩)] 9) fun b150 F=>
 sto F (Am b15 0) (Sl.v (Sb b150 2)) fun F=>
 Nb F (.cells #[(.int .u8 14)] 5) fun b152 F=>
 Ca 35 #[(Sl.v (Sb b152 1)),(.int .i64 2)] F fun v_153 F=>
 aA F (Am b15 1) 2 v_153 fun F=>
 Lr F 9 (Am b15 0) fun v_156=>
 ac prog 23 #[(.agg v_156),(.int .i64 2)] F fun v F=>∃v_157,∃v_157_1,v=(.tuple #[(Sl.v v_157),(.bool v_157_1)])∧
 Lr F 9 (Am b15 0) fun v_161=>
 ac prog 23 #[(.agg v_161),(.int .i64 3)] F fun v F=>∃v_162,∃v_162_1,v=(.tuple #[(Sl.v v_162),(.bool v_162_1)])∧
 Lr F 9 (Am b2 0) fun v_166=>
 ac prog 14 #[(.agg v_166)] F fun v F=>∃v_167,∃v_167_1,v=(.tuple #[(Sl.v v_167),(.int .i64 v_167_1)])∧
 (Bc ((v_157.len:Int)=2) (
  Ix v_157 0 fun a175_=>
  Lk F .u64 (Addr.add a175_ (Int.toNat 0*1)) fun v_176=>
  (Bc (v_176=1) (
   Ix v_157 1 fun a181_=>
   Lk F .u64 (Addr.add a181_ (Int.toNat 1*1)) fun v_182=>
   (Bc (v_182=2) (
    (Bb ((!v_157_1)) (
     (Bc ((v_162.len:Int)=3) (
      Ix v_162 2 fun a196_=>
      Lk F .u64 (Addr.add a196_ (Int.toNat 2*1)) fun v_197=>
      (Bc (v_197=3) (
       fh codes_8 more_14 v_167 v_167_1 v_162_1 R F) (
       fh codes_8 more_14 v_167 v_167_1 false R F))) (
      fh codes_8 more_14 v_167 v_167_1 false R F))) (
     fh codes_8 more_14 v_167 v_167_1 false R F))) (
    fh codes_8 more_14 v_167 v_167_1 false R F))) (
   fh codes_8 more_14 v_167 v_167_1 false R F))) (
  fh codes_8 more_14 v_167 v_167_1 false R F))
def gO (b1 b2:Nat) (codes_8:Bool) (R:VR) (F:PH):Prop:=
 Ca 34 #[] F fun v_71 F=>
 Ca 34 #[] F fun v_72 F=>
 Ca 34 #[] F fun v_73 F=>
 Ca 34 #[] F fun v_74 F=>
 Ca 34 #[] F fun v_75 F=>
 Nb F (.cells zG 39) fun b9 F=>
 Nb F (.cells zG 39) fun b10 F=>
 Nb F (.cells zG 39) fun b11 F=>
 Nb F (.cells zG 39) fun b12 F=>
 Nb F (.cells zG 39) fun b13 F=>
 aA F (Am b9 0) 9 v_71 fun F=>
 aA F (Am b10 0) 9 v_72 fun F=>
 aA F (Am b11 0) 9 v_73 fun F=>
 aA F (Am b12 0) 9 v_74 fun F=>
 aA F (Am b13 0) 9 v_75 fun F=>
 Lr F 2 (Am b1 0) fun v_76=>
 v_76.size=2∧(wr (Array.setIfInBounds (Array.setIfInBounds (Array.setIfInBounds zT 0 (.string ⟨#[116]⟩)) 2 (.string ⟨#[43]⟩)) 4 (.string ⟨#[43]⟩)) 5 v_76.toList).size=7∧Nb F (.cells (wr (Array.setIfInBounds (Array.setIfInBounds (Array.setIfInBounds zT 0 (.string ⟨#[116]⟩)) 2 (.string ⟨#[43]⟩)) 4 (.string ⟨#[43]⟩)) 5 v_76.toList) 79) fun b78 F=>
 sto F (Am b9 3) (Sl.v (Sb b78 1)) fun F=>
 (#[(.int .i64 1),(.int .i64 97),(.int .i64 122),.int .i64 0,.int .i64 0]:Array Value).size=5∧Nb F (.cells (#[(.int .i64 1),(.int .i64 97),(.int .i64 122),.int .i64 0,.int .i64 0]:Array Value) 97) fun b81 F=>
 Lr F 2 (Am b1 0) fun v_82=>
 v_82.size=2∧(wr (Array.setIfInBounds (Array.setIfInBounds (Array.setIfInBounds zT 0 (.string ⟨#[116]⟩)) 3 (Sl.v (Sb b81 1))) 4 (.string ⟨#[43]⟩)) 5 v_82.toList).size=7∧Nb F (.cells (wr (Array.setIfInBounds (Array.setIfInBounds (Array.setIfInBounds zT 0 (.string ⟨#[116]⟩)) 3 (Sl.v (Sb b81 1))) 4 (.string ⟨#[43]⟩)) 5 v_82.toList) 79) fun b84 F=>
 sto F (Am b10 3) (Sl.v (Sb b84 1)) fun F=>
 Lr F 2 (Am b1 0) fun v_86=>
 v_86.size=2∧Lr F 2 (Am b1 0) fun v_88=>
 v_88.size=2∧(wr (Array.setIfInBounds (Array.setIfInBounds zT 0 (.string ⟨#[40]⟩)) 2 (.string ⟨#[40]⟩)) 5 v_86.toList).size=7∧(wr (Array.setIfInBounds (Array.setIfInBounds zT 0 (.string ⟨#[41]⟩)) 2 (.string ⟨#[41]⟩)) 5 v_88.toList).size=7∧Nb F (.cells (wr (wr (#[.string ⟨#[]⟩,.int .i64 0,.string ⟨#[]⟩,.slice none 0 0,.string ⟨#[]⟩,.slice none 0 0,.int .i64 0,.string ⟨#[]⟩,.int .i64 0,.string ⟨#[]⟩,.slice none 0 0,.string ⟨#[]⟩,.slice none 0 0,.int .i64 0]:Array Value) 0 (wr (Array.setIfInBounds (Array.setIfInBounds zT 0 (.string ⟨#[40]⟩)) 2 (.string ⟨#[40]⟩)) 5 v_86.toList).toList) 7 (wr (Array.setIfInBounds (Array.setIfInBounds zT 0 (.string ⟨#[41]⟩)) 2 (.string ⟨#[41]⟩)) 5 v_88.toList).toList) 79) fun b90 F=>
 sto F (Am b11 3) (Sl.v (Sb b90 2)) fun F=>
 Ls F (Am b11 5) fun v_93=>
 (#[(.bool true),.int .i64 0]:Array Value).size=2∧(#[.bool false,.int .i64 0]:Array Value).size=2∧(#[(.bool true),(.int .i64 1)]:Array Value).size=2∧Nb F (.cells (wr (wr (wr (#[.bool false,.int .i64 0,.bool false,.int .i64 0,.bool false,.int .i64 0]:Array Value) 0 (#[(.bool true),.int .i64 0]:Array Value).toList) 2 (#[.bool false,.int .i64 0]:Array Value).toList) 4 (#[(.bool true),(.int .i64 1)]:Array Value).toList) 69) fun b97 F=>
 Ix v_93 0 fun a98_=>
 sto F (Addr.add (Addr.add a98_ (Int.toNat 0*13)) 2) (Sl.v (Sb b97 3)) fun F=>
 Ls F (Am b11 5) fun v_101=>
 Ix v_101 0 fun a102_=>
 sto F (Addr.add (Addr.add a102_ (Int.toNat 0*13)) 5) (.bool true) fun F=>
 Ls F (Am b11 3) fun v_105=>
 sto F (Am b12 3) (Sl.v v_105) fun F=>
 Ls F (Am b12 5) fun v_108=>
 Ls F (Am b11 5) fun v_110=>
 Ix v_110 0 fun a111_=>
 Lr F 13 (Addr.add a111_ (Int.toNat 0*13)) fun v_112=>
 Ix v_108 0 fun a113_=>
 aA F (Addr.add a113_ (Int.toNat 0*13)) 13 v_112 fun F=>
 Ls F (Am b12 5) fun v_115=>
 Ix v_115 0 fun a116_=>
 sto F (Addr.add (Addr.add a116_ (Int.toNat 0*13)) 6) (.int .i64 1) fun F=>
 Nb F (.cells #[(.int .i64 0)] 3) fun b118 F=>
 Lr F 2 (Am b1 0) fun v_119=>
 v_119.size=2∧Nb F (.cells #[(.int .i64 0)] 3) fun b121 F=>
 Lr F 2 (Am b1 0) fun v_122=>
 v_122.size=2∧(wr (Array.setIfInBounds zL 0 (Sl.v (Sb b118 1))) 2 v_119.toList).size=4∧(wr (Array.setIfInBounds zL 0 (Sl.v (Sb b121 1))) 2 v_122.toList).size=4∧Nb F (.cells (wr (wr (#[.slice none 0 0,.int .i64 0,.slice none 0 0,.int .i64 0,.slice none 0 0,.int .i64 0,.slice none 0 0,.int .i64 0]:Array Value) 0 (wr (Array.setIfInBounds zL 0 (Sl.v (Sb b118 1))) 2 v_119.toList).toList) 4 (wr (Array.setIfInBounds zL 0 (Sl.v (Sb b121 1))) 2 v_122.toList).toList) 72) fun b124 F=>
 sto F (Am b13 7) (Sl.v (Sb b124 2)) fun F=>
 Lr F 9 (Am b9 0) fun v_126=>
 Ci 20 #[(.agg v_126)] F fun v_127 F=>
 (Bc (v_127=51) (
  Lr F 9 (Am b10 0) fun v_130=>
  Ci 20 #[(.agg v_130)] F fun v_131 F=>
  (Bc (v_131=51) (
   Lr F 9 (Am b11 0) fun v_135=>
   Ci 20 #[(.agg v_135)] F fun v_136 F=>
   (Bc (v_136=0) (
    Lr F 9 (Am b12 0) fun v_140=>
    Ci 20 #[(.agg v_140)] F fun v_141 F=>
    (Bc (v_141=52) (
     Lr F 9 (Am b13 0) fun v_145=>
     Ci 20 #[(.agg v_145)] F fun v_146 F=>
     ji b2 codes_8 (decide (v_146=53)) R F) (
     ji b2 codes_8 false R F))) (
    ji b2 codes_8 false R F))) (
   ji b2 codes_8 false R F))) (
  ji b2 codes_8 false R F))
def Ki (R:VR) (F:PH):Prop:=
 Ca 30 #[(.bool true)] F fun v_23 F=>
 Nb F (.cells zD 33) fun b1 F=>
 aA F (Am b1 0) 2 v_23 fun F=>
 Ca 34 #[] F fun v_24 F=>
 Nb F (.cells zG 39) fun b2 F=>
 aA F (Am b2 0) 9 v_24 fun F=>
 Ca 34 #[] F fun v_25 F=>
 Ca 34 #[] F fun v_26 F=>
 Ca 34 #[] F fun v_27 F=>
 Ca 34 #[] F fun v_28 F=>
 Ca 34 #[] F fun v_29 F=>
 Nb F (.cells zG 39) fun b3 F=>
 Nb F (.cells zG 39) fun b4 F=>
 Nb F (.cells zG 39) fun b5 F=>
 Nb F (.cells zG 39) fun b6 F=>
 Nb F (.cells zG 39) fun b7 F=>
 aA F (Am b3 0) 9 v_25 fun F=>
 aA F (Am b4 0) 9 v_26 fun F=>
 aA F (Am b5 0) 9 v_27 fun F=>
 aA F (Am b6 0) 9 v_28 fun F=>
 aA F (Am b7 0) 9 v_29 fun F=>
 sto F (Am b3 6) (.int .i64 1) fun F=>
 Ls F (Am b4 5) fun v_32=>
 Ix v_32 0 fun a33_=>
 sto F (Addr.add (Addr.add a33_ (Int.toNat 0*13)) 1) (.int .i64 (-1:Int)) fun F=>
 Ls F (Am b5 5) fun v_36=>
 Ix v_36 0 fun a37_=>
 sto F (Addr.add a37_ (Int.toNat 0*13)) (.string ⟨#[]⟩) fun F=>
 Nb F (.cells #[(.string ⟨#[116,114,117,101]⟩)] 9) fun b39 F=>
 sto F (Am b6 0) (Sl.v (Sb b39 1)) fun F=>
 Ca 30 #[(.bool false)] F fun v_41 F=>
 aA F (Am b7 1) 2 v_41 fun F=>
 Lr F 9 (Am b2 0) fun v_43=>
 Ci 20 #[(.agg v_43)] F fun v_44 F=>
 (Bc (v_44=0) (
  Lr F 9 (Am b3 0) fun v_47=>
  Ci 20 #[(.agg v_47)] F fun v_48 F=>
  (Bc (v_48=50) (
   Lr F 9 (Am b4 0) fun v_52=>
   Ci 20 #[(.agg v_52)] F fun v_53 F=>
   (Bc (v_53=50) (
    Lr F 9 (Am b5 0) fun v_57=>
    Ci 20 #[(.agg v_57)] F fun v_58 F=>
    (Bc (v_58=52) (
     Lr F 9 (Am b6 0) fun v_62=>
     Ci 20 #[(.agg v_62)] F fun v_63 F=>
     (Bc (v_63=54) (
      Lr F 9 (Am b7 0) fun v_67=>
      Ci 20 #[(.agg v_67)] F fun v_68 F=>
      gO b1 b2 (decide (v_68=54)) R F) (
      gO b1 b2 false R F))) (
     gO b1 b2 false R F))) (
    gO b1 b2 false R F))) (
   gO b1 b2 false R F))) (
  gO b1 b2 false R F))
theorem OT (h:Ki R F):ac prog 11 #[] F R:=Rx.sxC (args:=[]) (.T .N (.T .N (.T .N (.T .N (.T .N (.T .N (.T .N (.T .N (.T .N (.J false [(8,.bool)] .N (.T .N (.T .N (.T .N (.T .N (.T .N (.T .N (.T .N (.T .N (.T .N (.T .N (.J false [(14,.bool)] .N (.T .N (.T .N (.T .N (.T .N (.T .N (.T .N (.J false [(22,.bool)] .N .N)))))))))))))))))))))))))))) (by kernel_rfl) h
def Kj (R:VR) (F:PH):Prop:=
 Nb F (.cells zG 39) fun b0 F=>
 Ca 30 #[(.bool true)] F fun v_2 F=>
 Nb F (.cells zD 33) fun b1 F=>
 aA F (Am b1 0) 2 v_2 fun F=>
 Lr F 2 (Am b1 0) fun v_3=>
 Nb F (.cells #[(.string ⟨#[83]⟩)] 9) fun b4 F=>
 Lr F 2 (Am b1 0) fun v_5=>
 v_5.size=2∧(wr (Array.setIfInBounds zP 0 (.string ⟨#[115]⟩)) 3 v_5.toList).size=13∧Nb F (.cells (wr (Array.setIfInBounds zP 0 (.string ⟨#[115]⟩)) 3 v_5.toList) 67) fun b7 F=>
 v_3.size=2∧aA F (Am b0 0) 9 (Array.setIfInBounds (Array.setIfInBounds (wr zG 1 v_3.toList) 4 (Sl.v (Sb b4 1))) 5 (Sl.v (Sb b7 1))) fun F=>
 Rr 9 (Am b0 0) R F
theorem OU (h:Kj R F):ac prog 34 #[] F R:=Rx.sxC (args:=[]) .N (by kernel_rfl) h
def Kk (R:VR) (F:PH):Prop:=
 Nb F (.cells #[(.int .u8 0),(.int .u8 0),(.int .u8 1),(.int .u8 0),(.int .u8 1),(.int .u8 1),(.int .u8 83),(.int .u8 1),(.int .u8 1),(.int .u8 115),(.int .u8 0),(.int .u8 0),(.int .u8 0),(.int .u8 1),(.int .u8 0),(.int .u8 1),(.int .u8 0),(.int .u8 0),(.int .u8 0),(.int .u8 0),(.int .u8 0),(.int .u8 0),(.int .u8 0),(.int .u8 0),(.int .u8 0)] 5) fun b1 F=>
 R (Sl.v (Sb b1 25)) F
theorem OV (h:Kk R F):ac prog 36 #[] F R:=Rx.sxC (args:=[]) .N (by kernel_rfl) h
theorem lq (x:Bool) (F:PH):ac prog 30 #[.bool x] F fun r F'=>rY (dia (leaf x)) r F'∧F.le F':=
 (qs x).mono fun _ _ ⟨w,h1,h2,h3⟩=>⟨⟨w,h1,h2⟩,h3⟩
abbrev prS:Pr:=aY ⟨#[115]⟩ 0 []
section
variable {G F:PH} {As:List (PH→Prop)}
theorem St.first (h:St G F As) {Q:Value→PH→Prop} (k:∀G' F' b n s,G.le G'→RL G' n aH.1→RL G' s aS.nons→St G' F' (pt b (.cells (prS.arr Sl.nil n Sl.nil) 67)::As)→
   Q (.agg (aS.arr Sl.nil n Sl.nil s (Sl.mk (some (Addr.mk b 0 none)) 1 1) Sl.nil Sl.nil)) F'):ac prog 34 #[] F Q:=by
 refine OU ?_
 unfold Kj
 refine h.new fun b0 F1 h=> ?_
 refine h.run (lq true _) fun _ G1 F2 hr l1 h=> ?_
 obtain ⟨_,rfl,hw⟩:=hr
 obtain ⟨n,rfl,hn⟩:=hw.out
 refine ⟨_,rfl,?_⟩
 refine h.new fun b1 F3 h=> ?_
 refine h.put0 (w':= #[n.v,vi aH.2]) rfl rfl (by simp [aj,Sl.v]) fun F4 h=> ?_
 refine ⟨_,rfl,h.whole0,?_⟩
 refine h.newG fun b4 G2 F5 l2 q4 _ h=> ?_
 refine ⟨_,rfl,h.whole0,rfl,rfl,?_⟩
 refine h.new fun b7 F6 h=> ?_
 refine ⟨rfl,?_⟩
 refine h.put2 (w':=aS.arr Sl.nil n Sl.nil (Sl.mk (some (Addr.mk b4 0 none)) 1 1) (Sl.mk (some (Addr.mk b7 0 none)) 1 1) Sl.nil Sl.nil) rfl rfl (by simp [aj,Sl.v]) fun F7 h=> ?_
 refine ⟨_,rfl,h.whole2,?_⟩
 exact k G2 F7 b7 n _ (aa l1 l2) (hn.le l2) (RL.strs.2 (RdS.new q4 rfl rfl (Nat.le_refl _))) h.front1.tail.front1.tail
theorem nP {b:Nat} {p:Pr} {r n l:Sl} {e:TypeId} (q:G b=some (.cells (p.arr r n l) e)) (h1:RL G r p.right) (h2:RL G n p.cond.1) (h3:RL G l p.lay):RL G (Sl.mk (some (Addr.mk b 0 none)) 1 1) [p]:=
 ⟨[_],.cons ⟨r,n,l,rfl,h1,h2,h3⟩ .nil,RdS.new q (by rw [dU];rfl) rfl (Nat.le_refl _)⟩
theorem St.firstG (h:St G F As) {Q:Value→PH→Prop} (k:∀G' F' n s p,G.le G'→RL G' n aH.1→RL G' s aS.nons→RL G' p aS.prods→St G' F' As→
   Q (.agg (aS.arr Sl.nil n Sl.nil s p Sl.nil Sl.nil)) F'):ac prog 34 #[] F Q:=by
 refine h.first fun G1 F1 b n s l1 hn hs h=> ?_
 obtain ⟨G2,l2,⟨H,hA,hH⟩,h⟩:=h.pin
 exact k G2 F1 n s _ (aa l1 l2) (hn.le l2) (hs.le l2) (nP (hH _ _ hA) (.nil _) (hn.le l2) (.nil _)) h
end
theorem rN (F:PH):ac prog 36 #[] F fun r F'=>(∃s:Sl,r=.slice s.base s.len s.cap∧RdS F' s 1 (vd.map vB))∧F.le F':=by
 refine OV ?_
 unfold Kk
 refine (St.start F).newG fun b1 G1 F1 l1 q1 _ h=> ?_
 exact ⟨⟨_,rfl,RdS.new (h.le _ _ q1) rfl rfl (Nat.le_refl _)⟩,aa l1 h.le⟩
def DP (ns:List Nat):ByteArray:=⟨(ns.map UInt8.ofNat).toArray⟩
theorem tQ {F:PH} (P:Program):∀(ns:List Nat) (s:ByteArray),
  rdo P (forIn (ns.map vB) s fun c s=>do
   let .int .u8 n:=c|stuck "bytesToString: byte expected"
   let s:=s.push (UInt8.ofNat n.toNat)
   pure (ForInStep.yield s)) F (ns.foldl (fun s n=>s.push (UInt8.ofNat n)) s)
 |[],s=>by simp [rdo]
 |n::ns,s=>by
  simp only [List.map_cons,List.forIn_cons,ai,List.foldl_cons]
  refine ⟨.yield (s.push (UInt8.ofNat n)),?_,?_⟩
  ·simp [rdo]
  ·exact tQ P ns _
theorem tR:∀(ns:List Nat) (s:ByteArray),ns.foldl (fun s n=>s.push (UInt8.ofNat n)) s=⟨s.data++(ns.map UInt8.ofNat).toArray⟩
 |[],s=>by simp
 |n::ns,s=>by
  rw [List.foldl_cons,tR ns]
  simp [ByteArray.push]
theorem iw {F:PH} {P:Program} {s:Sl} {ns:List Nat} (h:RdS F s 1 (ns.map vB)):rdo P (Conv.bytesToString s.v) F (.string (DP ns)):=by
 obtain ⟨base,len,cap⟩:=s
 have hl:=h.len
 simp only [List.length_map,Nat.mul_one] at hl
 unfold Conv.bytesToString Sl.v
 cases base with
 |none=>
  have h0:len=0:=by
   rcases Nat.eq_zero_or_pos len with h0|h0
   ·exact h0
   ·obtain ⟨b,o,h1,_⟩:=h.cells h0
    cases h1
  subst h0
  have:ns=[]:=List.length_eq_zero_iff.1 (by omega)
  subst this
  rfl
 |some a=>
  simp only [ai]
  refine ⟨(ns.map vB).toArray,?_,?_⟩
  ·have hr:=h.row (a:=a) rfl 0 (ns.map vB).toArray (by rw [List.drop_zero,List.size_toArray,List.take_length])
   rw [show a.add 0=a from rfl] at hr
   have:=dc (P:=P) hr
   simp only [List.size_toArray,List.length_map] at this
   rw [hl] at this
   exact this
  ·refine ⟨ns.foldl (fun s n=>s.push (UInt8.ofNat n)) .empty,?_,?_⟩
   ·rw [← Array.forIn_toList]
    exact tQ P ns .empty
   ·rw [tR]
    show (Value.string _)=_
    simp [DP,ByteArray.empty,ByteArray.emptyWithCapacity]
    rfl
structure SK (F G:PH) (b1 b2:Nat) (n:Sl) (w2:Array Value):Prop where
 lF:F.le G
 hT:Tab G
 q1:G b1=some (.cells #[Sl.v n,vi aH.2] 33)
 hn:RL G n aH.1
 q2:G b2=some (.cells w2 39)
 g2:GV G w2 aS
theorem SK.le {F G G':PH} {b1 b2:Nat} {n:Sl} {w2:Array Value} (h:SK F G b1 b2 n w2) (l:G.le G'):SK F G' b1 b2 n w2:=⟨aa h.lF l,h.hT.le l,l _ _ h.q1,h.hn.le l,l _ _ h.q2,h.g2.le l⟩
abbrev RT (F:PH):VR:=fun r F'=>r=.bool true∧F.le F'
section
variable {F G F1:PH} {b1 b2:Nat} {n:Sl} {w2:Array Value}
theorem Ig (K:SK F G b1 b2 n w2) (h:St G F1 []) {s:Sl} (hs:RdS G s 1 (vd.map vB)):fh true true s 0 true (RT F) F1:=by
 unfold fh
 refine ⟨fun _=>⟨fun _=>⟨fun _=>⟨fun _=> ?_,fun hc=>absurd rfl hc⟩,fun hc=>(by cases hc)⟩,fun hc=>(by cases hc)⟩,fun hc=>(by cases hc)⟩
 refine ⟨_,iw (hs.le h.le),?_⟩
 refine h.run (rN _) fun _ G2 F2 hr l2 h=> ?_
 obtain ⟨s2,rfl,hs2⟩:=hr
 refine ⟨s2,rfl,iw ((hs.le l2).le h.le),_,iw (hs2.le h.le),?_,aa K.lF (aa l2 h.le)⟩
 simp
theorem Ih (K:SK F G b1 b2 n w2) (h:St G F1 []):ji b2 true true (RT F) F1:=by
 unfold ji
 refine h.firstG fun G1 F2 m s p l1 hm hs hp h=> ?_
 replace K:=K.le l1
 refine ⟨_,rfl,?_⟩
 refine h.new fun b15 F3 h=> ?_
 refine h.put0 (w':=aS.arr Sl.nil m Sl.nil s p Sl.nil Sl.nil) rfl rfl (by simp [aj,Sl.v]) fun F4 h=> ?_
 refine h.newG fun b150 G2 F5 l2 q150 _ h=> ?_
 replace K:=K.le l2
 refine h.set0 (w':=Gr.arr {aS with conds:=[⟨#[65]⟩,⟨#[66]⟩]} (Sl.mk (some (Addr.mk b150 0 none)) 2 2) m Sl.nil s p Sl.nil Sl.nil) (by show 0<9;decide) rfl fun F6 h=> ?_
 refine h.newG fun b152 G3 F7 l3 q152 _ h=> ?_
 replace K:=K.le l3
 have hr:RdS G3 (Sl.mk (some (Addr.mk b152 0 none)) 1 1) 1 (([14]:List Int).map (Value.int .u8)):=RdS.new q152 rfl rfl (Nat.le_refl _)
 refine h.run (P:=fun r G=>rY (dia ze) r G) ((gW (n:=2) (by decide) hr).mono fun r F' ⟨u,t,h1,⟨h2,h3⟩,h4,h5⟩=>⟨⟨u,h1,by subst h3;exact h4⟩,h5⟩) fun _ G4 F8 hr l4 h=> ?_
 obtain ⟨_,rfl,hw⟩:=hr
 obtain ⟨m',rfl,hm'⟩:=hw.out
 replace K:=K.le l4
 refine ⟨_,rfl,?_⟩
 refine h.putR0 (o:=1) (w':=rK.arr (Sl.mk (some (Addr.mk b150 0 none)) 2 2) m' Sl.nil s p Sl.nil Sl.nil) rfl (by simp [aj,Sl.v]) (by show 1+2≤9;decide) rfl fun F9 h=> ?_
 obtain ⟨G5,l5,⟨H,hA,hH⟩,h⟩:=h.pin
 have q15:=hH _ _ hA
 replace K:=K.le l5
 have l34:=aa l3 (aa l4 l5)
 have l24:=aa l2 l34
 have hg:GV G5 (rK.arr (Sl.mk (some (Addr.mk b150 0 none)) 2 2) m' Sl.nil s p Sl.nil Sl.nil) rK:=⟨_,_,_,_,_,_,_,rfl,RL.strs.2 (RdS.new (l34 _ _ q150) rfl rfl (Nat.le_refl _)),hm'.le l5,.nil _,hs.le l24,hp.le l24,.nil _,.nil _⟩
 have hz:Sz rK:=d9 (by decide) (fun t ht=>(by cases ht)) (fun l hl=>(by cases hl)) rfl
 refine ⟨_,rfl,ak (h.le _ _ q15),?_⟩
 refine h.run (jO K.hT hg hz (by decide) 2) fun _ G6 F10 hr l6 h=> ?_
 obtain ⟨s6,rfl,hs6⟩:=hr
 rw [rL] at hs6 ⊢
 replace K:=K.le l6
 refine ⟨_,_,rfl,_,rfl,ak (h.le _ _ (l6 _ _ q15)),?_⟩
 refine h.run (jO K.hT (hg.le l6) hz (by decide) 3) fun _ G7 F11 hr l7 h=> ?_
 obtain ⟨s7,rfl,hs7⟩:=hr
 rw [rM] at hs7 ⊢
 replace K:=K.le l7
 refine ⟨_,_,rfl,_,K.g2.size,ak (h.le _ _ K.q2),?_⟩
 refine h.run (lZ K.hT K.g2 (d9 (fun s hs=>(by cases hs)) (fun t ht=>(by cases ht)) (fun l hl=>(by cases hl)) rfl) AN fun _=>⟨AM,by rw [qy];decide⟩) fun _ G8 F12 hr l8 h=> ?_
 obtain ⟨s8,rfl,hs8⟩:=hr
 rw [ln,if_pos rfl,qy] at hs8
 rw [ln]
 replace K:=K.le l8
 have l78:=aa l7 l8
 have e6:=hs6.len
 have e7:=hs7.len
 simp at e6 e7
 obtain ⟨a6,o6,ha6,hc6⟩:=(hs6.le l78).cells (by omega)
 obtain ⟨a7,o7,ha7,hc7⟩:=(hs7.le l8).cells (by omega)
 have c0:=aq h.le (((hs6.le l78).cell ha6 (i:=0) (by decide)))
 have c1:=aq h.le (((hs6.le l78).cell ha6 (i:=1) (by decide)))
 have d2:=aq h.le (((hs7.le l8).cell ha7 (i:=2) (by decide)))
 have hj:fh true true s8 0 true (RT F) F12:=Ig K h hs8
 refine ⟨_,_,rfl,fun _=>⟨_,ha6,by decide,by omega,1,c0,fun _=>⟨_,ha6,by decide,by omega,2,c1,fun _=>⟨fun _=>⟨fun _=>⟨_,ha7,by decide,by omega,3,d2,fun _=>hj,fun hc=>absurd rfl hc⟩,fun hc=>absurd (by omega) hc⟩,fun hc=>(by cases hc)⟩,fun hc=>absurd rfl hc⟩,fun hc=>absurd rfl hc⟩,fun hc=>absurd (by omega) hc⟩
end
end Go.Proofs.YtenpmjhnhepfdaaGreatDoor
