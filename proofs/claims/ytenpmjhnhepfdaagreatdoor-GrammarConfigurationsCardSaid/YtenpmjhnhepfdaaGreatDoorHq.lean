/-
  The codec that writes: the parts of a grammar; Encode.
-/
import Derived.Test.YtenpmjhnhepfdaaGreatDoorHn
namespace Go.Proofs.YtenpmjhnhepfdaaGreatDoor
open Go Go.Proofs.Tryz
set_option maxRecDepth 10000
abbrev vB (n:Nat):Value:=.int .u8 (n:Int)
theorem Jo (st:ByteArray):((bs st).map vB)=st.data.toList.map fun b=>Value.int .u8 (b.toNat:Int):=by simp [bs]
theorem Jp (l:List Nat):∀v∈l.map vB,aj v:=by
 intro v hv
 obtain ⟨x,_,rfl⟩:=List.mem_map.1 hv
 exact ⟨fun _ h=>(by cases h),fun _ h=>(by cases h)⟩
abbrev iY (st:ByteArray):List Value:=(bs st).map vB
theorem nA (st:ByteArray):(iY st).length=st.size:=by rw [List.length_map,cV]
theorem Dc (st:ByteArray):((st.extract 0 st.size).data.map fun b=>Value.int .u8 b.toNat)=(iY st).toArray:=by
 apply Array.ext'
 simp [iY,Jo]
theorem gm {P:Program} {F:PH} {s:Sl} {st:ByteArray} {t t2 e bytes ty:Nat} {z:Value} {olds:List Value} {Q:Value→PH→Prop} (ht:P.underlying t=some (.slice e)) (ht2:P.underlying t2=some .string) (hsz:tsz P e=some (1,bytes)) (hz:bk P e=some z) (hzs:z.cells.size=1)
  (ho:RdS F s 1 olds) (hfit:(s.len+st.size)*bytes≤140737488355328) (hlen:s.len+st.size≤9223372036854775807)
  (h0:st.size=0→s.len+st.size≤s.cap→Q (Sl.v ⟨s.base,s.len+st.size,s.cap⟩) F)
  (h1:0<st.size→s.len+st.size≤s.cap→∃b o c e',s.base=some ⟨b,o,none⟩∧F b=some (.cells c e' (0,0))∧o+s.len+st.size≤c.size∧
   Q (Sl.v ⟨s.base,s.len+st.size,s.cap⟩) (F.set b (.cells (wr c (o+s.len) (iY st)) e')))
  (h2:s.cap<s.len+st.size→∀cap b,s.len+st.size≤cap→F b=none→Q (Sl.v ⟨some ⟨b,0,none⟩,s.len+st.size,cap⟩) (F.set b (.cells (olds.toArray++(iY st).toArray++Builtin.zeroCells z.cells (cap - (s.len+st.size))) e))):
  aC P (Builtin.append_ #[t,t2] ty #[s.v,.string st]) F Q:=by
 have hnl:(iY st).length=st.size:=nA st
 have hst:∀v∈iY st,aj v:=Jp _
 have hol:=ho.len
 have hfn:∀Q',Q' (iY st).toArray F→aC P (Builtin.firstCells 1 st.size (.string st)) F Q':=fun Q' hq=>by
  simp only [Builtin.firstCells,aK]
  rw [Dc]
  exact hq
 have hfo:∀Q',Q' olds.toArray F→aC P (Builtin.firstCells 1 s.len s.v) F Q':=fun Q' hq=>d8 ho (Nat.le_refl _) (by rw [← hol,List.take_length];exact hq)
 obtain ⟨base,len,cap⟩:=s
 simp only [Builtin.append_,aA,Sl.v,List.getElem?_toArray,List.getElem?_cons_zero,List.getElem?_cons_succ,bB ht,bB ht2,Builtin.lenOf,aK,dv hsz,Bool.false_eq_true,if_false,Bool.not_false,if_true] at*
 obtain ⟨i,hib,hti⟩:=cZ hsz
 by_cases hroom:len+st.size≤cap
 ·rw [if_pos hroom]
  simp only [aA]
  refine hfn _ ?_
  by_cases hz0:st.size=0
  ·have hnil:(iY st)=[]:=List.eq_nil_of_length_eq_zero (by rw [hnl,hz0])
   cases base with
   |none=>exact h0 hz0 hroom
   |some a=>simp only [hnil,storeCells,aA,aK];exact h0 hz0 hroom
  ·obtain ⟨b,o,c,e',g1,g2,g3,g4⟩:=h1 (by omega) hroom
   cases g1
   simp only [aA]
   refine dn (iY st) 0 F _ c _ (by simp) (by simpa using g2) (by simp only [aJ];rw [hnl];omega) hst (fun hnn=>hz0 (by rw [← hnl,hnn];rfl)) ?_
   simpa using g4
 ·rw [if_neg hroom]
  simp only [aA,hti]
  rw [if_neg (by
   rintro ⟨ha,hb⟩
   have:(IntKind.i64.max:Int)=9223372036854775807:=by decide
   rw [this] at ha
   omega)]
  have hg:=growslice_fits (need:=len+st.size) (old:=cap) (bytes:=bytes) (by omega) hfit
  simp only [aA,hti]
  rw [if_neg (by rw [hib];omega)]
  simp only [aA,choose]
  unfold aC
  rw [if_neg (by simp [Question.forced])]
  intro tt
  simp only [aC,hti]
  refine fZ ?_
  refine hfo _ ?_
  refine hfn _ ?_
  simp only [cL hz,newRow,newObj,aA,aC,aK]
  intro b hb
  exact h2 (by omega) _ b (by simp only [Question.cut];omega) hb
theorem nB {F:PH} {s:Sl} {st:ByteArray} {t t2 e bytes ty:Nat} {z:Value} {P:Program} {olds:List Value} {Q:Value→PH→Prop} (ht:P.underlying t=some (.slice e)) (ht2:P.underlying t2=some .string) (hsz:tsz P e=some (1,bytes)) (hz:bk P e=some z) (hzs:z.cells.size=1)
  (ho:bN F e 1 s olds) (hx:0<st.size) (hfit:(s.len+st.size)*bytes≤140737488355328) (hlen:s.len+st.size≤9223372036854775807)
  (h:∀s' F' b o,F'=F.set b o→bN F' e 1 s' (olds++(iY st))→s'.len=s.len+st.size→(∀a,s'.base=some a→a.block=b)→((∃a,s.base=some a∧a.block=b)∨F b=none)→Q s'.v F'):
  aC P (Builtin.append_ #[t,t2] ty #[s.v,.string st]) F Q:=by
 have hol:=ho.rd.len
 have hsl:=nA st
 refine gm ht ht2 hsz hz hzs ho.rd hfit hlen (fun h0=>by omega) ?_ ?_
 ·intro _ hroom
  rcases ho with ⟨rfl,rfl⟩|⟨b,cur,h1,h2,h3,h4,h5,h6⟩
  ·have e1:Sl.nil.cap=0:=rfl
   have e2:Sl.nil.len=0:=rfl
   omega
  ·refine ⟨b,0,cur,e,h1,h2,by omega,?_⟩
   refine h ⟨_,_,_⟩ _ b _ rfl (.inr ⟨b,_,h1,an _ _ _,by rw [dm,h3],hroom,by rw [List.length_append];simp only;omega,?_⟩) rfl (fun a ha=>by rw [h1] at ha;cases ha;rfl) (.inl ⟨_,h1,rfl⟩)
   simp only [Nat.zero_add]
   have hw:=im (iY st) cur.toList s.len (by rw [hsl,Array.length_toList];omega)
   rw [show cur.toList.toArray=cur by simp] at hw
   rw [hw]
   rw [Nat.mul_one] at h6 ⊢
   simp only
   rw [h6]
   rw [List.take_append_of_le_length (by rw [List.length_append];omega),List.take_of_length_le (by rw [List.length_append];omega)]
 ·intro hgt cap b hc hb
  refine h ⟨_,_,_⟩ _ b _ rfl (.inr ⟨b,_,rfl,an _ _ _,?_,hc,by rw [List.length_append];simp only;omega,?_⟩) rfl (fun a ha=>by cases ha;rfl) (.inr hb)
  ·simp [Builtin.zeroCells,hzs]
   have e1:=cV st
   omega
  ·simp only [List.append_toArray,Array.toList_append]
   rw [List.take_append_of_le_length (by rw [List.length_append];omega),List.take_of_length_le (by rw [List.length_append];omega)]
theorem St.appStrAt {G F:PH} {As:List (PH→Prop)} {t t2 e bytes:Nat} {z:Value} (T:SlT t e 1 bytes z) (ht2:prog.underlying t2=some .string) {s:Sl} {st:ByteArray} {olds:List Value} {ty:TypeId} (h:St G F As) (i:Nat) (hi:As[i]? =some (own s e 1 olds))
  (hlen:s.len+st.size≤500000000000) {K:Sl→PH→Prop} (k:∀s' F',St G F' (As.set i (own s' e 1 (olds++iY st)))→s'.len=s.len+st.size→K s' F'):
  aC prog (Builtin.append_ #[t,t2] ty #[s.v,.string st]) F fun v F=>∃s':Sl,v=Sl.v s'∧K s' F:=by
 have ho:=(h.ownAt hi).1
 by_cases h0:st.size=0
 ·have hnil:iY st=[]:=List.eq_nil_of_length_eq_zero (by rw [nA,h0])
  have hs:(⟨s.base,s.len+st.size,s.cap⟩:Sl)=s:=by rw [h0];rfl
  obtain ⟨H,a1,a2,a3,a4⟩:=h.set (A':=own s e 1 olds) hi
  have hk:=k s F (by rw [hnil,List.append_nil];exact a4 H F a1 (fun b hb=> .inl hb) a3 (fun b o hb _=>hb)) (by omega)
  have:=ho.rd.cap
  exact gm T.ht ht2 T.hsz T.hz T.hzs ho.rd (tL T.hb hlen) (by omega) (fun _ _=>by rw [hs];exact ⟨s,rfl,hk⟩) (fun h1=>absurd h0 (by omega)) (fun h1=>by omega)
 ·refine nB T.ht ht2 T.hsz T.hz T.hzs ho (by omega) (tL T.hb hlen) (by omega) ?_
  rintro s' F' b ob rfl ho' hl' hbase hb
  obtain ⟨H,a1,a2,a3,a4⟩:=h.set (A':=own s' e 1 (olds++iY st)) hi
  have hb':H b≠none∨F b=none:=by
   rcases hb with ⟨a,ha,rfl⟩|hb
   ·obtain ⟨cur,hc⟩:=bN.elem a1 ha
    exact .inl (by rw [hc];simp)
   ·exact .inr hb
  refine ⟨s',rfl,k s' _ ?_ hl'⟩
  refine a4 (PH.set (fun _=>none) b ob) _ (ho'.keep fun a ha=>by rw [hbase a ha,an,an]) (fun x hx=> ?_) (fun x p hx=> ?_) (fun x p hx hn=> ?_)
  ·by_cases e:x=b
   ·rw [e];exact hb'
   ·rw [az _ _ e] at hx;exact absurd rfl hx
  ·by_cases e:x=b
   ·rw [e,an] at hx ⊢;exact hx
   ·rw [az _ _ e] at hx;cases hx
  ·have e:x≠b:=fun e=>by
    subst e
    rcases hb' with h|h
    ·exact h hn
    ·rw [h] at hx;cases hx
   rw [az _ _ e];exact hx
theorem Hn:SlT 22 5 1 1 (.int .u8 0):=⟨underlying22,sz5,zr5,rfl,by decide,by decide⟩
def fO (n:Nat):List Nat:=if n<128 then [n] else (n % 128+128)::fO (n / 128)
def eI (x:Int):List Nat:=fO x.toNat
def eS (s:ByteArray):List Nat:=fO s.size++bs s
def eB (b:Bool):List Nat:=[if b then 1 else 0]
def eL {α:Type} (f:α→List Nat) (l:List α):List Nat:=fO l.length++l.flatMap f
def eBr (b:Br):List Nat:=eI b.v++eI b.l++eI b.h
def eD (d:Dia):List Nat:=eL eBr d.1++eI d.2
def eNd (x:Nd):List Nat:=eI x.k++eI x.lo++eI x.hi++eI x.a++eI x.b
def eTk (t:Tk):List Nat:=eS t.name++eI t.cls++eS t.lit++eL eNd t.pat++eS t.smp++eD t.cond
def eSy (s:Sy):List Nat:=eB s.t++eI s.i
def eCn (x:Cn):List Nat:=eI x.k++eI x.a++eI x.b
def Jq (s:Sco):List Nat:=eB s.o++(eI s.d++eI s.k++eI s.u++eI s.a)
def ePr (p:Pr):List Nat:=eS p.name++eI p.left++eL eSy p.right++eD p.cond++eB p.brk++eI (p.rank+1)++eL eCn p.lay++Jq p.sco
def eLv (l:Lv):List Nat:=eL eI l.ps++eI l.assoc++eD l.cond
def eFi (f:Fi):List Nat:=eI f.k++eI f.par++eI f.pos++eI f.ch++eI f.left++eI f.tok++eL eI f.toks++eD f.cond
def eGr (g:Gr):List Nat:=eL eS g.conds++eD g.fam++eL eTk g.toks++eL eS g.nons++eL ePr g.prods++eI g.start++eL eLv g.lvs++eL eFi g.fils
structure NN (g:Gr):Prop where
 fam:(∀b∈g.fam.1,0≤b.v∧0≤b.l∧0≤b.h)∧0≤g.fam.2
 toks:∀t∈g.toks,0≤t.cls∧(∀x∈t.pat,0≤x.k∧0≤x.lo∧0≤x.hi∧0≤x.a∧0≤x.b)∧(∀b∈t.cond.1,0≤b.v∧0≤b.l∧0≤b.h)∧0≤t.cond.2
 prods:∀p∈g.prods,0≤p.left∧(∀s∈p.right,0≤s.i)∧((∀b∈p.cond.1,0≤b.v∧0≤b.l∧0≤b.h)∧0≤p.cond.2)∧-1≤p.rank∧p.rank≤1∧(∀x∈p.lay,0≤x.k∧0≤x.a∧0≤x.b)∧0≤p.sco.d∧0≤p.sco.k∧0≤p.sco.u∧0≤p.sco.a
 start:0≤g.start
 lvs:∀l∈g.lvs,(∀x∈l.ps,0≤x)∧0≤l.assoc∧(∀b∈l.cond.1,0≤b.v∧0≤b.l∧0≤b.h)∧0≤l.cond.2
 fils:∀f∈g.fils,0≤f.k∧0≤f.par∧0≤f.pos∧0≤f.ch∧0≤f.left∧0≤f.tok∧(∀x∈f.toks,0≤x)∧(∀b∈f.cond.1,0≤b.v∧0≤b.l∧0≤b.h)∧0≤f.cond.2
abbrev Dd (s:Sl):Array Value:= #[vi 0,s.v,vi 0,.bool false]
abbrev cod (bc:Nat) (s:Sl) (out:List Nat):List (PH→Prop):=[own s 5 1 (out.map vB),pt bc (.cells (Dd s) 116)]
def WrS (G:PH) (bc:Nat) (f:FuncId) (args:Array Value) (v:Value) (bx:List Nat):Prop:=
 ∀G1 F s out,G.le G1→out.length+bx.length≤100000000000→St G1 F (cod bc s out)→ac prog f args F fun r F'=>∃G' s',r=v∧G1.le G'∧St G' F' (cod bc s' (out++bx))
theorem WrS.le {G G':PH} {bc:Nat} {f:FuncId} {args:Array Value} {v:Value} {bx:List Nat} (h:WrS G bc f args v bx) (l:G.le G'):WrS G' bc f args v bx:=
 fun G1 F s out l1 hb hs=>h G1 F s out (aa l l1) hb hs
theorem WrS.go {G G1 F:PH} {bc:Nat} {f:FuncId} {args:Array Value} {v:Value} {bx:List Nat} {s:Sl} {out:List Nat} {Q:Value→PH→Prop} (hw:WrS G bc f args v bx) (l:G.le G1) (hb:out.length+bx.length≤100000000000) (h:St G1 F (cod bc s out))
  (k:∀G' F' s',G1.le G'→St G' F' (cod bc s' (out++bx))→Q v F'):ac prog f args F Q:=
 (hw G1 F s out l hb h).mono fun r F' ⟨G',s',e,l',h'⟩=>by rw [e];exact k G' F' s' l' h'
theorem wM {G F:PH} {As:List (PH→Prop)} {s:Sl} {out:List Nat} (h:St G F (own s 5 1 (out.map vB)::As)):s.len=out.length:=by
 have:=(h.ownAt (i:=0) rfl).1.rd.len
 simp at this
 exact this.symm
abbrev pc (bc:Nat):Value:=.pointer (some (Addr.mk bc 0 none))
theorem AB {G F:PH} {s:Sl} {out:List Nat} {x:Nat} {As:List (PH→Prop)} (h:St G F (own s 5 1 (out.map vB++ #[vB x].toList)::As)):St G F (own s 5 1 ((out++[x]).map vB)::As):=by
 rw [List.map_append]
 exact h
theorem De:∀n:Nat,IntKind.u8.wrap ((BitVec.ofInt (IntKind.u8).bits (IntKind.u8.wrap (n:Int)) ||| BitVec.ofInt (IntKind.u8).bits (128:Int)).toNat)=((n % 128+128:Nat):Int):=by
 intro n
 have e1:IntKind.u8.wrap (n:Int)=((n % 256:Nat):Int):=by simp [IntKind.wrap,IntKind.bits,IntKind.signed]
 rw [e1]
 have key:∀m:Fin 256,IntKind.u8.wrap ((BitVec.ofInt (IntKind.u8).bits ((m.val:Nat):Int) ||| BitVec.ofInt (IntKind.u8).bits (128:Int)).toNat)=((m.val % 128+128:Nat):Int):=by decide+kernel
 have:=key ⟨n % 256,Nat.mod_lt _ (by decide)⟩
 rw [this]
 simp only
 omega
theorem fQ {n:Nat} (h:n<128):fO n=[n]:=by unfold fO;rw [if_pos h]
theorem tC {n:Nat} (h:¬n<128):fO n=(n % 128+128)::fO (n / 128):=by rw [fO,if_neg h]
theorem Df (n:Nat):0<(fO n).length:=by
 by_cases h:n<128
 ·rw [fQ h];simp
 ·rw [tC h];simp
theorem Dg (n:Nat):Int.fdiv (n:Int) (2 ^ (min (Int.toNat (7:Int)) (IntKind.i64).bits))=((n / 128:Nat):Int):=by
 show Int.fdiv (n:Int) (2 ^ 7)=_
 rw [Int.fdiv_eq_ediv_of_nonneg _ (by decide)]
 norm_cast
theorem jt {G:PH} {bc:Nat} {a:Addr} {n:Nat} (ha:G.cell a=some (vi n)):WrS G bc 125 #[pc bc,.pointer (some a)] (.tuple #[]) (fO n):=by
 intro G1 F s out l hb h
 refine Mt ?_
 unfold FU
 refine ⟨_,rfl,_,h.ld1 rfl,fun _=>⟨_,rfl,_,aq (aa l h.le) ha,?_⟩,fun h=>absurd rfl h⟩
 refine ⟨fun m i F'=>∃(k:Nat) (G2:PH) (s2:Sl) (out2:List Nat),i=(k:Int)∧m=k∧G1.le G2∧St G2 F' (cod bc s2 out2)∧out++fO n=out2++fO k,n,⟨n,G1,s,out,rfl,rfl,le_refl' _,h,rfl⟩,?_⟩
 rintro m i F2 ⟨k,G2,s2,out2,rfl,hm,l2,h,he⟩
 have hlen:=congrArg List.length he
 rw [List.length_append,List.length_append] at hlen
 have hs2:=wM h
 have:=Df k
 unfold xX
 refine ⟨fun hk=> ?_,fun hk=> ?_⟩
 ·have hk':¬k<128:=by omega
  refine ⟨_,by rw [aJ];exact h.ld1 rfl,?_⟩
  rw [De,Dg]
  refine h.push0 Hn (c:= #[vB (k % 128+128)]) rfl (by simp [aj]) (by omega) fun s3 G3 F3 l3 h hl3=> ?_
  rw [aJ]
  refine h.set1 (w':=Dd s3) (by simp) rfl fun F4 h=> ?_
  refine ⟨k / 128,by have:=Nat.div_lt_self (n:=k) (k:=128) (by omega) (by decide);omega,k / 128,G3,s3,out2++[k % 128+128],rfl,rfl,aa l2 l3,?_,?_⟩
  ·exact AB h
  ·rw [he,tC hk',List.append_assoc]
   rfl
 ·have hk':k<128:=by omega
  unfold xW
  have ew:IntKind.u8.wrap (k:Int)=(k:Int):=by simp [IntKind.wrap,IntKind.bits,IntKind.signed];omega
  rw [ew]
  refine ⟨_,by rw [aJ];exact h.ld1 rfl,?_⟩
  refine h.push0 Hn (c:= #[vB k]) rfl (by simp [aj]) (by omega) fun s3 G3 F3 l3 h hl3=> ?_
  rw [aJ]
  refine h.set1 (w':=Dd s3) (by simp) rfl fun F4 h=>⟨G3,s3,rfl,aa l2 l3,?_⟩
  rw [he,fQ hk']
  exact AB h
theorem wO (G:PH) {bc:Nat} (n:Nat):WrS G bc 178 #[pc bc,vi n] (vi n) (fO n):=by
 intro G1 F s out l hb h
 refine MM ?_
 unfold Gp
 refine h.newG fun b3 G2 F2 l2 q3 _ h=> ?_
 refine (jt (ld q3 rfl)).go (le_refl' _) hb h fun G3 F3 s3 l3 h=>⟨rfl,_,rfl,_,h.ld1 rfl,fun h=>(by cases h),fun _=> ?_⟩
 unfold mF
 exact ⟨fun h=>(by cases h),fun _=>⟨_,ld (h.le _ _ (l3 _ _ q3)) rfl,G3,s3,rfl,aa l2 l3,h⟩⟩
theorem nC {G:PH} {bc:Nat} {a:Addr} {x:ByteArray} (ha:G.cell a=some (.string x)):WrS G bc 119 #[pc bc,.pointer (some a)] (.tuple #[]) (eS x):=by
 intro G1 F s out l hb h
 unfold eS at hb ⊢
 rw [List.length_append,cV] at hb
 refine Ml ?_
 unfold FQ
 refine ⟨_,rfl,_,aq (aa l h.le) ha,?_⟩
 refine (wO G1 x.size).go (le_refl' _) (by omega) h fun G3 F3 s3 l3 h=>⟨_,rfl,_,rfl,_,h.ld1 rfl,fun _=>⟨_,by rw [aJ];exact h.ld1 rfl,_,aq (aa l (aa l3 h.le)) ha,?_⟩,fun h=>absurd rfl h⟩
 have hs3:=wM h
 rw [List.length_append] at hs3
 refine h.appStrAt Hn underlying9 0 rfl (by omega) fun s4 F4 h hl4=> ?_
 rw [aJ]
 refine St.set1 (w':=Dd s4) h (by simp) rfl fun F5 h=>⟨G3,s4,rfl,l3,?_⟩
 rw [← List.append_assoc]
 show St G3 F5 [own s4 5 1 ((out++fO x.size++bs x).map vB),_]
 rw [List.map_append (l₂:=bs x)]
 exact h
def gn (n:Nat) (X:Addr→Prop) (N1:Int→PH→Prop) (c_0:Option Addr) (l1a_:Addr) (one_2:Value) (v_14:Int) (R:VR) (i_7:Int) (F:PH):Prop:=
 ((i_7<v_14→
  ∃c0a_:Addr,c_0=some c0a_∧∃v_22:Bool,F.cell (Addr.add c0a_ 3)=some (.bool v_22)∧
  (((!v_22)=true→
   ∃v_30:Int,F.cell c0a_=some (.int .i64 v_30)∧
   ((v_30=(0:Int)→
    ∃v_35:Sl,F.cell l1a_=some (Sl.v v_35)∧
    ∃a37_:Addr,v_35.base=some a37_∧0≤i_7∧i_7<(v_35.len:Int)∧
    ∃(k38:Nat) (fst38 cap38:Array Value),one_2=.func (.func k38) fst38 cap38∧aB prog k38=true∧ac prog k38 (fst38++([(.pointer (some (Addr.add a37_ (Int.toNat i_7*n))))]).toArray++cap38) F fun v F=>v=(.tuple #[])∧
    N1 (IntKind.i64.wrap (i_7+(1:Int))) F)∧
   (¬(v_30=(0:Int))→
    X c0a_)))∧
  ((!v_22)=false→
   R (.tuple #[]) F)))∧
 (¬(i_7<v_14)→
  R (.tuple #[]) F))
def gF (L:(Int→PH→Prop)→Option Addr→Addr→Value→Int→VR→Int→PH→Prop) (c_0:Option Addr) (l_1:Option Addr) (one_2:Value) (R:VR) (F:PH):Prop:=
 ∃l1a_:Addr,l_1=some l1a_∧∃v_12:Sl,F.cell l1a_=some (Sl.v v_12)∧
 ac prog 178 #[(.pointer c_0),(.int .i64 (v_12.len:Int))] F fun v F=>∃v_14:Int,v=(.int .i64 v_14)∧
 (∃(I1:Nat→Int→PH→Prop) (m1:Nat),I1 m1 (0:Int) F∧∀m1 i_7 F,I1 m1 i_7 F→
  L (fun y1_0 F=>∃m',m'<m1∧I1 m' y1_0 F) c_0 l1a_ one_2 v_14 R i_7 F)
theorem iZ {α β:Type} {l:List α} {k:Nat} {x:α} (f:α→List β) (h:l[k]? =some x):(l.take (k+1)).flatMap f=(l.take k).flatMap f++f x:=by
 rw [aV h,List.flatMap_append]
 simp
theorem fR {α:Type} (f:α→List Nat) (l:List α) (k:Nat):((l.take k).flatMap f).length≤(l.flatMap f).length:=by
 have:l.flatMap f=(l.take k).flatMap f++(l.drop k).flatMap f:=by rw [← List.flatMap_append,List.take_append_drop]
 rw [this,List.length_append]
 omega
theorem eZ {α:Type} [Mem α] {G:PH} {bc:Nat} {la:Addr} {sl:Sl} {l:List α} (hl:RL G sl l) (hla:G.cell la=some sl.v) (hn:0<Mem.n α) (hll:l.length≤1000000000) {k:Nat} {fst cap:Array Value} (hk:aB prog k=true) (f:α→List Nat) (args:Value→Array Value) (ha:∀p,fst++([p]).toArray++cap=args p)
  (hone:∀x∈l,∀G1 a c,G.le G1→G1.row a c→Mem.rep G1 x c→WrS G1 bc k (args (.pointer (some a))) (.tuple #[]) (f x))
  {L:(Int→PH→Prop)→Option Addr→Addr→Value→Int→VR→Int→PH→Prop} (hL:∀N c0 l1 o v R i F,∃X,L N c0 l1 o v R i F=gn (Mem.n α) X N c0 l1 o v R i F)
  {G1 F:PH} {s:Sl} {out:List Nat} (l01:G.le G1) (hb:out.length+(eL f l).length≤100000000000) (h:St G1 F (cod bc s out)):
  gF L (some (Addr.mk bc 0 none)) (some la) (.func (.func k) fst cap) (fun r F'=>∃G' s',r=.tuple #[]∧G1.le G'∧St G' F' (cod bc s' (out++eL f l))) F:=by
 have el:=hl.len hn
 unfold eL at hb ⊢
 rw [List.length_append] at hb
 refine ⟨_,rfl,_,aq (aa l01 h.le) hla,?_⟩
 rw [el]
 refine (wO G1 l.length).go (le_refl' _) (by omega) h fun G2 F2 s2 l2 h=>⟨_,rfl,?_⟩
 refine bH (L · _ _ _ _ _) l.length (fun j F'=>∃G3 s3,G2.le G3∧St G3 F' (cod bc s3 (out++fO l.length++(l.take j).flatMap f))) ⟨G2,s2,le_refl' _,by simpa using h⟩ ?_
 rintro j F3 N hj ⟨G3,s3,l3,h⟩ next
 obtain ⟨X,hX⟩:=hL N (some (Addr.mk bc 0 none)) la (.func (.func k) fst cap) (l.length:Int) (fun r F'=>∃G' s',r=.tuple #[]∧G1.le G'∧St G' F' (cod bc s' (out++(fO l.length++l.flatMap f)))) (j:Int) F3
 rw [hX]
 unfold gn
 have l03:=aa l01 (aa l2 l3)
 refine ⟨fun hlt=> ?_,fun hge=> ?_⟩
 ·have hlt:j<l.length:=by omega
  refine ⟨_,rfl,_,by rw [aJ];exact h.ld1 rfl,fun _=>⟨_,h.ld1 rfl,fun _=>⟨_,aq (aa l03 h.le) hla,?_⟩,fun h=>absurd rfl h⟩,fun h=>(by cases h)⟩
  refine ixc (hl.le l03) hn (by omega) (by omega) fun a c x hx hr hc=>⟨k,fst,cap,rfl,hk,?_⟩
  rw [Int.toNat_natCast] at hx
  have hxm:x∈l:=List.mem_of_getElem? hx
  have e:=iZ f hx
  have hp:=fR f l (j+1)
  rw [e,List.length_append] at hp
  rw [ha]
  refine (hone x hxm G3 _ c l03 hr hc).go (le_refl' _) (by rw [List.length_append,List.length_append];omega) h fun G4 F4 s4 l4 h=>⟨rfl,?_⟩
  rw [aO hlt (by omega)]
  refine next _ hlt ⟨G4,s4,aa l3 l4,?_⟩
  rw [e,← List.append_assoc]
  exact h
 ·have e:j=l.length:=by omega
  subst e
  rw [List.take_length] at h
  exact ⟨G3,s3,rfl,aa l2 l3,by rw [← List.append_assoc];exact h⟩
theorem fu (a:Addr) (i j:Nat):Addr.add (Addr.add a i) j=Addr.add a (i+j):=by
 unfold Addr.add
 by_cases hi:i=0
 ·simp [hi]
 ·by_cases hj:j=0
  ·simp [hj]
  ·simp [hi,hj,Nat.add_assoc]
theorem cS {F:PH} {a:Addr} {c d:Array Value} {o:Nat} (h:F.row a c) (hd:(c.toList.drop o).take d.size=d.toList):F.row (a.add o) d:=by
 intro i hi
 rw [fu]
 have:=congrArg (fun l=>l[i]?) hd
 simp only [List.getElem?_take_of_lt hi,List.getElem?_drop,Array.getElem?_toList] at this
 exact aD h (this.trans (by simp [hi]))
theorem cbW:aB prog 119=true∧aB prog 125=true∧aB prog 122=true∧aB prog 124=true∧aB prog 127=true∧aB prog 129=true∧
 aB prog 180=true∧aB prog 183=true∧aB prog 185=true∧aB prog 188=true:=by
 refine ⟨?_,?_,?_,?_,?_,?_,?_,?_,?_,?_⟩<;>kernel_rfl
section
variable {G:PH} {bc:Nat}
theorem fa {a:Addr} {x:Int} (h0:0≤x) (ha:G.cell a=some (vi x)):WrS G bc 125 #[pc bc,.pointer (some a)] (.tuple #[]) (eI x):=by
 obtain ⟨n,rfl⟩:=Int.eq_ofNat_of_zero_le h0
 exact jt ha
theorem NO:eB true=fO 1:=(fQ (by decide)).symm
theorem NP:eB false=fO 0:=(fQ (by decide)).symm
theorem ij {b:Nat} {al:List Addr} {xs:List Int} {e:TypeId} (q:G b=some (.cells (al.map fun a=>Value.pointer (some a)).toArray e)) (hl:al.length=xs.length) (hll:xs.length≤100)
  (ha:∀(i:Nat) a x,al[i]? =some a→xs[i]? =some x→G.cell a=some (vi x)∧0≤x):
  WrS G bc 181 #[pc bc,Sl.v ⟨some (Addr.mk b 0 none),al.length,al.length⟩] (.tuple #[]) (xs.flatMap eI):=by
 intro G1 F s out l hb h
 refine MQ ?_
 unfold Gs
 refine bH (sA · (some (Addr.mk bc 0 none)) ⟨some (Addr.mk b 0 none),al.length,al.length⟩ _) xs.length (fun j F'=>∃G3 s3,G1.le G3∧St G3 F' (cod bc s3 (out++(xs.take j).flatMap eI))) ⟨G1,s,le_refl' _,by simpa using h⟩ ?_
 rintro j F3 N hj ⟨G3,s3,l3,h⟩ next
 unfold sA
 have l03:=aa l l3
 refine ⟨fun hlt=> ?_,fun hge=> ?_⟩
 ·simp only at hlt
  have hlt:j<xs.length:=by omega
  have hx:=List.getElem?_eq_getElem hlt
  have haj:=List.getElem?_eq_getElem (l:=al) (by omega:j<al.length)
  obtain ⟨h1,h2⟩:=ha j _ _ haj hx
  refine ⟨_,rfl,by omega,by simp only;omega,some al[j],?_,?_⟩
  ·rw [Int.toNat_natCast,aJ,Nat.mul_one,Nat.zero_add,am (h.le _ _ (l03 _ _ q))]
   simp [haj]
  ·have hp:=fR eI xs (j+1)
   have e:=iZ eI hx
   rw [e,List.length_append] at hp
   refine (fa h2 h1).go l03 (by rw [List.length_append];omega) h fun G4 F4 s4 l4 h=>⟨rfl,?_⟩
   rw [aO hlt (by omega)]
   refine next _ hlt ⟨G4,s4,aa l3 l4,?_⟩
   rw [e,← List.append_assoc]
   exact h
 ·simp only at hge
  have e:j=xs.length:=by omega
  subst e
  rw [List.take_length] at h
  exact ⟨G3,s3,rfl,l3,h⟩
theorem uO {a:Addr} {b:Bool} (ha:G.cell a=some (.bool b)):WrS G bc 186 #[pc bc,.pointer (some a)] (.tuple #[]) (eB b):=by
 intro G1 F s out l hb h
 refine MX ?_
 unfold Gv
 refine h.new fun b4 F2 h=> ?_
 refine h.set0 (by simp) rfl fun F3 h=>⟨_,rfl,_,aq (aa l h.le) ha,fun hbt=> ?_,fun hbf=> ?_⟩
 ·subst hbt
  rw [NO] at hb ⊢
  refine h.set0 (w':= #[vi 1]) (by simp) rfl fun F4 h=> ?_
  refine h.pinb (K:=fun F4=>iI (some (Addr.mk bc 0 none)) (some a) b4 _ F4) fun G5 l5 q5 h=> ?_
  unfold iI
  exact (jt (n:=1) (ld q5 rfl)).go (le_refl' _) hb h fun G6 F6 s6 l6 h=>⟨rfl,_,rfl,_,h.ld1 rfl,fun h=>(by cases h),fun _=>⟨G6,s6,rfl,aa l5 l6,h⟩⟩
 ·subst hbf
  rw [NP] at hb ⊢
  refine h.pinb (K:=fun F4=>iI (some (Addr.mk bc 0 none)) (some a) b4 _ F4) fun G5 l5 q5 h=> ?_
  unfold iI
  exact (jt (n:=0) (ld q5 rfl)).go (le_refl' _) hb h fun G6 F6 s6 l6 h=>⟨rfl,_,rfl,_,h.ld1 rfl,fun h=>(by cases h),fun _=>⟨G6,s6,rfl,aa l5 l6,h⟩⟩
theorem AC {b2:Nat} {a:Addr} {c:Array Value} {x:Br} (q:G.cell (Addr.mk b2 0 none)=some (pc bc)) (hr:G.row a c) (hc:Mem.rep G x c) (h0:0≤x.v∧0≤x.l∧0≤x.h):
  WrS G bc 180 #[.pointer (some a),.pointer (some (Addr.mk b2 0 none))] (.tuple #[]) (eBr x):=by
 intro G1 F s out l hb h
 rw [show c=aP x from hc] at hr
 refine MP ?_
 unfold Gq
 refine ⟨_,rfl,_,aq (aa l h.le) q,_,rfl,?_⟩
 refine h.newG fun b13 G2 F2 l2 q13 _ h=> ?_
 have e:[x.v,x.l,x.h].flatMap eI=eBr x:=by simp [eBr]
 rw [← e] at hb ⊢
 refine (ij (al:=[a,a.add 1,a.add 2]) (xs:=[x.v,x.l,x.h]) q13 rfl (by simp) fun i a' y h1 h2=> ?_).go (le_refl' _) hb h fun G3 F3 s3 l3 h=>⟨rfl,G3,s3,rfl,aa l2 l3,h⟩
 have l02:=aa l l2
 match i with
 |0=>cases h1;cases h2;exact ⟨aq l02 (aI hr rfl),h0.1⟩
 |1=>cases h1;cases h2;exact ⟨aq l02 (aD hr rfl),h0.2.1⟩
 |2=>cases h1;cases h2;exact ⟨aq l02 (aD hr rfl),h0.2.2⟩
 |i+3=>simp at h1
theorem Ho {b2:Nat} {a:Addr} {c:Array Value} {x:Nd} (q:G.cell (Addr.mk b2 0 none)=some (pc bc)) (hr:G.row a c) (hc:Mem.rep G x c) (h0:0≤x.k∧0≤x.lo∧0≤x.hi∧0≤x.a∧0≤x.b):
  WrS G bc 183 #[.pointer (some a),.pointer (some (Addr.mk b2 0 none))] (.tuple #[]) (eNd x):=by
 intro G1 F s out l hb h
 rw [show c=x.arr from hc] at hr
 refine MT ?_
 unfold Gt
 refine ⟨_,rfl,_,aq (aa l h.le) q,_,rfl,?_⟩
 refine h.newG fun b13 G2 F2 l2 q13 _ h=> ?_
 have e:[x.k,x.lo,x.hi,x.a,x.b].flatMap eI=eNd x:=by simp [eNd]
 rw [← e] at hb ⊢
 refine (ij (al:=[a,a.add 1,a.add 2,a.add 3,a.add 4]) (xs:=[x.k,x.lo,x.hi,x.a,x.b]) q13 rfl (by simp) fun i a' y h1 h2=> ?_).go (le_refl' _) hb h fun G3 F3 s3 l3 h=>⟨rfl,G3,s3,rfl,aa l2 l3,h⟩
 have l02:=aa l l2
 match i with
 |0=>cases h1;cases h2;exact ⟨aq l02 (aI hr rfl),h0.1⟩
 |1=>cases h1;cases h2;exact ⟨aq l02 (aD hr rfl),h0.2.1⟩
 |2=>cases h1;cases h2;exact ⟨aq l02 (aD hr rfl),h0.2.2.1⟩
 |3=>cases h1;cases h2;exact ⟨aq l02 (aD hr rfl),h0.2.2.2.1⟩
 |4=>cases h1;cases h2;exact ⟨aq l02 (aD hr rfl),h0.2.2.2.2⟩
 |i+5=>simp at h1
theorem rq {b2:Nat} {a:Addr} {c:Array Value} {x:Cn} (q:G.cell (Addr.mk b2 0 none)=some (pc bc)) (hr:G.row a c) (hc:Mem.rep G x c) (h0:0≤x.k∧0≤x.a∧0≤x.b):
  WrS G bc 188 #[.pointer (some a),.pointer (some (Addr.mk b2 0 none))] (.tuple #[]) (eCn x):=by
 intro G1 F s out l hb h
 rw [show c=x.arr from hc] at hr
 refine M0 ?_
 unfold Gw
 refine ⟨_,rfl,_,aq (aa l h.le) q,_,rfl,?_⟩
 refine h.newG fun b13 G2 F2 l2 q13 _ h=> ?_
 have e:[x.k,x.a,x.b].flatMap eI=eCn x:=by simp [eCn]
 rw [← e] at hb ⊢
 refine (ij (al:=[a,a.add 1,a.add 2]) (xs:=[x.k,x.a,x.b]) q13 rfl (by simp) fun i a' y h1 h2=> ?_).go (le_refl' _) hb h fun G3 F3 s3 l3 h=>⟨rfl,G3,s3,rfl,aa l2 l3,h⟩
 have l02:=aa l l2
 match i with
 |0=>cases h1;cases h2;exact ⟨aq l02 (aI hr rfl),h0.1⟩
 |1=>cases h1;cases h2;exact ⟨aq l02 (aD hr rfl),h0.2.1⟩
 |2=>cases h1;cases h2;exact ⟨aq l02 (aD hr rfl),h0.2.2⟩
 |i+3=>simp at h1
theorem AD {b2:Nat} {a:Addr} {c:Array Value} {x:Sy} (q:G.cell (Addr.mk b2 0 none)=some (pc bc)) (hr:G.row a c) (hc:Mem.rep G x c) (h0:0≤x.i):
  WrS G bc 185 #[.pointer (some a),.pointer (some (Addr.mk b2 0 none))] (.tuple #[]) (eSy x):=by
 intro G1 F s out l hb h
 rw [show c=x.arr from hc] at hr
 unfold eSy at hb ⊢
 rw [List.length_append] at hb
 refine MW ?_
 unfold Gu
 refine ⟨_,rfl,_,aq (aa l h.le) q,_,rfl,?_⟩
 refine (uO (aq l (aI hr rfl))).go (le_refl' _) (by omega) h fun G3 F3 s3 l3 h=>⟨rfl,_,aq (aa l (aa l3 h.le)) q,?_⟩
 refine (fa h0 (aq (aa l l3) (aD hr rfl))).go (le_refl' _) (by rw [List.length_append];omega) h fun G4 F4 s4 l4 h=>⟨rfl,G4,s4,rfl,aa l3 l4,?_⟩
 rw [← List.append_assoc]
 exact h
theorem NQ:∀N c0 l1 o v R i F,∃X,mG N c0 l1 o v R i F=gn 3 X N c0 l1 o v R i F:=fun _ _ _ _ _ _ _ _=>⟨_,rfl⟩
theorem Hp {c0 l1:Option Addr} {o:Value} {R:VR} {F:PH} (h:gF mG c0 l1 o R F):ac prog 179 #[.pointer c0,.pointer l1,o] F R:=MO h
theorem tD {a:Addr} {n:Sl} {d:Dia} (hr:G.row a #[n.v,vi d.2]) (hn:RL G n d.1) (hl:d.1.length≤1000000000) (h0:(∀b∈d.1,0≤b.v∧0≤b.l∧0≤b.h)∧0≤d.2):
  WrS G bc 120 #[pc bc,.pointer (some a)] (.tuple #[]) (eD d):=by
 intro G1 F s out l hb h
 unfold eD at hb ⊢
 rw [List.length_append] at hb
 refine Mm ?_
 unfold FR
 refine h.newG fun b2 G2 F2 l2 q2 _ h=>⟨_,ld (h.le _ _ q2) rfl,_,rfl,?_⟩
 have l02:=aa l l2
 refine (Hp (eZ (L:=mG) (hn.le l02) (aq l02 (aI hr rfl)) (by decide) hl cbW.2.2.2.2.2.2.1 eBr (fun p=> #[p,.pointer (some (Addr.mk b2 0 none))]) (fun _=>by simp)
  (fun x hx G3 a c l3 hr hc=>AC (ld (l3 _ _ q2) rfl) hr hc (h0.1 x hx)) NQ (le_refl' _) (by omega) h)).mono ?_
 rintro _ F3 ⟨G3,s3,rfl,l3,h⟩
 refine ⟨rfl,_,ld (h.le _ _ (l3 _ _ q2)) rfl,?_⟩
 refine (fa h0.2 (aq (aa l02 l3) (aD hr rfl))).go (le_refl' _) (by rw [List.length_append];omega) h fun G4 F4 s4 l4 h=>⟨rfl,G4,s4,rfl,aa l2 (aa l3 l4),?_⟩
 rw [← List.append_assoc]
 exact h
end
end Go.Proofs.YtenpmjhnhepfdaaGreatDoor
