/-
  A program logic over partial heaps: the user's kit, second part: stores into whole variables, rows that are owned, appending to them.
-/
import Derived.Test.YtcemhghkipgdiaaGreatDoorPhf
import Derived.Laws.Append
import Derived.Test.YtcemhghkipgdiaaGreatDoorRows
import Derived.WalkKit
import Derived.ProofKit
import Derived.OpenShut
import Derived.SizedLaws
import Derived.Carry
import Derived.Deep.Slices
namespace Go.Proofs.YtcemhghkipgdiaaGreatDoor
open Go.IntKind (i64 u8 u64)
open Go
theorem aq (F:PH):F.le F:=λ_ _ h=>h
theorem aa {F G H:PH} (h:F.le G) (k:G.le H):F.le H:=λb o hb=>k b o (h b o hb)
theorem ae {F:PH} {b:Nat} (o:Obj) (h:F b=none):F.le (F.set b o):=λx o' hx=>by
 unfold PH.set;by_cases hb:x=b
 ·subst hb;rw [h] at hx;cases hx
 ·simp [hb,hx]
theorem aH {F G:PH} (h:F.le G) {a:Addr} {v:Value} (hc:F.cell a=some v):G.cell a=some v:=by
 unfold PH.cell at*;cases hb:F a.block with
 |none=>simp [hb] at hc
 |some o=>rw [h _ _ hb];rw [hb] at hc;exact hc
theorem aT {F G:PH} (h:F.le G) {b:Nat} (hb:G b=none):F b=none:=by
 cases hf:F b with
 |none=>rfl
 |some o=>rw [h _ _ hf] at hb;cases hb
theorem aJ {F:PH} {b c:Nat} {o:Obj} (hb:F b=none) (hc:F c=some o):c≠b:=by intro e;subst e;rw [hb] at hc;cases hc
@[simp] theorem aB (b o i:Nat):Addr.add ⟨b,o,none⟩ i=⟨b,o+i,none⟩:=by unfold Addr.add;split<;>simp_all
@[simp] theorem al (F:PH) (b:Nat) (o:Obj):(F.set b o) b=some o:=by simp [PH.set]
theorem av (F:PH) {b x:Nat} (o:Obj) (h:x≠b):(F.set b o) x=F x:=by simp [PH.set,h]
@[simp] theorem bh (F:PH) (b:Nat) (o o':Obj):(F.set b o).set b o'=F.set b o':=AY F b o o'
theorem am {F:PH} {b i:Nat} {c:Γ} {e:TypeId} {fr:Nat×Nat} (h:F b=some (.cells c e fr)):F.cell ⟨b,i,none⟩=c[i]? :=by simp [PH.cell,h]
@[simp] theorem JA (F:PH) (b i:Nat) (c:Γ) (e:TypeId) (fr:Nat×Nat):(F.set b (.cells c e fr)).cell ⟨b,i,none⟩=c[i]? :=by simp [PH.cell]
def cO (fp:Nat->Prop) (F G:PH):Prop:=∀b o,F b=some o->¬fp b->G b=some o
theorem cO.refl (fp:Nat->Prop) (F:PH):cO fp F F:=λ_ _ h _=>h
theorem cO.trans {fp:Nat->Prop} {F G H:PH} (h:cO fp F G) (k:cO fp G H):cO fp F H:=λb o hb hn=>k b o (h b o hb hn) hn
theorem cO.of_le {fp:Nat->Prop} {F G:PH} (h:F.le G):cO fp F G:=λb o hb _=>h b o hb
theorem cO.set {fp:Nat->Prop} {F:PH} {b:Nat} (o:Obj) (h:fp b\/F b=none):cO fp F (F.set b o):=λx o' hx hn=>by
 by_cases hb:x=b
 ·subst hb;rcases h with h|h
  ·exact absurd h hn
  ·rw [h] at hx;cases hx
 ·rw [av F o hb];exact hx
structure RdS (F:PH) (s:Sl) (size:Nat) (vs:Ξ):Prop where
 len:vs.length=s.len*size
 cap:s.len<=s.cap
 cells:0<s.len->∃b o,s.base=some ⟨b,o,none⟩/\∀i,(h:i<vs.length)->F.cell ⟨b,o+i,none⟩=some vs[i]
theorem RdS.le {F G:PH} {s:Sl} {size:Nat} {vs:Ξ} (h:RdS F s size vs) (hl:F.le G):RdS G s size vs:=
 ⟨h.len,h.cap,λhp=>by
  obtain ⟨b,o,h1,h2⟩:=h.cells hp
  exact ⟨b,o,h1,λi hi=>aH hl (h2 i hi)⟩⟩
theorem RdS.nil (F:PH) (size:Nat):RdS F Sl.nil size []:=⟨by simp [Sl.nil],by simp [Sl.nil],by simp [Sl.nil]⟩
theorem RdS.new {F:PH} {b n cap size:Nat} {c:Γ} {e:TypeId} {fr:Nat×Nat} {vs:Ξ} (h:F b=some (.cells c e fr)) (hv:c.toList.take (n*size)=vs) (hl:vs.length=n*size) (hc:n<=cap):
  RdS F ⟨some ⟨b,0,none⟩,n,cap⟩ size vs:=⟨hl,hc,λ_=>⟨b,0,rfl,λi hi=>by
   rw [am h];subst hv
   simp at hi ⊢⟩⟩
theorem RdS.row {F:PH} {s:Sl} {size:Nat} {vs:Ξ} (h:RdS F s size vs) {a:Addr} (ha:s.base=some a) (k:Nat) (cs:Γ) (hk:cs.toList=(vs.drop k).take cs.size):F.row (a.add k) cs:=by
 intro i hi;have hlen:k+i<vs.length:=by have:=congrArg List.length hk;rw [Vb,List.length_drop,U4] at this;omega
 have hp:0<s.len:=by
  rcases VT s.len with h0|h0
  ·have:=h.len;rw [h0,V5] at this;omega
  ·exact h0
 obtain ⟨b,o,h1,h2⟩:=h.cells hp;rw [ha] at h1;cases h1;simp only [aB];rw [Nat.add_assoc,h2 (k+i) hlen];have e1:cs.toList[i]? =some cs[i]:=by simp [hi]
 rw [hk,VN hi,List.getElem?_drop,N5 hlen] at e1;exact e1
theorem RdS.cell {F:PH} {s:Sl} {vs:Ξ} (h:RdS F s 1 vs) {a:Addr} (ha:s.base=some a) {i:Nat} (hi:i<vs.length):F.cell (a.add i)=some vs[i]:=by
 have hp:0<s.len:=by have:=h.len;omega
 obtain ⟨b,o,h1,h2⟩:=h.cells hp;rw [ha] at h1;cases h1;simp only [aB];exact h2 i hi
theorem RdS.cut {F:PH} {s:Sl} {size:Nat} {vs:Ξ} (h:RdS F s size vs) {l r m:Nat} (h1:l<=r) (h2:r<=s.len) (h3:r<=m):RdS F (s.cut size l r m) size ((vs.drop (l*size)).take ((r - l)*size)):=by
 have hle:(r - l)*size<=s.len*size - l*size:=by rw [<- Nat.sub_mul];exact V0 _ (by omega)
 refine ⟨by rw [Vb,List.length_drop,h.len];simp only [Sl.cut];omega,by simp only [Sl.cut];omega,λhp=> ?_⟩;simp only [Sl.cut] at hp ⊢;obtain ⟨b,o,h4,h5⟩:=h.cells (by omega);have hm:¬m=l:=by omega
 refine ⟨b,o+l*size,by simp [hm,h4],λi hi=> ?_⟩;simp only [Vb,List.length_drop] at hi;rw [Nat.add_assoc,h5 (l*size+i) (by omega)];simp [List.getElem_take,List.getElem_drop]
theorem lC {P:Program} {n:Nat} {F:PH} {Q:Unit->Ψ} (h:Q () F):aG P (askRoom n) F Q:=by
 unfold askRoom;split
 ·exact h
 ·exact h
theorem cP {P:Program} {t e size bytes:Nat} {z:Value} {n c:Int} {k k':IntKind} {F:PH} {Q:Value->Ψ} (ht:P.underlying t=some (.slice e)) (hs:tsz P e=some (size,bytes)) (hz:bP P e=some z) (hzs:z.cells.size=size)
  (h0:0<=n) (hnc:n<=c) (hc:(bytes:Int)*c<=281474976710656) (hc63:c<=9223372036854775807)
  (h:∀b,F b=none->Q (Sl.v ⟨some ⟨b,0,none⟩,n.toNat,c.toNat⟩) (F.set b (.cells (Builtin.zeroCells z.cells c.toNat) e))):
  aG P (Instr.makeSlice t (.int k n) (.int k' c)) F Q:=by
 obtain ⟨i,hi,hti⟩:=fJ hs;have e1:i64.wrap n=n:=aS (by omega) (by omega);have e2:i64.wrap c=c:=aS (by omega) (by omega);simp only [Instr.makeSlice,aA,bW ht,asInt,asIntOf,aN,hti,hi,e1,e2];have hc0:0<=c:=by omega
 have g1:decide (c<0)=false:=by simpa using hc0
 have g2:decide ((bytes:Int)*c>2 ^ 48)=false:=by simp;omega
 have g3:decide (n<0)=false:=by simpa using h0
 have g4:decide (n>c)=false:=by simp;omega
 simp only [g1,g2,g3,g4,WM,Vu,if_false,aA];refine lC ?_;simp only [fo hs];have fin:∀zz:Γ,(Array.range (c.toNat*size)).map (λi=>zz[i % zz.size]!)=Builtin.zeroCells z.cells c.toNat->
   aG P (do let a <- newRow e ((Array.range (c.toNat*size)).map (λi=>zz[i % zz.size]!));pure (Value.slice (some a) n.toNat c.toNat)) F Q:=by
  intro zz hzz;rw [hzz];simp only [newRow,newObj,aA,aG,aN];exact h
 by_cases hn0:c.toNat*size=0
 ·simp only [hn0,if_true];have:=fin #[] (by simp [Builtin.zeroCells,hn0,hzs]);simp only [hn0] at this;exact this
 ·simp only [if_neg hn0,aA,eK hz,aN];exact fin z.cells (by simp [Builtin.zeroCells,hzs])
theorem iR {P:Program} {F:PH} {s:Sl} {size n:Nat} {vs:Ξ} {Q:Γ->Ψ} (h:RdS F s size vs) (hn:n<=s.len) (hq:Q (vs.take (n*size)).toArray F):aG P (Builtin.firstCells size n s.v) F Q:=by
 obtain ⟨base,len,cap⟩:=s;cases base with
 |none=>
  have h0:len=0:=by
   rcases VT len with h0|h0
   ·exact h0
   ·obtain ⟨b,o,h1,_⟩:=h.cells h0;cases h1
  have hn0:n=0:=by simp only at hn;omega
  have:=h.len;simp only [h0,V5,V1] at this;subst this;simpa [Sl.v,Builtin.firstCells] using hq
 |some a=>
  simp only [Sl.v,Builtin.firstCells];have hlen:(vs.take (n*size)).toArray.size=n*size:=by have h1:=h.len;have h2:n*size<=len*size:=V0 _ hn;simp only at h1;rw [Wx,Vb,h1];omega
  refine gU _ _ _ _ ?_ hq;have key:F.row a (vs.take (n*size)).toArray->rdo P (loadCells a (n*size)) F (vs.take (n*size)).toArray:=λhr=>by have:=fc (P:=P) hr;rw [hlen] at this;exact this
  refine key ?_;by_cases hz:n*size=0
  ·intro i hi;rw [hlen,hz] at hi;omega
  ·have:=h.row (a:=a) rfl 0 (vs.take (n*size)).toArray (by rw [hlen];simp);simpa [Addr.add] using this
theorem gj {P:Program} {F:PH} {s x:Sl} {t e size bytes ty:Nat} {z:Value} {olds news:Ξ} {Q:Value->Ψ} (ht:P.underlying t=some (.slice e)) (hsz:tsz P e=some (size,bytes)) (hz:bP P e=some z) (_:z.cells.size=size)
  (ho:RdS F s size olds) (hn:RdS F x size news) (hst:∀v∈news,ak v) (hfit:(s.len+x.len)*bytes<=140737488355328) (hlen:s.len+x.len<=9223372036854775807)
  (h0:x.len*size=0->s.len+x.len<=s.cap->Q (Sl.v ⟨s.base,s.len+x.len,s.cap⟩) F)
  (h1:0<x.len*size->s.len+x.len<=s.cap->∃b o c e',s.base=some ⟨b,o,none⟩/\F b=some (.cells c e' (0,0))/\o+s.len*size+x.len*size<=c.size/\
   Q (Sl.v ⟨s.base,s.len+x.len,s.cap⟩) (F.set b (.cells (wr c (o+s.len*size) news) e')))
  (h2:s.cap<s.len+x.len->∀cap b,s.len+x.len<=cap->F b=none->Q (Sl.v ⟨some ⟨b,0,none⟩,s.len+x.len,cap⟩) (F.set b (.cells (olds.toArray++news.toArray++Builtin.zeroCells z.cells (cap - (s.len+x.len))) e))):
  aG P (Builtin.append_ #[t,t] ty #[s.v,x.v]) F Q:=by
 have hnl:=hn.len;have hol:=ho.len;have hfn:∀Q',Q' news.toArray F->aG P (Builtin.firstCells size x.len x.v) F Q':=λQ' hq=>iR hn (UW _) (by rw [<- hnl,U7];exact hq);have hfo:∀Q',Q' olds.toArray F->aG P (Builtin.firstCells size s.len s.v) F Q':=λQ' hq=>iR ho (UW _) (by rw [<- hol,U7];exact hq);obtain ⟨base,len,cap⟩:=s;obtain ⟨xb,xl,xc⟩:=x;simp only [Builtin.append_,aA,Sl.v,List.getElem?_toArray,List.getElem?_cons_zero,VG,bW ht,Builtin.lenOf,aN,fo hsz,Vu,if_false,Bool.not_false,if_true] at*;obtain ⟨i,hib,hti⟩:=fJ hsz;by_cases hroom:len+xl<=cap
 ·rw [if_pos hroom];simp only [aA];refine hfn _ ?_;by_cases hz0:xl*size=0
  ·have hnil:news=[]:=Vc (by rw [hnl,hz0]);cases base with
   |none=>exact h0 hz0 hroom
   |some a=>simp only [hnil,storeCells,aA,aN];exact h0 hz0 hroom
  ·obtain ⟨b,o,c,e',g1,g2,g3,g4⟩:=h1 (by omega) hroom;cases g1;simp only [aA];refine fF news 0 F _ c _ (by simp) (by simpa using g2) (by simp only [aB];rw [hnl];omega) hst (λhnn=>hz0 (by rw [<- hnl,hnn];rfl)) ?_;simpa using g4
 ·rw [if_neg hroom];simp only [aA,hti]
  rw [if_neg (by
   rintro ⟨ha,hb⟩;have:(i64.max:Int)=9223372036854775807:=by decide
   rw [this] at ha
   omega)]
  have hg:=growslice_fits (need:=len+xl) (old:=cap) (bytes:=bytes) (by omega) hfit;simp only [aA,hti];rw [if_neg (by rw [hib];omega)];simp only [aA,choose];unfold aG;rw [if_neg (by simp [Question.forced])];intro tt;simp only [aG,hti];refine lC ?_;refine hfo _ ?_;refine hfn _ ?_;simp only [eK hz,newRow,newObj,aA,aG,aN];intro b hb;exact h2 (by omega) _ b (by simp only [Question.cut];omega) hb
end Go.Proofs.YtcemhghkipgdiaaGreatDoor
namespace Go.Proofs.YtcemhghkipgdiaaGreatDoor
open Go.IntKind (i64 u8 u64)
open Go Go.ChangeShapes Go.WideShapes Go.ChangeAt Go.RowKit
def hF (W:World):PH:=λb=>W.heap[b]?
theorem AW {W:World} {a:Addr} {v:Value} (h:W.cell? a=some v):(hF W).cell a=some v:=h
theorem sL {P:Program} {f:FuncId} {args:Γ} {W:World} (h:ai P f args (hF W) λv F'=>v=.bool true/\(hF W).le F'):
  Calls P f args W λe W'=>e=.returned (.bool true)/\Below W.heap.size W W':=by
 refine (h ⟨W.os,W.tape,W.output,λ_=>Option.none⟩ W ⟨rfl,rfl,rfl,λb o hb=>hb,λb o hb=>(by cases hb)⟩).mono ?_;rintro e W' ⟨v,F',rfl,hs,rfl,hle⟩;have key:∀(k:Nat) (o:Obj),W.heap[k]? =some o->W'.heap[k]? =some o:=λk o hk=>hs.heap k o (hle k o hk);refine ⟨rfl,hs.os,hs.tape,hs.output,?_,λk hk=> ?_⟩
 ·rcases VT W.heap.size with h0|h0
  ·omega
  ·have h1:=key (W.heap.size - 1) _ (Vk (by omega));have h2:=(Array.getElem?_eq_some_iff.1 h1).1;omega
 ·rw [Vk hk];exact key k _ (Vk hk)
section
variable {H:Type} {enc:TypeId×Value->H} {P:Program} {W W':World}
theorem kg (hl:laidOutB P=true) {sp:Nat->Bool} (hb:Below W.heap.size W W'):∀{ts:List TypeId} {vs:Ξ} {ds:List (DataW H)} {ps:List MemPlace},
  ts.all (λt=>P.readableRec t && decide (t<P.types.size))=true->DataW.TrodAll enc P W 0 (λ_=>true) true ts vs ds ps->(∀x∈ps,x.block<W.heap.size)->(∀x∈ps,sp x.block=true)->DataW.TrodAll enc P W' 0 sp true ts vs ds ps
 |[],vs,ds,ps,_,h,_,_=>by obtain ⟨rfl,rfl,rfl⟩:=trodAll_nil h;rfl
 |t::ts,vs,ds,ps,ha,h,hlt,hsp=>by
  obtain ⟨v,vs',d,ds',p,q,rfl,rfl,rfl,h1,h2⟩:=trodAll_cons h;rw [WC,VB,VB,decide_eq_true_eq] at ha;obtain ⟨⟨hr,hrow⟩,ha⟩:=ha
  exact ⟨p,q,WideElems.Trod_stays hl hr hrow h1 (λx hx=>hb.same (hlt x (Wz _ hx))) (λx hx=>hsp x (Wz _ hx)),
   kg hl hb ha h2 (λx hx=>hlt x (List.mem_append_right _ hx)) (λx hx=>hsp x (List.mem_append_right _ hx)),rfl⟩
theorem CP {f:Func} {s:ChangeSpec} {args:Γ} {ds gs:List (DataW H)} {before:List MemPlace} {tb:TypeId} {fresh:Bool}
  (hl:laidOutB P=true) (hv:s.vars=[]) (hW:DataW.Whole enc P f.params.toList s.vars false W args.toList ds gs before) (hall:f.params.toList.all (λt=>P.readableRec t && decide (t<P.types.size))=true)
  (hr:f.resultTypes= #[tb]) (htb:P.underlying tb=some .bool) (hb:Below W.heap.size W W')
  (hs:s.fn H (ds++gs)={results:=[.lit (.bool true)],args:=ds}):
  s.post enc P f false fresh false false W args (.bool true) W':=by
 have hW':=hW;obtain ⟨p,q,hA,hV,rfl,_,_⟩:=hW;rw [hv] at hV;obtain ⟨rfl,rfl⟩:=trodVars_none hV;have hlt:∀x∈p,x.block<W.heap.size:=λx hx=>by simpa using hW'.lt x (Wz _ hx)
 refine ⟨ds,[],p++[],[],p,[],hW',?_,?_,?_,hb.frame _,λh=>by cases h⟩
 ·rw [hs,hr];exact trodAll_cons_mk (shut_bool htb _) trodAll_mk0
 ·rw [hs];exact kg hl hb hall hA hlt (λx hx=>by simpa using hlt x hx)
 ·rw [hs,hv];rfl
end
set_option maxRecDepth 10000
def bt (f:Nat->Bool):Nat->Nat
 |0=>0
 |n+1=>2 ^ n*(if f n then 1 else 0)+bt f n
theorem qH (f:Nat->Bool):∀n,bt f n<2 ^ n
 |0=>by simp [bt]
 |n+1=>by have:=qH f n;unfold bt;rw [WA];split<;>omega
theorem uW (f:Nat->Bool):∀n j,(bt f n).testBit j=(decide (j<n) && f j)
 |0,j=>by simp [bt]
 |n+1,j=>by
  unfold bt;rw [VQ _ (qH f n)];split
  ·rename_i h;rw [uW f n j];simp [h,show j<n+1 by omega]
  ·rename_i h;by_cases hj:j=n
   ·subst hj;cases f j<;>simp
   ·have:j - n≠0:=by omega
    rw [show decide (j<n+1)=false by simp;omega];split
    ·have:=WE (n:=0) (m:=j - n);rw [Nat.pow_zero] at this;rw [this];simp;omega
    ·simp
theorem tN {x n:Nat} {f:Nat->Bool} (hx:x<2 ^ n) (h:∀j,j<n->x.testBit j=f j):x=bt f n:=
 Nat.eq_of_testBit_eq λj=>by
  rw [uW];by_cases hj:j<n
  ·rw [h j hj];simp [hj]
  ·rw [VJ (Wr hx (Vq (by omega) (by omega)))];simp [hj]
theorem D7 {n:Nat} {f g:Nat->Bool} (h:∀j,j<n->f j=g j):bt f n=bt g n:=
 tN (qH f n) λj hj=>by rw [uW,h j hj];simp [hj]
def wd (P:Nat->Bool) (k:Nat):Nat:=bt (λj=>P (64*k+j)) 64
theorem oq (P:Nat->Bool) (k:Nat):wd P k<18446744073709551616:=qH _ 64
theorem im (P:Nat->Bool) (k:Nat) {j:Nat} (hj:j<64):(wd P k).testBit j=P (64*k+j):=by unfold wd;rw [uW];simp [hj]
theorem uX (k:Nat):wd (λ_=>false) k=0:=(tN (x:=0) (by decide) λj _=>by simp).symm
theorem NW (P Q:Nat->Bool) (k:Nat):wd (λi=>P i || Q i) k=wd P k ||| wd Q k:=
 (tN (x:=wd P k ||| wd Q k) (Nat.or_lt_two_pow (qH _ 64) (qH _ 64)) λj hj=>by rw [Nat.testBit_or,im P k hj,im Q k hj]).symm
theorem L5 (P Q:Nat->Bool) (k:Nat):wd (λi=>P i && Q i) k=wd P k &&& wd Q k:=
 (tN (x:=wd P k &&& wd Q k) (Nat.and_lt_two_pow _ (qH _ 64)) λj hj=>by rw [Nat.testBit_and,im P k hj,im Q k hj]).symm
theorem io {P:Nat->Bool} {k:Nat}:wd P k=0↔∀j,j<64->P (64*k+j)=false:=by
 constructor
 ·intro h j hj;have:=im P k hj;rw [h] at this;simpa using this.symm
 ·intro h;exact (tN (x:=0) (by decide) λj hj=>by rw [h j hj];simp).symm
theorem lH {x:Int} (h1:0<=x) (h2:x<18446744073709551616):u64.wrap x=x:=by unfold IntKind.wrap;simp only [IntKind.bits,IntKind.signed];simp only [WI,Vu,if_false];omega
theorem AX {a:Nat} (h:a<18446744073709551616):(BitVec.ofInt (u64).bits (a:Int)).toNat=a:=by
 rw [BitVec.toNat_ofInt];show ((a:Int) % ((2 ^ 64:Nat):Int)).toNat=a;have:((2 ^ 64:Nat):Int)=18446744073709551616:=by decide
 rw [this];omega
theorem D8 {a b:Nat} (ha:a<18446744073709551616) (hb:b<18446744073709551616):u64.wrap ((BitVec.ofInt (u64).bits (a:Int) ||| BitVec.ofInt (u64).bits (b:Int)).toNat)=((a ||| b:Nat):Int):=by rw [BitVec.toNat_or,AX ha,AX hb];have:a ||| b<2 ^ 64:=Nat.or_lt_two_pow ha hb;exact lH (by omega) (by omega)
theorem uY {a b:Nat} (ha:a<18446744073709551616) (hb:b<18446744073709551616):u64.wrap ((BitVec.ofInt (u64).bits (a:Int) &&& BitVec.ofInt (u64).bits (b:Int)).toNat)=((a &&& b:Nat):Int):=by rw [BitVec.toNat_and,AX ha,AX hb];have:a &&& b<2 ^ 64:=Nat.and_lt_two_pow _ hb;exact lH (by omega) (by omega)
def Low (x t:Nat):Prop:=∃m,x=2 ^ (t+1)*m+2 ^ t
theorem Low.of {x t:Nat} (h1:x.testBit t=true) (h2:∀j,j<t->x.testBit j=false):Low x t:=by
 refine ⟨x / 2 ^ (t+1),Nat.eq_of_testBit_eq λj=> ?_⟩;rw [VQ _ (WB (by omega) (by omega))];split
 ·rename_i h;rw [WE];by_cases hj:j=t
  ·subst hj;rw [h1];simp
  ·rw [h2 j (by omega)];simp;omega
 ·rw [Nat.testBit_div_two_pow];congr 1;omega
theorem Low.pos {x t:Nat} (h:Low x t):0<x:=by obtain ⟨m,rfl⟩:=h;have:=Nat.two_pow_pos t;omega
theorem Low.clear {x t:Nat} (h:Low x t) (j:Nat):(x &&& (x - 1)).testBit j=(x.testBit j && decide (j≠t)):=by
 obtain ⟨m,rfl⟩:=h;have hp:=Nat.two_pow_pos t;have e:2 ^ (t+1)*m+2 ^ t - 1=2 ^ (t+1)*m+(2 ^ t - 1):=by omega
 have l1:2 ^ t<2 ^ (t+1):=WB (by omega) (by omega);rw [e,Nat.testBit_and,VQ _ l1,VQ _ (by omega)];split
 ·rw [WE,Nat.testBit_two_pow_sub_one];by_cases hj:t=j
  ·subst hj;simp
  ·simp [hj]
 ·rename_i h;rw [Bool.and_self];simp;omega
theorem Low.neg {x t:Nat} (h:Low x t) (hx:x<2 ^ 64):x &&& (2 ^ 64 - x)=2 ^ t:=by
 have ht:t<64:=by
  rcases Nat.lt_or_ge t 64 with h1|h1
  ·exact h1
  ·obtain ⟨m,rfl⟩:=h;have:=Vq (n:=2) (by omega) h1;omega
 obtain ⟨m,rfl⟩:=h;have hp:=Nat.two_pow_pos t;have l1:2 ^ t<2 ^ (t+1):=WB (by omega) (by omega);have e64:(2:Nat) ^ 64=2 ^ (t+1)*2 ^ (63 - t):=by rw [<- Nat.pow_add];congr 1;omega
 have hm:m<2 ^ (63 - t):=by
  rcases Nat.lt_or_ge m (2 ^ (63 - t)) with h1|h1
  ·exact h1
  ·have:=Nat.mul_le_mul_left (2 ^ (t+1)) h1;omega
 have e:2 ^ 64 - (2 ^ (t+1)*m+2 ^ t)=2 ^ (t+1)*(2 ^ (63 - t) - (m+1))+2 ^ t:=by
  have h2:2 ^ (t+1)=2 ^ t+2 ^ t:=by rw [WA];omega
  have:2 ^ (t+1)*(2 ^ (63 - t) - (m+1))=2 ^ (t+1)*2 ^ (63 - t) - 2 ^ (t+1)*(m+1):=Nat.mul_sub _ _ _;rw [this,<- e64,Nat.mul_add,Vs];have:2 ^ (t+1)*m+2 ^ (t+1)<=2 ^ 64:=by rw [e64];have:=Nat.mul_le_mul_left (2 ^ (t+1)) (show m+1<=2 ^ (63 - t) by omega);rw [Nat.mul_add,Vs] at this;exact this
  omega
 rw [e];refine Nat.eq_of_testBit_eq λj=> ?_;rw [Nat.testBit_and,VQ _ l1,VQ _ l1,WE];split
 ·rw [Bool.and_self]
 ·rename_i h;rw [Nat.testBit_two_pow_sub_succ hm];have:decide (t=j)=false:=by simp;omega
  rw [this];cases m.testBit (j - (t+1))<;>simp
def xj:Δ:=[0,1,56,2,57,49,28,3,61,58,42,50,38,29,17,4,62,47,59,36,45,43,51,22,53,39,33,30,24,18,12,5,63,55,48,27,60,41,37,16,46,35,44,21,52,32,23,11,54,26,40,15,34,20,31,10,25,14,19,9,13,8,7,6]
theorem NX:∀t,t<64->(2 ^ t*285870213051353865 % 18446744073709551616) / 288230376151711744<64/\xj[(2 ^ t*285870213051353865 % 18446744073709551616) / 288230376151711744]? =some t:=by decide
section
variable {P:Program} {F:PH} {E:En} {o:Oper} {x y:Operand} {t t':TypeId}
theorem ot {op:BinOp} {c d:Γ} (h:P.eqGuardType P.depth t=false):rdo P (eqGuard op t x y (.agg c) (.agg d)) F ():=by cases op<;>simp [eqGuard,program,aj,rdo,h]
theorem HM {c d:Γ} {r:Bool} (ho:o.op=.binOp .eql t x y t') (hx:ev E x=.agg c) (hy:ev E y=.agg d) (hg:P.eqGuardType P.depth t=false) (he:rdo P (Op.equal t (.agg c) (.agg d)) F r):
  RD P E F o (.bool r):=pc ho hx hy (ot hg) he rfl
theorem HN {c d:Γ} {r:Bool} (ho:o.op=.binOp .neq t x y t') (hx:ev E x=.agg c) (hy:ev E y=.agg d) (hg:P.eqGuardType P.depth t=false) (he:rdo P (Op.equal t (.agg c) (.agg d)) F r):
  RD P E F o (.bool (!r)):=pd ho hx hy (ot hg) he rfl
end
section
end
section
variable {K:Type} [DecidableEq K]
structure ou (P:Program) (kt:TypeId) (enc:K->Value):Prop where
 eq:∀F a b,rdo P (Op.equal kt (enc a) (enc b)) F (decide (a=b))
 chk:∀F e a,rdo P (Instr.checkKey e 10000 kt (enc a)) F ()
 same:∀a,Instr.sameBits 10000 (enc a) (enc a)=true
 kind:∃d,P.underlying kt=some d/\((∀a b,Instr.sameNow d (enc a) (enc b)=some (decide (a=b)))\/∀a b,Instr.sameNow d (enc a) (enc b)=none)
structure fY (P:Program) (mt:TypeId) (enc:K->Value) (z:Value):Prop where
 ex:∃kt e,P.underlying mt=some (.map kt e)/\bP P e=some z/\ou P kt enc
def lk (k:K):List (K×Value)->Option Value
 |[]=>none
 |p::r=>if k=p.1 then some p.2 else lk k r
def fnd (k:K):List (K×Value)->Nat->Option (Nat×Value)
 |[],_=>none
 |p::r,i=>if k=p.1 then some (i,p.2) else fnd k r (i+1)
def upL (k:K) (v:Value):List (K×Value)->List (K×Value)
 |[]=>[(k,v)]
 |p::r=>if k=p.1 then (k,v)::r else p::upL k v r
theorem yH (k k':K) (v:Value):∀(L:List (K×Value)),lk k' (upL k v L)=if k'=k then some v else lk k' L
 |[]=>rfl
 |p::r=>by
  unfold upL;split
  ·rename_i h;simp only [lk];split
   ·rfl
   ·rename_i hn;rw [if_neg (by rw [<- h];exact hn)]
  ·rename_i h;simp only [lk,yH k k' v r];split
   ·rename_i h2;rw [if_neg (by rintro rfl;exact h h2)]
   ·rfl
theorem lI (k:K) (v:Value):∀(L:List (K×Value)) (i:Nat),fnd k L i=none->lk k L=none/\upL k v L=L++[(k,v)]
 |[],_,_=>⟨rfl,rfl⟩
 |p::r,i,h=>by
  unfold fnd at h;split at h
  ·cases h
  ·rename_i hn;obtain ⟨h1,h2⟩:=lI k v r _ h;exact ⟨by unfold lk;rw [if_neg hn,h1],by unfold upL;rw [if_neg hn,h2];rfl⟩
theorem lJ (k:K) (v:Value):∀(L:List (K×Value)) (i j:Nat) (w:Value),fnd k L i=some (j,w)->∃d,j=i+d/\d<L.length/\L[d]? =some (k,w)/\lk k L=some w/\upL k v L=L.set d (k,v)
 |[],_,_,_,h=>by cases h
 |p::r,i,j,w,h=>by
  unfold fnd at h;split at h
  ·rename_i hp;cases h;refine ⟨0,rfl,by simp,?_,by unfold lk;rw [if_pos hp],by unfold upL;rw [if_pos hp];rfl⟩;subst hp;rfl
  ·rename_i hn;obtain ⟨d,h1,h2,h3,h4,h5⟩:=lJ k v r _ _ _ h;exact ⟨d+1,by omega,by simp only [Vf];omega,by simpa using h3,by unfold lk;rw [if_neg hn,h4],by unfold upL;rw [if_neg hn,h5];rfl⟩
def eH (enc:K->Value) (m:K->Option Value) (o:Obj):Prop:=
 ∃(es:Array MapEntry) (c:Nat) (L:List (K×Value)),o=.map es c/\es.toList.map (λe=>(e.key,e.val))=L.map (λp=>(enc p.1,p.2))/\∀k,m k=lk k L
theorem eH.empty (enc:K->Value):eH enc (λ_=>none) (.map #[] 0):=⟨#[],0,[],rfl,rfl,λ_=>rfl⟩
theorem eH.not_cells {enc:K->Value} {m:K->Option Value} {o:Obj} (h:eH enc m o):∀c e fr,o≠.cells c e fr:=by obtain ⟨es,c,L,rfl,_⟩:=h;intro c e fr h;cases h
variable {P:Program} {F:PH} {kt mt:TypeId} {enc:K->Value} {z:Value}
theorem jm (hk:ou P kt enc) (k:K):∀(es:List MapEntry) (L:List (K×Value)) (i:Nat),es.map (λe=>(e.key,e.val))=L.map (λp=>(enc p.1,p.2))->
  rdo P (Instr.findAsking kt (enc k) es i) F (fnd k L i)
 |[],[],_,_=>rfl
 |[],_::_,_,h=>by cases h
 |_::_,[],_,h=>by cases h
 |e::es,p::L,i,h=>by
  simp only [Vi,List.cons.injEq,WN] at h;obtain ⟨⟨h1,h2⟩,h3⟩:=h;simp only [Instr.findAsking,aj];refine ⟨_,by rw [h1];exact hk.eq F k p.1,?_⟩;unfold fnd;by_cases hp:k=p.1
  ·simp [hp,h2]
  ·simpa [hp] using jm hk k es L (i+1) h3
theorem qI {d:TypeDesc} (hs:∀a b,Instr.sameNow d (enc a) (enc b)=some (decide (a=b))) (k:K):∀(es:List MapEntry) (L:List (K×Value)) (i:Nat),es.map (λe=>(e.key,e.val))=L.map (λp=>(enc p.1,p.2))->
  Instr.findNow d (enc k) es i=some (fnd k L i)
 |[],[],_,_=>rfl
 |[],_::_,_,h=>by cases h
 |_::_,[],_,h=>by cases h
 |e::es,p::L,i,h=>by
  simp only [Vi,List.cons.injEq,WN] at h;obtain ⟨⟨h1,h2⟩,h3⟩:=h;simp only [Instr.findNow,h1,hs];unfold fnd;by_cases hp:k=p.1
  ·simp [hp,h2]
  ·simpa [hp] using qI hs k es L (i+1) h3
theorem gl (hk:ou P kt enc) (k:K) (es:List MapEntry) (L:List (K×Value)) (h:es.map (λe=>(e.key,e.val))=L.map (λp=>(enc p.1,p.2))):
  rdo P (Instr.findKey kt (enc k) es) F (fnd k L 0):=by
 obtain ⟨d,hd,hs⟩:=hk.kind;unfold Instr.findKey;simp only [aj];refine ⟨d,(az hd _).2 rfl,?_⟩;rcases hs with hs|hs
 ·rw [qI hs k es L 0 h];rfl
 ·cases es with
  |nil=>
   cases L with
   |nil=>rfl
   |cons _ _=>cases h
  |cons e es=>
   cases L with
   |nil=>cases h
   |cons p L=>
    have h1:e.key=enc p.1:=by simp only [Vi,List.cons.injEq,WN] at h;exact h.1.1
    have:Instr.findNow d (enc k) (e::es) 0=none:=by simp only [Instr.findNow,h1,hs]
    rw [this];exact jm hk k _ _ 0 h
theorem bL (hm:fY P mt enc z) {r:Nat} {o:Obj} {m:K->Option Value} (hr:F r=some o) (ho:eH enc m o) (k:K) (ok:Bool):
  rdo P (Instr.lookup mt (.map (some r)) (enc k) ok) F (if ok then .tuple #[(m k).getD z,.bool (m k).isSome] else (m k).getD z):=by
 obtain ⟨kt,e,h1,h2,hk⟩:=hm.ex;have hnc:=ho.not_cells;obtain ⟨es,c,L,rfl,h3,h4⟩:=ho;have hf:=λw=>lJ k w L 0;have hn:=lI k z L 0;unfold Instr.lookup;simp only [aj];refine ⟨_,(az h1 _).2 rfl,?_⟩;simp only [aj];refine ⟨_,⟨_,hr,hnc,rfl⟩,?_⟩;simp only [aj];refine ⟨es,rfl,(),hk.chk F _ k,?_⟩;cases hfd:fnd k L 0 with
 |none=>refine ⟨_,gl hk k _ _ h3,?_⟩;rw [hfd];simp only [aj];refine ⟨z,(gC h2 _).2 rfl,_,rfl,?_⟩;rw [h4,(hn hfd).1];rfl
 |some q=>obtain ⟨j,v⟩:=q;obtain ⟨d,_,_,_,h5,_⟩:=hf z j v hfd;refine ⟨_,gl hk k _ _ h3,?_⟩;rw [hfd];simp only [aj];refine ⟨_,rfl,?_⟩;rw [h4,h5];rfl
theorem aX (hm:fY P mt enc z) {r:Nat} {o:Obj} {m:K->Option Value} (hr:F r=some o) (ho:eH enc m o) (k:K) (v:Value) {Q:Unit->Ψ}
  (h:∀o',eH enc (λk'=>if k'=k then some v else m k') o'->Q () (F.set r o')):aG P (Instr.mapUpdate mt (.map (some r)) (enc k) v) F Q:=by
 obtain ⟨kt,e,h1,h2,hk⟩:=hm.ex;have hnc:=ho.not_cells;obtain ⟨es,c,L,rfl,h3,h4⟩:=ho;have hf:=lJ k v L 0;have hn:=lI k v L 0;unfold Instr.mapUpdate;simp only [aA,bW h1];refine ⟨_,hr,hnc,?_⟩;rw [show (Sem.pure (Obj.map es c):Sem Obj)=pure (Obj.map es c) from rfl];simp only [aN,aA];refine gU _ _ _ _ (hk.chk F _ k) ?_;refine gU _ _ _ _ (gl hk k _ _ h3) ?_;have hmm:∀k',(if k'=k then some v else m k')=lk k' (upL k v L):=λk'=>by rw [yH,h4]
 cases hfd:fnd k L 0 with
 |none=>refine ⟨_,hr,hnc,h _ ⟨_,_,upL k v L,rfl,?_,hmm⟩⟩;rw [(hn hfd).2];simp [h3]
 |some q=>
  obtain ⟨j,w⟩:=q;obtain ⟨d,hj,hd,h5,h6,h7⟩:=hf j w hfd;obtain rfl:j=d:=by omega
  have hlen:es.size=L.length:=by simpa using congrArg List.length h3
  have hkey:(es[j]?.map (·.key)).getD (enc k)=enc k:=by
   have:=congrArg (λl=>l[j]?) h3;simp only [U5,h5,VD] at this;have hj2:j<es.size:=by omega
   simp [hj2] at this ⊢;exact this.1
  simp only [aA,hkey,Instr.keyThatStays,hk.same,if_true,aN];refine ⟨_,hr,hnc,h _ ⟨_,_,upL k v L,rfl,?_,hmm⟩⟩;rw [h7];apply VI;intro i;have h3i:=congrArg (λl=>l[i]?) h3;simp only [U5] at h3i;simp only [Array.toList_modify,U5,Wg,V6];by_cases hi:j=i
  ·subst hi;have hj2:j<es.toList.length:=by simpa [hlen] using hd
   rw [N5 hj2];simp [hd]
  ·simp only [hi,if_false];simpa using h3i
end
theorem st1 {F:PH} {b o:Nat} {v:Value} {c:Γ} {e:TypeId} {K:Ψ} (h:F b=some (.cells c e (0,0))) (hl:o<c.size) (k:K (F.set b (.cells (c.setIfInBounds o v) e))):
  ∃c e,F (Addr.mk b o none).block=some (.cells c e (0,0))/\(Addr.mk b o none).spot=none/\(Addr.mk b o none).off<c.size/\
   atF (F.set (Addr.mk b o none).block (.cells (c.setIfInBounds (Addr.mk b o none).off v) e)) K:=⟨c,e,h,rfl,hl,k⟩
theorem oR {F:PH} {A:Addr} {b o:Nat} {v:Value} {c:Γ} {e:TypeId} {K:Ψ} (hA:A=⟨b,o,none⟩) (h:F b=some (.cells c e (0,0))) (hl:o<c.size) (k:K (F.set b (.cells (c.setIfInBounds o v) e))):
  ∃c e,F A.block=some (.cells c e (0,0))/\A.spot=none/\A.off<c.size/\atF (F.set A.block (.cells (c.setIfInBounds A.off v) e)) K:=by
 subst hA;exact st1 h hl k
theorem D9 {c d:Γ} (h:c.size=d.size):wr c 0 d.toList=d:=by
 apply Array.ext
 ·rw [dW,h]
 ·intro i h1 h2;have:=u6 d.toList c 0 i (by simp [h]);rw [if_pos (by simp;omega)] at this;simp only [We] at this;rw [Vk h1] at this;simp at this;rw [Vk h2] at this;exact Vl this
theorem stW {F:PH} {b n:Nat} {v c:Γ} {e:TypeId} {K:Ψ} (h:F b=some (.cells c e (0,0))) (hs:v.size=n) (hc:c.size=n) (hst:∀x∈v.toList,ak x) (k:K (F.set b (.cells v e))):
  v.size=n/\(∀x∈v.toList,ak x)/\∃c e,F (Addr.mk b 0 none).block=some (.cells c e (0,0))/\(Addr.mk b 0 none).spot=none/\(Addr.mk b 0 none).off+n<=c.size/\
   atF (F.set (Addr.mk b 0 none).block (.cells (wr c (Addr.mk b 0 none).off v.toList) e)) K:=
 ⟨hs,hst,c,e,h,rfl,by simp [hc],by
  unfold atF;rw [show (Addr.mk b 0 none).off=0 from rfl,D9 (by rw [hc,hs])]
  exact k⟩
theorem zc1 (v:Value) (h:v.cells= #[v]) (n:Nat):Builtin.zeroCells v.cells n=(List.replicate n v).toArray:=by
 rw [pe _ (by rw [h];rfl),h];congr 1;induction n with
 |zero=>rfl
 |succ n ih=>simp [List.replicate_succ,ih]
theorem NY {n:Nat} (h:n<=9223372036854775807):i64.wrap (n:Int)=n:=aS (by omega) (by omega)
theorem i6 {n:Nat} (h:n<9223372036854775807):i64.wrap ((n:Int)+1)=((n+1:Nat):Int):=by rw [aS (by omega) (by omega)];omega
theorem dV (vs:Ξ):∀(c:Ξ) (o:Nat),o+vs.length<=c.length->wr c.toArray o vs=(c.take o++vs++c.drop (o+vs.length)).toArray:=by
 intro c o h;apply Array.ext
 ·rw [dW];simp;omega
 ·intro i h1 h2;have:=u6 vs c.toArray o i (by simpa using h);rw [Vk h1] at this;rw [dW] at h1;simp only [Wx] at h1;have h3:(c.take o++vs++c.drop (o+vs.length)).toArray[i]=(c.take o++vs++c.drop (o+vs.length))[i]'(by simpa using h2):=by simp
  rw [h3];apply Vl;rw [<- N5,this];by_cases hi:i<o
  ·rw [if_neg (by omega),Vo,U9 (by simp;omega)];simp [hi]
  ·by_cases hj:i<o+vs.length
   ·rw [if_pos ⟨by omega,hj⟩,U9 (by simp;omega),Vn (by simp;omega)];simp;congr 1;omega
   ·rw [if_neg (by omega),Vn (by simp;omega)];simp;congr 1;omega
def cf (F:PH) (e size:Nat) (s:Sl) (vs:Ξ):Prop:=
 (s=Sl.nil/\vs=[])\/∃b cur,s.base=some ⟨b,0,none⟩/\F b=some (.cells cur e (0,0))/\cur.size=s.cap*size/\s.len<=s.cap/\vs.length=s.len*size/\cur.toList.take (s.len*size)=vs
theorem cf.rd {F:PH} {e size:Nat} {s:Sl} {vs:Ξ} (h:cf F e size s vs):RdS F s size vs:=by
 rcases h with ⟨rfl,rfl⟩|⟨b,cur,h1,h2,h3,h4,h5,h6⟩
 ·exact RdS.nil F size
 ·obtain ⟨base,len,cap⟩:=s;cases h1;exact RdS.new h2 h6 h5 h4
theorem cf.keep {F G:PH} {e size:Nat} {s:Sl} {vs:Ξ} (h:cf F e size s vs) (hk:∀a,s.base=some a->G a.block=F a.block):cf G e size s vs:=by
 rcases h with h|⟨b,cur,h1,h2,h3⟩
 ·exact .inl h
 ·exact .inr ⟨b,cur,h1,(hk _ h1).trans h2,h3⟩
theorem qJ {F:PH} {s x:Sl} {t e size bytes ty:Nat} {z:Value} {P:Program} {olds news:Ξ} {Q:Value->Ψ} (ht:P.underlying t=some (.slice e)) (hsz:tsz P e=some (size,bytes)) (hz:bP P e=some z) (hzs:z.cells.size=size) (hs0:0<size)
  (ho:cf F e size s olds) (hn:RdS F x size news) (hx:0<x.len) (hst:∀v∈news,ak v) (hfit:(s.len+x.len)*bytes<=140737488355328) (hlen:s.len+x.len<=9223372036854775807)
  (h:∀s' F' b o,F'=F.set b o->cf F' e size s' (olds++news)->s'.len=s.len+x.len->(∀a,s'.base=some a->a.block=b)->((∃a,s.base=some a/\a.block=b)\/F b=none)->Q s'.v F'):
  aG P (Builtin.append_ #[t,t] ty #[s.v,x.v]) F Q:=by
 have hpos:0<x.len*size:=Nat.mul_pos hx hs0;have hol:=ho.rd.len;refine gj ht hsz hz hzs ho.rd hn hst hfit hlen (λh0=>by omega) ?_ ?_
 ·intro _ hroom;rcases ho with ⟨rfl,rfl⟩|⟨b,cur,h1,h2,h3,h4,h5,h6⟩
  ·simp [Sl.nil] at hroom;omega
  ·have hle:s.len*size+x.len*size<=cur.size:=by rw [h3,<- Wy];exact V0 _ hroom
   refine ⟨b,0,cur,e,h1,h2,by omega,?_⟩;refine h ⟨_,_,_⟩ _ b _ rfl (.inr ⟨b,_,h1,al _ _ _,by rw [dW,h3],hroom,by simp [h5,hn.len,Wy],?_⟩) rfl (λa ha=>by rw [h1] at ha;cases ha;rfl) (.inl ⟨_,h1,rfl⟩);simp only [Vd];have hw:=dV news cur.toList (s.len*size) (by simp [hn.len];omega);rw [show cur.toList.toArray=cur by simp] at hw;rw [hw];simp only;rw [h6,Wy];rw [Vg (by simp [h5,hn.len]),UZ (by simp [h5,hn.len])]
 ·intro hgt cap b hc hb;refine h ⟨_,_,_⟩ _ b _ rfl (.inr ⟨b,_,rfl,al _ _ _,?_,hc,by simp [hol,hn.len,Wy],?_⟩) rfl (λa ha=>by cases ha;rfl) (.inr hb)
  ·simp [Builtin.zeroCells,hzs,hol,hn.len];rw [<- Wy,<- Wy];congr 1;omega
  ·simp only [List.append_toArray,Array.toList_append];rw [Vg (by simp [hol,hn.len,Wy]),UZ (by simp [hol,hn.len,Wy])]
theorem ow {F:PH} {s x:Sl} {t e size bytes ty:Nat} {z:Value} {P:Program} {olds news:Ξ} {Q:Value->Ψ} (ht:P.underlying t=some (.slice e)) (hsz:tsz P e=some (size,bytes)) (hz:bP P e=some z) (hzs:z.cells.size=size)
  (ho:cf F e size s olds) (hn:RdS F x size news) (hx:x.len=0) (hfit:s.len*bytes<=140737488355328) (hlen:s.len<=9223372036854775807)
  (h:Q s.v F):aG P (Builtin.append_ #[t,t] ty #[s.v,x.v]) F Q:=by
 have hnil:news=[]:=Vc (by rw [hn.len,hx,V5]);subst hnil;refine gj ht hsz hz hzs ho.rd hn (by simp) (by rw [hx];exact hfit) (by rw [hx];exact hlen) (λ_ _=> ?_) (λh1=> ?_) (λh1=> ?_)
 ·rw [hx];exact h
 ·rw [hx] at h1;simp at h1
 ·have:=ho.rd.cap;omega
theorem lK {F0 F:PH} {s x:Sl} {t e size bytes ty:Nat} {z:Value} {P:Program} {olds news:Ξ} {Q:Value->Ψ} (ht:P.underlying t=some (.slice e)) (hsz:tsz P e=some (size,bytes)) (hz:bP P e=some z) (hzs:z.cells.size=size) (hs0:0<size)
  (hle:F0.le F) (ho:cf F e size s olds) (hnew:∀a,s.base=some a->F0 a.block=none) (hn:RdS F x size news) (hst:∀v∈news,ak v) (hfit:(s.len+x.len)*bytes<=140737488355328) (hlen:s.len+x.len<=9223372036854775807)
  (h:∀s' F',F0.le F'->cf F' e size s' (olds++news)->s'.len=s.len+x.len->(∀a,s'.base=some a->F0 a.block=none)->cO (λb=>∃a,s.base=some a/\a.block=b) F F'->(∀a,s'.base=some a->(∃a',s.base=some a'/\a'.block=a.block)\/F a.block=none)->Q s'.v F'):
  aG P (Builtin.append_ #[t,t] ty #[s.v,x.v]) F Q:=by
 by_cases h0:x.len=0
 ·have hnil:news=[]:=Vc (by rw [hn.len,h0,V5]);refine ow ht hsz hz hzs ho hn h0 (by rw [h0] at hfit;exact hfit) (by omega) ?_;refine h s F hle (by rw [hnil,Vx];exact ho) (by omega) hnew (cO.refl _ _) (λa ha=> .inl ⟨a,ha,rfl⟩)
 ·refine qJ ht hsz hz hzs hs0 ho hn (by omega) hst hfit hlen ?_;rintro s' F' b ob rfl ho' hl' hbase hb;have hb0:F0 b=none:=by
   rcases hb with ⟨a,ha,rfl⟩|hb
   ·exact hnew a ha
   ·exact aT hle hb
  refine h s' _ (λy o hy=> ?_) ho' hl' (λa ha=>by rw [hbase a ha];exact hb0) (λy o hy hn=> ?_) (λa ha=> ?_)
  ·rw [av _ _ (λe=>by rw [e,hb0] at hy;cases hy)];exact hle _ _ hy
  ·rw [av]
   ·exact hy
   ·rintro rfl;rcases hb with hb|hb
    ·exact hn hb
    ·rw [hb] at hy;cases hy
  ·rw [hbase a ha];exact hb
theorem ac {F:PH} {b e:Nat} {c:Γ} {fr:Nat×Nat} (h:F b=some (.cells c e fr)):F.row (Addr.mk b 0 none) c:=by intro i hi;rw [aB,am h];simp
theorem aw {F0 F:PH} {b:Nat} {o:Obj} (h:F0.le F) (hb:F0 b=none):F0.le (F.set b o):=λy o' hy=>by rw [av _ _ (λe=>by rw [e,hb] at hy;cases hy)];exact h _ _ hy
theorem ai.upon {P:Program} {f:FuncId} {args:Γ} {F F2:PH} {R:Value->Ψ} (h:ai P f args F R) (hle:F.le F2):
  ai P f args F2 λv F'=>∃G,R v G/\G.le F'/\∀b o,F b=none->F2 b=some o->F' b=some o/\G b=none:=by
 have e:F2=F.and (λb=>if (F b).isNone then F2 b else none):=by
  funext b;cases hf:F b with
  |some o=>rw [PH.and_left hf];exact hle b o hf
  |none=>rw [PH.and_right hf];simp [hf]
 have hb:=h.beside (H:=λb=>if (F b).isNone then F2 b else none) (λb o hb=>by
  cases hf:F b with
  |some o'=>simp [hf] at hb
  |none=>rfl)
 rw [<- e] at hb;refine hb.mono ?_;rintro v F' ⟨G,hr,rfl,hd⟩;refine ⟨G,hr,λb o hb=>PH.and_left hb,λb o hb ho=> ?_⟩;have hH:(λb=>if (F b).isNone then F2 b else none) b=some o:=by simp [hb,ho]
 have hG:=hd b o hH;exact ⟨(PH.and_right hG).trans hH,hG⟩
end Go.Proofs.YtcemhghkipgdiaaGreatDoor
