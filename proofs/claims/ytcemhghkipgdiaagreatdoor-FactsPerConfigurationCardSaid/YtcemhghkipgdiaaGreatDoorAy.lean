/-
  Queues of numbers; package facts: a visit.
-/
import Derived.Test.YtcemhghkipgdiaaGreatDoorAv
import Derived.MapKept
import Derived.Test.YtcemhghkipgdiaaGreatDoorAt
import Derived.Test.YtcemhghkipgdiaaGreatDoorAm
namespace Go.Proofs.YtcemhghkipgdiaaGreatDoor
open Go Go.Proofs.Tryz
set_option maxRecDepth 10000
theorem gz {α:Type} [DecidableEq α]:∀{l m:List α},l.Nodup->(∀x∈l,x∈m)->l.length<=m.length
 |[],_,_,_=>Nat.zero_le _
 |x::l,m,h,hs=>by rw [VM] at h;have hx:=hs x (by simp);have:=gz (m:=m.erase x) h.2 λy hy=>(List.mem_erase_of_ne λe=>h.1 (by rw [<- e];exact hy)).2 (hs y (Ve _ hy));rw [List.length_erase_of_mem hx] at this;have h0:0<m.length:=List.length_pos_of_mem hx;rw [Vf];omega
theorem j0 {K:Type} [DecidableEq K] {k:K} {v:Value}:∀{L:List (K×Value)},(L.map (·.1)).Nodup->(lk k L=some v↔(k,v)∈L)
 |[],_=>by simp [lk]
 |p::L,h=>by
  rw [Vi,VM] at h;unfold lk;by_cases e:k=p.1
  ·rw [if_pos e];constructor
   ·intro h';cases h';rw [e];exact VY ..
   ·intro h';rcases UT.1 h' with h'|h'
    ·rw [<- h']
    ·exact absurd (U8.2 ⟨_,h',e⟩) h.1
  ·rw [if_neg e,j0 h.2,UT];exact ⟨.inr,λh'=>h'.resolve_left λh'=>e (by rw [<- h'])⟩
theorem uv {K:Type} [DecidableEq K] (k:K):∀(L:List (K×Value)) (i:Nat),fnd k L i=none->∀p∈L,p.1≠k
 |[],_,_,p,h=>by cases h
 |q::L,i,h,p,hp=>by
  unfold fnd at h;split at h
  ·cases h
  ·rename_i hn;rcases UT.1 hp with rfl|hp
   ·exact λe=>hn e.symm
   ·exact uv k L _ h p hp
section
variable {K:Type} [DecidableEq K] {enc:K->Value} {m:K->Option Value} {F:PH} {r:Nat}
structure sD (enc:K->Value) (m:K->Option Value) (es:Array MapEntry) (c:Nat) (L:List (K×Value)):Prop where
 eq:es.toList.map (λe=>(e.key,e.val))=L.map (λp=>(enc p.1,p.2))
 lk:∀k,m k=lk k L
 st:MapKept.Stamped es c
def yc (enc:K->Value) (m:K->Option Value) (o:Obj):Prop:=∃es c L,o=.map es c/\sD enc m es c L
theorem yc.mapO {o:Obj} (h:yc enc m o):eH enc m o:=by obtain ⟨es,c,L,rfl,h⟩:=h;exact ⟨es,c,L,rfl,h.eq,h.lk⟩
theorem yc.empty (enc:K->Value):yc enc (λ_=>none) (.map #[] 0):=⟨#[],0,[],rfl,rfl,λ_=>rfl,MapKept.stamped_empty 0⟩
theorem sD.len {es:Array MapEntry} {c:Nat} {L:List (K×Value)} (h:sD enc m es c L):es.size=L.length:=by simpa using congrArg List.length h.eq
theorem sD.nodup {es:Array MapEntry} {c:Nat} {L:List (K×Value)} (h:sD enc m es c L):(L.map (·.1)).Nodup:=by
 have h3:=h.st.2.2;have e:es.toList.map (·.key)=(L.map (·.1)).map enc:=by have:=congrArg (List.map Prod.fst) h.eq;simpa [List.map_map,Function.comp_def] using this
 rw [e] at h3;exact (List.pairwise_map.1 h3).imp λhne e=>hne (by rw [e])
theorem sD.entry {es:Array MapEntry} {c:Nat} {L:List (K×Value)} (h:sD enc m es c L) {e:MapEntry} (he:e∈es.toList):∃k,e.key=enc k/\m k=some e.val:=by
 have h1:(e.key,e.val)∈es.toList.map (λe=>(e.key,e.val)):=U8.2 ⟨e,he,rfl⟩;rw [h.eq] at h1;obtain ⟨p,hp,h2⟩:=U8.1 h1;injection h2 with h2 h3
 exact ⟨p.1,h2.symm,by rw [h.lk,<- h3];exact (j0 h.nodup).2 hp⟩
theorem sD.of {es:Array MapEntry} {c:Nat} {L:List (K×Value)} (h:sD enc m es c L) {k:K} {v:Value} (hk:m k=some v):∃e∈es.toList,e.key=enc k/\e.val=v:=by
 rw [h.lk,j0 h.nodup] at hk;have h1:(enc k,v)∈L.map λp=>(enc p.1,p.2):=U8.2 ⟨_,hk,rfl⟩;rw [<- h.eq] at h1;obtain ⟨e,he,h2⟩:=U8.1 h1;injection h2 with h2 h3
 exact ⟨e,he,h2,h3⟩
variable {P:Program} {mt:TypeId} {z:Value}
theorem Dp (hm:fY P mt enc z) (inj:∀a b,enc a=enc b->a=b) {o:Obj} (hr:F r=some o) (ho:yc enc m o) (k:K) (v:Value) {Q:Unit->Ψ}
  (h:∀o',yc enc (λk'=>if k'=k then some v else m k') o'->Q () (F.set r o')):aG P (Instr.mapUpdate mt (.map (some r)) (enc k) v) F Q:=by
 obtain ⟨kt,e,h1,h2,hk⟩:=hm.ex;have hnc:=ho.mapO.not_cells;obtain ⟨es,c,L,rfl,hL⟩:=ho;have h3:=hL.eq;have hf:=lJ k v L 0;have hn:=lI k v L 0;unfold Instr.mapUpdate;simp only [aA,bW h1];refine ⟨_,hr,hnc,?_⟩;rw [show (Sem.pure (Obj.map es c):Sem Obj)=pure (Obj.map es c) from rfl];simp only [aN,aA];refine gU _ _ _ _ (hk.chk F _ k) ?_;refine gU _ _ _ _ (gl hk k _ _ h3) ?_;have hmm:∀k',(if k'=k then some v else m k')=lk k' (upL k v L):=λk'=>by rw [yH,hL.lk]
 cases hfd:fnd k L 0 with
 |none=>
  refine ⟨_,hr,hnc,h _ ⟨_,_,upL k v L,rfl,?_,hmm,MapKept.stamped_push hL.st λx hx=> ?_⟩⟩
  ·rw [(hn hfd).2];simp [h3]
  ·obtain ⟨k',e1,e2⟩:=hL.entry hx;rw [e1];intro e';have:=inj _ _ e';rw [hL.lk,j0 hL.nodup] at e2;exact uv k L 0 hfd _ e2 this
 |some q=>
  obtain ⟨j,w⟩:=q;obtain ⟨d,hj,hd,h5,h6,h7⟩:=hf j w hfd;obtain rfl:j=d:=by omega
  have hlen:=hL.len;have hjk:∀e∈es.toList,es[j]? =some e->enc k=e.key:=λe _ he=>by
   have:=congrArg (λl=>l[j]?) h3;simp only [U5,h5,VD,Wu,he] at this;injection this with this
   injection this with this _
   exact this.symm
  have hkey:(es[j]?.map (·.key)).getD (enc k)=enc k:=by
   have:=congrArg (λl=>l[j]?) h3;simp only [U5,h5,VD] at this;have hj2:j<es.size:=by omega
   simp [hj2] at this ⊢;exact this.1
  simp only [aA,hkey,Instr.keyThatStays,hk.same,if_true,aN];refine ⟨_,hr,hnc,h _ ⟨_,_,upL k v L,rfl,?_,hmm,MapKept.stamped_modify hL.st j _ (λ_ _=>rfl) (λe he1 he2=>hjk e he1 he2)⟩⟩;rw [h7];apply VI;intro i;have h3i:=congrArg (λl=>l[i]?) h3;simp only [U5] at h3i;simp only [Array.toList_modify,U5,Wg,V6];by_cases hi:j=i
  ·subst hi;have hj2:j<es.toList.length:=by simpa [hlen] using hd
   rw [N5 hj2];simp [hd]
  ·simp only [hi,if_false];simpa using h3i
end
section
variable {F:PH} {r:Nat}
theorem nT {n:Nat} (hn:0<n) {F:PH} {Q:Nat->Ψ} (h:∀i,i<n->Q i F):aG prog (choose (.mapNext n)) F Q:=by
 unfold choose;unfold aG;by_cases hf:(Question.mapNext n).forced=true
 ·rw [if_pos hf];exact h 0 hn
 ·rw [if_neg hf];intro t;exact h (t % n) (VU _ hn)
theorem Az {es:Array MapEntry} {c b:Nat} {bK:Array Nat} {ty:TypeId} (hr:F r=some (.map es c)) (hst:MapKept.Stamped es c) (hb:F b=some (.mapIter (some r) c bK c)) {Q:Value->Ψ}
  (h0:(∀e∈es.toList,bK.contains e.born=true)->Q (.tuple #[.bool false]) F)
  (h1:∀e∈es.toList,bK.contains e.born=false->Q (.tuple #[.bool true,e.key,e.val]) (F.set b (.mapIter (some r) c (bK.push e.born) c))):
  aG prog (Instr.next (.pointer (some ⟨b,0,none⟩)) false ty) F Q:=by
 unfold Instr.next;simp only [aA];refine ⟨_,hb,λ_ _ _ h=>(by cases h),?_⟩;rw [show (Sem.pure (Obj.mapIter (some r) c bK c):Sem Obj)=pure (Obj.mapIter (some r) c bK c) from rfl];simp only [aN,aA];refine ⟨_,hr,λ_ _ _ h=>(by cases h),?_⟩;rw [show (Sem.pure (Obj.map es c):Sem Obj)=pure (Obj.map es c) from rfl];simp only [aN];have hall:(es.all λe=>decide (e.born≥c))=false\/es.isEmpty=true:=by
  by_cases he:es.isEmpty=true
  ·exact .inr he
  ·left;rw [VV];intro hc;rw [Array.all_eq_true'] at hc;have hne:es.toList≠[]:=λe=>he (by rw [Array.isEmpty_iff];exact Array.toList_eq_nil_iff.1 e);obtain ⟨x,hx⟩:=List.exists_mem_of_ne_nil _ hne;have h2:=hst.1 x hx;have h3:=hc x (Array.mem_def.2 hx);simp at h3;omega
 have hif:(!bK.isEmpty && !es.isEmpty && es.all λe=>decide (e.born≥c))=false:=by rcases hall with h|h<;>simp [h]
 rw [hif];simp only [Vu,if_false,aA]
 refine nT (by
  rw [Array.size_append];by_cases ho:((es.filter λe=> !bK.contains e.born).filter λx=>decide (x.born<c)).isEmpty=true
  ·rw [if_pos ho];exact Wr Nat.zero_lt_one (Nat.le_add_right _ _)
  ·rw [if_neg ho];have:0<((es.filter λe=> !bK.contains e.born).filter λx=>decide (x.born<c)).size:=by
    rcases VT ((es.filter λe=> !bK.contains e.born).filter λx=>decide (x.born<c)).size with h|h
    ·exact absurd (by simpa [Array.isEmpty] using h) ho
    ·exact h
   rw [Array.size_map,Array.size_append]
   omega) λi hi=> ?_
 rw [Vk hi];have hmem:=Array.getElem_mem hi;revert hmem;generalize ((if ((es.filter λe=> !bK.contains e.born).filter λx=>decide (x.born<c)).isEmpty=true then #[none] else #[])++Array.map some ((es.filter λe=> !bK.contains e.born).filter (λx=>decide (x.born<c))++(es.filter λe=> !bK.contains e.born).filter λx=>decide (x.born≥c)))[i]=y;intro hmem;rw [Array.mem_append] at hmem;cases y with
 |none=>
  simp only [aN];refine h0 λe he=> ?_;have h3:=hst.1 e he;rcases hmem with hmem|hmem
  ·by_cases ho:((es.filter λe=> !bK.contains e.born).filter λx=>decide (x.born<c)).isEmpty=true
   ·cases hs:bK.contains e.born with
    |true=>rfl
    |false=>
     exfalso;have hin:e∈(es.filter λe=> !bK.contains e.born).filter λx=>decide (x.born<c):=by rw [Array.mem_filter,Array.mem_filter];exact ⟨⟨Array.mem_def.2 he,by rw [hs];rfl⟩,by simpa using h3⟩
     rw [Array.isEmpty_iff] at ho;rw [ho] at hin;exact absurd hin (by simp)
   ·rw [if_neg ho] at hmem;exact absurd hmem (by simp)
  ·rw [Array.mem_map] at hmem;obtain ⟨_,_,h⟩:=hmem;cases h
 |some e=>
  have hin:e∈es/\bK.contains e.born=false:=by
   rcases hmem with hmem|hmem
   ·split at hmem
    ·simp at hmem
    ·simp at hmem
   ·rw [Array.mem_map] at hmem;obtain ⟨e',he',h⟩:=hmem;injection h with h
    subst h;simp only [Array.mem_append,Array.mem_filter] at he';rcases he' with h|h
    ·exact ⟨h.1.1,by simpa using h.1.2⟩
    ·exact ⟨h.1.1,by simpa using h.1.2⟩
  simp only [aA,aN];refine ⟨_,hb,λ_ _ _ h=>(by cases h),h1 e (Array.mem_def.1 hin.1) hin.2⟩
theorem yd {mt kt e:TypeId} (hm:prog.underlying mt=some (.map kt e)) {es:Array MapEntry} {c:Nat} (hr:F r=some (.map es c)) {Q:Value->Ψ} (h:∀b,F b=none->Q (.pointer (some ⟨b,0,none⟩)) (F.set b (.mapIter (some r) c #[] c))):aG prog (Instr.range mt (.map (some r))) F Q:=by unfold Instr.range;simp only [aA,bW hm];refine ⟨_,hr,λ_ _ _ h=>(by cases h),?_⟩;rw [show (Sem.pure (Obj.map es c):Sem Obj)=pure (Obj.map es c) from rfl];simp only [aN,aA,newObj,aG];exact h
theorem sE:∀{l:List MapEntry},(l.map (·.born)).Nodup->∀{a b},a∈l->b∈l->a.born=b.born->a=b
 |[],_,_,_,ha,_,_=>by simp at ha
 |x::l,h,a,b,ha,hb,e=>by
  rw [Vi,VM] at h;rcases UT.1 ha with ha|ha<;>rcases UT.1 hb with hb|hb
  ·rw [ha,hb]
  ·exact absurd (U8.2 ⟨b,hb,by rw [<- e,ha]⟩) h.1
  ·exact absurd (U8.2 ⟨a,ha,by rw [e,hb]⟩) h.1
  ·exact sE h.2 ha hb e
theorem Dq {F:PH} {es:Array MapEntry} {c r b:Nat} {bK:Array Nat} {e:MapEntry} (hr:F r=some (.map es c)) (hst:MapKept.Stamped es c) (hb:F b=some (.mapIter (some r) c (bK.push e.born) c)) (he:e∈es.toList):
  rdo prog (Instr.entry (.pointer (some ⟨b,0,none⟩))) F (.tuple #[e.key,e.val]):=by
 unfold Instr.entry;simp only [aj];refine ⟨_,⟨_,hb,λ_ _ _ h=>(by cases h),rfl⟩,?_⟩;simp only [Array.back?_push];simp only [aj];refine ⟨_,⟨_,hr,λ_ _ _ h=>(by cases h),rfl⟩,?_⟩;simp only [bne_self_eq_false,Vu,if_false];have hf:es.find? (λx=>x.born==e.born)=some e:=by
  cases h:es.find? (λx=>x.born==e.born) with
  |none=>rw [Array.find?_eq_none] at h;exact absurd (show (e.born==e.born)=true by simp) (h e (Array.mem_def.2 he))
  |some y=>have h1:=Array.mem_of_find?_eq_some h;have h2:=Array.find?_some h;rw [sE hst.2.1 (Array.mem_def.1 h1) he (by simpa using h2)]
 rw [hf];rfl
end
section
variable {K:Type} [DecidableEq K] {enc:K->Value} {m:K->Option Value} {G F:PH} {As:List (Ψ)} {r b c:Nat} {es:Array MapEntry} {L:List (K×Value)}
theorem St.newB (h:St G F As) {b:Nat} (hb:F b=none) (o:Obj):St G (F.set b o) (pt b o::As):=h.push (H:=PH.set (λ_=>none) b o) (al _ _ _) (λx hx=>by
 by_cases e:x=b
 ·rw [e];exact hb
 ·rw [av _ _ e] at hx;exact absurd rfl hx) (λx p hx=>by
 by_cases e:x=b
 ·rw [e,al] at hx ⊢;exact hx
 ·rw [av _ _ e] at hx;cases hx) (ae o hb)
def itG (enc:K->Value) (r b:Nat) (es:Array MapEntry) (c:Nat) (ks:List K):Ψ:=λH=>∃done:List MapEntry,done.map (·.key)=ks.map enc/\(∀e∈done,e∈es.toList)/\H b=some (.mapIter (some r) c (done.map (·.born)).toArray c)
theorem St.rangeG {mt kt e:TypeId} (hm:prog.underlying mt=some (.map kt e)) (h:St G F As) (enc:K->Value) (hr:F r=some (.map es c)) {C:Nat->Ψ} (k:∀b F',St G F' (itG enc r b es c []::As)->C b F'):
  aG prog (Instr.range mt (.map (some r))) F λv F=>∃b,v=.pointer (some ⟨b,0,none⟩)/\C b F:=by
 have _:=(inferInstance:DecidableEq K);refine yd hm hr λb hb=>⟨b,rfl,?_⟩;have:=h.newB hb (.mapIter (some r) c #[] c);exact k b _ (this.imp 0 rfl λH _ hH=>⟨[],rfl,λ_ h=>(by cases h),hH⟩)
theorem St.nextG (hL:sD enc m es c L) (inj:∀a b,enc a=enc b->a=b) {ks:List K} (h:St G F (itG enc r b es c ks::As)) (hn:ks.Nodup) (hs:∀k∈ks,∃v,m k=some v) (hr:F r=some (.map es c)) {ty:TypeId} {Q:Value->Ψ}
  (fin:(∀k v,m k=some v->k∈ks)->Q (.tuple #[.bool false]) F)
  (step:∀k v F',m k=some v->k ∉ ks->ks.length<es.size->St G F' (itG enc r b es c (ks++[k])::As)->F' r=some (.map es c)->rdo prog (Instr.entry (.pointer (some ⟨b,0,none⟩))) F' (.tuple #[enc k,v])->Q (.tuple #[.bool true,enc k,v]) F'):
  aG prog (Instr.next (.pointer (some ⟨b,0,none⟩)) false ty) F Q:=by
 obtain ⟨H,⟨done,h1,h2,h3⟩,hd,hle,hset⟩:=h.set (i:=0) (A':=itG enc r b es c ks) rfl;clear hset;have hb:=hle _ _ h3;have hkey:∀e∈es.toList,e∈done↔∃k∈ks,e.key=enc k:=λe he=>by
  constructor
  ·intro hi;have:e.key∈done.map (·.key):=U8.2 ⟨e,hi,rfl⟩;rw [h1] at this;obtain ⟨k,hk,e'⟩:=U8.1 this;exact ⟨k,hk,e'.symm⟩
  ·rintro ⟨k,hk,e'⟩;have:enc k∈ks.map enc:=U8.2 ⟨k,hk,rfl⟩;rw [<- h1] at this;obtain ⟨x,hx,e2⟩:=U8.1 this;have:x=e:=pH hL.st.2.2 (h2 x hx) he (by rw [e2,e']);rw [<- this];exact hx
 have hseen:∀e∈es.toList,((done.map (·.born)).toArray.contains e.born=true↔e∈done):=λe he=>by
  rw [Array.contains_iff_mem,Array.mem_def];constructor
  ·intro hi;obtain ⟨a,ha,e'⟩:=U8.1 hi;rw [<- sE hL.st.2.1 (h2 a ha) he e'];exact ha
  ·intro hi;exact U8.2 ⟨e,hi,rfl⟩
 refine Az hr hL.st hb (λhall=>fin λk v hk=> ?_) λe he hnew=> ?_
 ·obtain ⟨e,he,e1,_⟩:=hL.of hk;obtain ⟨k',hk',e2⟩:=(hkey e he).1 ((hseen e he).1 (hall e he));rw [inj k k' (by rw [<- e1,e2])];exact hk'
 ·obtain ⟨k,e1,e2⟩:=hL.entry he;have hnd:e ∉ done:=λhi=>by rw [(hseen e he).2 hi] at hnew;cases hnew
  have hk:k ∉ ks:=λhi=>hnd ((hkey e he).2 ⟨k,hi,e1⟩);have hne:r≠b:=λe'=>by rw [e',hb] at hr;cases hr
  have hr':(F.set b (.mapIter (some r) c ((done.map (·.born)).toArray.push e.born) c)) r=some (.map es c):=by rw [av _ _ hne];exact hr
  have hlt:ks.length<es.size:=by
   have hsub:∀x∈ks++[k],x∈L.map (·.1):=λx hx=>by
    have:∃v,m x=some v:=by
     rcases UX.1 hx with hx|hx
     ·exact hs x hx
     ·rw [UU.1 hx];exact ⟨_,e2⟩
    obtain ⟨v,hv⟩:=this;rw [hL.lk,j0 hL.nodup] at hv;exact U8.2 ⟨_,hv,rfl⟩
   have hnn:(ks++[k]).Nodup:=by rw [Vp];exact ⟨hn,by simp,λa ha b' hb' e'=>hk (by rw [UU.1 hb'] at e';rw [<- e'];exact ha)⟩
   have:=gz hnn hsub;rw [UV,Va,U6,<- hL.len] at this;omega
  have hst:St G (F.set b (.mapIter (some r) c ((done.map (·.born)).toArray.push e.born) c)) (itG enc r b es c (ks++[k])::As):=by
   obtain ⟨H2,⟨d2,g1,g2,g3⟩,gd,gle,gset⟩:=h.set (i:=0) (A':=itG enc r b es c (ks++[k])) rfl;have ed:d2.map (·.born)=done.map (·.born):=by
    have:=gle _ _ g3;rw [hb] at this;injection this with this
    injection this with _ _ this _
    simpa using this.symm
   refine gset (H2.set b (.mapIter (some r) c ((done.map (·.born)).toArray.push e.born) c)) _ ⟨d2++[e],by simp [g1,e1],λx hx=> ?_,?_⟩ (λx hx=> ?_) (λx p hx=> ?_) (λx p hx hn=> ?_)
   ·rcases UX.1 hx with hx|hx
    ·exact g2 x hx
    ·rw [UU.1 hx];exact he
   ·rw [al,Vm,ed];simp
   ·by_cases e':x=b
    ·rw [e',g3];exact .inl (by simp)
    ·rw [av _ _ e'] at hx;exact .inl hx
   ·by_cases e':x=b
    ·rw [e',al] at hx ⊢;exact hx
    ·rw [av _ _ e'] at hx ⊢;exact gle _ _ hx
   ·have e':x≠b:=λe'=>by rw [e',g3] at hn;cases hn
    rw [av _ _ e'];exact hx
  have hent:=Dq (e:=e) hr' hL.st (al F b (.mapIter (some r) c ((done.map (·.born)).toArray.push e.born) c)) he;rw [e1] at hent ⊢;exact step k e.val _ e2 hk hlt hst hr' hent
where
 pH:∀{l:List MapEntry},(l.map (·.key)).Nodup->∀{a b:MapEntry},a∈l->b∈l->a.key=b.key->a=b
  |[],_,_,_,ha,_,_=>by simp at ha
  |x::l,h,a,b,ha,hb,e=>by
   rw [Vi,VM] at h;rcases UT.1 ha with ha|ha<;>rcases UT.1 hb with hb|hb
   ·rw [ha,hb]
   ·exact absurd (U8.2 ⟨b,hb,by rw [<- e,ha]⟩) h.1
   ·exact absurd (U8.2 ⟨a,ha,by rw [e,hb]⟩) h.1
   ·exact pH h.2 ha hb e
end
end Go.Proofs.YtcemhghkipgdiaaGreatDoor
namespace Go.Proofs.YtcemhghkipgdiaaGreatDoor
open Go Go.Proofs.Tryz Tr
set_option maxRecDepth 10000
section
variable {k:Nat} {l:List Pr} {P:Nat->Tr} {N:Int->Tr}
noncomputable def nU (N:Int->Tr) (Pi:Tr) (r:List Sy) (j:Nat):Tr:=if (r.eraseIdx j).any (·.t)=true then leaf false else dF N Pi (r.eraseIdx j)
noncomputable def sF (N:Int->Tr) (Pi:Tr) (x:Pr):Nat->List Sy->(Int×Int->Tr)->Int×Int->Tr
 |_,[],S=>S
 |j,s::r,S=>sF N Pi x (j+1) r (if s.t=true then S else cC S (x.left,s.i) (nU N Pi x.right j))
noncomputable def sW (N:Int->Tr) (P:Nat->Tr):Nat->List Pr->(Int×Int->Tr)->Int×Int->Tr
 |_,[],S=>S
 |i,x::l,S=>sW N P (i+1) l (sF N (P i) x 0 x.right S)
theorem iQ (hN:Sxs k N) {Pi:Tr} (hP:Sx k Pi) (r:List Sy) (j:Nat):Sx k (nU N Pi r j)/\∀c,(nU N Pi r j).ev c=true↔Pi.ev c=true/\∀m y,m≠j->r[m]? =some y->y.t=false/\(N y.i).ev c=true:=by
 obtain ⟨h1,h2⟩:=bx hN (r.eraseIdx j) hP;unfold nU;by_cases ht:(r.eraseIdx j).any (·.t)=true
 ·rw [if_pos ht];refine ⟨Sx.leaf k false,λc=>⟨λh=>(by cases h),λh=> ?_⟩⟩;rw [VZ] at ht;obtain ⟨y,hy,hyt⟩:=ht;obtain ⟨m,hm,hmy⟩:=List.mem_eraseIdx_iff_getElem?.1 hy;have:=(h.2 m y hm hmy).1;rw [hyt] at this;cases this
 ·rw [if_neg ht];refine ⟨h1,λc=> ?_⟩;rw [h2,Vj,Vv];refine and_congr_right λ_=>⟨λh m y hm hmy=> ?_,λh y hy=> ?_⟩
  ·have hy:y∈r.eraseIdx j:=List.mem_eraseIdx_iff_getElem?.2 ⟨m,hm,hmy⟩;have hyt:y.t=false:=by
    cases e:y.t with
    |false=>rfl
    |true=>exact absurd (VZ.2 ⟨y,hy,e⟩) ht
   have:=h y hy;rw [hyt,WD] at this;exact ⟨hyt,this⟩
  ·obtain ⟨m,hm,hmy⟩:=List.mem_eraseIdx_iff_getElem?.1 hy;rw [(h m y hm hmy).2,Bool.or_true]
theorem kZ (hN:Sxs k N) {Pi:Tr} (hP:Sx k Pi) (x:Pr):∀(r:List Sy) (j:Nat) {S:Int×Int->Tr},Sxs k S->Sxs k (sF N Pi x j r S)/\
  ∀n c,(sF N Pi x j r S n).ev c=true↔(S n).ev c=true\/∃m s,r[m]? =some s/\s.t=false/\n=(x.left,s.i)/\(nU N Pi x.right (j+m)).ev c=true
 |[],j,S,hS=>⟨hS,λn c=>⟨.inl,λh=>h.resolve_right λ⟨m,s,h,_⟩=>(by simp at h)⟩⟩
 |s::r,j,S,hS=>by
  have hd:=(iQ hN hP x.right j).1;unfold sF;have shift:∀(n:Int×Int) (c:Cf),(∃m y,(s::r)[m]? =some y/\y.t=false/\n=(x.left,y.i)/\(nU N Pi x.right (j+m)).ev c=true)↔(s.t=false/\n=(x.left,s.i)/\(nU N Pi x.right j).ev c=true)\/∃m y,r[m]? =some y/\y.t=false/\n=(x.left,y.i)/\(nU N Pi x.right (j+1+m)).ev c=true:=λn c=>by
   constructor
   ·rintro ⟨m,y,h1,h2,h3,h4⟩;cases m with
    |zero=>cases h1;exact .inl ⟨h2,h3,h4⟩
    |succ m=>exact .inr ⟨m,y,by simpa using h1,h2,h3,by rw [show j+1+m=j+(m+1) by omega];exact h4⟩
   ·rintro (⟨h2,h3,h4⟩|⟨m,y,h1,h2,h3,h4⟩)
    ·exact ⟨0,s,rfl,h2,h3,h4⟩
    ·exact ⟨m+1,y,by simpa using h1,h2,h3,by rw [show j+(m+1)=j+1+m by omega];exact h4⟩
  by_cases hs:s.t=true
  ·rw [if_pos hs];obtain ⟨h1,h2⟩:=kZ hN hP x r (j+1) hS;refine ⟨h1,λn c=> ?_⟩;rw [h2,shift];refine or_congr_right ⟨.inr,λh=>h.resolve_left λ⟨h,_⟩=>(by rw [hs] at h;cases h)⟩
  ·rw [if_neg hs];obtain ⟨h1,h2⟩:=kZ hN hP x r (j+1) (dE hS hd (n:=(x.left,s.i)));refine ⟨h1,λn c=> ?_⟩;rw [h2,shift,fK hS hd,Wn,Vj,decide_eq_true_eq,or_assoc];refine or_congr_right (or_congr_left ⟨λh=>⟨VV.2 hs,h⟩,λh=>h.2⟩)
theorem sG (hN:Sxs k N) (hP:∀i,Sx k (P i)):∀(l:List Pr) (i:Nat) {S:Int×Int->Tr},Sxs k S->Sxs k (sW N P i l S)/\
  ∀n c,(sW N P i l S n).ev c=true↔(S n).ev c=true\/∃(m:Nat) (x:Pr) (j:Nat) (s:Sy),l[m]? =some x/\x.right[j]? =some s/\s.t=false/\n=(x.left,s.i)/\(nU N (P (i+m)) x.right j).ev c=true
 |[],i,S,hS=>⟨hS,λn c=>⟨.inl,λh=>h.resolve_right λ⟨m,x,j,s,h,_⟩=>(by simp at h)⟩⟩
 |x::l,i,S,hS=>by
  obtain ⟨g1,g2⟩:=kZ hN (hP i) x x.right 0 hS;unfold sW;obtain ⟨h1,h2⟩:=sG hN hP l (i+1) g1;refine ⟨h1,λn c=> ?_⟩;rw [h2,g2,or_assoc];refine or_congr_right ?_;constructor
  ·rintro (⟨j,s,a,b,d,e⟩|⟨m,y,j,s,a,b,d,e,f⟩)
   ·exact ⟨0,x,j,s,rfl,a,b,d,by rw [Vd] at e;exact e⟩
   ·exact ⟨m+1,y,j,s,by simpa using a,b,d,e,by rw [show i+(m+1)=i+1+m by omega];exact f⟩
  ·rintro ⟨m,y,j,s,a,b,d,e,f⟩;cases m with
   |zero=>cases a;exact .inl ⟨j,s,b,d,e,by rw [Vd];exact f⟩
   |succ m=>exact .inr ⟨m,y,j,s,by simpa using a,b,d,e,by rw [show i+1+m=i+(m+1) by omega];exact f⟩
structure ye (k:Nat) (l:List Pr) (P:Nat->Tr) (S:Int×Int->Tr):Prop where
 sx:Sxs k S
 iff:∀n c,(S n).ev c=true↔Stp l P c n.1 n.2
theorem Jp (hN:eV k l P true N) (hP:∀i,Sx k (P i)):ye k l P (sW N P 0 l λ_=>leaf false):=by
 obtain ⟨h1,h2⟩:=sG hN.sx hP l 0 (S:=λ_=>leaf false) λ_=>Sx.leaf k false;refine ⟨h1,λn c=>(h2 n c).trans ?_⟩;constructor
 ·rintro (h|⟨m,x,j,s,a,b,d,e,f⟩)
  ·cases h
  ·rw [Vd] at f;obtain ⟨f1,f2⟩:=((iQ hN.sx (hP m) x.right j).2 c).1 f;rw [e];exact ⟨m,j,x,s,a,b,d,rfl,rfl,f1,λq y hq hy=>(f2 q y hq hy).imp id (hN.iff _ _).1⟩
 ·rintro ⟨i,j,x,s,a,b,d,e,f,g,h⟩;refine .inr ⟨i,x,j,s,a,b,d,Prod.ext e.symm f.symm,?_⟩;rw [Vd];exact ((iQ hN.sx (hP i) x.right j).2 c).2 ⟨g,λq y hq hy=>(h q y hq hy).imp id (hN.iff _ _).2⟩
def iW (l:List Pr):List (Int×Int):=l.flatMap λx=>x.right.map λs=>(x.left,s.i)
theorem Dr {l:List Pr} (h:∀x∈l,x.right.length<=16):(iW l).length<=l.length*16:=by
 induction l with
 |nil=>exact UW _
 |cons x l ih=>have h1:=h x (by simp);have h2:=ih λy hy=>h y (Ve _ hy);unfold iW at*;rw [VC,UV,U6,Vf];omega
variable {T:Int×Int->Tr} {fam:Tr} {n:Int}
structure Bfs (k:Nat) (l:List Pr) (P:Nat->Tr) (T:Int×Int->Tr) (fam:Tr) (n:Int) (R:Int->Tr) (q:Φ):Prop where
 sx:Sxs k R
 snd:∀m c,(R m).ev c=true->Tg (Stp l P c) n m
 base:∀m c,fam.ev c=true->(T (n,m)).ev c=true->(R m).ev c=true
 clos:∀m,m≠n->m ∉ q->∀m' c,(R m).ev c=true->(T (m,m')).ev c=true->(R m').ev c=true
structure Vis (k:Nat) (keys:Φ) (T:Int×Int->Tr) (a:Int) (d:Tr) (R R':Int->Tr) (ps:Φ):Prop where
 sx:Sxs k R'
 le:Lt' R R'
 snd:∀m c,(R' m).ev c=true->(R m).ev c=true\/(d.ev c=true/\(T (a,m)).ev c=true)
 cpl:∀m c,d.ev c=true->(T (a,m)).ev c=true->(R' m).ev c=true
 pu:∀m,R' m≠R m->m∈ps
 mu:mu k keys R'+ps.length<=mu k keys R
theorem Bfs.start (hT:ye k l P T) {R:Int->Tr} {ps keys:Φ} (hv:Vis k keys T n fam (λ_=>leaf false) R ps):Bfs k l P T fam n R ps:=by
 refine ⟨hv.sx,λm c hc=> ?_,hv.cpl,λm _ hm m' c hc _=> ?_⟩
 ·rcases hv.snd m c hc with h|⟨_,h⟩
  ·cases h
  ·exact .one ((hT.iff _ _).1 h)
 ·have:R m=leaf false:=Classical.not_not.1 λe=>hm (hv.pu m e);rw [this] at hc;cases hc
theorem Bfs.visit (hT:ye k l P T) {R R':Int->Tr} {m:Int} {q ps keys:Φ} (h:Bfs k l P T fam n R (m::q)) (hv:Vis k keys T m (R m) R R' ps):Bfs k l P T fam n R' (q++ps):=by
 refine ⟨hv.sx,λm' c hc=> ?_,λm' c hf ht=>hv.le _ _ (h.base m' c hf ht),λa ha hq m' c hc ht=> ?_⟩
 ·rcases hv.snd m' c hc with h'|⟨h1,h2⟩
  ·exact h.snd m' c h'
  ·exact .snoc (h.snd m c h1) ((hT.iff _ _).1 h2)
 ·have hq1:a ∉ q:=λe=>hq (UX.2 (.inl e));have e:R' a=R a:=Classical.not_not.1 λe=>hq (UX.2 (.inr (hv.pu a e)));rw [e] at hc;by_cases ea:a=m
  ·rw [ea] at hc ht;exact hv.cpl m' c hc ht
  ·exact hv.le _ _ (h.clos a ha (λhm=>(UT.1 hm).elim ea hq1) m' c hc ht)
theorem Bfs.skip {R:Int->Tr} {q:Φ} (h:Bfs k l P T fam n R (n::q)):Bfs k l P T fam n R q:=
 ⟨h.sx,h.snd,h.base,λm hm hq=>h.clos m hm λe=>(UT.1 e).elim hm hq⟩
theorem Bfs.fin (hT:ye k l P T) (hf:∀a b c,Stp l P c a b->fam.ev c=true) {R:Int->Tr} (h:Bfs k l P T fam n R []) (c:Cf):(R n).ev c=true↔Tg (Stp l P c) n n:=by
 refine ⟨h.snd n c,λt=> ?_⟩;have key:∀{m:Int},Tg (Stp l P c) n m->(R m).ev c=true:=λ{m} t=>by
  induction t with
  |one h1=>exact h.base _ c (hf _ _ _ h1) ((hT.iff (n,_) c).2 h1)
  | @snoc b d _ h1 ih=>
   by_cases e:b=n
   ·rw [e] at h1;exact h.base _ c (hf _ _ _ h1) ((hT.iff (n,d) c).2 h1)
   ·exact h.clos b e (by simp) d c ih ((hT.iff (b,d) c).2 h1)
 exact key t
end
section
variable {g:Gr} {k:Nat}
theorem OkK.fam_of (h:OkK g k) {i:Nat} {c:Cf} (hp:(aK g i).ev c=true):(tre g.fam).ev c=true:=by
 cases hx:g.prods[i]? with
 |none=>
  have:aK g i=leaf false:=by unfold aK;rw [hx]
  rw [this] at hp;cases hp
 |some x=>rw [h.prs_ev hx,Vj,Vj] at hp;exact hp.1.1
theorem OkK.stp_fam (h:OkK g k) {c:Cf} {a b:Int} (s:Stp g.prods (aK g) c a b):(tre g.fam).ev c=true:=by obtain ⟨i,_,_,_,_,_,_,_,_,hp,_⟩:=s;exact h.fam_of hp
end
def que (e:TypeId) (s:Sl) (vs:Ξ):Ψ:=λH=>∃b o cur,s.base=some ⟨b,o,none⟩/\H b=some (.cells cur e (0,0))/\o+s.cap<=cur.size/\s.len<=s.cap/\vs.length=s.len/\(cur.toList.drop o).take s.len=vs
section
variable {G F H:PH} {As:List (Ψ)} {e:TypeId} {s:Sl} {vs:Ξ}
theorem Ny (h:que e s vs H):RdS H s 1 vs:=by obtain ⟨b,o,cur,h1,h2,h3,h4,h5,h6⟩:=h;refine ⟨by omega,h4,λ_=>⟨b,o,h1,λi hi=> ?_⟩⟩;rw [am h2];have:=congrArg (λl=>l[i]?) h6;simp only [VN (show i<s.len by omega),List.getElem?_drop,Wu] at this;rw [this,N5 hi]
theorem Jq {v:Value} (h:que e s (v::vs) H):que e (Sl.cut s 1 1 s.len s.cap) vs H:=by
 obtain ⟨b,o,cur,h1,h2,h3,h4,h5,h6⟩:=h;rw [Vf] at h5;by_cases hc:s.cap=1
 ·have hvs:vs=[]:=Vc (by omega);refine ⟨b,o,cur,by unfold Sl.cut;rw [if_pos hc];exact h1,h2,by unfold Sl.cut;dsimp only;omega,by unfold Sl.cut;dsimp only;omega,by unfold Sl.cut;dsimp only;omega,?_⟩;unfold Sl.cut;dsimp only;rw [hvs,show s.len - 1=0 by omega,Wi]
 ·refine ⟨b,o+1,cur,?_,h2,by unfold Sl.cut;dsimp only;omega,by unfold Sl.cut;dsimp only;omega,by unfold Sl.cut;dsimp only;omega,?_⟩
  ·unfold Sl.cut;rw [if_neg hc,h1];rfl
  ·unfold Sl.cut;dsimp only;have:=congrArg (λl=>l.drop 1) h6;simp only [List.drop_take,List.drop_drop,WF,Vz] at this;exact this
theorem Ds {b:Nat} (h:H b=some (.cells #[] e)):que e (Sl.mk (some (Addr.mk b 0 none)) 0 0) [] H:=⟨b,0,#[],rfl,h,by simp,UW _,rfl,by simp⟩
theorem St.queAt (h:St G F As) {i:Nat} (hi:As[i]? =some (que e s vs)):RdS F s 1 vs:=by obtain ⟨H,h1,_,h3⟩:=h.get hi;exact (Ny h1).le h3
theorem St.quePush {t bytes:Nat} {z:Value} (T:SlT t e 1 bytes z) {x:Sl} {v:Value} {ty:TypeId} (h:St G F As) (i:Nat) (hi:As[i]? =some (que e s vs)) (hx:RdS F x 1 [v]) (hst:ak v) (hlen:s.len<=400000000000) {K:Sl->Ψ}
  (k:∀s' F',St G F' (As.set i (que e s' (vs++[v])))->s'.len=s.len+1->K s' F'):aG prog (Builtin.append_ #[t,t] ty #[s.v,x.v]) F λr F=>∃s':Sl,r=Sl.v s'/\K s' F:=by
 have hxl:x.len=1:=by have:=hx.len;rw [Va] at this;omega
 have hq:=h.queAt hi;have hql:=hq.len;have put:∀{s':Sl} {b:Nat} {ob:Obj},que e s' (vs++[v]) (F.set b ob)->s'.len=s.len+1->(∀a,s'.base=some a->a.block=b)->((∃a,s.base=some a/\a.block=b)\/F b=none)->K s' (F.set b ob):=λ{s' b ob} hq' hl' hbase hb=>by
  obtain ⟨H,a1,a2,a3,a4⟩:=h.set (A':=que e s' (vs++[v])) hi;have hb':H b≠none\/F b=none:=by
   rcases hb with ⟨a,ha,rfl⟩|hb
   ·obtain ⟨b0,o0,c0,e1,e2,_⟩:=a1;rw [e1] at ha;cases ha;exact .inl (by rw [e2];simp)
   ·exact .inr hb
  refine k s' _ (a4 (PH.set (λ_=>none) b ob) _ ?_ (λx hx=> ?_) (λx p hx=> ?_) (λx p hx hn=> ?_)) hl'
  ·obtain ⟨b1,o1,c1,e1,e2,e3⟩:=hq';have:b1=b:=hbase _ e1;subst this;rw [al] at e2;exact ⟨b1,o1,c1,e1,by rw [al];exact e2,e3⟩
  ·by_cases e':x=b
   ·rw [e'];exact hb'
   ·rw [av _ _ e'] at hx;exact absurd rfl hx
  ·by_cases e':x=b
   ·rw [e',al] at hx ⊢;exact hx
   ·rw [av _ _ e'] at hx;cases hx
  ·have e':x≠b:=λe'=>by
    subst e';rcases hb' with h|h
    ·exact h hn
    ·rw [h] at hx;cases hx
   rw [av _ _ e'];exact hx
 refine gj T.ht T.hsz T.hz T.hzs hq hx (λw hw=>by rw [UU.1 hw];exact hst) (AT T.hb (by omega)) (by omega) (λh0 _=>by omega) (λ_ hroom=> ?_) (λhgt cap b hc hb=> ?_)
 ·obtain ⟨H,a1,_,a3⟩:=h.get hi;obtain ⟨b,o,cur,h1,h2,h3,h4,h5,h6⟩:=a1;have hcl:cur.toList.length=cur.size:=U4;refine ⟨b,o,cur,e,h1,a3 _ _ h2,by omega,_,rfl,put ⟨b,o,_,h1,al _ _ _,by rw [dW];exact h3,hroom,by rw [UV,Va,h5,hxl],?_⟩ (by rw [hxl]) (λa ha=>by rw [h1] at ha;cases ha;rfl) (.inl ⟨_,h1,rfl⟩)⟩;have hw:=dV [v] cur.toList (o+s.len*1) (by rw [Va];omega);rw [show cur.toList.toArray=cur by simp] at hw;rw [hw];dsimp only;rw [hxl,Vs];have e1:(List.take (o+s.len) cur.toList).drop o=vs:=by rw [<- h6,List.drop_take,Nat.add_sub_cancel_left]
  rw [Vo,List.drop_append_of_le_length (by rw [Vb];omega),e1];rw [<- Vo,Vg (by rw [UV,Va];omega),UZ (by rw [UV,Va];omega)]
 ·refine ⟨_,rfl,put ⟨b,0,_,rfl,al _ _ _,?_,hc,by rw [UV,Va];show vs.length+1=s.len+x.len;omega,?_⟩ (by rw [hxl]) (λa ha=>by cases ha;rfl) (.inr hb)⟩
  ·simp [Builtin.zeroCells,T.hzs];omega
  ·simp only [List.append_toArray,Array.toList_append,Vz,hxl];rw [Vg (by rw [UV,Va];omega),UZ (by rw [UV,Va];omega)]
end
theorem Nz:∃b z,SlT 67 3 1 b z:=⟨_,_,underlying67,sz3,zr3,rfl,by decide,by decide⟩
theorem UQ:bP prog 67=some (Sl.v Sl.nil):=by kernel_rfl
theorem NA:fY prog 164 aM (Sl.v Sl.nil):=⟨_,_,underlying164,UQ,IC⟩
section
variable {G F:PH} {As:List (Ψ)} {k b14 b18 b4 b19 mn mr mt:Nat} {nx:Int->Φ} {T:Int×Int->Tr}
structure CyE (G:PH) (b14 mn b4 mt:Nat) (nx:Int->Φ) (T:Int×Int->Tr):Prop where
 q14:G b14=some (.cells #[.map (some mn)] 164)
 q4:G b4=some (.cells #[.map (some mt)] 113)
 nx:∃o mp,G mn=some o/\eH aM mp o/\∀a,(mp a=none/\nx a=[])\/∃s,mp a=some (Sl.v s)/\RL G s (nx a)
 st:∃o mp,G mt=some o/\eH bU mp o/\jx G T mp
theorem CyE.le {G':PH} (h:CyE G b14 mn b4 mt nx T) (l:G.le G'):CyE G' b14 mn b4 mt nx T:=by obtain ⟨h1,h2,⟨o,mp,h3,h4,h5⟩,⟨o',mp',h6,h7,h8⟩⟩:=h;refine ⟨l _ _ h1,l _ _ h2,⟨o,mp,l _ _ h3,h4,λa=>(h5 a).imp id λ⟨s,a,b⟩=>⟨s,a,b.le l⟩⟩,⟨o',mp',l _ _ h6,h7,h8.le l⟩⟩
theorem CyE.look (h:CyE G b14 mn b4 mt nx T) (l:G.le F) (a:Int):∃s,rdo prog (Instr.lookup 164 (.map (some mn)) (vi a) false) F (Sl.v s)/\RL G s (nx a):=by
 obtain ⟨o,mp,h3,h4,h5⟩:=h.nx;have hl:=bL (F:=F) NA (l _ _ h3) h4 a false;rcases h5 a with ⟨e1,e2⟩|⟨s,e1,e2⟩
 ·rw [e1] at hl;exact ⟨Sl.nil,hl,by rw [e2];exact RL.nil G⟩
 ·rw [e1] at hl;exact ⟨s,hl,e2⟩
theorem CyE.step (h:CyE G b14 mn b4 mt nx T) (l:G.le F) (n:Int×Int):∃w,rdo prog (Instr.lookup 113 (.map (some mt)) (.agg (vn n)) false) F (.agg w)/\(DV G w (dia (T n))):=by
 obtain ⟨o,mp,h3,h4,h5⟩:=h.st;have hl:=bL (F:=F) GJ (l _ _ h3) h4 n false;rcases h5 n with ⟨e1,e2⟩|⟨w,e1,e2⟩
 ·rw [e1] at hl;exact ⟨zD,hl,by rw [e2];exact DV.mk (s:=Sl.nil) (d:=dia (leaf false)) (RL.nil G)⟩
 ·rw [e1] at hl;exact ⟨w,hl,e2⟩
structure Hk (k:Nat) (keys:Φ) (T:Int×Int->Tr) (a:Int) (d:Tr) (l:Φ) (R R':Int->Tr) (ps:Φ):Prop where
 sx:Sxs k R'
 le:Lt' R R'
 snd:∀m c,(R' m).ev c=true->(R m).ev c=true\/(d.ev c=true/\(T (a,m)).ev c=true)
 cpl:∀m∈l,∀c,d.ev c=true->(T (a,m)).ev c=true->(R' m).ev c=true
 pu:∀m,R' m≠R m->m∈ps
 mu:mu k keys R'+ps.length<=mu k keys R
theorem Hk.add {keys:Φ} {a:Int} {d:Tr} {l:Φ} {R R':Int->Tr} {ps:Φ} (h:Hk k keys T a d l R R' ps) (hT:Sxs k T) (hd:Sx k d) {m:Int} (hm:m∈keys):
  (cC R' m (ap2 bj d (T (a,m)))≠R'->Hk k keys T a d (l++[m]) R (cC R' m (ap2 bj d (T (a,m)))) (ps++[m]))/\(cC R' m (ap2 bj d (T (a,m)))=R'->Hk k keys T a d (l++[m]) R R' ps):=by
 have hx:Sx k (ap2 bj d (T (a,m))):=hd.ap2 (o:=bj) (hT _);have ex:∀c,(ap2 bj d (T (a,m))).ev c=(d.ev c && (T (a,m)).ev c):=(bA hd.1 (hT _).1).2;have key:∀i c,(cC R' m (ap2 bj d (T (a,m))) i).ev c=true↔(R' i).ev c=true\/(i=m/\d.ev c=true/\(T (a,m)).ev c=true):=λi c=>by rw [fK h.sx hx,ex,Wn,Vj,Vj,decide_eq_true_eq]
 have cp:∀i∈l++[m],∀c,d.ev c=true->(T (a,i)).ev c=true->(cC R' m (ap2 bj d (T (a,m))) i).ev c=true:=λi hi c h1 h2=>by
  rcases UX.1 hi with hi|hi
  ·exact (key i c).2 (.inl (h.cpl i hi c h1 h2))
  ·have:=UU.1 hi;subst this;exact (key i c).2 (.inr ⟨rfl,h1,h2⟩)
 have hsx:=dE h.sx hx (n:=m);constructor
 ·intro hne;refine ⟨hsx,h.le.trans (eI h.sx hx),λi c hc=> ?_,cp,λi hi=> ?_,?_⟩
  ·rcases (key i c).1 hc with hc|⟨rfl,h1,h2⟩
   ·exact h.snd i c hc
   ·exact .inr ⟨h1,h2⟩
  ·by_cases e:i=m
   ·rw [e];simp
   ·have:cC R' m (ap2 bj d (T (a,m))) i=R' i:=by unfold cC eU;rw [if_neg e]
    rw [this] at hi;exact UX.2 (.inl (h.pu i hi))
  ·have h1:=(AD h.sx hsx (eI h.sx hx) keys).2 m hm λe=>hne (by
    funext i;by_cases ei:i=m
    ·rw [ei];exact e.symm
    ·unfold cC eU;rw [if_neg ei])
   have:=h.mu;rw [UV,Va];omega
 ·intro he;rw [he] at cp;exact ⟨h.sx,h.le,h.snd,cp,h.pu,h.mu⟩
theorem oK {n:Int} {d:Tr} {w:Γ} {R:Int->Tr} {qs:Sl} {q keys:Φ} (hk:k<=6) (E:CyE G b14 mn b4 mt nx T) (q18:G b18=some (.cells #[.map (some mr)] 95)) (hT:Sxs k T) (hd:Sx k d) (hw:DV G w (dia d)) (hR:Sxs k R)
  (hn:∀m,T (n,m)≠leaf false->m∈nx n) (hk2:∀m∈nx n,m∈keys) (hl:(nx n).length<=1000000) (hq:q.length<=100000000)
  (h:St G F (mS aM G mr R::pt b19 (.cells #[Sl.v qs] 67)::que 3 qs (q.map vi)::As)):
  ai prog 121 #[vi n,.agg w,.pointer (some ⟨b14,0,none⟩),.pointer (some ⟨b18,0,none⟩),.pointer (some ⟨b4,0,none⟩),.pointer (some ⟨b19,0,none⟩)] F λr F'=>∃G' R' ps qs',r=.tuple #[]/\G.le G'/\Vis k keys T n d R R' ps/\
   St G' F' (mS aM G' mr R'::pt b19 (.cells #[Sl.v qs'] 67)::que 3 qs' ((q++ps).map vi)::As):=by
 obtain ⟨_,_,TI⟩:=Nz;refine SD ?_;unfold LH;refine h.newG λb7 G1 F1 l1 q7 _ h=> ?_;have E1:=E.le l1;obtain ⟨sn,hlk,hsn⟩:=E1.look h.le n;refine ⟨_,rfl,_,ld (h.le _ _ E1.q14) rfl,sn,hlk,?_⟩;have hsl:=hsn.len (by decide)
 refine bz (wH · n _ _ _ b7 sn _) (nx n).length (λi F'=>∃(G':PH) (R':Int->Tr) (ps:Φ) (qs':Sl),G1.le G'/\ps.length<=i/\Hk k keys T n d ((nx n).take i) R R' ps/\∃Bs,
  St G' F' ((mS aM G' mr R'::pt b19 (.cells #[Sl.v qs'] 67)::que 3 qs' ((q++ps).map vi)::As)++Bs)) ⟨G1,R,[],qs,aq _,UW _,⟨hR,Lt'.refl R,λm c h=> .inl h,λm hm=>(by simp at hm),λm h=>absurd rfl h,UW _⟩,[],
   by rw [Vx,Vx];exact h.imp 0 rfl λ_ _ hH=>hH.le l1⟩ ?_
 rintro i F2 N hi ⟨G2,R2,ps,qs2,l2,hpl,hv,Bs,h⟩ next;replace h:St G2 F2 (mS aM G2 mr R2::pt b19 (.cells #[Sl.v qs2] 67)::que 3 qs2 ((q++ps).map vi)::As):=h.pick id (λ_ _ _ _ e=>e) λi hi=>by rw [id,U9 hi]
 unfold wH;refine ⟨λhlt=> ?_,λhge=> ?_⟩
 ·have hlt:i<(nx n).length:=by omega
  refine ixc (hsn.le l2) (by decide) (by omega) (by omega) λa18 c18 m hm hrow hc=> ?_;rw [N4] at hm;obtain rfl:c18= #[vi m]:=hc;have hmm:=UY hm;refine ⟨m,be (bJ h.le hrow) rfl,_,rfl,_,ld (h.le _ _ (l2 _ _ (l1 _ _ q18))) rfl,?_⟩;refine (fC h (aq _) m).mono ?_;rintro _ F3 ⟨G3,u,rfl,hu,l3,h⟩;refine ⟨u,rfl,?_⟩;refine h.var hu.st (λb10 G4 F4 l4 q10 h=> ?_) rfl hu.size;have l14:=aa l2 (aa l3 l4);have E4:=E1.le l14;have hu4:=hu.le l4;obtain ⟨v,hlv,hv4⟩:=E4.step h.le (n,m);refine ⟨u,hu.size,ac (h.le _ _ q10),w,hw.size,ac (h.le _ _ (l14 _ _ q7)),_,rfl,_,ld (h.le _ _ E4.q4) rfl,v,hlv,?_⟩;have hx:Sx k (ap2 bj d (T (n,m))):=hd.ap2 (o:=bj) (hT _);have hA:∀{G':PH},G4.le G'->ai prog 35 #[.agg w,.agg v] G' λr G''=>(∃y,r=.tuple #[.agg y,vi 0]/\DV G'' y (dia (ap2 bj d (T (n,m)))))/\G'.le G'':=
   λl=>(iK hk hd (hT _) (hw.le (aa l1 (aa l14 l))) (hv4.le l)).mono λr F' ⟨x,a,b,c⟩=>⟨⟨x,a,b⟩,c⟩
  have hO:∀{G':PH} {y:Γ},G4.le G'->DV G' y (dia (ap2 bj d (T (n,m))))->ai prog 28 #[.agg u,.agg y] G' λr G''=>(∃y,r=.tuple #[.agg y,vi 0]/\DV G'' y (dia (ap2 oOr (R2 m) (ap2 bj d (T (n,m))))))/\G'.le G'':=
   λl hy=>(wl hk (hv.sx m) hx (hu4.le l) hy).mono λr F' ⟨x,a,b,c⟩=>⟨⟨x,a,b⟩,c⟩
  obtain ⟨va1,va2⟩:=hv.add hT hd (hk2 m hmm);have et:=fb hm;have fin:∀{G' F':PH} {y w0:Γ} {b11:Nat},w0.size=2->G4.le G'->DV G' y (dia (ap2 oOr (R2 m) (ap2 bj d (T (n,m)))))->St G' F' (pt b11 (.cells w0 31)::mS aM G2 mr R2::pt b19 (.cells #[Sl.v qs2] 67)::que 3 qs2 ((q++ps).map vi)::As)->
    au F' (Addr.mk b11 0 none) 2 y λF=>iO N n (Addr.mk b18 0 none) (some (Addr.mk b4 0 none)) (some (Addr.mk b19 0 none)) b7 m b10 sn (i:Int) (some (Addr.mk b11 0 none)) (λr F'=>∃G' R' ps qs',r=.tuple #[]/\G.le G'/\Vis k keys T n d R R' ps/\
     St G' F' (mS aM G' mr R'::pt b19 (.cells #[Sl.v qs'] 67)::que 3 qs' ((q++ps).map vi)::As)) F:=λ{G' F' y w0 b11} hw0 l hy h=>by
   refine h.put0 hy.size hw0 hy.st λF5 h=> ?_;unfold iO;refine ⟨u,hu.size,ac (h.le _ _ (l _ _ q10)),_,rfl,y,hy.size,ac (h.ptAt (i:=0) rfl),?_⟩;refine h.runv (jQ (hu4.le l) hy (pF ((hv.sx m).small hk))) λG6 F6 l6 h=>⟨_,rfl,?_⟩;have kk:=(hv.sx m).ap2 (o:=oOr) hx;have l26:=aa (aa l3 l4) (aa l l6);refine ⟨λhne=> ?_,λhe=> ?_⟩
   ·have hne:ap2 oOr (R2 m) (ap2 bj d (T (n,m)))≠R2 m:=λe=>by rw [e,decide_eq_true rfl] at hne;cases hne
    refine ⟨_,ld (h.le _ _ (aa l2 l26 _ _ (l1 _ _ q18))) rfl,y,hy.size,ac (h.ptAt (i:=0) rfl),?_⟩;obtain ⟨o,mp,m1,m2,m3⟩:=h.mS_at (i:=1) rfl;refine aX xW m1 m2 m (.agg y) λo' ho'=> ?_;have h:=h.mS_set 1 rfl (G1:=G6) (S':=cC R2 m (ap2 bj d (T (n,m)))) ho' ((m3.le l26).put (hy.le l6));refine ⟨_,rfl,qs2,ld (h.ptAt (i:=2) rfl) rfl,?_⟩;have hql:qs2.len=(q++ps).length:=by have:=(h.queAt (i:=3) rfl).len;rw [U6,Vs] at this;exact this.symm
    rw [UV] at hql;refine h.newG λb47 G7 F7 l7 q47 _ h=> ?_;refine h.quePush TI 3 rfl (RdS.new (h.le _ _ q47) rfl rfl (UW _)) (by simp [ak]) (by omega) λs' F8 h hs'=> ?_;refine h.set2 (w':= #[Sl.v s']) (by show 0<1;decide) rfl λF9 h=> ?_;unfold pY;rw [aI hlt (by omega)];refine next _ hlt ⟨G7,_,ps++[m],s',aa l2 (aa l26 l7),by rw [UV,Va];omega,by rw [et];exact va1 λe=>hne (jZ.1 e),[pt b11 (.cells y 31)],?_⟩;rw [<- Vo,Vm (l₁:=q++ps)];exact (h.imp 1 rfl λ_ _ hH=>mS.le hH l7).rot
   ·have e:ap2 oOr (R2 m) (ap2 bj d (T (n,m)))=R2 m:=by
     have:decide (dia (R2 m)=dia (ap2 oOr (R2 m) (ap2 bj d (T (n,m)))))=true:=by simpa using he
     exact (pq (hv.sx m).1 kk.1 (of_decide_eq_true this)).symm
    unfold pY;rw [aI hlt (by omega)];refine next _ hlt ⟨G6,R2,ps,qs2,aa l2 l26,by omega,by rw [et];exact va2 (jZ.2 e),[pt b11 (.cells y 31)],?_⟩;exact (h.imp 1 rfl λ_ _ hH=>mS.le hH l26).rot
  have c4:∀{G' F':PH} {As:List (Ψ)},G4.le G'->St G' F' As->F'.cell (Addr.mk b4 0 none)=some (.map (some mt)):=λl h=>ld (h.le _ _ (E4.le l).q4) rfl;have r10:∀{G' F':PH} {As:List (Ψ)},G4.le G'->St G' F' As->F'.row (Addr.mk b10 0 none) u:=λl h=>ac (h.le _ _ (l _ _ q10));refine ⟨?_,?_⟩
  ·refine h.run (hA (aq _)) λ_ G5 F5 hr5 l5 h=> ?_;obtain ⟨y,rfl,hy⟩:=hr5;refine ⟨_,_,rfl,c4 l5 h,r10 l5 h,?_,?_⟩
   ·refine h.runv (bq hy) λG6 F6 l6 h=>⟨_,rfl,c4 (aa l5 l6) h,r10 (aa l5 l6) h,?_,?_⟩
    ·refine h.run (hO (aa l5 l6) (hy.le l6)) λ_ G7 F7 hr7 l7 h=> ?_;obtain ⟨z,rfl,hz⟩:=hr7;have l57:=aa (aa l5 l6) l7;refine ⟨_,_,rfl,c4 l57 h,?_,?_⟩
     ·refine h.runv (bq hz) λG8 F8 l8 h=>⟨_,rfl,c4 (aa l57 l8) h,?_⟩;exact h.new λb11 F9 h=>fin rfl (aa l57 l8) (hz.le l8) h
     ·refine h.new λb11 F8 h=> ?_;exact h.runv (bq hz) λG8 F8 l8 h=>⟨_,rfl,c4 (aa l57 l8) h,fin rfl (aa l57 l8) (hz.le l8) h⟩
    ·refine h.new λb11 F7 h=> ?_;refine h.run (hO (aa l5 l6) (hy.le l6)) λ_ G7 F7 hr7 l7 h=> ?_;obtain ⟨z,rfl,hz⟩:=hr7;refine ⟨_,_,rfl,c4 (aa (aa l5 l6) l7) h,?_⟩;exact h.runv (bq hz) λG8 F8 l8 h=>⟨_,rfl,c4 (aa (aa l5 l6) (aa l7 l8)) h,fin rfl (aa (aa l5 l6) (aa l7 l8)) (hz.le l8) h⟩
   ·refine h.new λb11 F6 h=> ?_;refine h.runv (bq hy) λG6 F6 l6 h=>⟨_,rfl,c4 (aa l5 l6) h,r10 (aa l5 l6) h,?_⟩;refine h.run (hO (aa l5 l6) (hy.le l6)) λ_ G7 F7 hr7 l7 h=> ?_;obtain ⟨z,rfl,hz⟩:=hr7;refine ⟨_,_,rfl,c4 (aa (aa l5 l6) l7) h,?_⟩;exact h.runv (bq hz) λG8 F8 l8 h=>⟨_,rfl,c4 (aa (aa l5 l6) (aa l7 l8)) h,fin rfl (aa (aa l5 l6) (aa l7 l8)) (hz.le l8) h⟩
  ·refine h.new λb11 F5 h=> ?_;refine h.run (hA (aq _)) λ_ G5 F5 hr5 l5 h=> ?_;obtain ⟨y,rfl,hy⟩:=hr5;refine ⟨_,_,rfl,c4 l5 h,r10 l5 h,?_⟩;refine h.runv (bq hy) λG6 F6 l6 h=>⟨_,rfl,c4 (aa l5 l6) h,r10 (aa l5 l6) h,?_⟩;refine h.run (hO (aa l5 l6) (hy.le l6)) λ_ G7 F7 hr7 l7 h=> ?_;obtain ⟨z,rfl,hz⟩:=hr7;refine ⟨_,_,rfl,c4 (aa (aa l5 l6) l7) h,?_⟩;exact h.runv (bq hz) λG8 F8 l8 h=>⟨_,rfl,c4 (aa (aa l5 l6) (aa l7 l8)) h,fin rfl (aa (aa l5 l6) (aa l7 l8)) (hz.le l8) h⟩
 ·have e:i=(nx n).length:=by omega
  subst e;rw [U7] at hv;exact ⟨G2,R2,ps,qs2,rfl,aa l1 l2,⟨hv.sx,hv.le,hv.snd,λm c h1 h2=>hv.cpl m (hn m λe=>by rw [e] at h2;cases h2) c h1 h2,hv.pu,hv.mu⟩,h⟩
end
end Go.Proofs.YtcemhghkipgdiaaGreatDoor
