/-
  Steps between nonterminals as sets; what is reached by them.
-/
import Derived.Test.YtcemhghkipgdiaaGreatDoorAv
import Derived.MapKept
import Derived.Test.YtcemhghkipgdiaaGreatDoorAt
import Derived.Test.YtcemhghkipgdiaaGreatDoorAm
namespace Go.Proofs.YtcemhghkipgdiaaGreatDoor
open Go Go.Proofs.Tryz
set_option maxRecDepth 10000
theorem gb {α:Type} [DecidableEq α]:∀{l m:List α},l.Nodup->(∀x∈l,x∈m)->l.length<=m.length
 |[],_,_,_=>Nat.zero_le _
 |x::l,m,h,hs=>by rw [Tz] at h;have hx:=hs x (by simp);have:=gb (m:=m.erase x) h.2 λy hy=>(List.mem_erase_of_ne λe=>h.1 (by rw [<- e];exact hy)).2 (hs y (SN _ hy));rw [List.length_erase_of_mem hx] at this;have h0:0<m.length:=List.length_pos_of_mem hx;rw [ST];omega
theorem jx {K:Type} [DecidableEq K] {k:K} {v:Value}:∀{L:List (K×Value)},(L.map (·.1)).Nodup->(lk k L=some v↔(k,v)∈L)
 |[],_=>by simp [lk]
 |p::L,h=>by
  rw [S4,Tz] at h;unfold lk;by_cases e:k=p.1
  ·rw [if_pos e];constructor
   ·intro h';cases h';rw [e];exact TG ..
   ·intro h';rcases Sw.1 h' with h'|h'
    ·rw [<- h']
    ·exact absurd (SL.2 ⟨_,h',e⟩) h.1
  ·rw [if_neg e,jx h.2,Sw];exact ⟨.inr,λh'=>h'.resolve_left λh'=>e (by rw [<- h'])⟩
theorem sY {K:Type} [DecidableEq K] (k:K):∀(L:List (K×Value)) (i:Nat),fnd k L i=none->∀p∈L,p.1≠k
 |[],_,_,p,h=>by cases h
 |q::L,i,h,p,hp=>by
  unfold fnd at h;split at h
  ·cases h
  ·rename_i hn;rcases Sw.1 hp with rfl|hp
   ·exact λe=>hn e.symm
   ·exact sY k L _ h p hp
section
variable {K:Type} [DecidableEq K] {enc:K->Value} {m:K->Option Value} {F:PH} {r:Nat}
structure rb (enc:K->Value) (m:K->Option Value) (es:Array MapEntry) (c:Nat) (L:List (K×Value)):Prop where
 eq:es.toList.map (λe=>(e.key,e.val))=L.map (λp=>(enc p.1,p.2))
 lk:∀k,m k=lk k L
 st:MapKept.Stamped es c
def wL (enc:K->Value) (m:K->Option Value) (o:Obj):Prop:=∃es c L,o=.map es c/\rb enc m es c L
theorem wL.mapO {o:Obj} (h:wL enc m o):dY enc m o:=by obtain ⟨es,c,L,rfl,h⟩:=h;exact ⟨es,c,L,rfl,h.eq,h.lk⟩
theorem wL.empty (enc:K->Value):wL enc (λ_=>none) (.map #[] 0):=⟨#[],0,[],rfl,rfl,λ_=>rfl,MapKept.stamped_empty 0⟩
theorem rb.len {es:Array MapEntry} {c:Nat} {L:List (K×Value)} (h:rb enc m es c L):es.size=L.length:=by simpa using congrArg List.length h.eq
theorem rb.nodup {es:Array MapEntry} {c:Nat} {L:List (K×Value)} (h:rb enc m es c L):(L.map (·.1)).Nodup:=by
 have h3:=h.st.2.2;have e:es.toList.map (·.key)=(L.map (·.1)).map enc:=by have:=congrArg (List.map Prod.fst) h.eq;simpa [List.map_map,Function.comp_def] using this
 rw [e] at h3;exact (List.pairwise_map.1 h3).imp λhne e=>hne (by rw [e])
theorem rb.entry {es:Array MapEntry} {c:Nat} {L:List (K×Value)} (h:rb enc m es c L) {e:MapEntry} (he:e∈es.toList):∃k,e.key=enc k/\m k=some e.val:=by
 have h1:(e.key,e.val)∈es.toList.map (λe=>(e.key,e.val)):=SL.2 ⟨e,he,rfl⟩;rw [h.eq] at h1;obtain ⟨p,hp,h2⟩:=SL.1 h1;injection h2 with h2 h3
 exact ⟨p.1,h2.symm,by rw [h.lk,<- h3];exact (jx h.nodup).2 hp⟩
theorem rb.of {es:Array MapEntry} {c:Nat} {L:List (K×Value)} (h:rb enc m es c L) {k:K} {v:Value} (hk:m k=some v):∃e∈es.toList,e.key=enc k/\e.val=v:=by
 rw [h.lk,jx h.nodup] at hk;have h1:(enc k,v)∈L.map λp=>(enc p.1,p.2):=SL.2 ⟨_,hk,rfl⟩;rw [<- h.eq] at h1;obtain ⟨e,he,h2⟩:=SL.1 h1;injection h2 with h2 h3
 exact ⟨e,he,h2,h3⟩
variable {P:Program} {mt:TypeId} {z:Value}
theorem Cc (hm:fL P mt enc z) (inj:∀a b,enc a=enc b->a=b) {o:Obj} (hr:F r=some o) (ho:wL enc m o) (k:K) (v:Value) {Q:Unit->Ψ}
  (h:∀o',wL enc (λk'=>if k'=k then some v else m k') o'->Q () (F.set r o')):aD P (Instr.mapUpdate mt (.map (some r)) (enc k) v) F Q:=by
 obtain ⟨kt,e,h1,h2,hk⟩:=hm.ex;have hnc:=ho.mapO.not_cells;obtain ⟨es,c,L,rfl,hL⟩:=ho;have h3:=hL.eq;have hf:=kK k v L 0;have hn:=kJ k v L 0;unfold Instr.mapUpdate;simp only [aA,bR h1];refine ⟨_,hr,hnc,?_⟩;rw [show (Sem.pure (Obj.map es c):Sem Obj)=pure (Obj.map es c) from rfl];simp only [aJ,aA];refine gC _ _ _ _ (hk.chk F _ k) ?_;refine gC _ _ _ _ (fY hk k _ _ h3) ?_;have hmm:∀k',(if k'=k then some v else m k')=lk k' (upL k v L):=λk'=>by rw [xK,hL.lk]
 cases hfd:fnd k L 0 with
 |none=>
  refine ⟨_,hr,hnc,h _ ⟨_,_,upL k v L,rfl,?_,hmm,MapKept.stamped_push hL.st λx hx=> ?_⟩⟩
  ·rw [(hn hfd).2];simp [h3]
  ·obtain ⟨k',e1,e2⟩:=hL.entry hx;rw [e1];intro e';have:=inj _ _ e';rw [hL.lk,jx hL.nodup] at e2;exact sY k L 0 hfd _ e2 this
 |some q=>
  obtain ⟨j,w⟩:=q;obtain ⟨d,hj,hd,h5,h6,h7⟩:=hf j w hfd;obtain rfl:j=d:=by omega
  have hlen:=hL.len;have hjk:∀e∈es.toList,es[j]? =some e->enc k=e.key:=λe _ he=>by
   have:=congrArg (λl=>l[j]?) h3;simp only [SQ,h5,Tt,TV,he] at this;injection this with this
   injection this with this _
   exact this.symm
  have hkey:(es[j]?.map (·.key)).getD (enc k)=enc k:=by
   have:=congrArg (λl=>l[j]?) h3;simp only [SQ,h5,Tt] at this;have hj2:j<es.size:=by omega
   simp [hj2] at this ⊢;exact this.1
  simp only [aA,hkey,Instr.keyThatStays,hk.same,if_true,aJ];refine ⟨_,hr,hnc,h _ ⟨_,_,upL k v L,rfl,?_,hmm,MapKept.stamped_modify hL.st j _ (λ_ _=>rfl) (λe he1 he2=>hjk e he1 he2)⟩⟩;rw [h7];apply TD;intro i;have h3i:=congrArg (λl=>l[i]?) h3;simp only [SQ] at h3i;simp only [Array.toList_modify,SQ,T2,Ug];by_cases hi:j=i
  ·subst hi;have hj2:j<es.toList.length:=by simpa [hlen] using hd
   rw [N5 hj2];simp [hd]
  ·simp only [hi,if_false];simpa using h3i
end
section
variable {F:PH} {r:Nat}
theorem mK {n:Nat} (hn:0<n) {F:PH} {Q:Nat->Ψ} (h:∀i,i<n->Q i F):aD prog (choose (.mapNext n)) F Q:=by
 unfold choose;unfold aD;by_cases hf:(Question.mapNext n).forced=true
 ·rw [if_pos hf];exact h 0 hn
 ·rw [if_neg hf];intro t;exact h (t % n) (TC _ hn)
theorem yM {es:Array MapEntry} {c b:Nat} {bD:Array Nat} {ty:TypeId} (hr:F r=some (.map es c)) (hst:MapKept.Stamped es c) (hb:F b=some (.mapIter (some r) c bD c)) {Q:Value->Ψ}
  (h0:(∀e∈es.toList,bD.contains e.born=true)->Q (.tuple #[.bool false]) F)
  (h1:∀e∈es.toList,bD.contains e.born=false->Q (.tuple #[.bool true,e.key,e.val]) (F.set b (.mapIter (some r) c (bD.push e.born) c))):
  aD prog (Instr.next (.pointer (some ⟨b,0,none⟩)) false ty) F Q:=by
 unfold Instr.next;simp only [aA];refine ⟨_,hb,λ_ _ _ h=>(by cases h),?_⟩;rw [show (Sem.pure (Obj.mapIter (some r) c bD c):Sem Obj)=pure (Obj.mapIter (some r) c bD c) from rfl];simp only [aJ,aA];refine ⟨_,hr,λ_ _ _ h=>(by cases h),?_⟩;rw [show (Sem.pure (Obj.map es c):Sem Obj)=pure (Obj.map es c) from rfl];simp only [aJ];have hall:(es.all λe=>decide (e.born≥c))=false\/es.isEmpty=true:=by
  by_cases he:es.isEmpty=true
  ·exact .inr he
  ·left;rw [Tx];intro hc;rw [Array.all_eq_true'] at hc;have hne:es.toList≠[]:=λe=>he (by rw [Array.isEmpty_iff];exact Array.toList_eq_nil_iff.1 e);obtain ⟨x,hx⟩:=List.exists_mem_of_ne_nil _ hne;have h2:=hst.1 x hx;have h3:=hc x (Array.mem_def.2 hx);simp at h3;omega
 have hif:(!bD.isEmpty && !es.isEmpty && es.all λe=>decide (e.born≥c))=false:=by rcases hall with h|h<;>simp [h]
 rw [hif];simp only [S9,if_false,aA]
 refine mK (by
  rw [Array.size_append];by_cases ho:((es.filter λe=> !bD.contains e.born).filter λx=>decide (x.born<c)).isEmpty=true
  ·rw [if_pos ho];exact Nat.lt_of_lt_of_le Nat.zero_lt_one (Nat.le_add_right _ _)
  ·rw [if_neg ho];have:0<((es.filter λe=> !bD.contains e.born).filter λx=>decide (x.born<c)).size:=by
    rcases TW ((es.filter λe=> !bD.contains e.born).filter λx=>decide (x.born<c)).size with h|h
    ·exact absurd (by simpa [Array.isEmpty] using h) ho
    ·exact h
   rw [Array.size_map,Array.size_append]
   omega) λi hi=> ?_
 rw [SZ hi];have hmem:=Array.getElem_mem hi;revert hmem;generalize ((if ((es.filter λe=> !bD.contains e.born).filter λx=>decide (x.born<c)).isEmpty=true then #[none] else #[])++Array.map some ((es.filter λe=> !bD.contains e.born).filter (λx=>decide (x.born<c))++(es.filter λe=> !bD.contains e.born).filter λx=>decide (x.born≥c)))[i]=y;intro hmem;rw [Array.mem_append] at hmem;cases y with
 |none=>
  simp only [aJ];refine h0 λe he=> ?_;have h3:=hst.1 e he;rcases hmem with hmem|hmem
  ·by_cases ho:((es.filter λe=> !bD.contains e.born).filter λx=>decide (x.born<c)).isEmpty=true
   ·cases hs:bD.contains e.born with
    |true=>rfl
    |false=>
     exfalso;have hin:e∈(es.filter λe=> !bD.contains e.born).filter λx=>decide (x.born<c):=by rw [Array.mem_filter,Array.mem_filter];exact ⟨⟨Array.mem_def.2 he,by rw [hs];rfl⟩,by simpa using h3⟩
     rw [Array.isEmpty_iff] at ho;rw [ho] at hin;exact absurd hin (by simp)
   ·rw [if_neg ho] at hmem;exact absurd hmem (by simp)
  ·rw [Array.mem_map] at hmem;obtain ⟨_,_,h⟩:=hmem;cases h
 |some e=>
  have hin:e∈es/\bD.contains e.born=false:=by
   rcases hmem with hmem|hmem
   ·split at hmem
    ·simp at hmem
    ·simp at hmem
   ·rw [Array.mem_map] at hmem;obtain ⟨e',he',h⟩:=hmem;injection h with h
    subst h;simp only [Array.mem_append,Array.mem_filter] at he';rcases he' with h|h
    ·exact ⟨h.1.1,by simpa using h.1.2⟩
    ·exact ⟨h.1.1,by simpa using h.1.2⟩
  simp only [aA,aJ];refine ⟨_,hb,λ_ _ _ h=>(by cases h),h1 e (Array.mem_def.1 hin.1) hin.2⟩
theorem wM {mt kt e:TypeId} (hm:prog.underlying mt=some (.map kt e)) {es:Array MapEntry} {c:Nat} (hr:F r=some (.map es c)) {Q:Value->Ψ} (h:∀b,F b=none->Q (.pointer (some ⟨b,0,none⟩)) (F.set b (.mapIter (some r) c #[] c))):aD prog (Instr.range mt (.map (some r))) F Q:=by unfold Instr.range;simp only [aA,bR hm];refine ⟨_,hr,λ_ _ _ h=>(by cases h),?_⟩;rw [show (Sem.pure (Obj.map es c):Sem Obj)=pure (Obj.map es c) from rfl];simp only [aJ,aA,newObj,aD];exact h
theorem rc:∀{l:List MapEntry},(l.map (·.born)).Nodup->∀{a b},a∈l->b∈l->a.born=b.born->a=b
 |[],_,_,_,ha,_,_=>by simp at ha
 |x::l,h,a,b,ha,hb,e=>by
  rw [S4,Tz] at h;rcases Sw.1 ha with ha|ha<;>rcases Sw.1 hb with hb|hb
  ·rw [ha,hb]
  ·exact absurd (SL.2 ⟨b,hb,by rw [<- e,ha]⟩) h.1
  ·exact absurd (SL.2 ⟨a,ha,by rw [e,hb]⟩) h.1
  ·exact rc h.2 ha hb e
theorem Cd {F:PH} {es:Array MapEntry} {c r b:Nat} {bD:Array Nat} {e:MapEntry} (hr:F r=some (.map es c)) (hst:MapKept.Stamped es c) (hb:F b=some (.mapIter (some r) c (bD.push e.born) c)) (he:e∈es.toList):
  rdo prog (Instr.entry (.pointer (some ⟨b,0,none⟩))) F (.tuple #[e.key,e.val]):=by
 unfold Instr.entry;simp only [ai];refine ⟨_,⟨_,hb,λ_ _ _ h=>(by cases h),rfl⟩,?_⟩;simp only [Array.back?_push];simp only [ai];refine ⟨_,⟨_,hr,λ_ _ _ h=>(by cases h),rfl⟩,?_⟩;simp only [bne_self_eq_false,S9,if_false];have hf:es.find? (λx=>x.born==e.born)=some e:=by
  cases h:es.find? (λx=>x.born==e.born) with
  |none=>rw [Array.find?_eq_none] at h;exact absurd (show (e.born==e.born)=true by simp) (h e (Array.mem_def.2 he))
  |some y=>have h1:=Array.mem_of_find?_eq_some h;have h2:=Array.find?_some h;rw [rc hst.2.1 (Array.mem_def.1 h1) he (by simpa using h2)]
 rw [hf];rfl
end
section
variable {K:Type} [DecidableEq K] {enc:K->Value} {m:K->Option Value} {G F:PH} {As:List (Ψ)} {r b c:Nat} {es:Array MapEntry} {L:List (K×Value)}
theorem St.newB (h:St G F As) {b:Nat} (hb:F b=none) (o:Obj):St G (F.set b o) (pt b o::As):=h.push (H:=PH.set (λ_=>none) b o) (al _ _ _) (λx hx=>by
 by_cases e:x=b
 ·rw [e];exact hb
 ·rw [az _ _ e] at hx;exact absurd rfl hx) (λx p hx=>by
 by_cases e:x=b
 ·rw [e,al] at hx ⊢;exact hx
 ·rw [az _ _ e] at hx;cases hx) (ae o hb)
def itG (enc:K->Value) (r b:Nat) (es:Array MapEntry) (c:Nat) (ks:List K):Ψ:=λH=>∃done:List MapEntry,done.map (·.key)=ks.map enc/\(∀e∈done,e∈es.toList)/\H b=some (.mapIter (some r) c (done.map (·.born)).toArray c)
theorem St.rangeG {mt kt e:TypeId} (hm:prog.underlying mt=some (.map kt e)) (h:St G F As) (enc:K->Value) (hr:F r=some (.map es c)) {C:Nat->Ψ} (k:∀b F',St G F' (itG enc r b es c []::As)->C b F'):
  aD prog (Instr.range mt (.map (some r))) F λv F=>∃b,v=.pointer (some ⟨b,0,none⟩)/\C b F:=by
 have _:=(inferInstance:DecidableEq K);refine wM hm hr λb hb=>⟨b,rfl,?_⟩;have:=h.newB hb (.mapIter (some r) c #[] c);exact k b _ (this.imp 0 rfl λH _ hH=>⟨[],rfl,λ_ h=>(by cases h),hH⟩)
theorem St.nextG (hL:rb enc m es c L) (inj:∀a b,enc a=enc b->a=b) {ks:List K} (h:St G F (itG enc r b es c ks::As)) (hn:ks.Nodup) (hs:∀k∈ks,∃v,m k=some v) (hr:F r=some (.map es c)) {ty:TypeId} {Q:Value->Ψ}
  (fin:(∀k v,m k=some v->k∈ks)->Q (.tuple #[.bool false]) F)
  (step:∀k v F',m k=some v->k ∉ ks->ks.length<es.size->St G F' (itG enc r b es c (ks++[k])::As)->F' r=some (.map es c)->rdo prog (Instr.entry (.pointer (some ⟨b,0,none⟩))) F' (.tuple #[enc k,v])->Q (.tuple #[.bool true,enc k,v]) F'):
  aD prog (Instr.next (.pointer (some ⟨b,0,none⟩)) false ty) F Q:=by
 obtain ⟨H,⟨done,h1,h2,h3⟩,hd,hle,hset⟩:=h.set (i:=0) (A':=itG enc r b es c ks) rfl;clear hset;have hb:=hle _ _ h3;have hkey:∀e∈es.toList,e∈done↔∃k∈ks,e.key=enc k:=λe he=>by
  constructor
  ·intro hi;have:e.key∈done.map (·.key):=SL.2 ⟨e,hi,rfl⟩;rw [h1] at this;obtain ⟨k,hk,e'⟩:=SL.1 this;exact ⟨k,hk,e'.symm⟩
  ·rintro ⟨k,hk,e'⟩;have:enc k∈ks.map enc:=SL.2 ⟨k,hk,rfl⟩;rw [<- h1] at this;obtain ⟨x,hx,e2⟩:=SL.1 this;have:x=e:=oF hL.st.2.2 (h2 x hx) he (by rw [e2,e']);rw [<- this];exact hx
 have hseen:∀e∈es.toList,((done.map (·.born)).toArray.contains e.born=true↔e∈done):=λe he=>by
  rw [Array.contains_iff_mem,Array.mem_def];constructor
  ·intro hi;obtain ⟨a,ha,e'⟩:=SL.1 hi;rw [<- rc hL.st.2.1 (h2 a ha) he e'];exact ha
  ·intro hi;exact SL.2 ⟨e,hi,rfl⟩
 refine yM hr hL.st hb (λhall=>fin λk v hk=> ?_) λe he hnew=> ?_
 ·obtain ⟨e,he,e1,_⟩:=hL.of hk;obtain ⟨k',hk',e2⟩:=(hkey e he).1 ((hseen e he).1 (hall e he));rw [inj k k' (by rw [<- e1,e2])];exact hk'
 ·obtain ⟨k,e1,e2⟩:=hL.entry he;have hnd:e ∉ done:=λhi=>by rw [(hseen e he).2 hi] at hnew;cases hnew
  have hk:k ∉ ks:=λhi=>hnd ((hkey e he).2 ⟨k,hi,e1⟩);have hne:r≠b:=λe'=>by rw [e',hb] at hr;cases hr
  have hr':(F.set b (.mapIter (some r) c ((done.map (·.born)).toArray.push e.born) c)) r=some (.map es c):=by rw [az _ _ hne];exact hr
  have hlt:ks.length<es.size:=by
   have hsub:∀x∈ks++[k],x∈L.map (·.1):=λx hx=>by
    have:∃v,m x=some v:=by
     rcases SD.1 hx with hx|hx
     ·exact hs x hx
     ·rw [SA.1 hx];exact ⟨_,e2⟩
    obtain ⟨v,hv⟩:=this;rw [hL.lk,jx hL.nodup] at hv;exact SL.2 ⟨_,hv,rfl⟩
   have hnn:(ks++[k]).Nodup:=by rw [S7];exact ⟨hn,by simp,λa ha b' hb' e'=>hk (by rw [SA.1 hb'] at e';rw [<- e'];exact ha)⟩
   have:=gb hnn hsub;rw [SF,SO,SM,<- hL.len] at this;omega
  have hst:St G (F.set b (.mapIter (some r) c ((done.map (·.born)).toArray.push e.born) c)) (itG enc r b es c (ks++[k])::As):=by
   obtain ⟨H2,⟨d2,g1,g2,g3⟩,gd,gle,gset⟩:=h.set (i:=0) (A':=itG enc r b es c (ks++[k])) rfl;have ed:d2.map (·.born)=done.map (·.born):=by
    have:=gle _ _ g3;rw [hb] at this;injection this with this
    injection this with _ _ this _
    simpa using this.symm
   refine gset (H2.set b (.mapIter (some r) c ((done.map (·.born)).toArray.push e.born) c)) _ ⟨d2++[e],by simp [g1,e1],λx hx=> ?_,?_⟩ (λx hx=> ?_) (λx p hx=> ?_) (λx p hx hn=> ?_)
   ·rcases SD.1 hx with hx|hx
    ·exact g2 x hx
    ·rw [SA.1 hx];exact he
   ·rw [al,Tf,ed];simp
   ·by_cases e':x=b
    ·rw [e',g3];exact .inl (by simp)
    ·rw [az _ _ e'] at hx;exact .inl hx
   ·by_cases e':x=b
    ·rw [e',al] at hx ⊢;exact hx
    ·rw [az _ _ e'] at hx ⊢;exact gle _ _ hx
   ·have e':x≠b:=λe'=>by rw [e',g3] at hn;cases hn
    rw [az _ _ e'];exact hx
  have hent:=Cd (e:=e) hr' hL.st (al F b (.mapIter (some r) c ((done.map (·.born)).toArray.push e.born) c)) he;rw [e1] at hent ⊢;exact step k e.val _ e2 hk hlt hst hr' hent
where
 oF:∀{l:List MapEntry},(l.map (·.key)).Nodup->∀{a b:MapEntry},a∈l->b∈l->a.key=b.key->a=b
  |[],_,_,_,ha,_,_=>by simp at ha
  |x::l,h,a,b,ha,hb,e=>by
   rw [S4,Tz] at h;rcases Sw.1 ha with ha|ha<;>rcases Sw.1 hb with hb|hb
   ·rw [ha,hb]
   ·exact absurd (SL.2 ⟨b,hb,by rw [<- e,ha]⟩) h.1
   ·exact absurd (SL.2 ⟨a,ha,by rw [e,hb]⟩) h.1
   ·exact oF h.2 ha hb e
end
end Go.Proofs.YtcemhghkipgdiaaGreatDoor
namespace Go.Proofs.YtcemhghkipgdiaaGreatDoor
open Go Go.Proofs.Tryz Tr
set_option maxRecDepth 10000
section
variable {k:Nat} {l:List Pr} {P:Nat->Tr} {N:Int->Tr}
noncomputable def mL (N:Int->Tr) (Pi:Tr) (r:List Sy) (j:Nat):Tr:=if (r.eraseIdx j).any (·.t)=true then leaf false else dn N Pi (r.eraseIdx j)
noncomputable def rg (N:Int->Tr) (Pi:Tr) (x:Pr):Nat->List Sy->(Int×Int->Tr)->Int×Int->Tr
 |_,[],S=>S
 |j,s::r,S=>rg N Pi x (j+1) r (if s.t=true then S else cu S (x.left,s.i) (mL N Pi x.right j))
noncomputable def rK (N:Int->Tr) (P:Nat->Tr):Nat->List Pr->(Int×Int->Tr)->Int×Int->Tr
 |_,[],S=>S
 |i,x::l,S=>rK N P (i+1) l (rg N (P i) x 0 x.right S)
theorem ia (hN:Sxs k N) {Pi:Tr} (hP:Sx k Pi) (r:List Sy) (j:Nat):Sx k (mL N Pi r j)/\∀c,(mL N Pi r j).ev c=true↔Pi.ev c=true/\∀m y,m≠j->r[m]? =some y->y.t=false/\(N y.i).ev c=true:=by
 obtain ⟨h1,h2⟩:=bl hN (r.eraseIdx j) hP;unfold mL;by_cases ht:(r.eraseIdx j).any (·.t)=true
 ·rw [if_pos ht];refine ⟨Sx.leaf k false,λc=>⟨λh=>(by cases h),λh=> ?_⟩⟩;rw [TH] at ht;obtain ⟨y,hy,hyt⟩:=ht;obtain ⟨m,hm,hmy⟩:=List.mem_eraseIdx_iff_getElem?.1 hy;have:=(h.2 m y hm hmy).1;rw [hyt] at this;cases this
 ·rw [if_neg ht];refine ⟨h1,λc=> ?_⟩;rw [h2,SX,Tc];refine and_congr_right λ_=>⟨λh m y hm hmy=> ?_,λh y hy=> ?_⟩
  ·have hy:y∈r.eraseIdx j:=List.mem_eraseIdx_iff_getElem?.2 ⟨m,hm,hmy⟩;have hyt:y.t=false:=by
    cases e:y.t with
    |false=>rfl
    |true=>exact absurd (TH.2 ⟨y,hy,e⟩) ht
   have:=h y hy;rw [hyt,Ui] at this;exact ⟨hyt,this⟩
  ·obtain ⟨m,hm,hmy⟩:=List.mem_eraseIdx_iff_getElem?.1 hy;rw [(h m y hm hmy).2,Bool.or_true]
theorem ki (hN:Sxs k N) {Pi:Tr} (hP:Sx k Pi) (x:Pr):∀(r:List Sy) (j:Nat) {S:Int×Int->Tr},Sxs k S->Sxs k (rg N Pi x j r S)/\
  ∀n c,(rg N Pi x j r S n).ev c=true↔(S n).ev c=true\/∃m s,r[m]? =some s/\s.t=false/\n=(x.left,s.i)/\(mL N Pi x.right (j+m)).ev c=true
 |[],j,S,hS=>⟨hS,λn c=>⟨.inl,λh=>h.resolve_right λ⟨m,s,h,_⟩=>(by simp at h)⟩⟩
 |s::r,j,S,hS=>by
  have hd:=(ia hN hP x.right j).1;unfold rg;have shift:∀(n:Int×Int) (c:Cf),(∃m y,(s::r)[m]? =some y/\y.t=false/\n=(x.left,y.i)/\(mL N Pi x.right (j+m)).ev c=true)↔(s.t=false/\n=(x.left,s.i)/\(mL N Pi x.right j).ev c=true)\/∃m y,r[m]? =some y/\y.t=false/\n=(x.left,y.i)/\(mL N Pi x.right (j+1+m)).ev c=true:=λn c=>by
   constructor
   ·rintro ⟨m,y,h1,h2,h3,h4⟩;cases m with
    |zero=>cases h1;exact .inl ⟨h2,h3,h4⟩
    |succ m=>exact .inr ⟨m,y,by simpa using h1,h2,h3,by rw [show j+1+m=j+(m+1) by omega];exact h4⟩
   ·rintro (⟨h2,h3,h4⟩|⟨m,y,h1,h2,h3,h4⟩)
    ·exact ⟨0,s,rfl,h2,h3,h4⟩
    ·exact ⟨m+1,y,by simpa using h1,h2,h3,by rw [show j+(m+1)=j+1+m by omega];exact h4⟩
  by_cases hs:s.t=true
  ·rw [if_pos hs];obtain ⟨h1,h2⟩:=ki hN hP x r (j+1) hS;refine ⟨h1,λn c=> ?_⟩;rw [h2,shift];refine or_congr_right ⟨.inr,λh=>h.resolve_left λ⟨h,_⟩=>(by rw [hs] at h;cases h)⟩
  ·rw [if_neg hs];obtain ⟨h1,h2⟩:=ki hN hP x r (j+1) (dm hS hd (n:=(x.left,s.i)));refine ⟨h1,λn c=> ?_⟩;rw [h2,shift,fk hS hd,TA,SX,decide_eq_true_eq,or_assoc];refine or_congr_right (or_congr_left ⟨λh=>⟨Tx.2 hs,h⟩,λh=>h.2⟩)
theorem ri (hN:Sxs k N) (hP:∀i,Sx k (P i)):∀(l:List Pr) (i:Nat) {S:Int×Int->Tr},Sxs k S->Sxs k (rK N P i l S)/\
  ∀n c,(rK N P i l S n).ev c=true↔(S n).ev c=true\/∃(m:Nat) (x:Pr) (j:Nat) (s:Sy),l[m]? =some x/\x.right[j]? =some s/\s.t=false/\n=(x.left,s.i)/\(mL N (P (i+m)) x.right j).ev c=true
 |[],i,S,hS=>⟨hS,λn c=>⟨.inl,λh=>h.resolve_right λ⟨m,x,j,s,h,_⟩=>(by simp at h)⟩⟩
 |x::l,i,S,hS=>by
  obtain ⟨g1,g2⟩:=ki hN (hP i) x x.right 0 hS;unfold rK;obtain ⟨h1,h2⟩:=ri hN hP l (i+1) g1;refine ⟨h1,λn c=> ?_⟩;rw [h2,g2,or_assoc];refine or_congr_right ?_;constructor
  ·rintro (⟨j,s,a,b,d,e⟩|⟨m,y,j,s,a,b,d,e,f⟩)
   ·exact ⟨0,x,j,s,rfl,a,b,d,by rw [SP] at e;exact e⟩
   ·exact ⟨m+1,y,j,s,by simpa using a,b,d,e,by rw [show i+(m+1)=i+1+m by omega];exact f⟩
  ·rintro ⟨m,y,j,s,a,b,d,e,f⟩;cases m with
   |zero=>cases a;exact .inl ⟨j,s,b,d,e,by rw [SP];exact f⟩
   |succ m=>exact .inr ⟨m,y,j,s,by simpa using a,b,d,e,by rw [show i+1+m=i+(m+1) by omega];exact f⟩
structure wO (k:Nat) (l:List Pr) (P:Nat->Tr) (S:Int×Int->Tr):Prop where
 sx:Sxs k S
 iff:∀n c,(S n).ev c=true↔Stp l P c n.1 n.2
theorem Hv (hN:dz k l P true N) (hP:∀i,Sx k (P i)):wO k l P (rK N P 0 l λ_=>leaf false):=by
 obtain ⟨h1,h2⟩:=ri hN.sx hP l 0 (S:=λ_=>leaf false) λ_=>Sx.leaf k false;refine ⟨h1,λn c=>(h2 n c).trans ?_⟩;constructor
 ·rintro (h|⟨m,x,j,s,a,b,d,e,f⟩)
  ·cases h
  ·rw [SP] at f;obtain ⟨f1,f2⟩:=((ia hN.sx (hP m) x.right j).2 c).1 f;rw [e];exact ⟨m,j,x,s,a,b,d,rfl,rfl,f1,λq y hq hy=>(f2 q y hq hy).imp id (hN.iff _ _).1⟩
 ·rintro ⟨i,j,x,s,a,b,d,e,f,g,h⟩;refine .inr ⟨i,x,j,s,a,b,d,Prod.ext e.symm f.symm,?_⟩;rw [SP];exact ((ia hN.sx (hP i) x.right j).2 c).2 ⟨g,λq y hq hy=>(h q y hq hy).imp id (hN.iff _ _).2⟩
def ip (l:List Pr):List (Int×Int):=l.flatMap λx=>x.right.map λs=>(x.left,s.i)
theorem Ce {l:List Pr} (h:∀x∈l,x.right.length<=16):(ip l).length<=l.length*16:=by
 induction l with
 |nil=>exact SC _
 |cons x l ih=>have h1:=h x (by simp);have h2:=ih λy hy=>h y (SN _ hy);unfold ip at*;rw [To,SF,SM,ST];omega
variable {T:Int×Int->Tr} {fam:Tr} {n:Int}
structure Bfs (k:Nat) (l:List Pr) (P:Nat->Tr) (T:Int×Int->Tr) (fam:Tr) (n:Int) (R:Int->Tr) (q:Φ):Prop where
 sx:Sxs k R
 snd:∀m c,(R m).ev c=true->Tg (Stp l P c) n m
 base:∀m c,fam.ev c=true->(T (n,m)).ev c=true->(R m).ev c=true
 clos:∀m,m≠n->m ∉ q->∀m' c,(R m).ev c=true->(T (m,m')).ev c=true->(R m').ev c=true
structure Vis (k:Nat) (keys:Φ) (T:Int×Int->Tr) (a:Int) (d:Tr) (R R':Int->Tr) (ps:Φ):Prop where
 sx:Sxs k R'
 le:Lt' R R'
 snd:∀m c,(R' m).ev c=true->(R m).ev c=true\/(d.ev c=true/\(T (a,m)).ev c=true)
 cpl:∀m c,d.ev c=true->(T (a,m)).ev c=true->(R' m).ev c=true
 pu:∀m,R' m≠R m->m∈ps
 mu:mu k keys R'+ps.length<=mu k keys R
theorem Bfs.start (hT:wO k l P T) {R:Int->Tr} {ps keys:Φ} (hv:Vis k keys T n fam (λ_=>leaf false) R ps):Bfs k l P T fam n R ps:=by
 refine ⟨hv.sx,λm c hc=> ?_,hv.cpl,λm _ hm m' c hc _=> ?_⟩
 ·rcases hv.snd m c hc with h|⟨_,h⟩
  ·cases h
  ·exact .one ((hT.iff _ _).1 h)
 ·have:R m=leaf false:=Classical.not_not.1 λe=>hm (hv.pu m e);rw [this] at hc;cases hc
theorem Bfs.visit (hT:wO k l P T) {R R':Int->Tr} {m:Int} {q ps keys:Φ} (h:Bfs k l P T fam n R (m::q)) (hv:Vis k keys T m (R m) R R' ps):Bfs k l P T fam n R' (q++ps):=by
 refine ⟨hv.sx,λm' c hc=> ?_,λm' c hf ht=>hv.le _ _ (h.base m' c hf ht),λa ha hq m' c hc ht=> ?_⟩
 ·rcases hv.snd m' c hc with h'|⟨h1,h2⟩
  ·exact h.snd m' c h'
  ·exact .snoc (h.snd m c h1) ((hT.iff _ _).1 h2)
 ·have hq1:a ∉ q:=λe=>hq (SD.2 (.inl e));have e:R' a=R a:=Classical.not_not.1 λe=>hq (SD.2 (.inr (hv.pu a e)));rw [e] at hc;by_cases ea:a=m
  ·rw [ea] at hc ht;exact hv.cpl m' c hc ht
  ·exact hv.le _ _ (h.clos a ha (λhm=>(Sw.1 hm).elim ea hq1) m' c hc ht)
theorem Bfs.skip {R:Int->Tr} {q:Φ} (h:Bfs k l P T fam n R (n::q)):Bfs k l P T fam n R q:=
 ⟨h.sx,h.snd,h.base,λm hm hq=>h.clos m hm λe=>(Sw.1 e).elim hm hq⟩
theorem Bfs.fin (hT:wO k l P T) (hf:∀a b c,Stp l P c a b->fam.ev c=true) {R:Int->Tr} (h:Bfs k l P T fam n R []) (c:Cf):(R n).ev c=true↔Tg (Stp l P c) n n:=by
 refine ⟨h.snd n c,λt=> ?_⟩;have key:∀{m:Int},Tg (Stp l P c) n m->(R m).ev c=true:=λ{m} t=>by
  induction t with
  |one h1=>exact h.base _ c (hf _ _ _ h1) ((hT.iff (n,_) c).2 h1)
  | @snoc b d _ h1 ih=>
   by_cases e:b=n
   ·rw [e] at h1;exact h.base _ c (hf _ _ _ h1) ((hT.iff (n,d) c).2 h1)
   ·exact h.clos b e (by simp) d c ih ((hT.iff (b,d) c).2 h1)
 exact key t
end
section
variable {g:Gr} {k:Nat}
theorem OkK.fam_of (h:OkK g k) {i:Nat} {c:Cf} (hp:(aF g i).ev c=true):(tre g.fam).ev c=true:=by
 cases hx:g.prods[i]? with
 |none=>
  have:aF g i=leaf false:=by unfold aF;rw [hx]
  rw [this] at hp;cases hp
 |some x=>rw [h.prs_ev hx,SX,SX] at hp;exact hp.1.1
theorem OkK.stp_fam (h:OkK g k) {c:Cf} {a b:Int} (s:Stp g.prods (aF g) c a b):(tre g.fam).ev c=true:=by obtain ⟨i,_,_,_,_,_,_,_,_,hp,_⟩:=s;exact h.fam_of hp
end
end Go.Proofs.YtcemhghkipgdiaaGreatDoor
