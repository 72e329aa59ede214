/-
  The codec that reads: the parts of a grammar, and Decode. Printed by a program.
-/
import Derived.Test.YtenpmjhnhepfdaaGreatDoorJl
namespace Go.Proofs.YtenpmjhnhepfdaaGreatDoor
open Go Go.Proofs.Tryz
set_option maxRecDepth 10000
theorem QA:∃b z,SlT 31 103 3 b z:=⟨_,_,underlying31,uv,uw,rfl,by decide,by decide⟩
theorem QB:∀N c0 l1 o v R i F,kj N c0 l1 o v R i F=cL 1 (fun _=>gJ (ldX) #[.string ⟨#[]⟩] 9 30 o l1 N i F) N c0 l1 o v R i F:=fun _ _ _ _ _ _ _ _=>rfl
theorem Oj:∀N c0 l1 o v R i F,km N c0 l1 o v R i F=cL 7 (fun _=>gJ (ldS 7) zT 79 34 o l1 N i F) N c0 l1 o v R i F:=fun _ _ _ _ _ _ _ _=>rfl
theorem Ok:∀N c0 l1 o v R i F,ko N c0 l1 o v R i F=cL 13 (fun _=>gJ (ldS 13) zP 67 35 o l1 N i F) N c0 l1 o v R i F:=fun _ _ _ _ _ _ _ _=>rfl
theorem Ol:∀N c0 l1 o v R i F,kq N c0 l1 o v R i F=cL 4 (fun _=>gJ (ldS 4) zL 72 36 o l1 N i F) N c0 l1 o v R i F:=fun _ _ _ _ _ _ _ _=>rfl
theorem Om:∀N c0 l1 o v R i F,ks N c0 l1 o v R i F=cL 9 (fun _=>gJ (ldS 9) zF 74 37 o l1 N i F) N c0 l1 o v R i F:=fun _ _ _ _ _ _ _ _=>rfl
theorem On:∀N c0 l1 o v R i F,kz N c0 l1 o v R i F=cL 5 (fun _=>gJ (ldS 5) #[vi 0,vi 0,vi 0,vi 0,vi 0] 97 77 o l1 N i F) N c0 l1 o v R i F:=fun _ _ _ _ _ _ _ _=>rfl
theorem Oo:∀N c0 l1 o v R i F,kA N c0 l1 o v R i F=cL 2 (fun _=>gJ (ldS 2) #[.bool false,vi 0] 69 62 o l1 N i F) N c0 l1 o v R i F:=fun _ _ _ _ _ _ _ _=>rfl
theorem Oq:∀N c0 l1 o v R i F,kB N c0 l1 o v R i F=cL 3 (fun _=>gJ (ldS 3) #[vi 0,vi 0,vi 0] 101 63 o l1 N i F) N c0 l1 o v R i F:=fun _ _ _ _ _ _ _ _=>rfl
theorem QC:∀N c0 l1 o v R i F,kC N c0 l1 o v R i F=cL 1 (fun _=>gJ (ldI) #[vi 0] 3 70 o l1 N i F) N c0 l1 o v R i F:=fun _ _ _ _ _ _ _ _=>rfl
theorem Ot:∀N c0 l1 o v R i F,kv N c0 l1 o v R i F=cL 3 (fun _=>gJ (ldS 3) #[vi 0,vi 0,vi 0] 103 31 o l1 N i F) N c0 l1 o v R i F:=fun _ _ _ _ _ _ _ _=>rfl
section
variable {G F:PH} {As:List (PH→Prop)} {s:Sl} {B:List Nat} {bc b o e0:Nat} {r:Option (List Nat)} {w:Array Value}
theorem HV {d:Ps ByteArray} {k:Nat} {fst cap:Array Value} {args:Value→Array Value} (K:Rd G s B) (hk:au prog k=true) (ha:∀p,fst++([p]).toArray++cap=args p) (hone:fG ByteArray G s B bc d k args #[.string ⟨#[]⟩] 9) (h:St G F (rcS s B bc r::pt b (.cells w e0)::As)) (hv:w[o]? =some (Sl.v Sl.nil)):
  ac prog 118 #[pc bc,.pointer (some (Addr.mk b o none)),.func (.func k) fst cap] F fun res F'=>res=.tuple #[]∧∃G' ys sl r',G.le G'∧Res (dL d) r ys r'∧RL G' sl ys∧St G' F' (rcS s B bc r'::pt b (.cells (w.setIfInBounds o (Sl.v sl)) e0)::As):=by
 exact Fu (fH K h hv rfl Kh J9 hk ha hone QB)
theorem J1 {d:Ps Tk} {k:Nat} {fst cap:Array Value} {args:Value→Array Value} (K:Rd G s B) (hk:au prog k=true) (ha:∀p,fst++([p]).toArray++cap=args p) (hone:fG Tk G s B bc d k args zT 79) (h:St G F (rcS s B bc r::pt b (.cells w e0)::As)) (hv:w[o]? =some (Sl.v Sl.nil)):
  ac prog 121 #[pc bc,.pointer (some (Addr.mk b o none)),.func (.func k) fst cap] F fun res F'=>res=.tuple #[]∧∃G' ys sl r',G.le G'∧Res (dL d) r ys r'∧RL G' sl ys∧St G' F' (rcS s B bc r'::pt b (.cells (w.setIfInBounds o (Sl.v sl)) e0)::As):=by
 obtain ⟨_,_,T⟩:=Ih
 exact A8 (fH K h hv rfl T (ip rfl) hk ha hone Oj)
theorem J2 {d:Ps Pr} {k:Nat} {fst cap:Array Value} {args:Value→Array Value} (K:Rd G s B) (hk:au prog k=true) (ha:∀p,fst++([p]).toArray++cap=args p) (hone:fG Pr G s B bc d k args zP 67) (h:St G F (rcS s B bc r::pt b (.cells w e0)::As)) (hv:w[o]? =some (Sl.v Sl.nil)):
  ac prog 123 #[pc bc,.pointer (some (Addr.mk b o none)),.func (.func k) fst cap] F fun res F'=>res=.tuple #[]∧∃G' ys sl r',G.le G'∧Res (dL d) r ys r'∧RL G' sl ys∧St G' F' (rcS s B bc r'::pt b (.cells (w.setIfInBounds o (Sl.v sl)) e0)::As):=by
 obtain ⟨_,_,T⟩:=D4
 exact A9 (fH K h hv rfl T (ip rfl) hk ha hone Ok)
theorem J3 {d:Ps Lv} {k:Nat} {fst cap:Array Value} {args:Value→Array Value} (K:Rd G s B) (hk:au prog k=true) (ha:∀p,fst++([p]).toArray++cap=args p) (hone:fG Lv G s B bc d k args zL 72) (h:St G F (rcS s B bc r::pt b (.cells w e0)::As)) (hv:w[o]? =some (Sl.v Sl.nil)):
  ac prog 126 #[pc bc,.pointer (some (Addr.mk b o none)),.func (.func k) fst cap] F fun res F'=>res=.tuple #[]∧∃G' ys sl r',G.le G'∧Res (dL d) r ys r'∧RL G' sl ys∧St G' F' (rcS s B bc r'::pt b (.cells (w.setIfInBounds o (Sl.v sl)) e0)::As):=by
 obtain ⟨_,_,T⟩:=Kj
 exact Ba (fH K h hv rfl T (ip rfl) hk ha hone Ol)
theorem J4 {d:Ps Fi} {k:Nat} {fst cap:Array Value} {args:Value→Array Value} (K:Rd G s B) (hk:au prog k=true) (ha:∀p,fst++([p]).toArray++cap=args p) (hone:fG Fi G s B bc d k args zF 74) (h:St G F (rcS s B bc r::pt b (.cells w e0)::As)) (hv:w[o]? =some (Sl.v Sl.nil)):
  ac prog 128 #[pc bc,.pointer (some (Addr.mk b o none)),.func (.func k) fst cap] F fun res F'=>res=.tuple #[]∧∃G' ys sl r',G.le G'∧Res (dL d) r ys r'∧RL G' sl ys∧St G' F' (rcS s B bc r'::pt b (.cells (w.setIfInBounds o (Sl.v sl)) e0)::As):=by
 obtain ⟨_,_,T⟩:=Kk
 exact Be (fH K h hv rfl T (ip rfl) hk ha hone Om)
theorem J5 {d:Ps Nd} {k:Nat} {fst cap:Array Value} {args:Value→Array Value} (K:Rd G s B) (hk:au prog k=true) (ha:∀p,fst++([p]).toArray++cap=args p) (hone:fG Nd G s B bc d k args #[vi 0,vi 0,vi 0,vi 0,vi 0] 97) (h:St G F (rcS s B bc r::pt b (.cells w e0)::As)) (hv:w[o]? =some (Sl.v Sl.nil)):
  ac prog 182 #[pc bc,.pointer (some (Addr.mk b o none)),.func (.func k) fst cap] F fun res F'=>res=.tuple #[]∧∃G' ys sl r',G.le G'∧Res (dL d) r ys r'∧RL G' sl ys∧St G' F' (rcS s B bc r'::pt b (.cells (w.setIfInBounds o (Sl.v sl)) e0)::As):=by
 obtain ⟨_,_,T⟩:=OT
 exact Bf (fH K h hv rfl T (ip rfl) hk ha hone On)
theorem J6 {d:Ps Sy} {k:Nat} {fst cap:Array Value} {args:Value→Array Value} (K:Rd G s B) (hk:au prog k=true) (ha:∀p,fst++([p]).toArray++cap=args p) (hone:fG Sy G s B bc d k args #[.bool false,vi 0] 69) (h:St G F (rcS s B bc r::pt b (.cells w e0)::As)) (hv:w[o]? =some (Sl.v Sl.nil)):
  ac prog 184 #[pc bc,.pointer (some (Addr.mk b o none)),.func (.func k) fst cap] F fun res F'=>res=.tuple #[]∧∃G' ys sl r',G.le G'∧Res (dL d) r ys r'∧RL G' sl ys∧St G' F' (rcS s B bc r'::pt b (.cells (w.setIfInBounds o (Sl.v sl)) e0)::As):=by
 obtain ⟨_,_,T⟩:=Ki
 exact Bg (fH K h hv rfl T (ip rfl) hk ha hone Oo)
theorem J7 {d:Ps Cn} {k:Nat} {fst cap:Array Value} {args:Value→Array Value} (K:Rd G s B) (hk:au prog k=true) (ha:∀p,fst++([p]).toArray++cap=args p) (hone:fG Cn G s B bc d k args #[vi 0,vi 0,vi 0] 101) (h:St G F (rcS s B bc r::pt b (.cells w e0)::As)) (hv:w[o]? =some (Sl.v Sl.nil)):
  ac prog 187 #[pc bc,.pointer (some (Addr.mk b o none)),.func (.func k) fst cap] F fun res F'=>res=.tuple #[]∧∃G' ys sl r',G.le G'∧Res (dL d) r ys r'∧RL G' sl ys∧St G' F' (rcS s B bc r'::pt b (.cells (w.setIfInBounds o (Sl.v sl)) e0)::As):=by
 obtain ⟨_,_,T⟩:=OU
 exact Bh (fH K h hv rfl T (ip rfl) hk ha hone Oq)
theorem HW {d:Ps Int} {k:Nat} {fst cap:Array Value} {args:Value→Array Value} (K:Rd G s B) (hk:au prog k=true) (ha:∀p,fst++([p]).toArray++cap=args p) (hone:fG Int G s B bc d k args #[vi 0] 3) (h:St G F (rcS s B bc r::pt b (.cells w e0)::As)) (hv:w[o]? =some (Sl.v Sl.nil)):
  ac prog 189 #[pc bc,.pointer (some (Addr.mk b o none)),.func (.func k) fst cap] F fun res F'=>res=.tuple #[]∧∃G' ys sl r',G.le G'∧Res (dL d) r ys r'∧RL G' sl ys∧St G' F' (rcS s B bc r'::pt b (.cells (w.setIfInBounds o (Sl.v sl)) e0)::As):=by
 exact Fv (fH K h hv rfl Fw Ka hk ha hone QC)
theorem J8 {d:Ps Br} {k:Nat} {fst cap:Array Value} {args:Value→Array Value} (K:Rd G s B) (hk:au prog k=true) (ha:∀p,fst++([p]).toArray++cap=args p) (hone:fG Br G s B bc d k args #[vi 0,vi 0,vi 0] 103) (h:St G F (rcS s B bc r::pt b (.cells w e0)::As)) (hv:w[o]? =some (Sl.v Sl.nil)):
  ac prog 179 #[pc bc,.pointer (some (Addr.mk b o none)),.func (.func k) fst cap] F fun res F'=>res=.tuple #[]∧∃G' ys sl r',G.le G'∧Res (dL d) r ys r'∧RL G' sl ys∧St G' F' (rcS s B bc r'::pt b (.cells (w.setIfInBounds o (Sl.v sl)) e0)::As):=by
 obtain ⟨_,_,T⟩:=QA
 exact A7 (fH K h hv rfl T (ip rfl) hk ha hone Ot)
theorem Ou (K:Rd G s B):fG ByteArray G s B bc dS 119 (fun p=> #[pc bc,p]) #[.string ⟨#[]⟩] 9:=fun G1 F1 r1 b8 As1 l h=>by
 refine (qh (K.le l) (o:=0) h rfl).mono ?_
 rintro _ F' ⟨rfl,y,r',hr,h⟩
 exact ⟨rfl,G1,y,r',_,le_refl' _,hr,rfl,h⟩
theorem Ov (K:Rd G s B):fG Int G s B bc dI 125 (fun p=> #[pc bc,p]) #[vi 0] 3:=fun G1 F1 r1 b8 As1 l h=>by
 refine (cQ (K.le l) (o:=0) h rfl).mono ?_
 rintro _ F' ⟨rfl,y,r',hr,h⟩
 exact ⟨rfl,G1,y,r',_,le_refl' _,hr,rfl,h⟩
theorem w7 {z:Nat}:∀o,o<z→(Array.replicate z (vi 0))[o]? =some (vi 0):=fun o h=>by rw [Array.getElem?_replicate,if_pos h]
theorem Ow (K:Rd G s B) {b2:Nat} (q:G.cell (Addr.mk b2 0 none)=some (pc bc)):fG Br G s B bc dBr 180 (fun p=> #[p,.pointer (some (Addr.mk b2 0 none))]) #[vi 0,vi 0,vi 0] 103:=fun G1 F1 r1 b8 As1 l h=>by
 refine Ho ?_
 unfold Du
 refine ⟨_,rfl,_,aq (aa l h.le) q,_,rfl,?_⟩
 refine h.newG fun b13 G2 F2 l2 q13 _ h=> ?_
 refine (iU (K.le (aa l l2)) (os:=[0,1,2]) (bp:=b13) q13 (by decide) (fun o ho=>⟨0,w7 (z:=3) o (by simp at ho;omega)⟩) h).mono ?_
 rintro _ F3 ⟨rfl,ys,r',w',hN,h⟩
 cases hN with|cons h0 hN=>
 cases hN with|cons h1 hN=>
 cases hN with|cons h2 hN=>
 cases hN
 have hR:=(h0.pair (h1.pair h2)).map (fun x=>Br.mk x.1 x.2.1 x.2.2)
 exact ⟨rfl,rfl,G2,_,_,_,l2,hR,rfl,h⟩
theorem Ox (K:Rd G s B) {b2:Nat} (q:G.cell (Addr.mk b2 0 none)=some (pc bc)):fG Nd G s B bc dNd 183 (fun p=> #[p,.pointer (some (Addr.mk b2 0 none))]) #[vi 0,vi 0,vi 0,vi 0,vi 0] 97:=fun G1 F1 r1 b8 As1 l h=>by
 refine Hq ?_
 unfold Dw
 refine ⟨_,rfl,_,aq (aa l h.le) q,_,rfl,?_⟩
 refine h.newG fun b13 G2 F2 l2 q13 _ h=> ?_
 refine (iU (K.le (aa l l2)) (os:=[0,1,2,3,4]) (bp:=b13) q13 (by decide) (fun o ho=>⟨0,w7 (z:=5) o (by simp at ho;omega)⟩) h).mono ?_
 rintro _ F3 ⟨rfl,ys,r',w',hN,h⟩
 cases hN with|cons h0 hN=>
 cases hN with|cons h1 hN=>
 cases hN with|cons h2 hN=>
 cases hN with|cons h3 hN=>
 cases hN with|cons h4 hN=>
 cases hN
 have hR:=(h0.pair (h1.pair (h2.pair (h3.pair h4)))).map (fun x=>Nd.mk x.1 x.2.1 x.2.2.1 x.2.2.2.1 x.2.2.2.2)
 exact ⟨rfl,rfl,G2,_,_,_,l2,hR,rfl,h⟩
theorem Oy (K:Rd G s B) {b2:Nat} (q:G.cell (Addr.mk b2 0 none)=some (pc bc)):fG Cn G s B bc dCn 188 (fun p=> #[p,.pointer (some (Addr.mk b2 0 none))]) #[vi 0,vi 0,vi 0] 101:=fun G1 F1 r1 b8 As1 l h=>by
 refine Hu ?_
 unfold Dz
 refine ⟨_,rfl,_,aq (aa l h.le) q,_,rfl,?_⟩
 refine h.newG fun b13 G2 F2 l2 q13 _ h=> ?_
 refine (iU (K.le (aa l l2)) (os:=[0,1,2]) (bp:=b13) q13 (by decide) (fun o ho=>⟨0,w7 (z:=3) o (by simp at ho;omega)⟩) h).mono ?_
 rintro _ F3 ⟨rfl,ys,r',w',hN,h⟩
 cases hN with|cons h0 hN=>
 cases hN with|cons h1 hN=>
 cases hN with|cons h2 hN=>
 cases hN
 have hR:=(h0.pair (h1.pair h2)).map (fun x=>Cn.mk x.1 x.2.1 x.2.2)
 exact ⟨rfl,rfl,G2,_,_,_,l2,hR,rfl,h⟩
theorem Oz (K:Rd G s B) {b2:Nat} (q:G.cell (Addr.mk b2 0 none)=some (pc bc)):fG Sy G s B bc dSy 185 (fun p=> #[p,.pointer (some (Addr.mk b2 0 none))]) #[.bool false,vi 0] 69:=fun G1 F1 r1 b8 As1 l h=>by
 refine Hr ?_
 unfold Dx
 refine ⟨_,rfl,_,aq (aa l h.le) q,_,rfl,?_⟩
 refine (w6 (K.le l) (o:=0) h rfl).mono ?_
 rintro _ F2 ⟨rfl,y1,r2,h1,h⟩
 refine ⟨rfl,_,aq (aa l h.le) q,?_⟩
 refine (cQ (K.le l) (o:=1) h rfl).mono ?_
 rintro _ F3 ⟨rfl,y2,r3,h2,h⟩
 have hR:=(h1.pair h2).map (fun x=>Sy.mk x.1 x.2)
 exact ⟨rfl,rfl,G1,_,_,_,le_refl' _,hR,rfl,h⟩
theorem vd (K:Rd G s B) {v0:Int} (h:St G F (rcS s B bc r::pt b (.cells w e0)::As)) (hv:w[o]? =some (Sl.v Sl.nil)) (hv2:w[o+1]? =some (vi v0)):
  ac prog 120 #[pc bc,.pointer (some (Addr.mk b o none))] F fun res F'=>res=.tuple #[]∧∃G' y n r',G.le G'∧Res dD r y r'∧RL G' n y.1∧St G' F' (rcS s B bc r'::pt b (.cells ((w.setIfInBounds o (Sl.v n)).setIfInBounds (o+1) (vi y.2)) e0)::As):=by
 have c2:=cbW.2.2.2.2.2.2.1
 refine GW ?_
 unfold Dn
 refine h.newG fun b2 G1 F1 l1 q2 _ h=>⟨_,ld (h.le _ _ q2) rfl,_,rfl,?_⟩
 refine (J8 (fst:= #[]) (cap:= #[.pointer (some (Addr.mk b2 0 none))]) (K.le l1) c2 (fun _=>rfl) (Ow (K.le l1) (ld q2 rfl)) h hv).mono ?_
 rintro _ F2 ⟨rfl,G2,ys,n,r2,l2,h1,hn,h⟩
 refine ⟨rfl,_,ld (h.le _ _ (l2 _ _ q2)) rfl,?_⟩
 rw [aD]
 refine (cQ (K.le (aa l1 l2)) (o:=o+1) h (by rw [Array.getElem?_setIfInBounds_ne (by omega)];exact hv2)).mono ?_
 rintro _ F3 ⟨rfl,y2,r3,h2,h⟩
 exact ⟨rfl,rfl,G2,(ys,y2),n,r3,aa l1 l2,h1.pair h2,hn,h⟩
theorem OA (K:Rd G s B):fG Tk G s B bc dTk 122 (fun p=> #[pc bc,p]) zT 79:=fun G1 F1 r1 b8 As1 l h=>by
 have c2:=cbW.2.2.2.2.2.2.2.1
 refine GX ?_
 unfold Do
 refine h.newG fun b2 G2 F2 l2 q2 _ h=>⟨_,ld (h.le _ _ q2) rfl,_,rfl,?_⟩
 have K2:=K.le (aa l l2)
 refine (qh K2 (o:=0) h rfl).mono ?_
 rintro _ F3 ⟨rfl,y1,r1,h1,h⟩
 refine ⟨rfl,_,ld (h.le _ _ q2) rfl,?_⟩
 refine (cQ K2 (o:=1) h rfl).mono ?_
 rintro _ F3 ⟨rfl,y2,r2,h2,h⟩
 refine ⟨rfl,_,ld (h.le _ _ q2) rfl,?_⟩
 refine (qh K2 (o:=2) h rfl).mono ?_
 rintro _ F3 ⟨rfl,y3,r3,h3,h⟩
 refine ⟨rfl,_,ld (h.le _ _ q2) rfl,?_⟩
 refine (J5 (fst:= #[]) (cap:= #[.pointer (some (Addr.mk b2 0 none))]) K2 c2 (fun _=>rfl) (Ox K2 (ld q2 rfl)) (o:=3) h rfl).mono ?_
 rintro _ F4 ⟨rfl,G3,y4,n4,r4,l3,h4,hn4,h⟩
 refine ⟨rfl,_,ld (h.le _ _ (l3 _ _ q2)) rfl,?_⟩
 refine (qh (K2.le l3) (o:=4) h rfl).mono ?_
 rintro _ F5 ⟨rfl,y5,r5,h5,h⟩
 refine ⟨rfl,_,ld (h.le _ _ (l3 _ _ q2)) rfl,?_⟩
 refine (vd (K2.le l3) (o:=5) h rfl rfl).mono ?_
 rintro _ F6 ⟨rfl,G4,y6,n6,r6,l4,h6,hn6,h⟩
 have hR:=(h1.pair (h2.pair (h3.pair (h4.pair (h5.pair h6))))).map (fun x=>Tk.mk x.1 x.2.1 x.2.2.1 x.2.2.2.1 x.2.2.2.2.1 x.2.2.2.2.2)
 exact ⟨rfl,rfl,G4,_,_,_,aa l2 (aa l3 l4),hR,⟨n4,n6,rfl,hn4.le l4,hn6⟩,h⟩
set_option maxHeartbeats 2000000 in
theorem OB (K:Rd G s B):fG Pr G s B bc dPr 124 (fun p=> #[pc bc,p]) zP 67:=fun G1 F1 r1 b8 As1 l h=>by
 obtain ⟨_,_,_,_,_,_,_,_,c2,c3⟩:=cbW
 refine GY ?_
 unfold Dp
 refine h.newG fun b2 G2 F2 l2 q2 _ h=>⟨_,ld (h.le _ _ q2) rfl,_,rfl,?_⟩
 have K2:=K.le (aa l l2)
 replace h:=h.cw (w':= #[.string ⟨#[]⟩,vi 0,Sl.v Sl.nil,Sl.v Sl.nil,vi 0,.bool false,vi 0,Sl.v Sl.nil,.bool false,vi 0,vi 0,vi 0,vi 0]) (by kernel_rfl)
 refine (qh K2 (o:=0) h rfl).mono ?_
 rintro _ F3 ⟨rfl,y1,r1,h1,h⟩
 replace h:=h.cw (w':= #[.string y1,vi 0,Sl.v Sl.nil,Sl.v Sl.nil,vi 0,.bool false,vi 0,Sl.v Sl.nil,.bool false,vi 0,vi 0,vi 0,vi 0]) (by kernel_rfl)
 refine ⟨rfl,_,ld (h.le _ _ q2) rfl,?_⟩
 refine (cQ K2 (o:=1) h rfl).mono ?_
 rintro _ F3 ⟨rfl,y2,r2,h2,h⟩
 replace h:=h.cw (w':= #[.string y1,vi y2,Sl.v Sl.nil,Sl.v Sl.nil,vi 0,.bool false,vi 0,Sl.v Sl.nil,.bool false,vi 0,vi 0,vi 0,vi 0]) (by kernel_rfl)
 refine ⟨rfl,_,ld (h.le _ _ q2) rfl,?_⟩
 refine (J6 (fst:= #[]) (cap:= #[.pointer (some (Addr.mk b2 0 none))]) K2 c2 (fun _=>rfl) (Oz K2 (ld q2 rfl)) (o:=2) h rfl).mono ?_
 rintro _ F4 ⟨rfl,G3,y3,n3,r3,l3,h3,hn3,h⟩
 replace h:=h.cw (w':= #[.string y1,vi y2,Sl.v n3,Sl.v Sl.nil,vi 0,.bool false,vi 0,Sl.v Sl.nil,.bool false,vi 0,vi 0,vi 0,vi 0]) (by kernel_rfl)
 replace K2:=K2.le l3
 replace q2:=l3 _ _ q2
 refine ⟨rfl,_,ld (h.le _ _ q2) rfl,?_⟩
 refine (vd K2 (o:=3) h rfl rfl).mono ?_
 rintro _ F6 ⟨rfl,G4,y4,n4,r4,l4,h4,hn4,h⟩
 replace h:=h.cw (w':= #[.string y1,vi y2,Sl.v n3,Sl.v n4,vi y4.2,.bool false,vi 0,Sl.v Sl.nil,.bool false,vi 0,vi 0,vi 0,vi 0]) (by kernel_rfl)
 replace K2:=K2.le l4
 replace q2:=l4 _ _ q2
 refine ⟨rfl,_,ld (h.le _ _ q2) rfl,?_⟩
 refine (w6 K2 (o:=5) h rfl).mono ?_
 rintro _ F6 ⟨rfl,y5,r5,h5,h⟩
 replace h:=h.cw (w':= #[.string y1,vi y2,Sl.v n3,Sl.v n4,vi y4.2,.bool y5,vi 0,Sl.v Sl.nil,.bool false,vi 0,vi 0,vi 0,vi 0]) (by kernel_rfl)
 have hb5:=h.rcB K2
 refine ⟨rfl,_,by rw [aD];exact h.ld1 rfl,?_⟩
 refine h.new fun b4 F7 h=> ?_
 refine h.set0 (w':= #[vi (IntKind.i64.wrap ((0:Int)+1))]) (by simp) rfl fun F7 h=>⟨_,ld (h.le _ _ q2) rfl,?_⟩
 refine (cQ K2 (o:=0) h.swap rfl).mono ?_
 rintro _ F8 ⟨rfl,y6,r6,h6,h⟩
 refine ⟨rfl,_,ld (h.le _ _ q2) rfl,_,rfl,_,h.rcBad.2,fun _=>⟨_,h.ld1 rfl,?_⟩,fun hc=>absurd rfl hc⟩
 have e6:IntKind.i64.wrap (y6 - 1)=y6 - 1∨r6=none:=by
  cases r5 with
  |none=>exact .inr h6
  |some l5=>
   unfold Res at h6
   dsimp only at h6
   cases hq:dI l5 with
   |none=>rw [hq] at h6;exact .inr h6
   |some q=>
    obtain ⟨x,l'⟩:=q
    rw [hq] at h6
    obtain ⟨rfl,rfl⟩:=h6
    refine .inl ?_
    unfold dI eY at hq
    cases hd:gc l5 with
    |none=>rw [hd] at hq;cases hq
    |some p=>
     obtain ⟨m,l''⟩:=p
     rw [hd] at hq
     cases hq
     have hm:m<128 ^ 9:=(DC 9 l5 m _ (Nat.le_refl _) (hb5 l5 rfl) hd).2.1
     exact aL (by show -9223372036854775808≤(m:Int) - 1;omega) (by show (m:Int) - 1≤9223372036854775807;omega)
 dsimp only
 rw [aD]
 refine h.set2 (i:=0+6) (w':= #[.string y1,vi y2,Sl.v n3,Sl.v n4,vi y4.2,.bool y5,vi (IntKind.i64.wrap (y6 - 1)),Sl.v Sl.nil,.bool false,vi 0,vi 0,vi 0,vi 0]) (by show 6<13;decide) (by kernel_rfl) fun F9 h=> ?_
 have h:=h.swap.tail
 unfold nc
 refine ⟨_,ld (h.le _ _ q2) rfl,?_⟩
 refine (J7 (fst:= #[]) (cap:= #[.pointer (some (Addr.mk b2 0 none))]) K2 c3 (fun _=>rfl) (Oy K2 (ld q2 rfl)) (o:=7) h rfl).mono ?_
 rintro _ F10 ⟨rfl,G5,y7,n7,r7,l5,h7,hn7,h⟩
 replace h:=h.cw (w':= #[.string y1,vi y2,Sl.v n3,Sl.v n4,vi y4.2,.bool y5,vi (IntKind.i64.wrap (y6 - 1)),Sl.v n7,.bool false,vi 0,vi 0,vi 0,vi 0]) (by kernel_rfl)
 replace K2:=K2.le l5
 replace q2:=l5 _ _ q2
 refine ⟨rfl,_,ld (h.le _ _ q2) rfl,?_⟩
 refine (w6 K2 (o:=8) h rfl).mono ?_
 rintro _ F11 ⟨rfl,y8,r8,h8,h⟩
 replace h:=h.cw (w':= #[.string y1,vi y2,Sl.v n3,Sl.v n4,vi y4.2,.bool y5,vi (IntKind.i64.wrap (y6 - 1)),Sl.v n7,.bool y8,vi 0,vi 0,vi 0,vi 0]) (by kernel_rfl)
 refine ⟨rfl,_,ld (h.le _ _ q2) rfl,?_⟩
 refine h.newG fun b77 G6 F12 l6 q77 _ h=> ?_
 refine (iU (K2.le l6) (os:=[9,10,11,12]) (bp:=b77) q77 (by decide) (fun o ho=>⟨0,by
  simp only [List.mem_cons,List.not_mem_nil,or_false] at ho
  rcases ho with rfl|rfl|rfl|rfl<;>rfl⟩) h).mono ?_
 rintro _ F13 ⟨rfl,ys,r',w',hN,h⟩
 cases hN with| @cons _ _ _ q1 _ _ _ z1 _ g1 hN=>
 cases hN with| @cons _ _ _ q2 _ _ _ z2 _ g2 hN=>
 cases hN with| @cons _ _ _ q3 _ _ _ z3 _ g3 hN=>
 cases hN with| @cons _ _ _ q4 _ _ _ z4 _ g4 hN=>
 cases hN
 replace h:=h.cw (w':= #[.string y1,vi y2,Sl.v n3,Sl.v n4,vi y4.2,.bool y5,vi (IntKind.i64.wrap (y6 - 1)),Sl.v n7,.bool y8,vi z1,vi z2,vi z3,vi z4]) (by kernel_rfl)
 have l26:=aa l3 (aa l4 (aa l5 l6))
 have hR:=(h1.pair (h2.pair (h3.pair (h4.pair (h5.pair (h6.pair (h7.pair ((h8.pair (g1.pair (g2.pair (g3.pair g4)))).map (fun x=>Sco.mk x.1 x.2.1 x.2.2.1 x.2.2.2.1 x.2.2.2.2))))))))).map (fun x=>Pr.mk x.1 x.2.1 x.2.2.1 x.2.2.2.1 x.2.2.2.2.1 (x.2.2.2.2.2.1 - 1) x.2.2.2.2.2.2.1 x.2.2.2.2.2.2.2)
 rcases e6 with e6|e6
 ·exact ⟨rfl,rfl,G6,_,_,_,aa l2 l26,hR,⟨n3,n4,n7,by rw [e6],hn3.le (aa l4 (aa l5 l6)),hn4.le (aa l5 l6),hn7.le l6⟩,h⟩
 ·exact ⟨rfl,rfl,G6,⟨y1,y2,y3,y4,y5,IntKind.i64.wrap (y6 - 1),y7,⟨y8,z1,z2,z3,z4⟩⟩,_,_,aa l2 l26,hR.bad (gf g4 (gf g3 (gf g2 (gf g1 (gf h8 (gf h7 e6)))))),⟨n3,n4,n7,rfl,hn3.le (aa l4 (aa l5 l6)),hn4.le (aa l5 l6),hn7.le l6⟩,h⟩
theorem OC (K:Rd G s B):fG Lv G s B bc dLv 127 (fun p=> #[pc bc,p]) zL 72:=fun G1 F1 r1 b8 As1 l h=>by
 have K1:=K.le l
 refine Ha ?_
 unfold Dr
 refine ⟨_,rfl,?_⟩
 refine (HW (fst:= #[pc bc]) (cap:= #[]) K1 cbW.2.1 (fun _=>rfl) (Ov K1) (o:=0) h rfl).mono ?_
 rintro _ F2 ⟨rfl,G2,y1,n1,r1,l2,h1,hn1,h⟩
 refine ⟨rfl,?_⟩
 refine (cQ (K1.le l2) (o:=1) h rfl).mono ?_
 rintro _ F3 ⟨rfl,y2,r2,h2,h⟩
 refine ⟨rfl,?_⟩
 refine (vd (K1.le l2) (o:=2) h rfl rfl).mono ?_
 rintro _ F4 ⟨rfl,G4,y3,n3,r3,l4,h3,hn3,h⟩
 have hR:=(h1.pair (h2.pair h3)).map (fun x=>Lv.mk x.1 x.2.1 x.2.2)
 exact ⟨rfl,rfl,G4,_,_,_,aa l2 l4,hR,⟨n1,n3,rfl,hn1.le l4,hn3⟩,h⟩
theorem OD (K:Rd G s B):fG Fi G s B bc dFi 129 (fun p=> #[pc bc,p]) zF 74:=fun G1 F1 r1 b8 As1 l h=>by
 have K1:=K.le l
 refine Hb ?_
 unfold Ds
 refine ⟨_,rfl,?_⟩
 refine h.newG fun b27 G2 F2 l2 q27 _ h=> ?_
 have K2:=K1.le l2
 have hw:∀o∈[0,1,2,3,4,5],∃v,(zF)[o]? =some (vi v):=fun o ho=>⟨0,by
  simp only [List.mem_cons,List.not_mem_nil,or_false] at ho
  rcases ho with rfl|rfl|rfl|rfl|rfl|rfl<;>rfl⟩
 refine bW (ku · (some (Addr.mk bc 0 none)) (Addr.mk b8 0 none) b27 _) 6 (fun i F'=>∃ys ri wi,gg ([0,1,2,3,4,5].take i) r1 zF ys ri wi∧St G2 F' (rcS s B bc ri::pt b8 (.cells wi 74)::As1)) ⟨[],r1,zF,.nil,h⟩ ?_
 rintro i F3 N hi ⟨ys,ri,wi,hN,h⟩ next
 unfold ku
 refine ⟨fun hlt=> ?_,fun hge=> ?_⟩
 ·have hlt:i<6:=by
   have:(i:Int)<((6:Nat):Int):=hlt
   omega
  refine rE K2 (os:=[0,1,2,3,4,5]) (bp:=b27) q27 hw hlt hN h fun F' ys' ri' wi' hN' h'=>⟨rfl,?_⟩
  rw [aQ hlt (by omega)]
  exact next _ hlt ⟨ys',ri',wi',hN',h'⟩
 ·have e:i=6:=by
   have:¬(i:Int)<((6:Nat):Int):=hge
   omega
  subst e
  cases hN with| @cons _ _ _ q1 _ _ _ z1 _ g1 hN=>
  cases hN with| @cons _ _ _ q2 _ _ _ z2 _ g2 hN=>
  cases hN with| @cons _ _ _ q3 _ _ _ z3 _ g3 hN=>
  cases hN with| @cons _ _ _ q4 _ _ _ z4 _ g4 hN=>
  cases hN with| @cons _ _ _ q5 _ _ _ z5 _ g5 hN=>
  cases hN with| @cons _ _ _ q6 _ _ _ z6 _ g6 hN=>
  cases hN
  replace h:=h.cw (w':= #[vi z1,vi z2,vi z3,vi z4,vi z5,vi z6,Sl.v Sl.nil,Sl.v Sl.nil,vi 0]) (by kernel_rfl)
  unfold tg
  refine ⟨_,rfl,?_⟩
  refine (HW (fst:= #[pc bc]) (cap:= #[]) K2 cbW.2.1 (fun _=>rfl) (Ov K2) (o:=6) h rfl).mono ?_
  rintro _ F4 ⟨rfl,G4,y7,n7,r7,l4,h7,hn7,h⟩
  refine ⟨rfl,?_⟩
  refine (vd (K2.le l4) (o:=7) h rfl rfl).mono ?_
  rintro _ F5 ⟨rfl,G5,y8,n8,r8,l5,h8,hn8,h⟩
  have hR:=(g1.pair (g2.pair (g3.pair (g4.pair (g5.pair (g6.pair (h7.pair h8))))))).map (fun x=>Fi.mk x.1 x.2.1 x.2.2.1 x.2.2.2.1 x.2.2.2.2.1 x.2.2.2.2.2.1 x.2.2.2.2.2.2.1 x.2.2.2.2.2.2.2)
  exact ⟨rfl,rfl,G5,_,_,_,aa l2 (aa l4 l5),hR,⟨n7,n8,by kernel_rfl,hn7.le l5,hn8⟩,h⟩
theorem Aw (K:Rd G s B) (h:St G F (rcS s B bc r::pt b (.cells zG 39)::As)):
  ac prog 43 #[pc bc,.pointer (some (Addr.mk b 0 none))] F fun res F'=>res=.tuple #[]∧∃G' g v r',G.le G'∧Res dGr r g r'∧GV G' v g∧St G' F' (rcS s B bc r'::pt b (.cells v 39)::As):=by
 obtain ⟨c1,_,c2,c3,c4,c5,_⟩:=cbW
 refine MV ?_
 unfold JP
 refine ⟨_,rfl,?_⟩
 refine (HV (fst:= #[pc bc]) (cap:= #[]) K c1 (fun _=>rfl) (Ou K) (o:=0) h rfl).mono ?_
 rintro _ F1 ⟨rfl,G1,y1,n1,r1,l1,h1,hn1,h⟩
 replace K:=K.le l1
 refine ⟨rfl,?_⟩
 refine (vd K (o:=1) h rfl rfl).mono ?_
 rintro _ F1 ⟨rfl,G2,y2,n2,r2,l2,h2,hn2,h⟩
 replace K:=K.le l2
 refine ⟨rfl,?_⟩
 replace h:=h.cw (w':= #[n1.v,n2.v,vi y2.2,Sl.v Sl.nil,Sl.v Sl.nil,Sl.v Sl.nil,vi 0,Sl.v Sl.nil,Sl.v Sl.nil]) (by kernel_rfl)
 refine (J1 (fst:= #[pc bc]) (cap:= #[]) K c2 (fun _=>rfl) (OA K) (o:=3) h rfl).mono ?_
 rintro _ F1 ⟨rfl,G3,y3,n3,r3,l3,h3,hn3,h⟩
 replace K:=K.le l3
 refine ⟨rfl,?_⟩
 refine (HV (fst:= #[pc bc]) (cap:= #[]) K c1 (fun _=>rfl) (Ou K) (o:=4) h rfl).mono ?_
 rintro _ F1 ⟨rfl,G4,y4,n4,r4,l4,h4,hn4,h⟩
 replace K:=K.le l4
 refine ⟨rfl,?_⟩
 replace h:=h.cw (w':= #[n1.v,n2.v,vi y2.2,n3.v,n4.v,Sl.v Sl.nil,vi 0,Sl.v Sl.nil,Sl.v Sl.nil]) (by kernel_rfl)
 refine (J2 (fst:= #[pc bc]) (cap:= #[]) K c3 (fun _=>rfl) (OB K) (o:=5) h rfl).mono ?_
 rintro _ F1 ⟨rfl,G5,y5,n5,r5,l5,h5,hn5,h⟩
 replace K:=K.le l5
 refine ⟨rfl,?_⟩
 refine (cQ K (o:=6) h rfl).mono ?_
 rintro _ F1 ⟨rfl,y6,r6,h6,h⟩
 refine ⟨rfl,?_⟩
 replace h:=h.cw (w':= #[n1.v,n2.v,vi y2.2,n3.v,n4.v,n5.v,vi y6,Sl.v Sl.nil,Sl.v Sl.nil]) (by kernel_rfl)
 refine (J3 (fst:= #[pc bc]) (cap:= #[]) K c4 (fun _=>rfl) (OC K) (o:=7) h rfl).mono ?_
 rintro _ F1 ⟨rfl,G7,y7,n7,r7,l7,h7,hn7,h⟩
 replace K:=K.le l7
 refine ⟨rfl,?_⟩
 refine (J4 (fst:= #[pc bc]) (cap:= #[]) K c5 (fun _=>rfl) (OD K) (o:=8) h rfl).mono ?_
 rintro _ F1 ⟨rfl,G8,y8,n8,r8,l8,h8,hn8,h⟩
 have hR:=(h1.pair (h2.pair (h3.pair (h4.pair (h5.pair (h6.pair (h7.pair h8))))))).map (fun x=>Gr.mk x.1 x.2.1 x.2.2.1 x.2.2.2.1 x.2.2.2.2.1 x.2.2.2.2.2.1 x.2.2.2.2.2.2.1 x.2.2.2.2.2.2.2)
 replace h:=h.cw (w':= #[n1.v,n2.v,vi y2.2,n3.v,n4.v,n5.v,vi y6,n7.v,n8.v]) (by kernel_rfl)
 have k78:=l8
 have k58:=aa l7 k78
 have k48:=aa l5 k58
 have k38:=aa l4 k48
 have k28:=aa l3 k38
 have k18:=aa l2 k28
 exact ⟨rfl,rfl,G8,_,_,_,aa l1 k18,hR,⟨n1,n2,n3,n4,n5,n7,n8,rfl,hn1.le k18,hn2.le k28,hn3.le k38,hn4.le k48,hn5.le k58,hn7.le k78,hn8⟩,h⟩
end
noncomputable def qi (l:List Nat):Gr×Int:=match dGr l with
 |some (g,[])=>if cf g=0 then (g,0) else (gr0,55)
 |_=>(gr0,55)
theorem ve {F:PH} {s:Sl} {B:List Nat} (hT:Tab F) (K:Rd F s B) (hz:∀g,dGr B=some (g,[])→Sz g):
  ac prog 16 #[s.v] F fun r F'=>(∃w,r=.tuple #[.agg w,vi (qi B).2]∧GV F' w (qi B).1)∧F.le F':=by
 have hs:=K.len
 refine PZ ?_
 unfold MR
 refine (St.start F).new fun b2 F1 h=> ?_
 refine h.new fun b8 F2 h=> ?_
 have h:St F F2 (rcS s B b8 (some B)::pt b2 (.cells zG 39)::[]):=h.mkR (k:=0) (bad:=false) rfl (by omega) fun l e=>by cases e;rfl
 refine h.new fun b5 F3 h=> ?_
 refine h.put0 (w':=zG) rfl rfl (GV.zero F).st fun F3 h=> ?_
 refine (Aw K h.swap).mono ?_
 rintro _ F4 ⟨rfl,G4,g,v,r,l4,hR,hv,h⟩
 have K4:=K.le l4
 obtain ⟨k,⟨hk,hl⟩,h⟩:=h.exR
 have bad:qi B=(gr0,55)→∀{G5 F':PH} {v':Array Value} {o:Obj},G4.le G5→St G5 F' [pt b8 o,pt b5 (.cells v' 39),pt b2 (.cells zG 39)]→lL b2 b5 true (fun r F'=>(∃w,r=.tuple #[.agg w,vi (qi B).2]∧GV F' w (qi B).1)∧F.le F') F':=fun e {G5 F' v' o} l5 h=>by
  unfold lL
  refine ⟨fun _=> ?_,fun hc=>(by cases hc)⟩
  refine h.put2 (w':=zG) rfl rfl (GV.zero F).st fun F6 h=>⟨zG,rfl,h.whole2,?_⟩
  rw [e]
  exact ⟨⟨zG,rfl,GV.zero _⟩,aa l4 (aa l5 h.le)⟩
 unfold Res at hR
 dsimp only at hR
 refine ⟨rfl,_,h.ld0 rfl,fun hb=> ?_,fun hb=>⟨_,h.ld0 rfl,fun hne=> ?_,fun heq=> ?_⟩⟩
 ·refine bad ?_ (le_refl' _) h
  have:r=none:=by cases r with|none=>rfl|some l=>cases hb
  subst this
  unfold qi
  cases hd:dGr B with
  |none=>rfl
  |some q=>rw [hd] at hR;cases hR.2
 ·refine bad ?_ (le_refl' _) h
  obtain ⟨l,rfl⟩:∃l,r=some l:=by cases r with|none=>cases hb|some l=>exact ⟨l,rfl⟩
  unfold qi
  cases hd:dGr B with
  |none=>rfl
  |some q=>
   obtain ⟨g',l'⟩:=q
   rw [hd] at hR
   obtain ⟨rfl,e⟩:=hR
   cases e
   have e1:=hl l rfl
   cases l with
   |nil=>
    have:(B.drop k).length=0:=by rw [e1];rfl
    rw [List.length_drop] at this
    exact absurd (show (k:Int)=(s.len:Int) by omega) hne
   |cons x l=>rfl
 ·obtain ⟨l,rfl⟩:∃l,r=some l:=by cases r with|none=>cases hb|some l=>exact ⟨l,rfl⟩
  have hk:k=B.length:=by
   have:(k:Int)=(s.len:Int):=Decidable.not_not.1 heq
   omega
  have e1:=hl l rfl
  rw [hk,List.drop_length] at e1
  subst e1
  obtain ⟨hd⟩:∃_:dGr B=some (g,[]),True:=by
   cases hd:dGr B with
   |none=>rw [hd] at hR;cases hR
   |some q=>
    obtain ⟨g',l'⟩:=q
    rw [hd] at hR
    obtain ⟨rfl,e⟩:=hR
    cases e
    exact ⟨rfl,trivial⟩
  have hdec:qi B=if cf g=0 then (g,0) else (gr0,55):=by unfold qi;rw [hd]
  refine ⟨v,hv.size,h.whole1,?_⟩
  refine h.run (fb (hT.le l4) hv (hz g hd)) fun _ G5 F5 hr l5 h=> ?_
  rw [hr]
  refine ⟨_,rfl,?_⟩
  by_cases hc:cf g=0
  ·dsimp only
   rw [hc,show decide ((0:Int)≠0)=false from rfl]
   unfold lL
   refine ⟨fun hc=>(by cases hc),fun _=>⟨v,hv.size,h.whole1,?_⟩⟩
   refine h.put2 (w':=v) hv.size rfl hv.st fun F6 h=>⟨v,hv.size,h.whole2,?_⟩
   rw [hdec,if_pos hc]
   exact ⟨⟨v,rfl,hv.le (aa l5 h.le)⟩,aa l4 (aa l5 h.le)⟩
  ·dsimp only
   rw [decide_eq_true hc]
   exact bad (by rw [hdec,if_neg hc]) l5 h
end Go.Proofs.YtenpmjhnhepfdaaGreatDoor
