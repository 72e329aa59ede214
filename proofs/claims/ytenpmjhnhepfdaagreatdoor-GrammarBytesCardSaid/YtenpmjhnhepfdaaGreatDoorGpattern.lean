/-
  What functions of the program do, in a clean form, each with the proof that its code does so. Printed by a program.
-/
import Derived.Test.YtenpmjhnhepfdaaGreatDoorPhp
import Derived.Test.YtenpmjhnhepfdaaGreatDoorPhz
namespace Go.Proofs.YtenpmjhnhepfdaaGreatDoor
open Go Go.Proofs.Tryz
variable {R:VR} {F:PH}
set_option maxRecDepth 10000
set_option maxHeartbeats 4000000
def yj (p_0:Sl) (R:VR) (F:PH):Prop:=
 (Bc ((p_0.len:Int)=0) (
  R (.int .i64 40) F) (
  R (.int .i64 0) F))
def yk (N1:Int→PH→Prop) (p_0:Sl) (b3:Nat) (R:VR) (v_105:Int) (F:PH):Prop:=
 (Bc (v_105<(IntKind.i64.wrap ((p_0.len:Int) - 1))) (
  Ls F (Am b3 0) fun v_108=>
  Ix v_108 v_105 fun a110_=>
  Lb F (Addr.add a110_ (Int.toNat v_105*1)) fun v_111=>
  (Bb ((!v_111)) (
   R (.int .i64 40) F) (
   N1 (IntKind.i64.wrap (v_105+1)) F))) (
  yj p_0 R F))
def yl (p_0:Sl) (b3:Nat) (R:VR) (F:PH):Prop:=
 (Lp 0 F fun N v_105 F=>
  yk N p_0 b3 R v_105 F)
def bJ (N2:Int→PH→Prop) (p_0:Sl) (b3:Nat) (v_19:Int) (R:VR) (F:PH):Prop:=
 N2 (IntKind.i64.wrap (v_19+1)) F
def eP (N2:Int→PH→Prop) (p_0:Sl) (b3:Nat) (v_19:Int) (b6:Nat) (v_26:Int) (ok_8:Bool) (R:VR) (F:PH):Prop:=
 (Bb ((!ok_8)) (
  R (.int .i64 40) F) (
  (Bc (v_26<1) (
   Li F (Am b6 3) fun v_64=>
   (Bc (v_64≠0) (
    R (.int .i64 40) F) (
    (Bc (v_26<2) (
     Li F (Am b6 4) fun v_73=>
     (Bc (v_73≠0) (
      R (.int .i64 40) F) (
      (Bc (1≤v_26) (
       Li F (Am b6 3) fun v_83=>
       Cbo 201 #[(.int .i64 v_83),(.int .i64 v_19),(.pointer (some (Am b3 0)))] F fun v_85 F=>
       (Bb ((!v_85)) (
        R (.int .i64 40) F) (
        (Bc (2≤v_26) (
         Li F (Am b6 4) fun v_95=>
         Cbo 201 #[(.int .i64 v_95),(.int .i64 v_19),(.pointer (some (Am b3 0)))] F fun v_97 F=>
         (Bb ((!v_97)) (
          R (.int .i64 40) F) (
          bJ N2 p_0 b3 v_19 R F))) (
         bJ N2 p_0 b3 v_19 R F))))) (
       (Bc (2≤v_26) (
        Li F (Am b6 4) fun v_95_1=>
        Cbo 201 #[(.int .i64 v_95_1),(.int .i64 v_19),(.pointer (some (Am b3 0)))] F fun v_97_1 F=>
        (Bb ((!v_97_1)) (
         R (.int .i64 40) F) (
         bJ N2 p_0 b3 v_19 R F))) (
        bJ N2 p_0 b3 v_19 R F))))))) (
     (Bc (1≤v_26) (
      Li F (Am b6 3) fun v_83_1=>
      Cbo 201 #[(.int .i64 v_83_1),(.int .i64 v_19),(.pointer (some (Am b3 0)))] F fun v_85_1 F=>
      (Bb ((!v_85_1)) (
       R (.int .i64 40) F) (
       (Bc (2≤v_26) (
        Li F (Am b6 4) fun v_95_2=>
        Cbo 201 #[(.int .i64 v_95_2),(.int .i64 v_19),(.pointer (some (Am b3 0)))] F fun v_97_2 F=>
        (Bb ((!v_97_2)) (
         R (.int .i64 40) F) (
         bJ N2 p_0 b3 v_19 R F))) (
        bJ N2 p_0 b3 v_19 R F))))) (
      (Bc (2≤v_26) (
       Li F (Am b6 4) fun v_95_3=>
       Cbo 201 #[(.int .i64 v_95_3),(.int .i64 v_19),(.pointer (some (Am b3 0)))] F fun v_97_3 F=>
       (Bb ((!v_97_3)) (
        R (.int .i64 40) F) (
        bJ N2 p_0 b3 v_19 R F))) (
       bJ N2 p_0 b3 v_19 R F))))))))) (
   (Bc (v_26<2) (
    Li F (Am b6 4) fun v_73_1=>
    (Bc (v_73_1≠0) (
     R (.int .i64 40) F) (
     (Bc (1≤v_26) (
      Li F (Am b6 3) fun v_83_2=>
      Cbo 201 #[(.int .i64 v_83_2),(.int .i64 v_19),(.pointer (some (Am b3 0)))] F fun v_85_2 F=>
      (Bb ((!v_85_2)) (
       R (.int .i64 40) F) (
       (Bc (2≤v_26) (
        Li F (Am b6 4) fun v_95_4=>
        Cbo 201 #[(.int .i64 v_95_4),(.int .i64 v_19),(.pointer (some (Am b3 0)))] F fun v_97_4 F=>
        (Bb ((!v_97_4)) (
         R (.int .i64 40) F) (
         bJ N2 p_0 b3 v_19 R F))) (
        bJ N2 p_0 b3 v_19 R F))))) (
      (Bc (2≤v_26) (
       Li F (Am b6 4) fun v_95_5=>
       Cbo 201 #[(.int .i64 v_95_5),(.int .i64 v_19),(.pointer (some (Am b3 0)))] F fun v_97_5 F=>
       (Bb ((!v_97_5)) (
        R (.int .i64 40) F) (
        bJ N2 p_0 b3 v_19 R F))) (
       bJ N2 p_0 b3 v_19 R F))))))) (
    (Bc (1≤v_26) (
     Li F (Am b6 3) fun v_83_3=>
     Cbo 201 #[(.int .i64 v_83_3),(.int .i64 v_19),(.pointer (some (Am b3 0)))] F fun v_85_3 F=>
     (Bb ((!v_85_3)) (
      R (.int .i64 40) F) (
      (Bc (2≤v_26) (
       Li F (Am b6 4) fun v_95_6=>
       Cbo 201 #[(.int .i64 v_95_6),(.int .i64 v_19),(.pointer (some (Am b3 0)))] F fun v_97_6 F=>
       (Bb ((!v_97_6)) (
        R (.int .i64 40) F) (
        bJ N2 p_0 b3 v_19 R F))) (
       bJ N2 p_0 b3 v_19 R F))))) (
     (Bc (2≤v_26) (
      Li F (Am b6 4) fun v_95_7=>
      Cbo 201 #[(.int .i64 v_95_7),(.int .i64 v_19),(.pointer (some (Am b3 0)))] F fun v_97_7 F=>
      (Bb ((!v_97_7)) (
       R (.int .i64 40) F) (
       bJ N2 p_0 b3 v_19 R F))) (
      bJ N2 p_0 b3 v_19 R F))))))))))
def ym (N2:Int→PH→Prop) (p_0:Sl) (b3:Nat) (R:VR) (v_19:Int) (F:PH):Prop:=
 (Bc (v_19<(p_0.len:Int)) (
  Ix p_0 v_19 fun a22_=>
  Lr F 5 (Addr.add a22_ (Int.toNat v_19*5)) fun v_23=>
  Nb F (.cells (#[.int .i64 0,.int .i64 0,.int .i64 0,.int .i64 0,.int .i64 0]) 97) fun b6 F=>
  aA F (Am b6 0) 5 v_23 fun F=>
  Li F (Am b6 0) fun v_25=>
  Ci 202 #[(.int .i64 v_25)] F fun v_26 F=>
  Li F (Am b6 0) fun v_31=>
  (Bc (v_31=1) (
   Li F (Am b6 1) fun v_34=>
   (Bc (0≤v_34) (
    Li F (Am b6 1) fun v_38=>
    Li F (Am b6 2) fun v_40=>
    (Bc (v_38≤v_40) (
     Li F (Am b6 2) fun v_45=>
     eP N2 p_0 b3 v_19 b6 v_26 (decide (v_45≤(255:Int))) R F) (
     eP N2 p_0 b3 v_19 b6 v_26 false R F))) (
    eP N2 p_0 b3 v_19 b6 v_26 false R F))) (
   Li F (Am b6 1) fun v_50=>
   (Bc (v_50≠0) (
    eP N2 p_0 b3 v_19 b6 v_26 false R F) (
    Li F (Am b6 2) fun v_54=>
    (Bc (v_54≠0) (
     eP N2 p_0 b3 v_19 b6 v_26 false R F) (
     eP N2 p_0 b3 v_19 b6 v_26 (decide (0≤v_26)) R F))))))) (
  yl p_0 b3 R F))
def GL (p_0:Sl) (R:VR) (F:PH):Prop:=
 (Bc ((512:Int)<(p_0.len:Int)) (
  R (.int .i64 2) F) (
  aE prog (Instr.makeSlice 265 (.int .i64 (p_0.len:Int)) (.int .i64 (p_0.len:Int))) F fun v F=>∃v_15,v=(Sl.v v_15)∧
  Nb F (.cells (#[.slice none 0 0]) 265) fun b3 F=>
  sto F (Am b3 0) (Sl.v v_15) fun F=>
  (Lp 0 F fun N v_19 F=>
   ym N p_0 b3 R v_19 F)))
theorem MI {p_0:Sl} (h:GL p_0 R F):ac prog 150 #[(Sl.v p_0)] F R:=Rx.sxC (args:=[(Sl.v p_0)]) (.T .N (.T .N (.T .N (.T .N (.J false [] (.T .N (.L [(19,.int .i64)] (.T .N (.T .N (.J false [] (.T .N (.T .N (.T .N (.J false [(8,.bool)] .N .N)))) .N))))) (.J false [] (.T .N (.L [(105,.int .i64)] .N)) .N)))))) (by kernel_rfl) h
def nf (b3:Nat) (v_11 matched_6:Option Addr) (R:VR) (F:PH):Prop:=
 Lx F (Am b3 0) fun v_21=>
 Cu 204 #[(.pointer v_11),(.string v_21),(.func (.func 205) #[] #[(.pointer (some (Am b3 0))),(.pointer matched_6)])] F fun F=>
 ∃matched6a_,matched_6=some matched6a_∧Lb F matched6a_ fun v_24=>
 R (.bool v_24) F
def GM (p_0:Sl) (s_1:ByteArray) (R:VR) (F:PH):Prop:=
 Nb F (.cells #[(.string s_1)] 9) fun b3 F=>
 Ci 150 #[(Sl.v p_0)] F fun v_8 F=>
 (Bc (v_8≠0) (
  R (.bool false) F) (
  ac prog 203 #[(Sl.v p_0)] F fun v F=>∃v_11,v=(.pointer v_11)∧
  Lx F (Am b3 0) fun v_12=>
  (Bb ((v_12.toList==(ByteArray.mk #[]).toList)) (
   ∃v11a_,v_11=some v11a_∧Lb F (Addr.add v11a_ 18) fun v_18=>
   Nb F (.cells (#[.bool false]) 4) fun b6 F=>
   sto F (Am b6 0) (.bool v_18) fun F=>
   nf b3 (some v11a_) (some (Am b6 0)) R F) (
   Nb F (.cells (#[.bool false]) 4) fun b6_1 F=>
   sto F (Am b6_1 0) (.bool false) fun F=>
   nf b3 v_11 (some (Am b6_1 0)) R F))))
theorem MJ {p_0:Sl} {s_1:ByteArray} (h:GM p_0 s_1 R F):ac prog 151 #[(Sl.v p_0),(.string s_1)] F R:=Rx.sxC (args:=[(Sl.v p_0),(.string s_1)]) (.T .N (.T .N (.T .N (.J false [(5,.ptr),(6,.ptr)] .N .N)))) (by kernel_rfl) h
def GN (i_0 at_1:Int) (v_2:Option Addr) (R:VR) (F:PH):Prop:=
 (Bc (i_0<0) (
  R (.bool false) F) (
  (Bc (at_1≤i_0) (
   R (.bool false) F) (
   ∃v2a_,v_2=some v2a_∧Ls F v2a_ fun v_14=>
   Ix v_14 i_0 fun a16_=>
   Lb F (Addr.add a16_ (Int.toNat i_0*1)) fun v_17=>
   (Bb (v_17) (
    R (.bool false) F) (
    Ls F v2a_ fun v_19=>
    Ix v_19 i_0 fun a21_=>
    sto F (Addr.add a21_ (Int.toNat i_0*1)) (.bool true) fun F=>
    R (.bool true) F))))))
theorem MK {i_0:Int} {at_1:Int} {v_2:Option Addr} (h:GN i_0 at_1 v_2 R F):ac prog 201 #[(.int .i64 i_0),(.int .i64 at_1),(.pointer v_2)] F R:=Rx.sxC (args:=[(.int .i64 i_0),(.int .i64 at_1),(.pointer v_2)]) .N (by kernel_rfl) h
def ni (kind_0:Int) (v_4:Bool) (R:VR) (F:PH):Prop:=
 (Bb (v_4) (
  R (.int .i64 0) F) (
  (Bc (kind_0=4) (
   R (.int .i64 1) F) (
   (Bc (kind_0=2) (
    (Bc (kind_0=2) (
     R (.int .i64 2) F) (
     R (.int .i64 (-1:Int)) F))) (
    (Bc (kind_0=3) (
     R (.int .i64 2) F) (
     R (.int .i64 (-1:Int)) F))))))))
def GO (kind_0:Int) (R:VR) (F:PH):Prop:=
 (Bc (kind_0=0) (
  ni kind_0 (decide (kind_0=0)) R F) (
  ni kind_0 (decide (kind_0=1)) R F))
theorem ML {kind_0:Int} (h:GO kind_0 R F):ac prog 202 #[(.int .i64 kind_0)] F R:=Rx.sxC (args:=[(.int .i64 kind_0)]) (.T .N (.T (.T .N (.J false [(4,.bool)] .N .N)) .N)) (by kernel_rfl) h
def iU (b1:Nat) (vm_3:Option Addr) (R:VR) (F:PH):Prop:=
 Nb F (.cells (#[.nilFunc]) 303) fun b4 F=>
 Nb F (.cells (#[.nilFunc]) 306) fun b5 F=>
 sto F (Am b5 0) (.func (.func 222) #[] #[(.pointer vm_3)]) fun F=>
 sto F (Am b4 0) (.func (.func 226) #[] #[(.pointer (some (Am b1 0))),(.pointer (some (Am b4 0))),(.pointer (some (Am b5 0)))]) fun F=>
 ∃vm3a_,vm_3=some vm3a_∧Lq F vm3a_ fun v_15=>
 Lq F vm3a_ fun v_16=>
 Lq F vm3a_ fun v_17=>
 ∃v_18:Value,F.cell (Am b4 0)=some v_18∧
 Ls F (Am b1 0) fun v_19=>
 Fn v_18 fun k22 fst22 cap22=>ac prog k22 (fst22++([(Value.int .i64 (IntKind.i64.wrap ((v_19.len:Int) - 1)))]).toArray++cap22) F fun v F=>∃v_22,∃v_22_1,∃v_22_2,v=(Value.tuple #[(Value.agg v_22),(Value.agg v_22_1),(Value.bool v_22_2)])∧
 F.cell (Am b1 0)=some (Sl.v v_19)∧F.cell vm3a_=some (.pointer v_17)∧F.cell vm3a_=some (.pointer v_16)∧F.cell vm3a_=some (.pointer v_15)∧∃v15a_,v_15=some v15a_∧aA F (Addr.add v15a_ 1) 8 v_22 fun F=>
 F.cell vm3a_=some (.pointer v_17)∧F.cell vm3a_=some (.pointer v_16)∧∃v16a_,v_16=some v16a_∧aA F (Addr.add v16a_ 9) 8 v_22_1 fun F=>
 F.cell vm3a_=some (.pointer v_17)∧∃v17a_,v_17=some v17a_∧sto F (Addr.add v17a_ 18) (.bool v_22_2) fun F=>
 Lq F vm3a_ fun v_32=>
 R (.pointer v_32) F
def GP (p_0:Sl) (R:VR) (F:PH):Prop:=
 Nb F (.cells #[(Sl.v p_0)] 77) fun b1 F=>
 Ls F (Am b1 0) fun v_6=>
 Ls F (Am b1 0) fun v_7=>
 ((aE prog (Instr.makeSlice 276 (.int .i64 (v_7.len:Int)) (.int .i64 (v_7.len:Int))) F fun v F=>∃v_9,v=(Sl.v v_9)∧
 F.cell (Am b1 0)=some (Sl.v v_7)∧F.cell (Am b1 0)=some (Sl.v v_6)∧((Nb F (.cells (#[(Sl.v v_6),.int .u64 0,.int .u64 0,.int .u64 0,.int .u64 0,.int .u64 0,.int .u64 0,.int .u64 0,.int .u64 0,.int .u64 0,.int .u64 0,.int .u64 0,.int .u64 0,.int .u64 0,.int .u64 0,.int .u64 0,.int .u64 0,(Sl.v v_9),.bool false]:Array Value) 278) fun b11 F=>
 Nb F (.cells (#[.pointer none]) 272) fun b3 F=>
 sto F (Am b3 0) (.pointer (some (Am b11 0))) fun F=>
 iU b1 (some (Am b3 0)) R F)∧
 (Nb F (.cells (#[.pointer none]) 272) fun b3_1 F=>
 Nb F (.cells (#[(Sl.v v_6),.int .u64 0,.int .u64 0,.int .u64 0,.int .u64 0,.int .u64 0,.int .u64 0,.int .u64 0,.int .u64 0,.int .u64 0,.int .u64 0,.int .u64 0,.int .u64 0,.int .u64 0,.int .u64 0,.int .u64 0,.int .u64 0,(Sl.v v_9),.bool false]:Array Value) 278) fun b11_1 F=>
 sto F (Am b3_1 0) (.pointer (some (Am b11_1 0))) fun F=>
 iU b1 (some (Am b3_1 0)) R F)))∧
 (Nb F (.cells (#[.pointer none]) 272) fun b3_2 F=>
 aE prog (Instr.makeSlice 276 (.int .i64 (v_7.len:Int)) (.int .i64 (v_7.len:Int))) F fun v F=>∃v_9_1,v=(Sl.v v_9_1)∧
 F.cell (Am b1 0)=some (Sl.v v_7)∧F.cell (Am b1 0)=some (Sl.v v_6)∧Nb F (.cells (#[(Sl.v v_6),.int .u64 0,.int .u64 0,.int .u64 0,.int .u64 0,.int .u64 0,.int .u64 0,.int .u64 0,.int .u64 0,.int .u64 0,.int .u64 0,.int .u64 0,.int .u64 0,.int .u64 0,.int .u64 0,.int .u64 0,.int .u64 0,(Sl.v v_9_1),.bool false]:Array Value) 278) fun b11_2 F=>
 sto F (Am b3_2 0) (.pointer (some (Am b11_2 0))) fun F=>
 iU b1 (some (Am b3_2 0)) R F))
theorem MM {p_0:Sl} (h:GP p_0 R F):ac prog 203 #[(Sl.v p_0)] F R:=Rx.sxC (args:=[(Sl.v p_0)]) (.T .N (.J false [(3,.ptr)] .N .N)) (by kernel_rfl) h
def yn (N1:Int→PH→Prop) (f_2:Value) (b3 b4 b6:Nat) (v_14:ByteArray) (R:VR) (v_16:Int) (F:PH):Prop:=
 (Bc (v_16<(v_14.size:Int)) (
  Nb F (.cells (#[.int .i64 0]) 3) fun b7 F=>
  sto F (Am b7 0) (.int .i64 v_16) fun F=>
  Nb F (.cells (#[.int .u64 0,.int .u64 0,.int .u64 0,.int .u64 0,.int .u64 0,.int .u64 0,.int .u64 0,.int .u64 0]) 275) fun b8 F=>
  Nb F (.cells (#[.int .u64 0,.int .u64 0,.int .u64 0,.int .u64 0,.int .u64 0,.int .u64 0,.int .u64 0,.int .u64 0]) 275) fun b9 F=>
  Cu 223 #[(.pointer (some (Am b6 0))),(.func (.func 228) #[] #[(.pointer (some (Am b4 0))),(.pointer (some (Am b7 0))),(.pointer (some (Am b3 0))),(.pointer (some (Am b8 0))),(.pointer (some (Am b9 0)))])] F fun F=>
  Lr F 8 (Am b8 0) fun v_21=>
  ∃v_23,(∀F,rdo prog (Op.equal 275 (.agg v_21) (.agg (#[.int .u64 0,.int .u64 0,.int .u64 0,.int .u64 0,.int .u64 0,.int .u64 0,.int .u64 0,.int .u64 0]:Array Value))) F v_23)∧
  (Bb (v_23) (
   R (.tuple #[]) F) (
   Li F (Am b7 0) fun v_26=>
   Lq F (Am b3 0) fun v_28=>
   ∃v28a_,v_28=some v28a_∧Lr F 8 (Addr.add v28a_ 9) fun v_31=>
   Cbo 229 #[(.pointer (some (Am b8 0))),(.agg v_31)] F fun v_32 F=>
   F.cell (Am b3 0)=some (Value.pointer v_28)∧F.cell (Am b7 0)=some (Value.int .i64 v_26)∧F.row (Am b8 0) v_21∧Fn f_2 fun k33 fst33 cap33=>ac prog k33 (fst33++([(Value.int .i64 (IntKind.i64.wrap (v_26+1))),(Value.bool v_32)]).toArray++cap33) F fun v F=>∃v_33,v=(Value.bool v_33)∧
   F.cell (Am b3 0)=some (.pointer v_28)∧F.cell (Am b7 0)=some (.int .i64 v_26)∧F.row (Am b8 0) v_21∧(Bb ((!v_33)) (
    R (.tuple #[]) F) (
    Lr F 8 (Am b9 0) fun v_36=>
    aA F (Am b6 0) 8 v_36 fun F=>
    N1 (IntKind.i64.wrap (v_16+1)) F))))) (
  R (.tuple #[]) F))
def GQ (vm_0:Option Addr) (s_1:ByteArray) (f_2:Value) (R:VR) (F:PH):Prop:=
 Nb F (.cells #[(.pointer vm_0)] 272) fun b3 F=>
 Nb F (.cells #[(.string s_1)] 9) fun b4 F=>
 Lq F (Am b3 0) fun v_10=>
 ∃v10a_,v_10=some v10a_∧Lr F 8 (Addr.add v10a_ 1) fun v_13=>
 Nb F (.cells (#[.int .u64 0,.int .u64 0,.int .u64 0,.int .u64 0,.int .u64 0,.int .u64 0,.int .u64 0,.int .u64 0]) 275) fun b6 F=>
 aA F (Am b6 0) 8 v_13 fun F=>
 Lx F (Am b4 0) fun v_14=>
 (Lp 0 F fun N v_16 F=>
  yn N f_2 b3 b4 b6 v_14 R v_16 F)
theorem MN {vm_0:Option Addr} {s_1:ByteArray} {f_2:Value} (h:GQ vm_0 s_1 f_2 R F):ac prog 204 #[(.pointer vm_0),(.string s_1),f_2] F R:=Rx.sxC (args:=[(.pointer vm_0),(.string s_1),f_2]) (.T .N (.T .N (.T .N (.L [(16,.int .i64)] .N)))) (by kernel_rfl) h
def GR (n_0:Int) (is_1:Bool) (v_2 v_3:Option Addr) (R:VR) (F:PH):Prop:=
 ∃v2a_,v_2=some v2a_∧Lx F v2a_ fun v_8=>
 (Bc (n_0=(v_8.size:Int)) (
  ∃v3a_,v_3=some v3a_∧sto F v3a_ (.bool is_1) fun F=>
  R (.bool true) F) (
  ∃v3a__1,v_3=some v3a__1∧sto F v3a__1 (.bool false) fun F=>
  R (.bool true) F))
theorem MO {n_0:Int} {is_1:Bool} {v_2:Option Addr} {v_3:Option Addr} (h:GR n_0 is_1 v_2 v_3 R F):ac prog 205 #[(.int .i64 n_0),(.bool is_1),(.pointer v_2),(.pointer v_3)] F R:=Rx.sxC (args:=[(.int .i64 n_0),(.bool is_1),(.pointer v_2),(.pointer v_3)]) .N (by kernel_rfl) h
def GT (from_0 to_1:Array Value) (v_2:Option Addr) (R:VR) (F:PH):Prop:=
 Nb F (.cells from_0 275) fun b3 F=>
 Nb F (.cells to_1 275) fun b4 F=>
 Cu 223 #[(.pointer (some (Am b3 0))),(.func (.func 224) #[] #[(.pointer v_2),(.pointer (some (Am b4 0)))])] F fun F=>
 R (.tuple #[]) F
theorem MP {from_0:Array Value} {to_1:Array Value} {v_2:Option Addr} (h:GT from_0 to_1 v_2 R F):ac prog 222 #[(.agg from_0),(.agg to_1),(.pointer v_2)] F R:=Rx.sxC (args:=[(.agg from_0),(.agg to_1),(.pointer v_2)]) .N (by kernel_rfl) h
def yo (N1:Int→PH→Prop) (f_1:Value) (s_0:Option Addr) (v_7:Int) (R:VR) (F:PH):Prop:=
 N1 (IntKind.i64.wrap (v_7+1)) F
def yp (N1 N2:Int→PH→Prop) (f_1:Value) (v_7:Int) (s0a_:Addr) (R:VR) (w_5:Int) (F:PH):Prop:=
 (Bc (w_5≠0) (
  Ci 240 #[(.int .u64 w_5)] F fun v_23 F=>
  Fn f_1 fun k25 fst25 cap25=>ac prog k25 (fst25++([(Value.int .i64 (IntKind.i64.wrap ((IntKind.i64.wrap (64*v_7))+v_23)))]).toArray++cap25) F fun v F=>v=(Value.tuple #[])∧
  N2 (IntKind.u64.wrap ((BitVec.ofInt (IntKind.u64).bits w_5 &&& BitVec.ofInt (IntKind.u64).bits (IntKind.u64.wrap (w_5 - 1))).toNat)) F) (
  yo N1 f_1 (some s0a_) v_7 R F))
def yq (N1:Int→PH→Prop) (f_1:Value) (s_0:Option Addr) (R:VR) (v_7:Int) (F:PH):Prop:=
 (Bc (v_7<8) (
  ∃s0a_,s_0=some s0a_∧0≤v_7∧v_7<8∧
  Lk F .u64 (Addr.add s0a_ (Int.toNat v_7*1)) fun v_12=>
  (∃(I2:Nat→Int→PH→Prop) (m2:Nat),I2 m2 v_12 F∧∀m2 w_5 F,I2 m2 w_5 F→
   yp N1 (nx1 I2 m2) f_1 v_7 s0a_ R w_5 F)) (
  R (.tuple #[]) F))
def GU (s_0:Option Addr) (f_1:Value) (R:VR) (F:PH):Prop:=
 (Lp 0 F fun N v_7 F=>
  yq N f_1 s_0 R v_7 F)
theorem MQ {s_0:Option Addr} {f_1:Value} (h:GU s_0 f_1 R F):ac prog 223 #[(.pointer s_0),f_1] F R:=Rx.sxC (args:=[(.pointer s_0),f_1]) (.T .N (.L [(7,.int .i64)] (.T .N (.T .N (.J false [(6,.ptr)] (.T .N (.L [(5,.int .u64)] .N)) .N))))) (by kernel_rfl) h
def GW (i_0:Int) (v_1 v_2:Option Addr) (R:VR) (F:PH):Prop:=
 ∃v1a_,v_1=some v1a_∧Lq F v1a_ fun v_4=>
 ∃v4a_,v_4=some v4a_∧Ls F (Addr.add v4a_ 17) fun v_7=>
 Ix v_7 i_0 fun a9_=>
 ∃v2a_,v_2=some v2a_∧Lr F 8 v2a_ fun v_10=>
 Cu 225 #[(.pointer (some (Addr.add a9_ (Int.toNat i_0*8)))),(.agg v_10)] F fun F=>
 F.cell (Addr.add v4a_ 17)=some (Sl.v v_7)∧F.cell v1a_=some (.pointer v_4)∧R (.tuple #[]) F
theorem MR {i_0:Int} {v_1:Option Addr} {v_2:Option Addr} (h:GW i_0 v_1 v_2 R F):ac prog 224 #[(.int .i64 i_0),(.pointer v_1),(.pointer v_2)] F R:=Rx.sxC (args:=[(.int .i64 i_0),(.pointer v_1),(.pointer v_2)]) .N (by kernel_rfl) h
def yr (N1:Int→PH→Prop) (s_0:Option Addr) (b3:Nat) (R:VR) (v_5:Int) (F:PH):Prop:=
 (Bc (v_5<8) (
  ∃s0a_,s_0=some s0a_∧0≤v_5∧v_5<8∧
  Lk F .u64 (Addr.add s0a_ (Int.toNat v_5*1)) fun v_12=>
  0≤v_5∧v_5<8∧
  Lk F .u64 (Addr.add (Am b3 0) (Int.toNat v_5*1)) fun v_15=>
  0≤v_5∧v_5<8∧
  sto F (Addr.add s0a_ (Int.toNat v_5*1)) (.int .u64 (IntKind.u64.wrap ((BitVec.ofInt (IntKind.u64).bits v_12 ||| BitVec.ofInt (IntKind.u64).bits v_15).toNat))) fun F=>
  N1 (IntKind.i64.wrap (v_5+1)) F) (
  R (.tuple #[]) F))
def GX (s_0:Option Addr) (t_1:Array Value) (R:VR) (F:PH):Prop:=
 Nb F (.cells t_1 275) fun b3 F=>
 (Lp 0 F fun N v_5 F=>
  yr N s_0 b3 R v_5 F)
theorem MS {s_0:Option Addr} {t_1:Array Value} (h:GX s_0 t_1 R F):ac prog 225 #[(.pointer s_0),(.agg t_1)] F R:=Rx.sxC (args:=[(.pointer s_0),(.agg t_1)]) (.T .N (.T .N (.L [(5,.int .i64)] .N))) (by kernel_rfl) h
def iV (b5 b6 b9:Nat) (v_42_2:Bool) (b13:Nat) (v_50_2:Bool) (R:VR) (F:PH):Prop:=
 Lr F 8 (Am b9 0) fun v_64=>
 Lr F 8 (Am b13 0) fun v_65=>
 (Bb (v_42_2) (
  aA F (Am b5 0) 8 v_64 fun F=>
  aA F (Am b6 0) 8 v_65 fun F=>
  Lr F 8 (Am b5 0) fun vres_5_1=>Lr F 8 (Am b6 0) fun vres_6_1=>R (.tuple #[(.agg vres_5_1),(.agg vres_6_1),(.bool v_50_2)]) F) (
  aA F (Am b5 0) 8 v_64 fun F=>
  aA F (Am b6 0) 8 v_65 fun F=>
  Lr F 8 (Am b5 0) fun vres_5_2=>Lr F 8 (Am b6 0) fun vres_6_2=>R (.tuple #[(.agg vres_5_2),(.agg vres_6_2),(.bool false)]) F))
def nj (b5 b6 b9 b10:Nat) (v_42_2:Bool) (b13:Nat) (v_50_2:Bool) (R:VR) (F:PH):Prop:=
 (Bb (v_50_2) (
  Lr F 8 (Am b10 0) fun v_62=>
  Cu 225 #[(.pointer (some (Am b13 0))),(.agg v_62)] F fun F=>
  iV b5 b6 b9 v_42_2 b13 v_50_2 R F) (
  iV b5 b6 b9 v_42_2 b13 v_50_2 R F))
def rA (i_0:Int) (v_1 v_2 v_3:Option Addr) (R:VR) (F:PH):Prop:=
 Nb F (.cells (#[.int .u64 0,.int .u64 0,.int .u64 0,.int .u64 0,.int .u64 0,.int .u64 0,.int .u64 0,.int .u64 0]) 275) fun b5 F=>
 Nb F (.cells (#[.int .u64 0,.int .u64 0,.int .u64 0,.int .u64 0,.int .u64 0,.int .u64 0,.int .u64 0,.int .u64 0]) 275) fun b6 F=>
 ∃v1a_,v_1=some v1a_∧Ls F v1a_ fun v_24=>
 Ix v_24 i_0 fun a26_=>
 Lr F 5 (Addr.add a26_ (Int.toNat i_0*5)) fun v_27=>
 Nb F (.cells (#[.int .i64 0,.int .i64 0,.int .i64 0,.int .i64 0,.int .i64 0]) 97) fun b8 F=>
 aA F (Am b8 0) 5 v_27 fun F=>
 Li F (Am b8 0) fun v_29=>
 (Bc (v_29=1) (
  Cu 227 #[(.pointer (some (Am b5 0))),(.int .i64 i_0)] F fun F=>
  Lr F 8 (Am b5 0) fun v_34=>
  Lr F 8 (Am b5 0) fun v_35=>
  aA F (Am b5 0) 8 v_34 fun F=>
  aA F (Am b6 0) 8 v_35 fun F=>
  Lr F 8 (Am b5 0) fun vres_5=>Lr F 8 (Am b6 0) fun vres_6=>R (.tuple #[(.agg vres_5),(.agg vres_6),(.bool false)]) F) (
  (Bc (v_29=2) (
   ∃v2a_,v_2=some v2a_∧∃v_39:Value,F.cell v2a_=some v_39∧
   Li F (Am b8 3) fun v_41=>
   Fn v_39 fun k42 fst42 cap42=>ac prog k42 (fst42++([(Value.int .i64 v_41)]).toArray++cap42) F fun v F=>∃v_42,∃v_42_1,∃v_42_2,v=(Value.tuple #[(Value.agg v_42),(Value.agg v_42_1),(Value.bool v_42_2)])∧
   Nb F (.cells (#[.int .u64 0,.int .u64 0,.int .u64 0,.int .u64 0,.int .u64 0,.int .u64 0,.int .u64 0,.int .u64 0]) 275) fun b9 F=>
   Nb F (.cells (#[.int .u64 0,.int .u64 0,.int .u64 0,.int .u64 0,.int .u64 0,.int .u64 0,.int .u64 0,.int .u64 0]) 275) fun b10 F=>
   aA F (Am b9 0) 8 v_42 fun F=>
   aA F (Am b10 0) 8 v_42_1 fun F=>
   ∃v_47:Value,F.cell v2a_=some v_47∧
   Li F (Am b8 4) fun v_49=>
   Fn v_47 fun k50 fst50 cap50=>ac prog k50 (fst50++([(Value.int .i64 v_49)]).toArray++cap50) F fun v F=>∃v_50,∃v_50_1,∃v_50_2,v=(Value.tuple #[(Value.agg v_50),(Value.agg v_50_1),(Value.bool v_50_2)])∧
   Nb F (.cells (#[.int .u64 0,.int .u64 0,.int .u64 0,.int .u64 0,.int .u64 0,.int .u64 0,.int .u64 0,.int .u64 0]) 275) fun b12 F=>
   Nb F (.cells (#[.int .u64 0,.int .u64 0,.int .u64 0,.int .u64 0,.int .u64 0,.int .u64 0,.int .u64 0,.int .u64 0]) 275) fun b13 F=>
   aA F (Am b12 0) 8 v_50 fun F=>
   aA F (Am b13 0) 8 v_50_1 fun F=>
   ∃v3a_,v_3=some v3a_∧∃v_54:Value,F.cell v3a_=some v_54∧
   Lr F 8 (Am b10 0) fun v_55=>
   Lr F 8 (Am b12 0) fun v_56=>
   Fn v_54 fun k57 fst57 cap57=>ac prog k57 (fst57++([(Value.agg v_55),(Value.agg v_56)]).toArray++cap57) F fun v F=>v=(Value.tuple #[])∧
   (Bb (v_42_2) (
    Lr F 8 (Am b12 0) fun v_59=>
    Cu 225 #[(.pointer (some (Am b9 0))),(.agg v_59)] F fun F=>
    nj b5 b6 b9 b10 v_42_2 b13 v_50_2 R F) (
    nj b5 b6 b9 b10 v_42_2 b13 v_50_2 R F))) (
   (Bc (v_29=3) (
    ∃v2a__1,v_2=some v2a__1∧∃v_73:Value,F.cell v2a__1=some v_73∧
    Li F (Am b8 3) fun v_75=>
    Fn v_73 fun k76 fst76 cap76=>ac prog k76 (fst76++([(Value.int .i64 v_75)]).toArray++cap76) F fun v F=>∃v_76,∃v_76_1,∃v_76_2,v=(Value.tuple #[(Value.agg v_76),(Value.agg v_76_1),(Value.bool v_76_2)])∧
    Nb F (.cells (#[.int .u64 0,.int .u64 0,.int .u64 0,.int .u64 0,.int .u64 0,.int .u64 0,.int .u64 0,.int .u64 0]) 275) fun b15 F=>
    Nb F (.cells (#[.int .u64 0,.int .u64 0,.int .u64 0,.int .u64 0,.int .u64 0,.int .u64 0,.int .u64 0,.int .u64 0]) 275) fun b16 F=>
    aA F (Am b15 0) 8 v_76 fun F=>
    aA F (Am b16 0) 8 v_76_1 fun F=>
    ∃v_81:Value,F.cell v2a__1=some v_81∧
    Li F (Am b8 4) fun v_83=>
    Fn v_81 fun k84 fst84 cap84=>ac prog k84 (fst84++([(Value.int .i64 v_83)]).toArray++cap84) F fun v F=>∃v_84,∃v_84_1,∃v_84_2,v=(Value.tuple #[(Value.agg v_84),(Value.agg v_84_1),(Value.bool v_84_2)])∧
    Nb F (.cells (#[.int .u64 0,.int .u64 0,.int .u64 0,.int .u64 0,.int .u64 0,.int .u64 0,.int .u64 0,.int .u64 0]) 275) fun b18 F=>
    Nb F (.cells (#[.int .u64 0,.int .u64 0,.int .u64 0,.int .u64 0,.int .u64 0,.int .u64 0,.int .u64 0,.int .u64 0]) 275) fun b19 F=>
    aA F (Am b18 0) 8 v_84 fun F=>
    aA F (Am b19 0) 8 v_84_1 fun F=>
    Lr F 8 (Am b18 0) fun v_88=>
    Cu 225 #[(.pointer (some (Am b15 0))),(.agg v_88)] F fun F=>
    Lr F 8 (Am b19 0) fun v_90=>
    Cu 225 #[(.pointer (some (Am b16 0))),(.agg v_90)] F fun F=>
    Lr F 8 (Am b15 0) fun v_92=>
    Lr F 8 (Am b16 0) fun v_93=>
    (Bb (v_76_2) (
     aA F (Am b5 0) 8 v_92 fun F=>
     aA F (Am b6 0) 8 v_93 fun F=>
     Lr F 8 (Am b5 0) fun vres_5_3=>Lr F 8 (Am b6 0) fun vres_6_3=>R (.tuple #[(.agg vres_5_3),(.agg vres_6_3),(.bool true)]) F) (
     aA F (Am b5 0) 8 v_92 fun F=>
     aA F (Am b6 0) 8 v_93 fun F=>
     Lr F 8 (Am b5 0) fun vres_5_4=>Lr F 8 (Am b6 0) fun vres_6_4=>R (.tuple #[(.agg vres_5_4),(.agg vres_6_4),(.bool v_84_2)]) F))) (
    (Bc (v_29=4) (
     ∃v2a__2,v_2=some v2a__2∧∃v_101:Value,F.cell v2a__2=some v_101∧
     Li F (Am b8 3) fun v_103=>
     Fn v_101 fun k104 fst104 cap104=>ac prog k104 (fst104++([(Value.int .i64 v_103)]).toArray++cap104) F fun v F=>∃v_104,∃v_104_1,∃v_104_2,v=(Value.tuple #[(Value.agg v_104),(Value.agg v_104_1),(Value.bool v_104_2)])∧
     Nb F (.cells (#[.int .u64 0,.int .u64 0,.int .u64 0,.int .u64 0,.int .u64 0,.int .u64 0,.int .u64 0,.int .u64 0]) 275) fun b21 F=>
     Nb F (.cells (#[.int .u64 0,.int .u64 0,.int .u64 0,.int .u64 0,.int .u64 0,.int .u64 0,.int .u64 0,.int .u64 0]) 275) fun b22 F=>
     aA F (Am b21 0) 8 v_104 fun F=>
     aA F (Am b22 0) 8 v_104_1 fun F=>
     ∃v3a__1,v_3=some v3a__1∧∃v_108:Value,F.cell v3a__1=some v_108∧
     Lr F 8 (Am b22 0) fun v_109=>
     Lr F 8 (Am b21 0) fun v_110=>
     Fn v_108 fun k111 fst111 cap111=>ac prog k111 (fst111++([(Value.agg v_109),(Value.agg v_110)]).toArray++cap111) F fun v F=>v=(Value.tuple #[])∧
     Lr F 8 (Am b21 0) fun v_112=>
     Lr F 8 (Am b22 0) fun v_113=>
     aA F (Am b5 0) 8 v_112 fun F=>
     F.row (Am b22 0) v_113∧aA F (Am b6 0) 8 v_113 fun F=>
     Lr F 8 (Am b5 0) fun vres_5_5=>Lr F 8 (Am b6 0) fun vres_6_5=>R (.tuple #[(.agg vres_5_5),(.agg vres_6_5),(.bool true)]) F) (
     Lr F 8 (Am b5 0) fun v_114=>
     Lr F 8 (Am b6 0) fun v_115=>
     aA F (Am b5 0) 8 v_114 fun F=>
     F.row (Am b6 0) v_115∧aA F (Am b6 0) 8 v_115 fun F=>
     Lr F 8 (Am b5 0) fun vres_5_6=>Lr F 8 (Am b6 0) fun vres_6_6=>R (.tuple #[(.agg vres_5_6),(.agg vres_6_6),(.bool true)]) F))))))))
theorem uZ {i_0:Int} {v_1:Option Addr} {v_2:Option Addr} {v_3:Option Addr} (h:rA i_0 v_1 v_2 v_3 R F):ac prog 226 #[(.int .i64 i_0),(.pointer v_1),(.pointer v_2),(.pointer v_3)] F R:=Rx.sxC (args:=[(.int .i64 i_0),(.pointer v_1),(.pointer v_2),(.pointer v_3)]) (.T .N (.T .N (.T (.T .N (.T .N (.T .N (.T .N (.T (.T .N (.T .N (.T .N (.J false [] .N (.J false [] .N .N))))) .N))))) .N))) (by kernel_rfl) h
def GY (s_0:Option Addr) (i_1:Int) (R:VR) (F:PH):Prop:=
 ∃s0a_,s_0=some s0a_∧0≤(IntKind.i64.wrap (Int.tdiv i_1 64))∧(IntKind.i64.wrap (Int.tdiv i_1 64))<8∧
 ∃v_9,F.cell (Addr.add s0a_ (Int.toNat (IntKind.i64.wrap (Int.tdiv i_1 64))*1))=some (.int .u64 v_9)∧
 0≤(Int.tmod i_1 64)∧0≤(IntKind.i64.wrap (Int.tdiv i_1 64))∧(IntKind.i64.wrap (Int.tdiv i_1 64))<8∧
 sto F (Addr.add s0a_ (Int.toNat (IntKind.i64.wrap (Int.tdiv i_1 64))*1)) (.int .u64 (IntKind.u64.wrap ((BitVec.ofInt (IntKind.u64).bits v_9 ||| BitVec.ofInt (IntKind.u64).bits (IntKind.u64.wrap (1*2 ^ (min (Int.toNat (Int.tmod i_1 64)) (IntKind.u64).bits)))).toNat))) fun F=>
 R (.tuple #[]) F
theorem MT {s_0:Option Addr} {i_1:Int} (h:GY s_0 i_1 R F):ac prog 227 #[(.pointer s_0),(.int .i64 i_1)] F R:=Rx.sxC (args:=[(.pointer s_0),(.int .i64 i_1)]) .N (by kernel_rfl) h
def nk (i_0:Int) (v_3 v_4 v_5:Option Addr) (v_33:Bool) (R:VR) (F:PH):Prop:=
 (Bb (v_33) (
  Cu 227 #[(.pointer v_4),(.int .i64 i_0)] F fun F=>
  ∃v3a_,v_3=some v3a_∧Lq F v3a_ fun v_36=>
  ∃v36a_,v_36=some v36a_∧Ls F (Addr.add v36a_ 17) fun v_39=>
  Ix v_39 i_0 fun a41_=>
  Lr F 8 (Addr.add a41_ (Int.toNat i_0*8)) fun v_42=>
  Cu 225 #[(.pointer v_5),(.agg v_42)] F fun F=>
  R (.tuple #[]) F) (
  R (.tuple #[]) F))
def GZ (i_0:Int) (v_1 v_2 v_3 v_4 v_5:Option Addr) (R:VR) (F:PH):Prop:=
 ∃v1a_,v_1=some v1a_∧Lx F v1a_ fun v_8=>
 ∃v2a_,v_2=some v2a_∧Li F v2a_ fun v_9=>
 0≤v_9∧v_9<(v_8.size:Int)∧
 ∃(hx:Int.toNat v_9<v_8.size) (v_10:Int),v_10=((v_8[Int.toNat v_9]'hx).toNat:Int)∧
 ∃v3a__1,v_3=some v3a__1∧Lq F v3a__1 fun v_12=>
 ∃v12a_,v_12=some v12a_∧Ls F v12a_ fun v_15=>
 Ix v_15 i_0 fun a17_=>
 Li F (Addr.add (Addr.add a17_ (Int.toNat i_0*5)) 1) fun v_19=>
 (Bc (v_19≤(IntKind.i64.wrap v_10)) (
  Lq F v3a__1 fun v_24=>
  ∃v24a_,v_24=some v24a_∧Ls F v24a_ fun v_27=>
  Ix v_27 i_0 fun a29_=>
  Li F (Addr.add (Addr.add a29_ (Int.toNat i_0*5)) 2) fun v_31=>
  nk i_0 (some v3a__1) v_4 v_5 (decide ((IntKind.i64.wrap v_10)≤v_31)) R F) (
  nk i_0 (some v3a__1) v_4 v_5 false R F))
theorem MU {i_0:Int} {v_1:Option Addr} {v_2:Option Addr} {v_3:Option Addr} {v_4:Option Addr} {v_5:Option Addr} (h:GZ i_0 v_1 v_2 v_3 v_4 v_5 R F):ac prog 228 #[(.int .i64 i_0),(.pointer v_1),(.pointer v_2),(.pointer v_3),(.pointer v_4),(.pointer v_5)] F R:=Rx.sxC (args:=[(.int .i64 i_0),(.pointer v_1),(.pointer v_2),(.pointer v_3),(.pointer v_4),(.pointer v_5)]) (.T .N (.J false [(3,.ptr),(33,.bool)] .N .N)) (by kernel_rfl) h
def yt (R:VR) (F:PH):Prop:=
 R (.bool false) F
def yu (N1:Int→PH→Prop) (s_0:Option Addr) (b3:Nat) (R:VR) (v_6:Int) (F:PH):Prop:=
 (Bc (v_6<8) (
  ∃s0a_,s_0=some s0a_∧0≤v_6∧v_6<8∧
  Lk F .u64 (Addr.add s0a_ (Int.toNat v_6*1)) fun v_13=>
  0≤v_6∧v_6<8∧
  Lk F .u64 (Addr.add (Am b3 0) (Int.toNat v_6*1)) fun v_16=>
  (Bc ((IntKind.u64.wrap ((BitVec.ofInt (IntKind.u64).bits v_13 &&& BitVec.ofInt (IntKind.u64).bits v_16).toNat))≠0) (
   R (.bool true) F) (
   N1 (IntKind.i64.wrap (v_6+1)) F))) (
  yt R F))
def Ha (s_0:Option Addr) (t_1:Array Value) (R:VR) (F:PH):Prop:=
 Nb F (.cells t_1 275) fun b3 F=>
 (Lp 0 F fun N v_6 F=>
  yu N s_0 b3 R v_6 F)
theorem MV {s_0:Option Addr} {t_1:Array Value} (h:Ha s_0 t_1 R F):ac prog 229 #[(.pointer s_0),(.agg t_1)] F R:=Rx.sxC (args:=[(.pointer s_0),(.agg t_1)]) (.T .N (.J false [] (.T .N (.L [(6,.int .i64)] .N)) .N)) (by kernel_rfl) h
end Go.Proofs.YtenpmjhnhepfdaaGreatDoor
