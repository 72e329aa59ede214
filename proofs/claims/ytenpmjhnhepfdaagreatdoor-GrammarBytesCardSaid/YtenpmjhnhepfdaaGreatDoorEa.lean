/-
  The diagrams: how memory represents them; the level of a number, the two sides, equality.
-/
import Derived.Test.YtenpmjhnhepfdaaGreatDoorPhp
import Derived.Test.YtenpmjhnhepfdaaGreatDoorPhz
import Derived.Test.YtenpmjhnhepfdaaGreatDoorRa
namespace Go.Proofs.YtenpmjhnhepfdaaGreatDoor
open Go Go.Proofs.Tryz
variable {R:VR} {F:PH}
set_option maxRecDepth 10000
set_option maxHeartbeats 4000000
def Mk (a_0 b_1:Array Value) (R:VR) (F:PH):Prop:=
 Nb F (.cells a_0 33) fun b2 F=>
 Nb F (.cells b_1 33) fun b3 F=>
 Li F (Am b2 1) fun v_6=>
 Li F (Am b3 1) fun v_8=>
 (Bc (v_6=v_8) (
  Ls F (Am b2 0) fun v_12=>
  Ls F (Am b3 0) fun v_14=>
  Cbo 98 #[(Sl.v v_12),(Sl.v v_14)] F fun v_15 F=>
  R (.bool v_15) F) (
  R (.bool false) F))
theorem PQ {a_0:Array Value} {b_1:Array Value} (h:Mk a_0 b_1 R F):ac prog 29 #[(.agg a_0),(.agg b_1)] F R:=Rx.sxC (args:=[(.agg a_0),(.agg b_1)]) .N (by kernel_rfl) h
def Ml (value_0:Bool) (R:VR) (F:PH):Prop:=
 Nb F (.cells zD 33) fun b2 F=>
 (Bb (value_0) (
  aA F (Am b2 0) 2 (#[.slice none 0 0,(.int .i64 1)]:Array Value) fun F=>
  Rr 2 (Am b2 0) R F) (
  aA F (Am b2 0) 2 zD fun F=>
  Rr 2 (Am b2 0) R F))
theorem PR {value_0:Bool} (h:Ml value_0 R F):ac prog 30 #[(.bool value_0)] F R:=Rx.sxC (args:=[(.bool value_0)]) .N (by kernel_rfl) h
def pm (v_1:Int) (value_2:Bool) (b3 b6:Nat) (v_20:Bool) (R:VR) (F:PH):Prop:=
 (Bb (v_20) (
  aA F (Am b6 0) 2 zD fun F=>
  Lr F 2 (Am b6 0) fun vres_6_1=>R (.tuple #[(.agg vres_6_1),(.int .i64 1)]) F) (
  Lr F 2 (Am b3 0) fun v_22=>
  Ca 161 #[(.agg v_22),(.int .i64 v_1),(.bool value_2)] F fun v_25 F=>
  ac prog 160 #[(.agg v_25)] F fun v F=>∃v_26,∃v_26_1,v=(.tuple #[(.agg v_26),(.int .i64 v_26_1)])∧
  aA F (Am b6 0) 2 v_26 fun F=>
  Lr F 2 (Am b6 0) fun vres_6_2=>R (.tuple #[(.agg vres_6_2),(.int .i64 v_26_1)]) F))
def Mm (a_0:Array Value) (v_1:Int) (value_2:Bool) (R:VR) (F:PH):Prop:=
 Nb F (.cells a_0 33) fun b3 F=>
 Nb F (.cells zD 33) fun b6 F=>
 Lr F 2 (Am b3 0) fun v_9=>
 Ci 99 #[(.agg v_9)] F fun v_10 F=>
 (Bc (v_10≠0) (
  aA F (Am b6 0) 2 zD fun F=>
  Lr F 2 (Am b6 0) fun vres_6=>R (.tuple #[(.agg vres_6),(.int .i64 v_10)]) F) (
  (Bc (v_1<0) (
   pm v_1 value_2 b3 b6 true R F) (
   pm v_1 value_2 b3 b6 (decide (63<v_1)) R F))))
theorem PS {a_0:Array Value} {v_1:Int} {value_2:Bool} (h:Mm a_0 v_1 value_2 R F):ac prog 92 #[(.agg a_0),(.int .i64 v_1),(.bool value_2)] F R:=Rx.sxC (args:=[(.agg a_0),(.int .i64 v_1),(.bool value_2)]) (.T .N (.T .N (.T (.J false [(20,.bool)] .N .N) .N))) (by kernel_rfl) h
def C2 (b1:Nat) (R:VR) (F:PH):Prop:=
 Li F (Am b1 1) fun v_84=>
 (Bc (v_84<0) (
  R (.int .i64 20) F) (
  Li F (Am b1 1) fun v_88=>
  Ls F (Am b1 0) fun v_90=>
  (Bc ((IntKind.i64.wrap ((v_90.len:Int)+1))<v_88) (
   R (.int .i64 20) F) (
   Ls F (Am b1 0) fun v_96=>
   Nb F (.cells (#[(Sl.v v_96),.map none]:Array Value) 228) fun b98 F=>
   Li F (Am b1 1) fun v_100=>
   Ca 167 #[(.pointer (some (Am b98 0))),(.int .i64 v_100)] F fun v_101 F=>
   Nb F (.cells zD 33) fun b6 F=>
   aA F (Am b6 0) 2 v_101 fun F=>
   Lr F 2 (Am b6 0) fun v_102=>
   Lr F 2 (Am b1 0) fun v_103=>
   Cbo 29 #[(.agg v_102),(.agg v_103)] F fun v_104 F=>
   (Bb ((!v_104)) (
    R (.int .i64 20) F) (
    R (.int .i64 0) F))))))
def C3 (N1:Int→PH→Prop) (b1 b11:Nat) (v_13:Sl) (R:VR) (v_15:Int) (F:PH):Prop:=
 (Bc (v_15<(v_13.len:Int)) (
  Ix v_13 v_15 fun a18_=>
  Lr F 3 (Addr.add a18_ (Int.toNat v_15*3)) fun v_19=>
  Nb F (.cells (#[.int .i64 0,.int .i64 0,.int .i64 0]) 103) fun b5 F=>
  aA F (Am b5 0) 3 v_19 fun F=>
  Li F (Am b5 0) fun v_21=>
  (Bc (v_21<0) (
   R (.int .i64 20) F) (
   Li F (Am b5 0) fun v_25=>
   (Bc (63<v_25) (
    R (.int .i64 20) F) (
    Li F (Am b5 1) fun v_30=>
    (Bc (v_30<0) (
     R (.int .i64 20) F) (
     Li F (Am b5 2) fun v_35=>
     (Bc (v_35<0) (
      R (.int .i64 20) F) (
      Li F (Am b5 1) fun v_40=>
      (Bc ((IntKind.i64.wrap (v_15+1))<v_40) (
       R (.int .i64 20) F) (
       Li F (Am b5 2) fun v_47=>
       (Bc ((IntKind.i64.wrap (v_15+1))<v_47) (
        R (.int .i64 20) F) (
        Li F (Am b5 1) fun v_54=>
        Li F (Am b5 2) fun v_56=>
        (Bc (v_54=v_56) (
         R (.int .i64 20) F) (
         Lr F 3 (Am b5 0) fun v_61=>
         ∃v_62,rdo prog (Instr.lookup 224 (.map (some b11)) (.agg v_61) false) F (.bool v_62)∧
         (Bb (v_62) (
          R (.int .i64 20) F) (
          Lr F 2 (Am b1 0) fun v_64=>
          Li F (Am b5 1) fun v_66=>
          Li F (Am b5 0) fun v_69=>
          Ci 102 #[(.agg v_64),(.int .i64 v_66)] F fun v_67 F=>
          F.cell (Am b5 0)=some (.int .i64 v_69)∧(Bc (v_67≤v_69) (
           R (.int .i64 20) F) (
           Lr F 2 (Am b1 0) fun v_72=>
           Li F (Am b5 2) fun v_74=>
           Li F (Am b5 0) fun v_77=>
           Ci 102 #[(.agg v_72),(.int .i64 v_74)] F fun v_75 F=>
           F.cell (Am b5 0)=some (.int .i64 v_77)∧F.cell (Am b5 0)=some (.int .i64 v_69)∧(Bc (v_75≤v_77) (
            R (.int .i64 20) F) (
            Lr F 3 (Am b5 0) fun v_81=>
            aE prog (Instr.mapUpdate 224 (.map (some b11)) (.agg v_81) (.bool true)) F fun _ F=>
            N1 (IntKind.i64.wrap (v_15+1)) F))))))))))))))))))))) (
  C2 b1 R F))
def Mn (d_0:Array Value) (R:VR) (F:PH):Prop:=
 Nb F (.cells d_0 33) fun b1 F=>
 Ls F (Am b1 0) fun v_8=>
 (Bc ((4096:Int)<(v_8.len:Int)) (
  R (.int .i64 2) F) (
  Nb F (.map #[] 0) fun b11 F=>
  Ls F (Am b1 0) fun v_13=>
  (Lp 0 F fun N v_15 F=>
   C3 N b1 b11 v_13 R v_15 F)))
theorem PT {d_0:Array Value} (h:Mn d_0 R F):ac prog 99 #[(.agg d_0)] F R:=Rx.sxC (args:=[(.agg d_0)]) (.T .N (.T .N (.T .N (.J false [] (.T .N (.L [(15,.int .i64)] .N)) .N)))) (by kernel_rfl) h
def GA (d_0:Array Value) (n_1:Int) (R:VR) (F:PH):Prop:=
 Nb F (.cells d_0 33) fun b2 F=>
 (Bc (n_1<2) (
  R (.int .i64 64) F) (
  Ls F (Am b2 0) fun v_8=>
  Ix v_8 (IntKind.i64.wrap (n_1 - 2)) fun a11_=>
  ∃v_13,F.cell (Addr.add a11_ (Int.toNat (IntKind.i64.wrap (n_1 - 2))*3))=some (.int .i64 v_13)∧
  R (.int .i64 v_13) F))
theorem Mo {d_0:Array Value} {n_1:Int} (h:GA d_0 n_1 R F):ac prog 102 #[(.agg d_0),(.int .i64 n_1)] F R:=Rx.sxC (args:=[(.agg d_0),(.int .i64 n_1)]) .N (by kernel_rfl) h
def GB (d_0:Array Value) (R:VR) (F:PH):Prop:=
 Nb F (.cells d_0 33) fun b1 F=>
 Nb F (.cells zD 33) fun b2 F=>
 Ls F (Am b1 0) fun v_5=>
 (Bc ((4096:Int)<(v_5.len:Int)) (
  aA F (Am b2 0) 2 zD fun F=>
  Lr F 2 (Am b2 0) fun vres_2=>R (.tuple #[(.agg vres_2),(.int .i64 2)]) F) (
  Lr F 2 (Am b1 0) fun v_9=>
  aA F (Am b2 0) 2 v_9 fun F=>
  Lr F 2 (Am b2 0) fun vres_2_1=>R (.tuple #[(.agg vres_2_1),(.int .i64 0)]) F))
theorem Mp {d_0:Array Value} (h:GB d_0 R F):ac prog 160 #[(.agg d_0)] F R:=Rx.sxC (args:=[(.agg d_0)]) .N (by kernel_rfl) h
def yh (b3 b6:Nat) (v_13:Option Addr) (v_18:Sl) (R:VR) (F:PH):Prop:=
 Li F (Am b3 1) fun v_60=>
 Ix v_18 v_60 fun a61_=>
 Li F (Addr.add a61_ (Int.toNat v_60*1)) fun v_62=>
 Ca 167 #[(.pointer v_13),(.int .i64 v_62)] F fun v_63 F=>
 aA F (Am b6 0) 2 v_63 fun F=>
 Rr 2 (Am b6 0) R F
def kq (N1:Int→PH→Prop) (v_1:Int) (value_2:Bool) (b3 b6:Nat) (v_13:Option Addr) (v_18:Sl) (v_24:Int) (b10:Nat) (v_22:Sl) (low_11 high_12:Int) (R:VR) (F:PH):Prop:=
 Li F (Am b10 0) fun v_51=>
 Ci 210 #[(.pointer v_13),(.int .i64 v_51),(.int .i64 low_11),(.int .i64 high_12)] F fun v_54 F=>
 Ix v_18 (IntKind.i64.wrap (v_24+2)) fun a55_=>
 sto F (Addr.add a55_ (Int.toNat (IntKind.i64.wrap (v_24+2))*1)) (.int .i64 v_54) fun F=>
 N1 (IntKind.i64.wrap (v_24+1)) F
def yi (N1:Int→PH→Prop) (v_1:Int) (value_2:Bool) (b3 b6:Nat) (v_13:Option Addr) (v_18 v_22:Sl) (R:VR) (v_24:Int) (F:PH):Prop:=
 (Bc (v_24<(v_22.len:Int)) (
  Ix v_22 v_24 fun a27_=>
  Lr F 3 (Addr.add a27_ (Int.toNat v_24*3)) fun v_28=>
  Nb F (.cells (#[.int .i64 0,.int .i64 0,.int .i64 0]) 103) fun b10 F=>
  aA F (Am b10 0) 3 v_28 fun F=>
  Li F (Am b10 1) fun v_31=>
  Ix v_18 v_31 fun a32_=>
  Li F (Addr.add a32_ (Int.toNat v_31*1)) fun v_33=>
  Li F (Am b10 2) fun v_36=>
  Ix v_18 v_36 fun a37_=>
  Li F (Addr.add a37_ (Int.toNat v_36*1)) fun v_38=>
  Li F (Am b10 0) fun v_40=>
  (Bc (v_40=v_1) (
   (Bb (value_2) (
    kq N1 v_1 value_2 b3 b6 v_13 v_18 v_24 b10 v_22 v_38 v_38 R F) (
    kq N1 v_1 value_2 b3 b6 v_13 v_18 v_24 b10 v_22 v_33 v_33 R F))) (
   kq N1 v_1 value_2 b3 b6 v_13 v_18 v_24 b10 v_22 v_33 v_38 R F))) (
  yh b3 b6 v_13 v_18 R F))
def GC (a_0:Array Value) (v_1:Int) (value_2:Bool) (R:VR) (F:PH):Prop:=
 Nb F (.cells a_0 33) fun b3 F=>
 Nb F (.cells zD 33) fun b6 F=>
 ac prog 209 #[] F fun v F=>∃v_13,v=(.pointer v_13)∧
 Ls F (Am b3 0) fun v_15=>
 aE prog (Instr.makeSlice 70 (.int .i64 (IntKind.i64.wrap ((v_15.len:Int)+2))) (.int .i64 (IntKind.i64.wrap ((v_15.len:Int)+2)))) F fun v F=>∃v_18,v=(Sl.v v_18)∧
 Ix v_18 1 fun a20_=>
 sto F (Addr.add a20_ (Int.toNat 1*1)) (.int .i64 1) fun F=>
 Ls F (Am b3 0) fun v_22=>
 (Lp 0 F fun N v_24 F=>
  yi N v_1 value_2 b3 b6 v_13 v_18 v_22 R v_24 F)
theorem Mq {a_0:Array Value} {v_1:Int} {value_2:Bool} (h:GC a_0 v_1 value_2 R F):ac prog 161 #[(.agg a_0),(.int .i64 v_1),(.bool value_2)] F R:=Rx.sxC (args:=[(.agg a_0),(.int .i64 v_1),(.bool value_2)]) (.T .N (.T .N (.T .N (.T .N (.J false [] (.T .N (.L [(24,.int .i64)] (.T .N (.T .N (.T (.T .N (.T .N (.J false [(11,.int .i64),(12,.int .i64)] .N .N))) .N))))) .N))))) (by kernel_rfl) h
def GD (b_0:Option Addr) (root_1:Int) (R:VR) (F:PH):Prop:=
 Nb F (.cells #[(.pointer b_0)] 225) fun b2 F=>
 Nb F (.cells zD 33) fun b4 F=>
 Nb F (.cells zD 33) fun b5 F=>
 aA F (Am b5 0) 2 zD fun F=>
 Nb F (.map #[] 0) fun b9 F=>
 aE prog (Instr.mapUpdate 299 (.map (some b9)) (.int .i64 0) (.int .i64 0)) F fun _ F=>
 aE prog (Instr.mapUpdate 299 (.map (some b9)) (.int .i64 1) (.int .i64 1)) F fun _ F=>
 Nb F (.cells (#[.map none]) 299) fun b6 F=>
 sto F (Am b6 0) (.map (some b9)) fun F=>
 Nb F (.cells (#[.nilFunc]) 167) fun b7 F=>
 sto F (Am b7 0) (.func (.func 215) #[] #[(.pointer (some (Am b6 0))),(.pointer (some (Am b2 0))),(.pointer (some (Am b7 0))),(.pointer (some (Am b5 0)))]) fun F=>
 ∃v_12:Value,F.cell (Am b7 0)=some v_12∧
 Fn v_12 fun k14 fst14 cap14=>ac prog k14 (fst14++([(Value.int .i64 root_1)]).toArray++cap14) F fun v F=>∃v_14,v=(Value.int .i64 v_14)∧
 sto F (Am b5 1) (.int .i64 v_14) fun F=>
 Lr F 2 (Am b5 0) fun v_16=>
 aA F (Am b4 0) 2 v_16 fun F=>
 Rr 2 (Am b4 0) R F
theorem Mr {b_0:Option Addr} {root_1:Int} (h:GD b_0 root_1 R F):ac prog 167 #[(.pointer b_0),(.int .i64 root_1)] F R:=Rx.sxC (args:=[(.pointer b_0),(.int .i64 root_1)]) .N (by kernel_rfl) h
def GE (R:VR) (F:PH):Prop:=
 Nb F (.map #[] 0) fun b1 F=>
 Nb F (.cells (#[.slice none 0 0,(.map (some b1))]:Array Value) 228) fun b3 F=>
 R (.pointer (some (Am b3 0))) F
theorem Ms (h:GE R F):ac prog 209 #[] F R:=Rx.sxC (args:=[]) .N (by kernel_rfl) h
def GF (b_0:Option Addr) (v_1 low_2 high_3:Int) (R:VR) (F:PH):Prop:=
 (Bc (low_2=high_3) (
  R (.int .i64 low_2) F) (
  Nb F (.cells (#[.int .i64 0,.int .i64 0,.int .i64 0]) 103) fun b9 F=>
  aA F (Am b9 0) 3 (#[(.int .i64 v_1),(.int .i64 low_2),(.int .i64 high_3)]:Array Value) fun F=>
  ∃b0a_,b_0=some b0a_∧∃v_24:Option Nat,F.cell (Addr.add b0a_ 1)=some (.map v_24)∧
  Lr F 3 (Am b9 0) fun v_25=>
  ∃(v_26:Int) (ok26_:Bool),rdo prog (Instr.lookup 226 (.map v_24) (.agg v_25) true) F (.tuple #[(.int .i64 v_26),(.bool ok26_)])∧
  (Bb ((!ok26_)) (
   Ls F b0a_ fun v_35=>
   Lr F 3 (Am b9 0) fun v_36=>
   v_36.size=3∧Nb F (.cells v_36 103) fun b37 F=>
   Ap 31 #[(Sl.v v_35),(Sl.v (Sb b37 1))] F fun v_38 F=>
   sto F b0a_ (Sl.v v_38) fun F=>
   Ls F b0a_ fun v_44=>
   ∃v_50:Option Nat,F.cell (Addr.add b0a_ 1)=some (.map v_50)∧
   Lr F 3 (Am b9 0) fun v_51=>
   aE prog (Instr.mapUpdate 226 (.map v_50) (.agg v_51) (.int .i64 (IntKind.i64.wrap ((v_44.len:Int)+1)))) F fun _ F=>
   R (.int .i64 (IntKind.i64.wrap ((v_44.len:Int)+1))) F) (
   R (.int .i64 v_26) F))))
theorem Mt {b_0:Option Addr} {v_1:Int} {low_2:Int} {high_3:Int} (h:GF b_0 v_1 low_2 high_3 R F):ac prog 210 #[(.pointer b_0),(.int .i64 v_1),(.int .i64 low_2),(.int .i64 high_3)] F R:=Rx.sxC (args:=[(.pointer b_0),(.int .i64 v_1),(.int .i64 low_2),(.int .i64 high_3)]) .N (by kernel_rfl) h
def C4 (n_0:Int) (v_1 v_2 v_3 v_4:Option Addr) (R:VR) (F:PH):Prop:=
 ∃v1a_,v_1=some v1a_∧∃v_13:Option Nat,F.cell v1a_=some (.map v_13)∧
 ∃(v_15:Int) (ok15_:Bool),rdo prog (Instr.lookup 299 (.map v_13) (.int .i64 n_0) true) F (.tuple #[(.int .i64 v_15),(.bool ok15_)])∧
 (Bb (ok15_) (
  R (.int .i64 v_15) F) (
  ∃v2a_,v_2=some v2a_∧Lq F v2a_ fun v_20=>
  ∃v20a_,v_20=some v20a_∧Ls F v20a_ fun v_23=>
  Ix v_23 (IntKind.i64.wrap (n_0 - 2)) fun a26_=>
  ∃v_27,v_27.size=3∧F.row (Addr.add a26_ (Int.toNat (IntKind.i64.wrap (n_0 - 2))*3)) v_27∧
  Nb F (.cells (#[.int .i64 0,.int .i64 0,.int .i64 0]) 103) fun b9 F=>
  aA F (Am b9 0) 3 v_27 fun F=>
  ∃v3a_,v_3=some v3a_∧∃v_28:Value,F.cell v3a_=some v_28∧
  Li F (Am b9 1) fun v_30=>
  Fn v_28 fun k31 fst31 cap31=>ac prog k31 (fst31++([(Value.int .i64 v_30)]).toArray++cap31) F fun v F=>∃v_31,v=(Value.int .i64 v_31)∧
  ∃v_32:Value,F.cell v3a_=some v_32∧
  Li F (Am b9 2) fun v_34=>
  Fn v_32 fun k35 fst35 cap35=>ac prog k35 (fst35++([(Value.int .i64 v_34)]).toArray++cap35) F fun v F=>∃v_35,v=(Value.int .i64 v_35)∧
  ∃v4a_,v_4=some v4a_∧Ls F v4a_ fun v_37=>
  Li F (Am b9 0) fun v_39=>
  (#[(.int .i64 v_39),(.int .i64 v_31),(.int .i64 v_35)]:Array Value).size=3∧Nb F (.cells (#[(.int .i64 v_39),(.int .i64 v_31),(.int .i64 v_35)]:Array Value) 103) fun b43 F=>
  Ap 31 #[(Sl.v v_37),(Sl.v (Sb b43 1))] F fun v_44 F=>
  sto F v4a_ (Sl.v v_44) fun F=>
  ∃v_46:Option Nat,F.cell v1a_=some (.map v_46)∧
  Ls F v4a_ fun v_49=>
  aE prog (Instr.mapUpdate 299 (.map v_46) (.int .i64 n_0) (.int .i64 (IntKind.i64.wrap ((v_49.len:Int)+1)))) F fun _ F=>
  ∃v_52:Option Nat,F.cell v1a_=some (.map v_52)∧
  ∃v_54,rdo prog (Instr.lookup 299 (.map v_52) (.int .i64 n_0) false) F (.int .i64 v_54)∧
  R (.int .i64 v_54) F))
theorem GG {n_0:Int} {v_1:Option Addr} {v_2:Option Addr} {v_3:Option Addr} {v_4:Option Addr} (h:C4 n_0 v_1 v_2 v_3 v_4 R F):ac prog 215 #[(.int .i64 n_0),(.pointer v_1),(.pointer v_2),(.pointer v_3),(.pointer v_4)] F R:=Rx.sxC (args:=[(.int .i64 n_0),(.pointer v_1),(.pointer v_2),(.pointer v_3),(.pointer v_4)]) .N (by kernel_rfl) h
variable {R:VR} {F:PH}
set_option maxRecDepth 10000
set_option maxHeartbeats 4000000
def C5 (R:VR) (F:PH):Prop:=
 R (.bool true) F
def wJ (N1:Int→PH→Prop) (s1_0 s2_1:Sl) (R:VR) (v_13:Int) (F:PH):Prop:=
 (Bc (v_13<(s1_0.len:Int)) (
  Ix s1_0 v_13 fun a18_=>
  Lx F (Addr.add a18_ (Int.toNat v_13*1)) fun v_19=>
  Ix s2_1 v_13 fun a22_=>
  Lx F (Addr.add a22_ (Int.toNat v_13*1)) fun v_23=>
  (Bb ((!(v_19.toList==v_23.toList))) (
   R (.bool false) F) (
   N1 (IntKind.i64.wrap (v_13+1)) F))) (
  C5 R F))
def Mu (s1_0 s2_1:Sl) (R:VR) (F:PH):Prop:=
 (Bc ((s1_0.len:Int)≠(s2_1.len:Int)) (
  R (.bool false) F) (
  (Lp 0 F fun N v_13 F=>
   wJ N s1_0 s2_1 R v_13 F)))
theorem PU {s1_0:Sl} {s2_1:Sl} (h:Mu s1_0 s2_1 R F):ac prog 61 #[(Sl.v s1_0),(Sl.v s2_1)] F R:=Rx.sxC (args:=[(Sl.v s1_0),(Sl.v s2_1)]) (.T .N (.T .N (.J false [] (.T .N (.L [(13,.int .i64)] .N)) .N))) (by kernel_rfl) h
def JF (R:VR) (F:PH):Prop:=
 R (.bool true) F
def JG (N1:Int→PH→Prop) (s2_1:Sl) (eq_2:Value) (s1_0:Sl) (R:VR) (v_17:Int) (F:PH):Prop:=
 (Bc (v_17<(s1_0.len:Int)) (
  Ix s1_0 v_17 fun a20_=>
  Lr F 7 (Addr.add a20_ (Int.toNat v_17*7)) fun v_21=>
  Nb F (.cells zT 79) fun b8 F=>
  aA F (Am b8 0) 7 v_21 fun F=>
  Ix s2_1 v_17 fun a24_=>
  Lr F 7 (Addr.add a24_ (Int.toNat v_17*7)) fun v_25=>
  Nb F (.cells zT 79) fun b9 F=>
  aA F (Am b9 0) 7 v_25 fun F=>
  Lr F 7 (Am b8 0) fun v_27=>
  Lr F 7 (Am b9 0) fun v_28=>
  Fn eq_2 fun k29 fst29 cap29=>ac prog k29 (fst29++([(Value.agg v_27),(Value.agg v_28)]).toArray++cap29) F fun v F=>∃v_29,v=(Value.bool v_29)∧
  (Bb ((!v_29)) (
   R (.bool false) F) (
   N1 (IntKind.i64.wrap (v_17+1)) F))) (
  JF R F))
def PV (s1_0 s2_1:Sl) (eq_2:Value) (R:VR) (F:PH):Prop:=
 (Bc ((s1_0.len:Int)≠(s2_1.len:Int)) (
  R (.bool false) F) (
  (Lp 0 F fun N v_17 F=>
   JG N s2_1 eq_2 s1_0 R v_17 F)))
theorem PX {s1_0:Sl} {s2_1:Sl} {eq_2:Value} (h:PV s1_0 s2_1 eq_2 R F):ac prog 62 #[(Sl.v s1_0),(Sl.v s2_1),eq_2] F R:=Rx.sxC (args:=[(Sl.v s1_0),(Sl.v s2_1),eq_2]) (.T .N (.T .N (.J false [] (.T .N (.L [(17,.int .i64)] .N)) .N))) (by kernel_rfl) h
def JH (R:VR) (F:PH):Prop:=
 R (.bool true) F
def JI (N1:Int→PH→Prop) (s1_0 s2_1:Sl) (R:VR) (v_13:Int) (F:PH):Prop:=
 (Bc (v_13<(s1_0.len:Int)) (
  Ix s1_0 v_13 fun a18_=>
  Lr F 5 (Addr.add a18_ (Int.toNat v_13*5)) fun v_19=>
  Ix s2_1 v_13 fun a22_=>
  Lr F 5 (Addr.add a22_ (Int.toNat v_13*5)) fun v_23=>
  ∃v_24,(∀F,rdo prog (Op.equal 97 (.agg v_19) (.agg v_23)) F v_24)∧
  (Bb ((!v_24)) (
   R (.bool false) F) (
   N1 (IntKind.i64.wrap (v_13+1)) F))) (
  JH R F))
def PY (s1_0 s2_1:Sl) (R:VR) (F:PH):Prop:=
 (Bc ((s1_0.len:Int)≠(s2_1.len:Int)) (
  R (.bool false) F) (
  (Lp 0 F fun N v_13 F=>
   JI N s1_0 s2_1 R v_13 F)))
theorem PZ {s1_0:Sl} {s2_1:Sl} (h:PY s1_0 s2_1 R F):ac prog 64 #[(Sl.v s1_0),(Sl.v s2_1)] F R:=Rx.sxC (args:=[(Sl.v s1_0),(Sl.v s2_1)]) (.T .N (.T .N (.J false [] (.T .N (.L [(13,.int .i64)] .N)) .N))) (by kernel_rfl) h
def JJ (R:VR) (F:PH):Prop:=
 R (.bool true) F
def JK (N1:Int→PH→Prop) (s2_1:Sl) (eq_2:Value) (s1_0:Sl) (R:VR) (v_17:Int) (F:PH):Prop:=
 (Bc (v_17<(s1_0.len:Int)) (
  Ix s1_0 v_17 fun a20_=>
  Lr F 13 (Addr.add a20_ (Int.toNat v_17*13)) fun v_21=>
  Nb F (.cells zP 67) fun b8 F=>
  aA F (Am b8 0) 13 v_21 fun F=>
  Ix s2_1 v_17 fun a24_=>
  Lr F 13 (Addr.add a24_ (Int.toNat v_17*13)) fun v_25=>
  Nb F (.cells zP 67) fun b9 F=>
  aA F (Am b9 0) 13 v_25 fun F=>
  Lr F 13 (Am b8 0) fun v_27=>
  Lr F 13 (Am b9 0) fun v_28=>
  Fn eq_2 fun k29 fst29 cap29=>ac prog k29 (fst29++([(Value.agg v_27),(Value.agg v_28)]).toArray++cap29) F fun v F=>∃v_29,v=(Value.bool v_29)∧
  (Bb ((!v_29)) (
   R (.bool false) F) (
   N1 (IntKind.i64.wrap (v_17+1)) F))) (
  JJ R F))
def P0 (s1_0 s2_1:Sl) (eq_2:Value) (R:VR) (F:PH):Prop:=
 (Bc ((s1_0.len:Int)≠(s2_1.len:Int)) (
  R (.bool false) F) (
  (Lp 0 F fun N v_17 F=>
   JK N s2_1 eq_2 s1_0 R v_17 F)))
theorem P5 {s1_0:Sl} {s2_1:Sl} {eq_2:Value} (h:P0 s1_0 s2_1 eq_2 R F):ac prog 65 #[(Sl.v s1_0),(Sl.v s2_1),eq_2] F R:=Rx.sxC (args:=[(Sl.v s1_0),(Sl.v s2_1),eq_2]) (.T .N (.T .N (.J false [] (.T .N (.L [(17,.int .i64)] .N)) .N))) (by kernel_rfl) h
def JL (R:VR) (F:PH):Prop:=
 R (.bool true) F
def JM (N1:Int→PH→Prop) (s1_0 s2_1:Sl) (R:VR) (v_13:Int) (F:PH):Prop:=
 (Bc (v_13<(s1_0.len:Int)) (
  Ix s1_0 v_13 fun a18_=>
  Lr F 2 (Addr.add a18_ (Int.toNat v_13*2)) fun v_19=>
  Ix s2_1 v_13 fun a22_=>
  Lr F 2 (Addr.add a22_ (Int.toNat v_13*2)) fun v_23=>
  ∃v_24,(∀F,rdo prog (Op.equal 69 (.agg v_19) (.agg v_23)) F v_24)∧
  (Bb ((!v_24)) (
   R (.bool false) F) (
   N1 (IntKind.i64.wrap (v_13+1)) F))) (
  JL R F))
def P6 (s1_0 s2_1:Sl) (R:VR) (F:PH):Prop:=
 (Bc ((s1_0.len:Int)≠(s2_1.len:Int)) (
  R (.bool false) F) (
  (Lp 0 F fun N v_13 F=>
   JM N s1_0 s2_1 R v_13 F)))
theorem P7 {s1_0:Sl} {s2_1:Sl} (h:P6 s1_0 s2_1 R F):ac prog 67 #[(Sl.v s1_0),(Sl.v s2_1)] F R:=Rx.sxC (args:=[(Sl.v s1_0),(Sl.v s2_1)]) (.T .N (.T .N (.J false [] (.T .N (.L [(13,.int .i64)] .N)) .N))) (by kernel_rfl) h
def JN (R:VR) (F:PH):Prop:=
 R (.bool true) F
def JO (N1:Int→PH→Prop) (s1_0 s2_1:Sl) (R:VR) (v_13:Int) (F:PH):Prop:=
 (Bc (v_13<(s1_0.len:Int)) (
  Ix s1_0 v_13 fun a18_=>
  Lr F 3 (Addr.add a18_ (Int.toNat v_13*3)) fun v_19=>
  Ix s2_1 v_13 fun a22_=>
  Lr F 3 (Addr.add a22_ (Int.toNat v_13*3)) fun v_23=>
  ∃v_24,(∀F,rdo prog (Op.equal 101 (.agg v_19) (.agg v_23)) F v_24)∧
  (Bb ((!v_24)) (
   R (.bool false) F) (
   N1 (IntKind.i64.wrap (v_13+1)) F))) (
  JN R F))
def Qa (s1_0 s2_1:Sl) (R:VR) (F:PH):Prop:=
 (Bc ((s1_0.len:Int)≠(s2_1.len:Int)) (
  R (.bool false) F) (
  (Lp 0 F fun N v_13 F=>
   JO N s1_0 s2_1 R v_13 F)))
theorem Qb {s1_0:Sl} {s2_1:Sl} (h:Qa s1_0 s2_1 R F):ac prog 68 #[(Sl.v s1_0),(Sl.v s2_1)] F R:=Rx.sxC (args:=[(Sl.v s1_0),(Sl.v s2_1)]) (.T .N (.T .N (.J false [] (.T .N (.L [(13,.int .i64)] .N)) .N))) (by kernel_rfl) h
def JP (R:VR) (F:PH):Prop:=
 R (.bool true) F
def JQ (N1:Int→PH→Prop) (s2_1:Sl) (eq_2:Value) (s1_0:Sl) (R:VR) (v_17:Int) (F:PH):Prop:=
 (Bc (v_17<(s1_0.len:Int)) (
  Ix s1_0 v_17 fun a20_=>
  Lr F 4 (Addr.add a20_ (Int.toNat v_17*4)) fun v_21=>
  Nb F (.cells zL 72) fun b8 F=>
  aA F (Am b8 0) 4 v_21 fun F=>
  Ix s2_1 v_17 fun a24_=>
  Lr F 4 (Addr.add a24_ (Int.toNat v_17*4)) fun v_25=>
  Nb F (.cells zL 72) fun b9 F=>
  aA F (Am b9 0) 4 v_25 fun F=>
  Lr F 4 (Am b8 0) fun v_27=>
  Lr F 4 (Am b9 0) fun v_28=>
  Fn eq_2 fun k29 fst29 cap29=>ac prog k29 (fst29++([(Value.agg v_27),(Value.agg v_28)]).toArray++cap29) F fun v F=>∃v_29,v=(Value.bool v_29)∧
  (Bb ((!v_29)) (
   R (.bool false) F) (
   N1 (IntKind.i64.wrap (v_17+1)) F))) (
  JP R F))
def Qc (s1_0 s2_1:Sl) (eq_2:Value) (R:VR) (F:PH):Prop:=
 (Bc ((s1_0.len:Int)≠(s2_1.len:Int)) (
  R (.bool false) F) (
  (Lp 0 F fun N v_17 F=>
   JQ N s2_1 eq_2 s1_0 R v_17 F)))
theorem Qd {s1_0:Sl} {s2_1:Sl} {eq_2:Value} (h:Qc s1_0 s2_1 eq_2 R F):ac prog 69 #[(Sl.v s1_0),(Sl.v s2_1),eq_2] F R:=Rx.sxC (args:=[(Sl.v s1_0),(Sl.v s2_1),eq_2]) (.T .N (.T .N (.J false [] (.T .N (.L [(17,.int .i64)] .N)) .N))) (by kernel_rfl) h
def C6 (R:VR) (F:PH):Prop:=
 R (.bool true) F
def wK (N1:Int→PH→Prop) (s1_0 s2_1:Sl) (R:VR) (v_13:Int) (F:PH):Prop:=
 (Bc (v_13<(s1_0.len:Int)) (
  Ix s1_0 v_13 fun a18_=>
  Li F (Addr.add a18_ (Int.toNat v_13*1)) fun v_19=>
  Ix s2_1 v_13 fun a22_=>
  Li F (Addr.add a22_ (Int.toNat v_13*1)) fun v_23=>
  (Bc (v_19≠v_23) (
   R (.bool false) F) (
   N1 (IntKind.i64.wrap (v_13+1)) F))) (
  C6 R F))
def Mv (s1_0 s2_1:Sl) (R:VR) (F:PH):Prop:=
 (Bc ((s1_0.len:Int)≠(s2_1.len:Int)) (
  R (.bool false) F) (
  (Lp 0 F fun N v_13 F=>
   wK N s1_0 s2_1 R v_13 F)))
theorem Qe {s1_0:Sl} {s2_1:Sl} (h:Mv s1_0 s2_1 R F):ac prog 71 #[(Sl.v s1_0),(Sl.v s2_1)] F R:=Rx.sxC (args:=[(Sl.v s1_0),(Sl.v s2_1)]) (.T .N (.T .N (.J false [] (.T .N (.L [(13,.int .i64)] .N)) .N))) (by kernel_rfl) h
def JR (R:VR) (F:PH):Prop:=
 R (.bool true) F
def JS (N1:Int→PH→Prop) (s2_1:Sl) (eq_2:Value) (s1_0:Sl) (R:VR) (v_17:Int) (F:PH):Prop:=
 (Bc (v_17<(s1_0.len:Int)) (
  Ix s1_0 v_17 fun a20_=>
  Lr F 9 (Addr.add a20_ (Int.toNat v_17*9)) fun v_21=>
  Nb F (.cells zF 74) fun b8 F=>
  aA F (Am b8 0) 9 v_21 fun F=>
  Ix s2_1 v_17 fun a24_=>
  Lr F 9 (Addr.add a24_ (Int.toNat v_17*9)) fun v_25=>
  Nb F (.cells zF 74) fun b9 F=>
  aA F (Am b9 0) 9 v_25 fun F=>
  Lr F 9 (Am b8 0) fun v_27=>
  Lr F 9 (Am b9 0) fun v_28=>
  Fn eq_2 fun k29 fst29 cap29=>ac prog k29 (fst29++([(Value.agg v_27),(Value.agg v_28)]).toArray++cap29) F fun v F=>∃v_29,v=(Value.bool v_29)∧
  (Bb ((!v_29)) (
   R (.bool false) F) (
   N1 (IntKind.i64.wrap (v_17+1)) F))) (
  JR R F))
def Qf (s1_0 s2_1:Sl) (eq_2:Value) (R:VR) (F:PH):Prop:=
 (Bc ((s1_0.len:Int)≠(s2_1.len:Int)) (
  R (.bool false) F) (
  (Lp 0 F fun N v_17 F=>
   JS N s2_1 eq_2 s1_0 R v_17 F)))
theorem Qg {s1_0:Sl} {s2_1:Sl} {eq_2:Value} (h:Qf s1_0 s2_1 eq_2 R F):ac prog 72 #[(Sl.v s1_0),(Sl.v s2_1),eq_2] F R:=Rx.sxC (args:=[(Sl.v s1_0),(Sl.v s2_1),eq_2]) (.T .N (.T .N (.J false [] (.T .N (.L [(17,.int .i64)] .N)) .N))) (by kernel_rfl) h
def JT (R:VR) (F:PH):Prop:=
 R (.bool true) F
def C7 (N1:Int→PH→Prop) (s1_0 s2_1:Sl) (R:VR) (v_13:Int) (F:PH):Prop:=
 (Bc (v_13<(s1_0.len:Int)) (
  Ix s1_0 v_13 fun a18_=>
  Lr F 3 (Addr.add a18_ (Int.toNat v_13*3)) fun v_19=>
  Ix s2_1 v_13 fun a22_=>
  Lr F 3 (Addr.add a22_ (Int.toNat v_13*3)) fun v_23=>
  ∃v_24,(∀F,rdo prog (Op.equal 103 (.agg v_19) (.agg v_23)) F v_24)∧
  (Bb ((!v_24)) (
   R (.bool false) F) (
   N1 (IntKind.i64.wrap (v_13+1)) F))) (
  JT R F))
def Mw (s1_0 s2_1:Sl) (R:VR) (F:PH):Prop:=
 (Bc ((s1_0.len:Int)≠(s2_1.len:Int)) (
  R (.bool false) F) (
  (Lp 0 F fun N v_13 F=>
   C7 N s1_0 s2_1 R v_13 F)))
theorem Qh {s1_0:Sl} {s2_1:Sl} (h:Mw s1_0 s2_1 R F):ac prog 98 #[(Sl.v s1_0),(Sl.v s2_1)] F R:=Rx.sxC (args:=[(Sl.v s1_0),(Sl.v s2_1)]) (.T .N (.T .N (.J false [] (.T .N (.L [(13,.int .i64)] .N)) .N))) (by kernel_rfl) h
def GH (s_0:Sl) (f_1:Value) (R:VR) (F:PH):Prop:=
 Ci 197 #[(Sl.v s_0),f_1] F fun v_7 F=>
 R (.bool (decide (0≤v_7))) F
theorem Mx {s_0:Sl} {f_1:Value} (h:GH s_0 f_1 R F):ac prog 145 #[(Sl.v s_0),f_1] F R:=Rx.sxC (args:=[(Sl.v s_0),f_1]) .N (by kernel_rfl) h
def GI (s_0:Sl) (f_1:Value) (R:VR) (F:PH):Prop:=
 Ci 206 #[(Sl.v s_0),f_1] F fun v_7 F=>
 R (.bool (decide (0≤v_7))) F
theorem My {s_0:Sl} {f_1:Value} (h:GI s_0 f_1 R F):ac prog 154 #[(Sl.v s_0),f_1] F R:=Rx.sxC (args:=[(Sl.v s_0),f_1]) .N (by kernel_rfl) h
def E9 (R:VR) (F:PH):Prop:=
 R (.int .i64 (-1:Int)) F
def Fh (N1:Int→PH→Prop) (s_0:Sl) (f_1:Value) (R:VR) (v_8:Int) (F:PH):Prop:=
 (Bc (v_8<(s_0.len:Int)) (
  Ix s_0 v_8 fun a14_=>
  Lr F 13 (Addr.add a14_ (Int.toNat v_8*13)) fun v_15=>
  Fn f_1 fun k16 fst16 cap16=>ac prog k16 (fst16++([(Value.agg v_15)]).toArray++cap16) F fun v F=>∃v_16,v=(Value.bool v_16)∧
  (Bb (v_16) (
   R (.int .i64 v_8) F) (
   N1 (IntKind.i64.wrap (v_8+1)) F))) (
  E9 R F))
def Mz (s_0:Sl) (f_1:Value) (R:VR) (F:PH):Prop:=
 (Lp 0 F fun N v_8 F=>
  Fh N s_0 f_1 R v_8 F)
theorem MA {s_0:Sl} {f_1:Value} (h:Mz s_0 f_1 R F):ac prog 197 #[(Sl.v s_0),f_1] F R:=Rx.sxC (args:=[(Sl.v s_0),f_1]) (.T .N (.J false [] (.T .N (.L [(8,.int .i64)] .N)) .N)) (by kernel_rfl) h
def GJ (s_0:Sl) (f_1:Value) (R:VR) (F:PH):Prop:=
 Ci 221 #[(Sl.v s_0),f_1] F fun v_7 F=>
 R (.bool (decide (0≤v_7))) F
theorem MB {s_0:Sl} {f_1:Value} (h:GJ s_0 f_1 R F):ac prog 199 #[(Sl.v s_0),f_1] F R:=Rx.sxC (args:=[(Sl.v s_0),f_1]) .N (by kernel_rfl) h
def Fj (R:VR) (F:PH):Prop:=
 R (.int .i64 (-1:Int)) F
def Fk (N1:Int→PH→Prop) (s_0:Sl) (f_1:Value) (R:VR) (v_8:Int) (F:PH):Prop:=
 (Bc (v_8<(s_0.len:Int)) (
  Ix s_0 v_8 fun a14_=>
  Lr F 2 (Addr.add a14_ (Int.toNat v_8*2)) fun v_15=>
  Fn f_1 fun k16 fst16 cap16=>ac prog k16 (fst16++([(Value.agg v_15)]).toArray++cap16) F fun v F=>∃v_16,v=(Value.bool v_16)∧
  (Bb (v_16) (
   R (.int .i64 v_8) F) (
   N1 (IntKind.i64.wrap (v_8+1)) F))) (
  Fj R F))
def MC (s_0:Sl) (f_1:Value) (R:VR) (F:PH):Prop:=
 (Lp 0 F fun N v_8 F=>
  Fk N s_0 f_1 R v_8 F)
theorem MD {s_0:Sl} {f_1:Value} (h:MC s_0 f_1 R F):ac prog 206 #[(Sl.v s_0),f_1] F R:=Rx.sxC (args:=[(Sl.v s_0),f_1]) (.T .N (.J false [] (.T .N (.L [(8,.int .i64)] .N)) .N)) (by kernel_rfl) h
def Fl (R:VR) (F:PH):Prop:=
 R (.int .i64 (-1:Int)) F
def Fm (N1:Int→PH→Prop) (s_0:Sl) (f_1:Value) (R:VR) (v_8:Int) (F:PH):Prop:=
 (Bc (v_8<(s_0.len:Int)) (
  Ix s_0 v_8 fun a14_=>
  Lr F 3 (Addr.add a14_ (Int.toNat v_8*3)) fun v_15=>
  Fn f_1 fun k16 fst16 cap16=>ac prog k16 (fst16++([(Value.agg v_15)]).toArray++cap16) F fun v F=>∃v_16,v=(Value.bool v_16)∧
  (Bb (v_16) (
   R (.int .i64 v_8) F) (
   N1 (IntKind.i64.wrap (v_8+1)) F))) (
  Fl R F))
def ME (s_0:Sl) (f_1:Value) (R:VR) (F:PH):Prop:=
 (Lp 0 F fun N v_8 F=>
  Fm N s_0 f_1 R v_8 F)
theorem MF {s_0:Sl} {f_1:Value} (h:ME s_0 f_1 R F):ac prog 221 #[(Sl.v s_0),f_1] F R:=Rx.sxC (args:=[(Sl.v s_0),f_1]) (.T .N (.J false [] (.T .N (.L [(8,.int .i64)] .N)) .N)) (by kernel_rfl) h
end Go.Proofs.YtenpmjhnhepfdaaGreatDoor
namespace Go.Proofs.YtenpmjhnhepfdaaGreatDoor
open Go Go.Proofs.Tryz Tr
abbrev vi (n:Int):Value:=.int .i64 n
abbrev Fit (n:Nat):Prop:=n≤1000000000000
def cJ (b:Br):List Value:=[vi b.v,vi b.l,vi b.h]
def aT (l:List Br):List Value:=l.flatMap cJ
abbrev aP (b:Br):Array Value:= #[vi b.v,vi b.l,vi b.h]
theorem sY (l:List Br):(aT l).length=l.length*3:=by
 induction l with
 |nil=>rfl
 |cons b l ih=>simp only [aT,List.flatMap_cons,List.length_append,List.length_cons] at ih ⊢;rw [ih];simp [cJ];omega
theorem dR (l m:List Br):aT (l++m)=aT l++aT m:=by simp [aT]
theorem rv:∀(l:List Br) (i:Nat) (hi:i<l.length),((aT l).drop (i*3)).take 3=cJ l[i]
 |b::l,0,_=>by simp [aT,cJ]
 |b::l,i+1,hi=>by
  have e:(i+1)*3=3+i*3:=by omega
  have:aT (b::l)=cJ b++aT l:=by simp [aT]
  rw [this,e,← List.drop_drop,List.drop_left' (by simp [cJ])]
  simpa using rv l i (by simpa using hi)
theorem ij (l:List Br):∀v∈aT l,aj v:=by
 intro v hv
 obtain ⟨b,_,hb⟩:=List.mem_flatMap.1 hv
 simp only [cJ,List.mem_cons,List.not_mem_nil,or_false] at hb
 rcases hb with rfl|rfl|rfl<;>exact js
theorem iT (b:Br):∀v∈(aP b).toList,aj v:=by
 intro v hv
 simp only [List.mem_cons,List.not_mem_nil,or_false] at hv
 rcases hv with rfl|rfl|rfl<;>exact js
theorem RdS.blen {F:PH} {s:Sl} {l:List Br} (h:RdS F s 3 (aT l)):s.len=l.length:=by have:=h.len;rw [sY] at this;omega
theorem rdb {F:PH} {s:Sl} {l:List Br} (h:RdS F s 3 (aT l)) {i:Nat} {x:Br} (hx:l[i]? =some x):∃a,s.base=some a∧F.row (a.add (i*3)) (aP x)∧
  F.cell (a.add (i*3))=some (vi x.v)∧F.cell ((a.add (i*3)).add 1)=some (vi x.l)∧F.cell ((a.add (i*3)).add 2)=some (vi x.h):=by
 obtain ⟨hi,hx⟩:=List.getElem?_eq_some_iff.1 hx
 subst hx
 have hlen:=h.blen
 obtain ⟨b,o,hb,_⟩:=h.cells (by omega)
 have hr:=h.row hb (i*3) (aP l[i]) (by
  have:=rv l i hi
  simpa [aP,cJ] using this.symm)
 refine ⟨_,hb,hr,?_,?_,?_⟩
 ·have:=hr 0 (by simp);simpa using this
 ·have:=hr 1 (by simp);simpa using this
 ·have:=hr 2 (by simp);simpa using this
def DV (F:PH) (v:Array Value) (d:Dia):Prop:=∃s:Sl,v= #[s.v,vi d.2]∧RdS F s 3 (aT d.1)
theorem DV.le {F G:PH} {v:Array Value} {d:Dia} (h:DV F v d) (hl:F.le G):DV G v d:=by
 obtain ⟨s,h1,h2⟩:=h
 exact ⟨s,h1,h2.le hl⟩
theorem DV.size {F:PH} {v:Array Value} {d:Dia} (h:DV F v d):v.size=2:=by
 obtain ⟨s,rfl,_⟩:=h
 rfl
theorem DV.st {F:PH} {v:Array Value} {d:Dia} (h:DV F v d):∀x∈v.toList,aj x:=by
 obtain ⟨s,rfl,_⟩:=h
 intro x hx
 simp only [List.mem_cons,List.not_mem_nil,or_false] at hx
 rcases hx with rfl|rfl
 ·exact BX
 ·exact js
theorem PH.le_rfl {F:PH}:F.le F:=fun _ _ h=>h
theorem ik {S:List Tr} {d:List Br} (hp:brs S<+:d) {k:Nat} {t:Tr} (h:S[k]? =some t):d[k]? =some (br S t):=by
 obtain ⟨r,rfl⟩:=hp
 rw [List.getElem?_append_left (by rw [aO];exact (List.getElem?_eq_some_iff.1 h).1)]
 exact jW h
theorem uW {n:Nat} (h:Fit n) (h2:2≤n):IntKind.i64.wrap ((n:Int) - 2)=((n - 2:Nat):Int):=by
 rw [aK (by omega) (by omega)];omega
section
variable {F:PH} {v:Array Value} {d:Dia} {S:List Tr} {t:Tr}
theorem sZ (hp:brs S<+:d.1) (ht:inn S t) (hf:Fit (d.1.length+2)):Fit (num S t)∧num S t≤d.1.length+1:=by
 have h1:=cq ht
 have h2:=hp.length_le
 rw [aO] at h2
 omega
theorem po (hd:DV F v d) (hp:brs S<+:d.1) (ht:inn S t) (hf:Fit (d.1.length+2)):
  ac prog 102 #[.agg v,vi (num S t)] F fun r F'=>r=vi t.top∧F.le F':=by
 obtain ⟨hfit,hlt⟩:=sZ hp ht hf
 obtain ⟨s,rfl,hr⟩:=hd
 refine Mo ?_
 unfold GA
 intro b2 hb2
 refine atI ?_
 have hle:=ae (.cells #[s.v,vi d.2] 33) hb2
 refine ⟨fun h=> ?_,fun h=> ?_⟩
 ·have hl:=su (S:=S) (t:=t) (by omega)
  cases t with
  |leaf b=>exact ⟨rfl,hle⟩
  |node _ _ _=>cases hl
 ·cases t with
  |leaf b=>have:=cM S b;omega
  |node w l r=>
   have hx:=ik hp (fb (co ht rfl) rfl)
   obtain ⟨a,h1,_,h2,_⟩:=rdb (hr.le hle) hx
   have hw:=uW hfit (dM (S:=S) (t:=node w l r) rfl)
   have hg:=dM (S:=S) (t:=node w l r) rfl
   refine ⟨s,by simp,a,h1,by rw [hw];omega,by rw [hw,hr.blen];omega,_,by rw [hw];exact h2,rfl,hle⟩
end
end Go.Proofs.YtenpmjhnhepfdaaGreatDoor
