/-
  What functions of the program do, in a clean form, each with the proof that its code does so. Printed by a program.
-/
import Derived.Test.YtenpmjhnhepfdaaGreatDoorPhp
import Derived.Test.YtenpmjhnhepfdaaGreatDoorPhz
namespace Go.Proofs.YtenpmjhnhepfdaaGreatDoor
open Go Go.Proofs.Tryz
variable {R:VR} {F:PH}
set_option maxRecDepth 10000
set_option maxHeartbeats 4000000
def MW (g_0:Array Value) (R:VR) (F:PH):Prop:=
 Nb F (.cells g_0 39) fun b1 F=>
 Lr F 9 (Am b1 0) fun v_6=>
 Ci 20 #[(.agg v_6)] F fun v_7 F=>
 (Bc (v_7≠0) (
  R (.tuple #[(Sl.v Sl.nil),(.int .i64 v_7)]) F) (
  Nb F (.cells (#[(.int .i64 0),.slice none 0 0,.int .i64 0,.bool false]:Array Value) 116) fun b12 F=>
  Cu 43 #[(.pointer (some (Am b12 0))),(.pointer (some (Am b1 0)))] F fun F=>
  Ls F (Am b12 1) fun v_18=>
  R (.tuple #[(Sl.v v_18),(.int .i64 0)]) F))
theorem Qi {g_0:Array Value} (h:MW g_0 R F):ac prog 14 #[(.agg g_0)] F R:=Rx.sxC (args:=[(.agg g_0)]) .N (by kernel_rfl) h
def lP (b2 b5:Nat) (v_29:Bool) (R:VR) (F:PH):Prop:=
 (Bb (v_29) (
  aA F (Am b2 0) 9 zG fun F=>
  Lr F 9 (Am b2 0) fun vres_2=>R (.tuple #[(.agg vres_2),(.int .i64 55)]) F) (
  Lr F 9 (Am b5 0) fun v_31=>
  aA F (Am b2 0) 9 v_31 fun F=>
  Lr F 9 (Am b2 0) fun vres_2_1=>R (.tuple #[(.agg vres_2_1),(.int .i64 0)]) F))
def MX (b_0:Sl) (R:VR) (F:PH):Prop:=
 Nb F (.cells zG 39) fun b2 F=>
 Nb F (.cells (#[(.int .i64 1),(Sl.v b_0),.int .i64 0,.bool false]:Array Value) 116) fun b8 F=>
 Nb F (.cells zG 39) fun b5 F=>
 aA F (Am b5 0) 9 zG fun F=>
 Cu 43 #[(.pointer (some (Am b8 0))),(.pointer (some (Am b5 0)))] F fun F=>
 Lb F (Am b8 3) fun v_15=>
 (Bb (v_15) (
  lP b2 b5 true R F) (
  Li F (Am b8 2) fun v_20=>
  (Bc (v_20≠(b_0.len:Int)) (
   lP b2 b5 true R F) (
   Lr F 9 (Am b5 0) fun v_26=>
   Ci 20 #[(.agg v_26)] F fun v_27 F=>
   lP b2 b5 (decide (v_27≠0)) R F))))
theorem Qj {b_0:Sl} (h:MX b_0 R F):ac prog 16 #[(Sl.v b_0)] F R:=Rx.sxC (args:=[(Sl.v b_0)]) (.T .N (.T .N (.T .N (.T .N (.T (.J false [(29,.bool)] .N .N) .N))))) (by kernel_rfl) h
def jx (b2 b3:Nat) (same_5:Bool) (R:VR) (F:PH):Prop:=
 (Bb (same_5) (
  Ls F (Am b2 3) fun v_35=>
  Ls F (Am b3 3) fun v_37=>
  Cbo 62 #[(Sl.v v_35),(Sl.v v_37),(.func (.func 63) #[] #[])] F fun v_38 F=>
  (Bb (v_38) (
   Ls F (Am b2 5) fun v_42=>
   Ls F (Am b3 5) fun v_44=>
   Cbo 65 #[(Sl.v v_42),(Sl.v v_44),(.func (.func 66) #[] #[])] F fun v_45 F=>
   (Bb (v_45) (
    Ls F (Am b2 7) fun v_49=>
    Ls F (Am b3 7) fun v_51=>
    Cbo 69 #[(Sl.v v_49),(Sl.v v_51),(.func (.func 70) #[] #[])] F fun v_52 F=>
    (Bb (v_52) (
     Ls F (Am b2 8) fun v_56=>
     Ls F (Am b3 8) fun v_58=>
     Cbo 72 #[(Sl.v v_56),(Sl.v v_58),(.func (.func 73) #[] #[])] F fun v_59 F=>
     R (.bool v_59) F) (
     R (.bool false) F))) (
    R (.bool false) F))) (
   R (.bool false) F))) (
  R (.bool false) F))
def MY (a_0 b_1:Array Value) (R:VR) (F:PH):Prop:=
 Nb F (.cells a_0 39) fun b2 F=>
 Nb F (.cells b_1 39) fun b3 F=>
 Ls F (Am b2 0) fun v_7=>
 Ls F (Am b3 0) fun v_9=>
 Cbo 61 #[(Sl.v v_7),(Sl.v v_9)] F fun v_10 F=>
 (Bb (v_10) (
  Lr F 2 (Am b2 1) fun v_13=>
  Lr F 2 (Am b3 1) fun v_15=>
  Cbo 29 #[(.agg v_13),(.agg v_15)] F fun v_16 F=>
  (Bb (v_16) (
   Ls F (Am b2 4) fun v_20=>
   Ls F (Am b3 4) fun v_22=>
   Cbo 61 #[(Sl.v v_20),(Sl.v v_22)] F fun v_23 F=>
   (Bb (v_23) (
    Li F (Am b2 6) fun v_27=>
    Li F (Am b3 6) fun v_29=>
    jx b2 b3 (decide (v_27=v_29)) R F) (
    jx b2 b3 false R F))) (
   jx b2 b3 false R F))) (
  jx b2 b3 false R F))
theorem Qk {a_0:Array Value} {b_1:Array Value} (h:MY a_0 b_1 R F):ac prog 19 #[(.agg a_0),(.agg b_1)] F R:=Rx.sxC (args:=[(.agg a_0),(.agg b_1)]) (.T .N (.J false [(5,.bool)] .N .N)) (by kernel_rfl) h
def De (R:VR) (F:PH):Prop:=
 R (.int .i64 0) F
def wL (N1:Int→PH→Prop) (b1 b9:Nat) (R:VR) (v_12:Int) (F:PH):Prop:=
 (Bc (v_12<((Sb b9 6).len:Int)) (
  Ix (Sb b9 6) v_12 fun a14_=>
  ∃v_15:Value,F.cell (Addr.add a14_ (Int.toNat v_12*1))=some v_15∧
  Lr F 9 (Am b1 0) fun v_17=>
  Fn v_15 fun k18 fst18 cap18=>ac prog k18 (fst18++([(Value.agg v_17)]).toArray++cap18) F fun v F=>∃v_18,v=(Value.int .i64 v_18)∧
  (Bc (v_18≠0) (
   R (.int .i64 v_18) F) (
   N1 (IntKind.i64.wrap (v_12+1)) F))) (
  De R F))
def MZ (g_0:Array Value) (R:VR) (F:PH):Prop:=
 Nb F (.cells g_0 39) fun b1 F=>
 Lr F 9 (Am b1 0) fun v_7=>
 Cbo 74 #[(.agg v_7)] F fun v_8 F=>
 (Bb (v_8) (
  R (.int .i64 2) F) (
  Nb F (.cells #[(.func (.func 75) #[] #[]),(.func (.func 76) #[] #[]),(.func (.func 77) #[] #[]),(.func (.func 78) #[] #[]),(.func (.func 79) #[] #[]),(.func (.func 80) #[] #[])] 51) fun b9 F=>
  (Lp 0 F fun N v_12 F=>
   wL N b1 b9 R v_12 F)))
theorem Ql {g_0:Array Value} (h:MZ g_0 R F):ac prog 20 #[(.agg g_0)] F R:=Rx.sxC (args:=[(.agg g_0)]) (.T .N (.T .N (.T .N (.J false [] (.T .N (.L [(12,.int .i64)] .N)) .N)))) (by kernel_rfl) h
def M0 (g_0:Array Value) (most_1:Int) (R:VR) (F:PH):Prop:=
 Nb F (.cells g_0 39) fun b2 F=>
 Nb F (.cells #[(.int .i64 most_1)] 3) fun b3 F=>
 Lr F 9 (Am b2 0) fun v_9=>
 Ci 20 #[(.agg v_9)] F fun v_10 F=>
 (Bc (v_10≠0) (
  R (.tuple #[(Sl.v Sl.nil),(.bool false)]) F) (
  Li F (Am b3 0) fun v_13=>
  (Bc (v_13<1) (
   R (.tuple #[(Sl.v Sl.nil),(.bool false)]) F) (
   Nb F (.cells (#[.slice none 0 0]) 57) fun b6 F=>
   Nb F (.cells (#[.nilFunc]) 156) fun b7 F=>
   sto F (Am b7 0) (.func (.func 91) #[] #[(.pointer (some (Am b6 0))),(.pointer (some (Am b3 0))),(.pointer (some (Am b7 0)))]) fun F=>
   ∃v_17:Value,F.cell (Am b7 0)=some v_17∧
   Lr F 2 (Am b2 1) fun v_19=>
   Ls F (Am b2 0) fun v_21=>
   Fn v_17 fun k23 fst23 cap23=>ac prog k23 (fst23++([(Value.agg v_19),(Value.int .i64 (v_21.len:Int)),(Value.int .u64 0)]).toArray++cap23) F fun v F=>∃v_23,v=(Value.bool v_23)∧
   Ls F (Am b6 0) fun v_24=>
   R (.tuple #[(Sl.v v_24),(.bool v_23)]) F))))
theorem Qm {g_0:Array Value} {most_1:Int} (h:M0 g_0 most_1 R F):ac prog 23 #[(.agg g_0),(.int .i64 most_1)] F R:=Rx.sxC (args:=[(.agg g_0),(.int .i64 most_1)]) .N (by kernel_rfl) h
def JW (c_0 g_1:Option Addr) (R:VR) (F:PH):Prop:=
 ∃g1a_,g_1=some g1a_∧Cu 118 #[(.pointer c_0),(.pointer (some g1a_)),(.func (.func 119) #[(.pointer c_0)] #[])] F fun F=>
 Cu 120 #[(.pointer c_0),(.pointer (some (Addr.add g1a_ 1)))] F fun F=>
 Cu 121 #[(.pointer c_0),(.pointer (some (Addr.add g1a_ 3))),(.func (.func 122) #[(.pointer c_0)] #[])] F fun F=>
 Cu 118 #[(.pointer c_0),(.pointer (some (Addr.add g1a_ 4))),(.func (.func 119) #[(.pointer c_0)] #[])] F fun F=>
 Cu 123 #[(.pointer c_0),(.pointer (some (Addr.add g1a_ 5))),(.func (.func 124) #[(.pointer c_0)] #[])] F fun F=>
 Cu 125 #[(.pointer c_0),(.pointer (some (Addr.add g1a_ 6)))] F fun F=>
 Cu 126 #[(.pointer c_0),(.pointer (some (Addr.add g1a_ 7))),(.func (.func 127) #[(.pointer c_0)] #[])] F fun F=>
 Cu 128 #[(.pointer c_0),(.pointer (some (Addr.add g1a_ 8))),(.func (.func 129) #[(.pointer c_0)] #[])] F fun F=>
 R (.tuple #[]) F
theorem M1 {c_0:Option Addr} {g_1:Option Addr} (h:JW c_0 g_1 R F):ac prog 43 #[(.pointer c_0),(.pointer g_1)] F R:=Rx.sxC (args:=[(.pointer c_0),(.pointer g_1)]) .N (by kernel_rfl) h
def M2 (x_0 y_1:Array Value) (R:VR) (F:PH):Prop:=
 Nb F (.cells x_0 79) fun b2 F=>
 Nb F (.cells y_1 79) fun b3 F=>
 Lx F (Am b2 0) fun v_6=>
 Lx F (Am b3 0) fun v_8=>
 (Bb ((v_6.toList==v_8.toList)) (
  Li F (Am b2 1) fun v_12=>
  Li F (Am b3 1) fun v_14=>
  (Bc (v_12=v_14) (
   Lx F (Am b2 2) fun v_19=>
   Lx F (Am b3 2) fun v_21=>
   (Bb ((v_19.toList==v_21.toList)) (
    Ls F (Am b2 3) fun v_26=>
    Ls F (Am b3 3) fun v_28=>
    Cbo 64 #[(Sl.v v_26),(Sl.v v_28)] F fun v_29 F=>
    (Bb (v_29) (
     Lx F (Am b2 4) fun v_33=>
     Lx F (Am b3 4) fun v_35=>
     (Bb ((v_33.toList==v_35.toList)) (
      Lr F 2 (Am b2 5) fun v_40=>
      Lr F 2 (Am b3 5) fun v_42=>
      Cbo 29 #[(.agg v_40),(.agg v_42)] F fun v_43 F=>
      R (.bool v_43) F) (
      R (.bool false) F))) (
     R (.bool false) F))) (
    R (.bool false) F))) (
   R (.bool false) F))) (
  R (.bool false) F))
theorem Qn {x_0:Array Value} {y_1:Array Value} (h:M2 x_0 y_1 R F):ac prog 63 #[(.agg x_0),(.agg y_1)] F R:=Rx.sxC (args:=[(.agg x_0),(.agg y_1)]) .N (by kernel_rfl) h
def M3 (x_0 y_1:Array Value) (R:VR) (F:PH):Prop:=
 Nb F (.cells x_0 67) fun b2 F=>
 Nb F (.cells y_1 67) fun b3 F=>
 Lx F (Am b2 0) fun v_6=>
 Lx F (Am b3 0) fun v_8=>
 (Bb ((v_6.toList==v_8.toList)) (
  Li F (Am b2 1) fun v_12=>
  Li F (Am b3 1) fun v_14=>
  (Bc (v_12=v_14) (
   Ls F (Am b2 2) fun v_19=>
   Ls F (Am b3 2) fun v_21=>
   Cbo 67 #[(Sl.v v_19),(Sl.v v_21)] F fun v_22 F=>
   (Bb (v_22) (
    Lr F 2 (Am b2 3) fun v_26=>
    Lr F 2 (Am b3 3) fun v_28=>
    Cbo 29 #[(.agg v_26),(.agg v_28)] F fun v_29 F=>
    (Bb (v_29) (
     Lb F (Am b2 5) fun v_33=>
     Lb F (Am b3 5) fun v_35=>
     (Bb ((v_33==v_35)) (
      Li F (Am b2 6) fun v_40=>
      Li F (Am b3 6) fun v_42=>
      (Bc (v_40=v_42) (
       Ls F (Am b2 7) fun v_47=>
       Ls F (Am b3 7) fun v_49=>
       Cbo 68 #[(Sl.v v_47),(Sl.v v_49)] F fun v_50 F=>
       (Bb (v_50) (
        Lr F 5 (Am b2 8) fun v_54=>
        Lr F 5 (Am b3 8) fun v_56=>
        ∃v_57,(∀F,rdo prog (Op.equal 65 (.agg v_54) (.agg v_56)) F v_57)∧
        R (.bool v_57) F) (
        R (.bool false) F))) (
       R (.bool false) F))) (
      R (.bool false) F))) (
     R (.bool false) F))) (
    R (.bool false) F))) (
   R (.bool false) F))) (
  R (.bool false) F))
theorem Qo {x_0:Array Value} {y_1:Array Value} (h:M3 x_0 y_1 R F):ac prog 66 #[(.agg x_0),(.agg y_1)] F R:=Rx.sxC (args:=[(.agg x_0),(.agg y_1)]) .N (by kernel_rfl) h
def M4 (x_0 y_1:Array Value) (R:VR) (F:PH):Prop:=
 Nb F (.cells x_0 72) fun b2 F=>
 Nb F (.cells y_1 72) fun b3 F=>
 Ls F (Am b2 0) fun v_6=>
 Ls F (Am b3 0) fun v_8=>
 Cbo 71 #[(Sl.v v_6),(Sl.v v_8)] F fun v_9 F=>
 (Bb (v_9) (
  Li F (Am b2 1) fun v_12=>
  Li F (Am b3 1) fun v_14=>
  (Bc (v_12=v_14) (
   Lr F 2 (Am b2 2) fun v_19=>
   Lr F 2 (Am b3 2) fun v_21=>
   Cbo 29 #[(.agg v_19),(.agg v_21)] F fun v_22 F=>
   R (.bool v_22) F) (
   R (.bool false) F))) (
  R (.bool false) F))
theorem Qp {x_0:Array Value} {y_1:Array Value} (h:M4 x_0 y_1 R F):ac prog 70 #[(.agg x_0),(.agg y_1)] F R:=Rx.sxC (args:=[(.agg x_0),(.agg y_1)]) .N (by kernel_rfl) h
def M5 (x_0 y_1:Array Value) (R:VR) (F:PH):Prop:=
 Nb F (.cells x_0 74) fun b2 F=>
 Nb F (.cells y_1 74) fun b3 F=>
 Li F (Am b2 0) fun v_6=>
 Li F (Am b3 0) fun v_8=>
 (Bc (v_6=v_8) (
  Li F (Am b2 1) fun v_12=>
  Li F (Am b3 1) fun v_14=>
  (Bc (v_12=v_14) (
   Li F (Am b2 2) fun v_19=>
   Li F (Am b3 2) fun v_21=>
   (Bc (v_19=v_21) (
    Li F (Am b2 3) fun v_26=>
    Li F (Am b3 3) fun v_28=>
    (Bc (v_26=v_28) (
     Li F (Am b2 4) fun v_33=>
     Li F (Am b3 4) fun v_35=>
     (Bc (v_33=v_35) (
      Li F (Am b2 5) fun v_40=>
      Li F (Am b3 5) fun v_42=>
      (Bc (v_40=v_42) (
       Ls F (Am b2 6) fun v_47=>
       Ls F (Am b3 6) fun v_49=>
       Cbo 71 #[(Sl.v v_47),(Sl.v v_49)] F fun v_50 F=>
       (Bb (v_50) (
        Lr F 2 (Am b2 7) fun v_54=>
        Lr F 2 (Am b3 7) fun v_56=>
        Cbo 29 #[(.agg v_54),(.agg v_56)] F fun v_57 F=>
        R (.bool v_57) F) (
        R (.bool false) F))) (
       R (.bool false) F))) (
      R (.bool false) F))) (
     R (.bool false) F))) (
    R (.bool false) F))) (
   R (.bool false) F))) (
  R (.bool false) F))
theorem Qq {x_0:Array Value} {y_1:Array Value} (h:M5 x_0 y_1 R F):ac prog 73 #[(.agg x_0),(.agg y_1)] F R:=Rx.sxC (args:=[(.agg x_0),(.agg y_1)]) .N (by kernel_rfl) h
def M6 (g_0:Array Value) (R:VR) (F:PH):Prop:=
 Nb F (.cells g_0 39) fun b1 F=>
 Ls F (Am b1 0) fun v_4=>
 (Bc ((64:Int)<(v_4.len:Int)) (
  R (.bool true) F) (
  Ls F (Am b1 3) fun v_9=>
  (Bc ((256:Int)<(v_9.len:Int)) (
   R (.bool true) F) (
   Ls F (Am b1 8) fun v_15=>
   (Bc ((4096:Int)<(v_15.len:Int)) (
    R (.bool true) F) (
    Ls F (Am b1 4) fun v_20=>
    Ls F (Am b1 5) fun v_23=>
    Ls F (Am b1 7) fun v_26=>
    (Bc ((2000:Int)<(max (max (v_20.len:Int) (v_23.len:Int)) (v_26.len:Int))) (
     R (.bool true) F) (
     Ls F (Am b1 5) fun v_31=>
     Cbo 145 #[(Sl.v v_31),(.func (.func 146) #[] #[])] F fun v_32 F=>
     R (.bool v_32) F))))))))
theorem Qr {g_0:Array Value} (h:M6 g_0 R F):ac prog 74 #[(.agg g_0)] F R:=Rx.sxC (args:=[(.agg g_0)]) .N (by kernel_rfl) h
def Df (b1:Nat) (R:VR) (F:PH):Prop:=
 Lr F 2 (Am b1 1) fun v_33=>
 Ls F (Am b1 0) fun v_35=>
 Cbo 149 #[(.agg v_33),(.int .i64 (v_35.len:Int))] F fun v_37 F=>
 (Bb ((!v_37)) (
  R (.int .i64 54) F) (
  Li F (Am b1 2) fun v_42=>
  (Bc (v_42=0) (
   R (.int .i64 54) F) (
   R (.int .i64 0) F))))
def wM (N1:Int→PH→Prop) (b1:Nat) (v_6:Value) (v_8:Sl) (R:VR) (v_10:Int) (F:PH):Prop:=
 (Bc (v_10<(v_8.len:Int)) (
  Ix v_8 v_10 fun a12_=>
  Lx F (Addr.add a12_ (Int.toNat v_10*1)) fun v_13=>
  Cbo 148 #[(.string v_13)] F fun v_15 F=>
  (Bb ((!v_15)) (
   R (.int .i64 54) F) (
   (Bb ((v_13.toList==(ByteArray.mk #[116,114,117,101]).toList)) (
    R (.int .i64 54) F) (
    (Bb ((v_13.toList==(ByteArray.mk #[102,97,108,115,101]).toList)) (
     R (.int .i64 54) F) (
     Fn v_6 fun k28 fst28 cap28=>ac prog k28 (fst28++([(Value.string v_13)]).toArray++cap28) F fun v F=>∃v_28,v=(Value.bool v_28)∧
     (Bb ((!v_28)) (
      R (.int .i64 54) F) (
      N1 (IntKind.i64.wrap (v_10+1)) F))))))))) (
  Df b1 R F))
def M7 (g_0:Array Value) (R:VR) (F:PH):Prop:=
 Nb F (.cells g_0 39) fun b1 F=>
 ac prog 147 #[] F fun v F=>∃v_6:Value,v=v_6∧
 Ls F (Am b1 0) fun v_8=>
 (Lp 0 F fun N v_10 F=>
  wM N b1 v_6 v_8 R v_10 F)
theorem Qs {g_0:Array Value} (h:M7 g_0 R F):ac prog 75 #[(.agg g_0)] F R:=Rx.sxC (args:=[(.agg g_0)]) (.T .N (.T .N (.J false [] (.T .N (.L [(10,.int .i64)] .N)) .N))) (by kernel_rfl) h
def Dg (R:VR) (F:PH):Prop:=
 R (.int .i64 0) F
def im (N1:Int→PH→Prop) (b1:Nat) (v_7:Value) (v_9:Sl) (v_11:Int) (fine_6:Bool) (R:VR) (F:PH):Prop:=
 (Bb ((!fine_6)) (
  R (.int .i64 51) F) (
  N1 (IntKind.i64.wrap (v_11+1)) F))
def wO (N1:Int→PH→Prop) (b1:Nat) (v_7:Value) (v_9:Sl) (R:VR) (v_11:Int) (F:PH):Prop:=
 (Bc (v_11<(v_9.len:Int)) (
  Ix v_9 v_11 fun a13_=>
  Lr F 7 (Addr.add a13_ (Int.toNat v_11*7)) fun v_14=>
  Nb F (.cells zT 79) fun b5 F=>
  aA F (Am b5 0) 7 v_14 fun F=>
  Lx F (Am b5 0) fun v_17=>
  Fn v_7 fun k18 fst18 cap18=>ac prog k18 (fst18++([(Value.string v_17)]).toArray++cap18) F fun v F=>∃v_18,v=(Value.bool v_18)∧
  (Bb ((!v_18)) (
   R (.int .i64 51) F) (
   Li F (Am b5 1) fun v_22=>
   (Bc (v_22<0) (
    R (.int .i64 51) F) (
    Li F (Am b5 1) fun v_27=>
    (Bc (2<v_27) (
     R (.int .i64 51) F) (
     Lr F 2 (Am b5 5) fun v_32=>
     Ls F (Am b1 0) fun v_34=>
     Cbo 149 #[(.agg v_32),(.int .i64 (v_34.len:Int))] F fun v_36 F=>
     (Bb ((!v_36)) (
      R (.int .i64 51) F) (
      Lx F (Am b5 4) fun v_40=>
      Lx F (Am b5 2) fun v_44=>
      (Bb ((!(v_44.toList==(ByteArray.mk #[]).toList))) (
       (Bb ((v_40.toList==(ByteArray.mk #[]).toList)) (
        Ls F (Am b5 3) fun v_49=>
        im N1 b1 v_7 v_9 v_11 (decide ((v_49.len:Int)=0)) R F) (
        im N1 b1 v_7 v_9 v_11 false R F))) (
       Ls F (Am b5 3) fun v_55=>
       Ci 150 #[(Sl.v v_55)] F fun v_56 F=>
       (Bc (v_56≠0) (
        im N1 b1 v_7 v_9 v_11 false R F) (
        Li F (Am b5 1) fun v_60=>
        (Bc (v_60=0) (
         (Bb ((!(v_40.toList==(ByteArray.mk #[]).toList))) (
          Ls F (Am b5 3) fun v_66=>
          Lx F (Am b5 4) fun v_68=>
          Cbo 151 #[(Sl.v v_66),(.string v_68)] F fun v_69 F=>
          im N1 b1 v_7 v_9 v_11 v_69 R F) (
          im N1 b1 v_7 v_9 v_11 false R F))) (
         im N1 b1 v_7 v_9 v_11 (v_40.toList==(ByteArray.mk #[]).toList) R F))))))))))))))) (
  Dg R F))
def M8 (g_0:Array Value) (R:VR) (F:PH):Prop:=
 Nb F (.cells g_0 39) fun b1 F=>
 ac prog 147 #[] F fun v F=>∃v_7:Value,v=v_7∧
 Ls F (Am b1 3) fun v_9=>
 (Lp 0 F fun N v_11 F=>
  wO N b1 v_7 v_9 R v_11 F)
theorem Qt {g_0:Array Value} (h:M8 g_0 R F):ac prog 76 #[(.agg g_0)] F R:=Rx.sxC (args:=[(.agg g_0)]) (.T .N (.T .N (.J false [] (.T .N (.L [(11,.int .i64)] (.T .N (.T .N (.T (.T .N (.T .N (.T .N (.J false [(6,.bool)] .N .N)))) .N))))) .N))) (by kernel_rfl) h
def Dh (b1:Nat) (R:VR) (F:PH):Prop:=
 Li F (Am b1 6) fun v_20=>
 (Bc (v_20<0) (
  R (.int .i64 50) F) (
  Li F (Am b1 6) fun v_24=>
  Ls F (Am b1 4) fun v_26=>
  (Bc ((v_26.len:Int)≤v_24) (
   R (.int .i64 50) F) (
   R (.int .i64 0) F))))
def wP (N1:Int→PH→Prop) (b1:Nat) (v_6:Value) (v_8:Sl) (R:VR) (v_10:Int) (F:PH):Prop:=
 (Bc (v_10<(v_8.len:Int)) (
  Ix v_8 v_10 fun a12_=>
  Lx F (Addr.add a12_ (Int.toNat v_10*1)) fun v_13=>
  Fn v_6 fun k16 fst16 cap16=>ac prog k16 (fst16++([(Value.string v_13)]).toArray++cap16) F fun v F=>∃v_16,v=(Value.bool v_16)∧
  (Bb ((!v_16)) (
   R (.int .i64 50) F) (
   N1 (IntKind.i64.wrap (v_10+1)) F))) (
  Dh b1 R F))
def M9 (g_0:Array Value) (R:VR) (F:PH):Prop:=
 Nb F (.cells g_0 39) fun b1 F=>
 ac prog 147 #[] F fun v F=>∃v_6:Value,v=v_6∧
 Ls F (Am b1 4) fun v_8=>
 (Lp 0 F fun N v_10 F=>
  wP N b1 v_6 v_8 R v_10 F)
theorem Qu {g_0:Array Value} (h:M9 g_0 R F):ac prog 77 #[(.agg g_0)] F R:=Rx.sxC (args:=[(.agg g_0)]) (.T .N (.T .N (.J false [] (.T .N (.L [(10,.int .i64)] .N)) .N))) (by kernel_rfl) h
def Di (R:VR) (F:PH):Prop:=
 R (.int .i64 0) F
def wQ (N1:Int→PH→Prop) (b1:Nat) (v_7:Value) (v_9:Sl) (R:VR) (v_11:Int) (F:PH):Prop:=
 (Bc (v_11<(v_9.len:Int)) (
  Ix v_9 v_11 fun a13_=>
  Lr F 13 (Addr.add a13_ (Int.toNat v_11*13)) fun v_14=>
  Nb F (.cells zP 67) fun b5 F=>
  aA F (Am b5 0) 13 v_14 fun F=>
  Li F (Am b5 1) fun v_18=>
  Cbo 152 #[(.agg (#[.bool false,(.int .i64 v_18)]:Array Value)),(.pointer (some (Am b1 0)))] F fun v_20 F=>
  (Bb (v_20) (
   R (.int .i64 50) F) (
   Ls F (Am b5 2) fun v_23=>
   Cbo 154 #[(Sl.v v_23),(.func (.func 152) #[] #[(.pointer (some (Am b1 0)))])] F fun v_25 F=>
   (Bb (v_25) (
    R (.int .i64 50) F) (
    Lx F (Am b5 0) fun v_29=>
    Fn v_7 fun k30 fst30 cap30=>ac prog k30 (fst30++([(Value.string v_29)]).toArray++cap30) F fun v F=>∃v_30,v=(Value.bool v_30)∧
    (Bb ((!v_30)) (
     R (.int .i64 52) F) (
     Lr F 2 (Am b5 3) fun v_34=>
     Ls F (Am b1 0) fun v_36=>
     Cbo 149 #[(.agg v_34),(.int .i64 (v_36.len:Int))] F fun v_38 F=>
     (Bb ((!v_38)) (
      R (.int .i64 52) F) (
      Li F (Am b5 6) fun v_43=>
      (Bc (v_43<(-1:Int)) (
       R (.int .i64 52) F) (
       Li F (Am b5 6) fun v_48=>
       (Bc (1<v_48) (
        R (.int .i64 52) F) (
        Lr F 13 (Am b5 0) fun v_52=>
        Cbo 155 #[(.agg v_52)] F fun v_53 F=>
        (Bb ((!v_53)) (
         R (.int .i64 52) F) (
         N1 (IntKind.i64.wrap (v_11+1)) F))))))))))))))) (
  Di R F))
def Na (g_0:Array Value) (R:VR) (F:PH):Prop:=
 Nb F (.cells g_0 39) fun b1 F=>
 ac prog 147 #[] F fun v F=>∃v_7:Value,v=v_7∧
 Ls F (Am b1 5) fun v_9=>
 (Lp 0 F fun N v_11 F=>
  wQ N b1 v_7 v_9 R v_11 F)
theorem Qv {g_0:Array Value} (h:Na g_0 R F):ac prog 78 #[(.agg g_0)] F R:=Rx.sxC (args:=[(.agg g_0)]) (.T .N (.T .N (.J false [] (.T .N (.L [(11,.int .i64)] .N)) .N))) (by kernel_rfl) h
def Dk (R:VR) (F:PH):Prop:=
 R (.int .i64 0) F
def Dl (N1:Int→PH→Prop) (b1 b8:Nat) (v_10:Sl) (v_12:Int) (R:VR) (F:PH):Prop:=
 N1 (IntKind.i64.wrap (v_12+1)) F
def wR (N1 N2:Int→PH→Prop) (b1 b8:Nat) (v_10:Sl) (v_12:Int) (v_34:Sl) (R:VR) (v_36:Int) (F:PH):Prop:=
 (Bc (v_36<(v_34.len:Int)) (
  Ix v_34 v_36 fun a38_=>
  Li F (Addr.add a38_ (Int.toNat v_36*1)) fun v_39=>
  (Bc (v_39<0) (
   R (.int .i64 53) F) (
   Ls F (Am b1 5) fun v_45=>
   (Bc ((v_45.len:Int)≤v_39) (
    R (.int .i64 53) F) (
    ∃v_52,rdo prog (Instr.lookup 213 (.map (some b8)) (.int .i64 v_39) false) F (.bool v_52)∧
    (Bb (v_52) (
     R (.int .i64 53) F) (
     aE prog (Instr.mapUpdate 213 (.map (some b8)) (.int .i64 v_39) (.bool true)) F fun _ F=>
     N2 (IntKind.i64.wrap (v_36+1)) F))))))) (
  Dl N1 b1 b8 v_10 v_12 R F))
def wS (N1:Int→PH→Prop) (b1 b8:Nat) (v_10:Sl) (R:VR) (v_12:Int) (F:PH):Prop:=
 (Bc (v_12<(v_10.len:Int)) (
  Ix v_10 v_12 fun a14_=>
  Lr F 4 (Addr.add a14_ (Int.toNat v_12*4)) fun v_15=>
  Nb F (.cells zL 72) fun b5 F=>
  aA F (Am b5 0) 4 v_15 fun F=>
  Li F (Am b5 1) fun v_17=>
  (Bc (v_17<0) (
   R (.int .i64 53) F) (
   Li F (Am b5 1) fun v_21=>
   (Bc (3<v_21) (
    R (.int .i64 53) F) (
    Lr F 2 (Am b5 2) fun v_26=>
    Ls F (Am b1 0) fun v_28=>
    Cbo 149 #[(.agg v_26),(.int .i64 (v_28.len:Int))] F fun v_30 F=>
    (Bb ((!v_30)) (
     R (.int .i64 53) F) (
     Ls F (Am b5 0) fun v_34=>
     (∃(I2:Nat→Int→PH→Prop) (m2:Nat),I2 m2 0 F∧∀m2 v_36 F,I2 m2 v_36 F→
      wR N1 (nx1 I2 m2) b1 b8 v_10 v_12 v_34 R v_36 F)))))))) (
  Dk R F))
def Nc (g_0:Array Value) (R:VR) (F:PH):Prop:=
 Nb F (.cells g_0 39) fun b1 F=>
 Nb F (.map #[] 0) fun b8 F=>
 Ls F (Am b1 7) fun v_10=>
 (Lp 0 F fun N v_12 F=>
  wS N b1 b8 v_10 R v_12 F)
theorem Qw {g_0:Array Value} (h:Nc g_0 R F):ac prog 79 #[(.agg g_0)] F R:=Rx.sxC (args:=[(.agg g_0)]) (.T .N (.T .N (.J false [] (.T .N (.L [(12,.int .i64)] (.T .N (.T .N (.J false [] (.T .N (.T .N (.T .N (.L [(36,.int .i64)] .N)))) .N))))) .N))) (by kernel_rfl) h
def Dm (R:VR) (F:PH):Prop:=
 R (.int .i64 0) F
def eE (N1:Int→PH→Prop) (b1 b8:Nat) (v_10:Sl) (v_12:Int) (fine_7:Bool) (R:VR) (F:PH):Prop:=
 (Bb ((!fine_7)) (
  R (.int .i64 53) F) (
  Li F (Am b8 1) fun v_117=>
  (Bc (v_117≠0) (
   R (.int .i64 53) F) (
   Li F (Am b8 2) fun v_122=>
   (Bc (v_122≠0) (
    R (.int .i64 53) F) (
    Li F (Am b8 3) fun v_127=>
    (Bc (v_127≠0) (
     R (.int .i64 53) F) (
     Li F (Am b8 4) fun v_132=>
     (Bc (v_132≠0) (
      R (.int .i64 53) F) (
      Li F (Am b8 5) fun v_137=>
      (Bc (v_137≠0) (
       R (.int .i64 53) F) (
       Ls F (Am b8 6) fun v_142=>
       (Bc ((0:Int)<(v_142.len:Int)) (
        R (.int .i64 53) F) (
        N1 (IntKind.i64.wrap (v_12+1)) F))))))))))))))
def jy (N1:Int→PH→Prop) (b1 b6 b8:Nat) (v_10:Sl) (v_12:Int) (fine_7_1:Bool) (R:VR) (F:PH):Prop:=
 (Bb (fine_7_1) (
  Ls F (Am b1 3) fun v_95=>
  Li F (Am b6 5) fun v_97=>
  Ix v_95 v_97 fun a98_=>
  Lr F 7 (Addr.add a98_ (Int.toNat v_97*7)) fun v_99=>
  Cbo 156 #[(.agg v_99)] F fun v_100 F=>
  (Bb (v_100) (
   Ls F (Am b1 3) fun v_105=>
   Li F (Am b6 5) fun v_107=>
   Ix v_105 v_107 fun a108_=>
   Lr F 7 (Addr.add a108_ (Int.toNat v_107*7)) fun v_109=>
   Cbo 157 #[(.agg v_109)] F fun v_110 F=>
   eE N1 b1 b8 v_10 v_12 (!v_110) R F) (
   eE N1 b1 b8 v_10 v_12 false R F))) (
  eE N1 b1 b8 v_10 v_12 false R F))
def ta (N1:Int→PH→Prop) (b1 b6:Nat) (v_21:Bool) (b8:Nat) (v_10:Sl) (v_12 v_27:Int) (v_40:Bool) (R:VR) (F:PH):Prop:=
 (Bb (v_40) (
  sto F (Am b8 4) (.int .i64 0) fun F=>
  sto F (Am b8 6) (Sl.v Sl.nil) fun F=>
  (Bb (v_21) (
   Li F (Am b6 4) fun v_48=>
   (Bc (0≤v_48) (
    Li F (Am b6 4) fun v_53=>
    Ls F (Am b1 4) fun v_55=>
    (Bc (v_53<(v_55.len:Int)) (
     Lr F 9 (Am b1 0) fun v_60=>
     Ls F (Am b6 6) fun v_62=>
     Cbo 159 #[(.agg v_60),(Sl.v v_62),(.func (.func 156) #[] #[])] F fun v_64 F=>
     eE N1 b1 b8 v_10 v_12 v_64 R F) (
     eE N1 b1 b8 v_10 v_12 false R F))) (
    eE N1 b1 b8 v_10 v_12 false R F))) (
   eE N1 b1 b8 v_10 v_12 false R F))) (
  (Bc (v_27=5) (
   sto F (Am b8 5) (.int .i64 0) fun F=>
   sto F (Am b8 6) (Sl.v Sl.nil) fun F=>
   (Bb (v_21) (
    Lr F 9 (Am b1 0) fun v_72=>
    Ls F (Am b6 6) fun v_74=>
    Cbo 159 #[(.agg v_72),(Sl.v v_74),(.func (.func 157) #[] #[])] F fun v_76 F=>
    (Bb (v_76) (
     Li F (Am b6 5) fun v_80=>
     (Bc (0≤v_80) (
      Li F (Am b6 5) fun v_85=>
      Ls F (Am b1 3) fun v_87=>
      jy N1 b1 b6 b8 v_10 v_12 (decide (v_85<(v_87.len:Int))) R F) (
      jy N1 b1 b6 b8 v_10 v_12 false R F))) (
     jy N1 b1 b6 b8 v_10 v_12 false R F))) (
    jy N1 b1 b6 b8 v_10 v_12 false R F))) (
   eE N1 b1 b8 v_10 v_12 false R F))))
def tc (N1:Int→PH→Prop) (b1 b6:Nat) (v_21:Bool) (b8:Nat) (v_10:Sl) (v_12 v_27:Int) (v_28:Bool) (R:VR) (F:PH):Prop:=
 (Bb (v_28) (
  sto F (Am b8 1) (.int .i64 0) fun F=>
  sto F (Am b8 2) (.int .i64 0) fun F=>
  sto F (Am b8 3) (.int .i64 0) fun F=>
  (Bb (v_21) (
   Lr F 9 (Am b1 0) fun v_36=>
   Lr F 9 (Am b6 0) fun v_37=>
   Cbo 158 #[(.agg v_36),(.agg v_37)] F fun v_38 F=>
   eE N1 b1 b8 v_10 v_12 v_38 R F) (
   eE N1 b1 b8 v_10 v_12 false R F))) (
  (Bc (v_27=3) (
   ta N1 b1 b6 v_21 b8 v_10 v_12 v_27 (decide (v_27=3)) R F) (
   ta N1 b1 b6 v_21 b8 v_10 v_12 v_27 (decide (v_27=4)) R F))))
def wT (N1:Int→PH→Prop) (b1:Nat) (v_10:Sl) (R:VR) (v_12:Int) (F:PH):Prop:=
 (Bc (v_12<(v_10.len:Int)) (
  Ix v_10 v_12 fun a14_=>
  Lr F 9 (Addr.add a14_ (Int.toNat v_12*9)) fun v_15=>
  Nb F (.cells zF 74) fun b6 F=>
  aA F (Am b6 0) 9 v_15 fun F=>
  Lr F 2 (Am b6 7) fun v_17=>
  Ls F (Am b1 0) fun v_19=>
  Cbo 149 #[(.agg v_17),(.int .i64 (v_19.len:Int))] F fun v_21 F=>
  Lr F 9 (Am b6 0) fun v_22=>
  Nb F (.cells zF 74) fun b8 F=>
  aA F (Am b8 0) 9 v_22 fun F=>
  sto F (Am b8 0) (.int .i64 0) fun F=>
  aA F (Am b8 7) 2 zD fun F=>
  Li F (Am b6 0) fun v_27=>
  (Bc (v_27=1) (
   tc N1 b1 b6 v_21 b8 v_10 v_12 v_27 (decide (v_27=1)) R F) (
   tc N1 b1 b6 v_21 b8 v_10 v_12 v_27 (decide (v_27=2)) R F))) (
  Dm R F))
def Nf (g_0:Array Value) (R:VR) (F:PH):Prop:=
 Nb F (.cells g_0 39) fun b1 F=>
 Ls F (Am b1 8) fun v_10=>
 (Lp 0 F fun N v_12 F=>
  wT N b1 v_10 R v_12 F)
theorem Qx {g_0:Array Value} (h:Nf g_0 R F):ac prog 80 #[(.agg g_0)] F R:=Rx.sxC (args:=[(.agg g_0)]) (.T .N (.T .N (.T .N (.J false [] (.T .N (.L [(12,.int .i64)] (.T .N (.T .N (.T (.T .N (.T .N (.T .N (.T .N (.J false [(7,.bool)] (.T .N (.J false [(28,.bool)] .N (.T .N (.J false [(40,.bool)] .N (.T .N (.T .N (.T (.T .N (.J false [(7,.bool)] .N .N)) .N))))))) .N))))) .N))))) .N)))) (by kernel_rfl) h
def JX (d_0:Array Value) (n_1 above_2:Int) (v_3 v_4 v_5:Option Addr) (R:VR) (F:PH):Prop:=
 Nb F (.cells d_0 33) fun b6 F=>
 Li F (Am b6 1) fun v_15=>
 (Bc (v_15=0) (
  R (.bool true) F) (
  (Bc (n_1=0) (
   ∃v3a_,v_3=some v3a_∧Ls F v3a_ fun v_19=>
   ∃v4a_,v_4=some v4a_∧Li F v4a_ fun v_21=>
   (Bc ((v_19.len:Int)=v_21) (
    R (.bool false) F) (
    Ls F v3a_ fun v_23=>
    Nb F (.cells #[(.int .u64 above_2)] 54) fun b25 F=>
    Ap 57 #[(Sl.v v_23),(Sl.v (Sb b25 1))] F fun v_26 F=>
    sto F v3a_ (Sl.v v_26) fun F=>
    R (.bool true) F))) (
   Lr F 2 (Am b6 0) fun v_28=>
   ac prog 92 #[(.agg v_28),(.int .i64 (IntKind.i64.wrap (n_1 - 1))),(.bool false)] F fun v F=>∃v_31,∃v_31_1,v=(.tuple #[(.agg v_31),(.int .i64 v_31_1)])∧
   Nb F (.cells zD 33) fun b10 F=>
   aA F (Am b10 0) 2 v_31 fun F=>
   Lr F 2 (Am b6 0) fun v_35=>
   ac prog 92 #[(.agg v_35),(.int .i64 (IntKind.i64.wrap (n_1 - 1))),(.bool true)] F fun v F=>∃v_38,∃v_38_1,v=(.tuple #[(.agg v_38),(.int .i64 v_38_1)])∧
   Nb F (.cells zD 33) fun b12 F=>
   aA F (Am b12 0) 2 v_38 fun F=>
   ∃v5a_,v_5=some v5a_∧∃v_41:Value,F.cell v5a_=some v_41∧
   Lr F 2 (Am b10 0) fun v_42=>
   Fn v_41 fun k46 fst46 cap46=>ac prog k46 (fst46++([(Value.agg v_42),(Value.int .i64 (IntKind.i64.wrap (n_1 - 1))),(Value.int .u64 above_2)]).toArray++cap46) F fun v F=>∃v_46,v=(Value.bool v_46)∧
   (Bb (v_46) (
    ∃v_48:Value,F.cell v5a_=some v_48∧
    Lr F 2 (Am b12 0) fun v_49=>
    0≤(IntKind.i64.wrap (n_1 - 1))∧Fn v_48 fun k57 fst57 cap57=>ac prog k57 (fst57++([(Value.agg v_49),(Value.int .i64 (IntKind.i64.wrap (n_1 - 1))),(Value.int .u64 (IntKind.u64.wrap ((BitVec.ofInt (IntKind.u64).bits above_2 ||| BitVec.ofInt (IntKind.u64).bits (IntKind.u64.wrap (1*2 ^ (min (Int.toNat (IntKind.i64.wrap (n_1 - 1))) (IntKind.u64).bits)))).toNat)))]).toArray++cap57) F fun v F=>∃v_57,v=(Value.bool v_57)∧
    R (.bool v_57) F) (
    R (.bool false) F))))))
theorem Ng {d_0:Array Value} {n_1:Int} {above_2:Int} {v_3:Option Addr} {v_4:Option Addr} {v_5:Option Addr} (h:JX d_0 n_1 above_2 v_3 v_4 v_5 R F):ac prog 91 #[(.agg d_0),(.int .i64 n_1),(.int .u64 above_2),(.pointer v_3),(.pointer v_4),(.pointer v_5)] F R:=Rx.sxC (args:=[(.agg d_0),(.int .i64 n_1),(.int .u64 above_2),(.pointer v_3),(.pointer v_4),(.pointer v_5)]) .N (by kernel_rfl) h
def yv (N1:Int→PH→Prop) (c0a_ l1a_:Addr) (one_2:Value) (v_14 i_7:Int) (R:VR) (F:PH):Prop:=
 N1 (IntKind.i64.wrap (i_7+1)) F
def ks (N1:Int→PH→Prop) (c_0:Option Addr) (l1a_:Addr) (one_2:Value) (v_14:Int) (R:VR) (i_7:Int) (F:PH):Prop:=
 (Bc (i_7<v_14) (
  ∃c0a_,c_0=some c0a_∧Lb F (Addr.add c0a_ 3) fun v_22=>
  (Bb ((!v_22)) (
   Li F c0a_ fun v_30=>
   (Bc (v_30=0) (
    Ls F l1a_ fun v_35=>
    Ix v_35 i_7 fun a37_=>
    Fn one_2 fun k38 fst38 cap38=>ac prog k38 (fst38++([(Value.pointer (some (Addr.add a37_ (Int.toNat i_7*1))))]).toArray++cap38) F fun v F=>v=(Value.tuple #[])∧
    yv N1 c0a_ l1a_ one_2 v_14 i_7 R F) (
    Nb F (.cells (#[.string ⟨#[]⟩]) 9) fun b8 F=>
    Fn one_2 fun k40 fst40 cap40=>ac prog k40 (fst40++([(Value.pointer (some (Am b8 0)))]).toArray++cap40) F fun v F=>v=(Value.tuple #[])∧
    Ls F l1a_ fun v_44=>
    Lx F (Am b8 0) fun v_45=>
    Nb F (.cells #[(.string v_45)] 9) fun b46 F=>
    Ap 30 #[(Sl.v v_44),(Sl.v (Sb b46 1))] F fun v_47 F=>
    sto F l1a_ (Sl.v v_47) fun F=>
    yv N1 c0a_ l1a_ one_2 v_14 i_7 R F))) (
   R (.tuple #[]) F))) (
  R (.tuple #[]) F))
def Nh (c_0 l_1:Option Addr) (one_2:Value) (R:VR) (F:PH):Prop:=
 ∃l1a_,l_1=some l1a_∧Ls F l1a_ fun v_12=>
 Ci 178 #[(.pointer c_0),(.int .i64 (v_12.len:Int))] F fun v_14 F=>
 (Lp 0 F fun N i_7 F=>
  ks N c_0 l1a_ one_2 v_14 R i_7 F)
theorem Ni {c_0:Option Addr} {l_1:Option Addr} {one_2:Value} (h:Nh c_0 l_1 one_2 R F):ac prog 118 #[(.pointer c_0),(.pointer l_1),one_2] F R:=Rx.sxC (args:=[(.pointer c_0),(.pointer l_1),one_2]) (.T .N (.T .N (.L [(7,.int .i64)] (.T .N (.J false [] .N .N))))) (by kernel_rfl) h
def Dn (c_0 p_1:Option Addr) (R:VR) (F:PH):Prop:=
 ∃p1a_,p_1=some p1a_∧Lx F p1a_ fun v_8=>
 Ci 178 #[(.pointer c_0),(.int .i64 (v_8.size:Int))] F fun v_10 F=>
 ∃c0a_,c_0=some c0a_∧Li F c0a_ fun v_14=>
 (Bc (v_14=0) (
  Ls F (Addr.add c0a_ 1) fun v_20=>
  Lx F p1a_ fun v_23=>
  aE prog (Builtin.append_ #[22,9] 22 #[(Sl.v v_20),(.string v_23)]) F fun v F=>∃v_24,v=(Sl.v v_24)∧
  sto F (Addr.add c0a_ 1) (Sl.v v_24) fun F=>
  R (.tuple #[]) F) (
  Ls F (Addr.add c0a_ 1) fun v_31=>
  Li F (Addr.add c0a_ 2) fun v_35=>
  Li F (Addr.add c0a_ 2) fun v_39=>
  0≤v_35∧0≤(IntKind.i64.wrap (v_39+v_10))∧(Int.toNat v_35)≤(Int.toNat (IntKind.i64.wrap (v_39+v_10)))∧(Int.toNat (IntKind.i64.wrap (v_39+v_10)))≤v_31.cap∧
  ∃v_43,rdo prog (Conv.bytesToString (Sl.v (Sl.cut v_31 1 (Int.toNat v_35) (Int.toNat (IntKind.i64.wrap (v_39+v_10))) v_31.cap))) F (.string v_43)∧
  sto F p1a_ (.string v_43) fun F=>
  Li F (Addr.add c0a_ 2) fun v_48=>
  sto F (Addr.add c0a_ 2) (.int .i64 (IntKind.i64.wrap (v_48+v_10))) fun F=>
  R (.tuple #[]) F))
theorem Hb {c_0:Option Addr} {p_1:Option Addr} (h:Dn c_0 p_1 R F):ac prog 119 #[(.pointer c_0),(.pointer p_1)] F R:=Rx.sxC (args:=[(.pointer c_0),(.pointer p_1)]) .N (by kernel_rfl) h
def Do (c_0 d_1:Option Addr) (R:VR) (F:PH):Prop:=
 Nb F (.cells #[(.pointer c_0)] 114) fun b2 F=>
 Lq F (Am b2 0) fun v_4=>
 ∃d1a_,d_1=some d1a_∧Cu 179 #[(.pointer v_4),(.pointer (some d1a_)),(.func (.func 180) #[] #[(.pointer (some (Am b2 0)))])] F fun F=>
 Lq F (Am b2 0) fun v_10=>
 Cu 125 #[(.pointer v_10),(.pointer (some (Addr.add d1a_ 1)))] F fun F=>
 R (.tuple #[]) F
theorem Hc {c_0:Option Addr} {d_1:Option Addr} (h:Do c_0 d_1 R F):ac prog 120 #[(.pointer c_0),(.pointer d_1)] F R:=Rx.sxC (args:=[(.pointer c_0),(.pointer d_1)]) .N (by kernel_rfl) h
def yw (N1:Int→PH→Prop) (c0a_ l1a_:Addr) (one_2:Value) (v_14 i_7:Int) (R:VR) (F:PH):Prop:=
 N1 (IntKind.i64.wrap (i_7+1)) F
def ku (N1:Int→PH→Prop) (c_0:Option Addr) (l1a_:Addr) (one_2:Value) (v_14:Int) (R:VR) (i_7:Int) (F:PH):Prop:=
 (Bc (i_7<v_14) (
  ∃c0a_,c_0=some c0a_∧Lb F (Addr.add c0a_ 3) fun v_22=>
  (Bb ((!v_22)) (
   Li F c0a_ fun v_30=>
   (Bc (v_30=0) (
    Ls F l1a_ fun v_35=>
    Ix v_35 i_7 fun a37_=>
    Fn one_2 fun k38 fst38 cap38=>ac prog k38 (fst38++([(Value.pointer (some (Addr.add a37_ (Int.toNat i_7*7))))]).toArray++cap38) F fun v F=>v=(Value.tuple #[])∧
    yw N1 c0a_ l1a_ one_2 v_14 i_7 R F) (
    Nb F (.cells zT 79) fun b8 F=>
    Fn one_2 fun k40 fst40 cap40=>ac prog k40 (fst40++([(Value.pointer (some (Am b8 0)))]).toArray++cap40) F fun v F=>v=(Value.tuple #[])∧
    Ls F l1a_ fun v_44=>
    Lr F 7 (Am b8 0) fun v_45=>
    v_45.size=7∧Nb F (.cells v_45 79) fun b46 F=>
    Ap 34 #[(Sl.v v_44),(Sl.v (Sb b46 1))] F fun v_47 F=>
    sto F l1a_ (Sl.v v_47) fun F=>
    yw N1 c0a_ l1a_ one_2 v_14 i_7 R F))) (
   R (.tuple #[]) F))) (
  R (.tuple #[]) F))
def Nj (c_0 l_1:Option Addr) (one_2:Value) (R:VR) (F:PH):Prop:=
 ∃l1a_,l_1=some l1a_∧Ls F l1a_ fun v_12=>
 Ci 178 #[(.pointer c_0),(.int .i64 (v_12.len:Int))] F fun v_14 F=>
 (Lp 0 F fun N i_7 F=>
  ku N c_0 l1a_ one_2 v_14 R i_7 F)
theorem Nk {c_0:Option Addr} {l_1:Option Addr} {one_2:Value} (h:Nj c_0 l_1 one_2 R F):ac prog 121 #[(.pointer c_0),(.pointer l_1),one_2] F R:=Rx.sxC (args:=[(.pointer c_0),(.pointer l_1),one_2]) (.T .N (.T .N (.L [(7,.int .i64)] (.T .N (.J false [] .N .N))))) (by kernel_rfl) h
def Dp (c_0 t_1:Option Addr) (R:VR) (F:PH):Prop:=
 Nb F (.cells #[(.pointer c_0)] 114) fun b2 F=>
 Lq F (Am b2 0) fun v_4=>
 ∃t1a_,t_1=some t1a_∧Cu 119 #[(.pointer v_4),(.pointer (some t1a_))] F fun F=>
 Lq F (Am b2 0) fun v_9=>
 Cu 125 #[(.pointer v_9),(.pointer (some (Addr.add t1a_ 1)))] F fun F=>
 Lq F (Am b2 0) fun v_14=>
 Cu 119 #[(.pointer v_14),(.pointer (some (Addr.add t1a_ 2)))] F fun F=>
 Lq F (Am b2 0) fun v_19=>
 Cu 182 #[(.pointer v_19),(.pointer (some (Addr.add t1a_ 3))),(.func (.func 183) #[] #[(.pointer (some (Am b2 0)))])] F fun F=>
 Lq F (Am b2 0) fun v_25=>
 Cu 119 #[(.pointer v_25),(.pointer (some (Addr.add t1a_ 4)))] F fun F=>
 Lq F (Am b2 0) fun v_30=>
 Cu 120 #[(.pointer v_30),(.pointer (some (Addr.add t1a_ 5)))] F fun F=>
 R (.tuple #[]) F
theorem Hd {c_0:Option Addr} {t_1:Option Addr} (h:Dp c_0 t_1 R F):ac prog 122 #[(.pointer c_0),(.pointer t_1)] F R:=Rx.sxC (args:=[(.pointer c_0),(.pointer t_1)]) .N (by kernel_rfl) h
def yx (N1:Int→PH→Prop) (c0a_ l1a_:Addr) (one_2:Value) (v_14 i_7:Int) (R:VR) (F:PH):Prop:=
 N1 (IntKind.i64.wrap (i_7+1)) F
def kv (N1:Int→PH→Prop) (c_0:Option Addr) (l1a_:Addr) (one_2:Value) (v_14:Int) (R:VR) (i_7:Int) (F:PH):Prop:=
 (Bc (i_7<v_14) (
  ∃c0a_,c_0=some c0a_∧Lb F (Addr.add c0a_ 3) fun v_22=>
  (Bb ((!v_22)) (
   Li F c0a_ fun v_30=>
   (Bc (v_30=0) (
    Ls F l1a_ fun v_35=>
    Ix v_35 i_7 fun a37_=>
    Fn one_2 fun k38 fst38 cap38=>ac prog k38 (fst38++([(Value.pointer (some (Addr.add a37_ (Int.toNat i_7*13))))]).toArray++cap38) F fun v F=>v=(Value.tuple #[])∧
    yx N1 c0a_ l1a_ one_2 v_14 i_7 R F) (
    Nb F (.cells zP 67) fun b8 F=>
    Fn one_2 fun k40 fst40 cap40=>ac prog k40 (fst40++([(Value.pointer (some (Am b8 0)))]).toArray++cap40) F fun v F=>v=(Value.tuple #[])∧
    Ls F l1a_ fun v_44=>
    Lr F 13 (Am b8 0) fun v_45=>
    v_45.size=13∧Nb F (.cells v_45 67) fun b46 F=>
    Ap 35 #[(Sl.v v_44),(Sl.v (Sb b46 1))] F fun v_47 F=>
    sto F l1a_ (Sl.v v_47) fun F=>
    yx N1 c0a_ l1a_ one_2 v_14 i_7 R F))) (
   R (.tuple #[]) F))) (
  R (.tuple #[]) F))
def Nl (c_0 l_1:Option Addr) (one_2:Value) (R:VR) (F:PH):Prop:=
 ∃l1a_,l_1=some l1a_∧Ls F l1a_ fun v_12=>
 Ci 178 #[(.pointer c_0),(.int .i64 (v_12.len:Int))] F fun v_14 F=>
 (Lp 0 F fun N i_7 F=>
  kv N c_0 l1a_ one_2 v_14 R i_7 F)
theorem Nm {c_0:Option Addr} {l_1:Option Addr} {one_2:Value} (h:Nl c_0 l_1 one_2 R F):ac prog 123 #[(.pointer c_0),(.pointer l_1),one_2] F R:=Rx.sxC (args:=[(.pointer c_0),(.pointer l_1),one_2]) (.T .N (.T .N (.L [(7,.int .i64)] (.T .N (.J false [] .N .N))))) (by kernel_rfl) h
def nq (p1a_:Addr) (b2:Nat) (R:VR) (F:PH):Prop:=
 Lq F (Am b2 0) fun v_48=>
 Cu 187 #[(.pointer v_48),(.pointer (some (Addr.add p1a_ 7))),(.func (.func 188) #[] #[(.pointer (some (Am b2 0)))])] F fun F=>
 Lq F (Am b2 0) fun v_54=>
 Cu 186 #[(.pointer v_54),(.pointer (some (Addr.add p1a_ 8)))] F fun F=>
 Lq F (Am b2 0) fun v_60=>
 Nb F (.cells #[(.pointer (some (Addr.add (Addr.add p1a_ 8) 1))),(.pointer (some (Addr.add (Addr.add p1a_ 8) 2))),(.pointer (some (Addr.add (Addr.add p1a_ 8) 3))),(.pointer (some (Addr.add (Addr.add p1a_ 8) 4)))] 189) fun b77 F=>
 Cu 181 #[(.pointer v_60),(Sl.v (Sb b77 4))] F fun F=>
 R (.tuple #[]) F
def Dq (c_0 p_1:Option Addr) (R:VR) (F:PH):Prop:=
 Nb F (.cells #[(.pointer c_0)] 114) fun b2 F=>
 Lq F (Am b2 0) fun v_5=>
 ∃p1a_,p_1=some p1a_∧Cu 119 #[(.pointer v_5),(.pointer (some p1a_))] F fun F=>
 Lq F (Am b2 0) fun v_10=>
 Cu 125 #[(.pointer v_10),(.pointer (some (Addr.add p1a_ 1)))] F fun F=>
 Lq F (Am b2 0) fun v_15=>
 Cu 184 #[(.pointer v_15),(.pointer (some (Addr.add p1a_ 2))),(.func (.func 185) #[] #[(.pointer (some (Am b2 0)))])] F fun F=>
 Lq F (Am b2 0) fun v_21=>
 Cu 120 #[(.pointer v_21),(.pointer (some (Addr.add p1a_ 3)))] F fun F=>
 Lq F (Am b2 0) fun v_26=>
 Cu 186 #[(.pointer v_26),(.pointer (some (Addr.add p1a_ 5)))] F fun F=>
 Li F (Addr.add p1a_ 6) fun v_34=>
 Nb F (.cells (#[.int .i64 0]) 3) fun b4 F=>
 sto F (Am b4 0) (.int .i64 (IntKind.i64.wrap (v_34+1))) fun F=>
 Lq F (Am b2 0) fun v_36=>
 Cu 125 #[(.pointer v_36),(.pointer (some (Am b4 0)))] F fun F=>
 Lq F (Am b2 0) fun v_38=>
 ∃v38a_,v_38=some v38a_∧Li F v38a_ fun v_41=>
 (Bc (v_41=1) (
  Li F (Am b4 0) fun v_44=>
  sto F (Addr.add p1a_ 6) (.int .i64 (IntKind.i64.wrap (v_44 - 1))) fun F=>
  nq p1a_ b2 R F) (
  nq p1a_ b2 R F))
theorem He {c_0:Option Addr} {p_1:Option Addr} (h:Dq c_0 p_1 R F):ac prog 124 #[(.pointer c_0),(.pointer p_1)] F R:=Rx.sxC (args:=[(.pointer c_0),(.pointer p_1)]) (.T .N (.T .N (.T .N (.T .N (.T .N (.T .N (.T .N (.T .N (.J false [] .N .N))))))))) (by kernel_rfl) h
def ky (c_0:Option Addr) (R:VR) (F:PH):Prop:=
 ∃c0a_,c_0=some c0a_∧sto F (Addr.add c0a_ 3) (.bool true) fun F=>
 R (.tuple #[]) F
def nr (N1:Int→Int→PH→Prop) (p_1:Option Addr) (n_5 v_75 shift_6:Int) (R:VR) (F:PH):Prop:=
 ∃p1a_,p_1=some p1a_∧sto F p1a_ (.int .i64 (IntKind.i64.wrap ((BitVec.ofInt (IntKind.i64).bits n_5 ||| BitVec.ofInt (IntKind.i64).bits (IntKind.i64.wrap ((IntKind.i64.wrap (IntKind.u8.wrap ((BitVec.ofInt (IntKind.u8).bits v_75 &&& BitVec.ofInt (IntKind.u8).bits 127).toNat)))*2 ^ (min (Int.toNat shift_6) (IntKind.i64).bits)))).toNat))) fun F=>
 R (.tuple #[]) F
def yy (N1:Int→Int→PH→Prop) (c_0 p_1:Option Addr) (R:VR) (n_5 shift_6:Int) (F:PH):Prop:=
 (Bc (shift_6<63) (
  ∃c0a__1,c_0=some c0a__1∧Li F (Addr.add c0a__1 2) fun v_49=>
  Ls F (Addr.add c0a__1 1) fun v_53=>
  (Bc (v_49<(v_53.len:Int)) (
   Lb F (Addr.add c0a__1 3) fun v_61=>
   (Bb ((!v_61)) (
    Ls F (Addr.add c0a__1 1) fun v_69=>
    Li F (Addr.add c0a__1 2) fun v_73=>
    Ix v_69 v_73 fun a74_=>
    Lk F .u8 (Addr.add a74_ (Int.toNat v_73*1)) fun v_75=>
    Li F (Addr.add c0a__1 2) fun v_79=>
    sto F (Addr.add c0a__1 2) (.int .i64 (IntKind.i64.wrap (v_79+1))) fun F=>
    0≤shift_6∧(Bc (v_75<128) (
     (Bc (v_75=0) (
      sto F (Addr.add c0a__1 3) (.bool (decide (0<shift_6))) fun F=>
      nr N1 p_1 n_5 v_75 shift_6 R F) (
      sto F (Addr.add c0a__1 3) (.bool false) fun F=>
      nr N1 p_1 n_5 v_75 shift_6 R F))) (
     N1 (IntKind.i64.wrap ((BitVec.ofInt (IntKind.i64).bits n_5 ||| BitVec.ofInt (IntKind.i64).bits (IntKind.i64.wrap ((IntKind.i64.wrap (IntKind.u8.wrap ((BitVec.ofInt (IntKind.u8).bits v_75 &&& BitVec.ofInt (IntKind.u8).bits 127).toNat)))*2 ^ (min (Int.toNat shift_6) (IntKind.i64).bits)))).toNat)) (IntKind.i64.wrap (shift_6+7)) F))) (
    ky (some c0a__1) R F))) (
   ky (some c0a__1) R F))) (
  ky c_0 R F))
def yz (c_0 p_1:Option Addr) (R:VR) (F:PH):Prop:=
 (∃(I1:Nat→Int→Int→PH→Prop) (m1:Nat),I1 m1 0 0 F∧∀m1 n_5 shift_6 F,I1 m1 n_5 shift_6 F→
  yy (nx2 I1 m1) c_0 p_1 R n_5 shift_6 F)
def yA (c0a__2:Addr) (n_4:Int) (R:VR) (F:PH):Prop:=
 Ls F (Addr.add c0a__2 1) fun v_36=>
 Nb F (.cells #[(.int .u8 (IntKind.u8.wrap n_4))] 5) fun b39 F=>
 Ap 22 #[(Sl.v v_36),(Sl.v (Sb b39 1))] F fun v_40 F=>
 sto F (Addr.add c0a__2 1) (Sl.v v_40) fun F=>
 R (.tuple #[]) F
def yB (N2:Int→PH→Prop) (c0a__2:Addr) (R:VR) (n_4_1:Int) (F:PH):Prop:=
 (Bc (128≤n_4_1) (
  Ls F (Addr.add c0a__2 1) fun v_24=>
  Nb F (.cells #[(.int .u8 (IntKind.u8.wrap ((BitVec.ofInt (IntKind.u8).bits (IntKind.u8.wrap n_4_1) ||| BitVec.ofInt (IntKind.u8).bits 128).toNat)))] 5) fun b28 F=>
  Ap 22 #[(Sl.v v_24),(Sl.v (Sb b28 1))] F fun v_29 F=>
  sto F (Addr.add c0a__2 1) (Sl.v v_29) fun F=>
  N2 (Int.fdiv n_4_1 (2 ^ (min (Int.toNat 7) (IntKind.i64).bits))) F) (
  yA c0a__2 n_4_1 R F))
def Dr (c_0 p_1:Option Addr) (R:VR) (F:PH):Prop:=
 ∃c0a__2,c_0=some c0a__2∧Li F c0a__2 fun v_11=>
 (Bc (v_11=0) (
  ∃p1a__1,p_1=some p1a__1∧Li F p1a__1 fun v_15=>
  (Lp v_15 F fun N n_4_1 F=>
   yB N c0a__2 R n_4_1 F)) (
  yz (some c0a__2) p_1 R F))
theorem Hf {c_0:Option Addr} {p_1:Option Addr} (h:Dr c_0 p_1 R F):ac prog 125 #[(.pointer c_0),(.pointer p_1)] F R:=Rx.sxC (args:=[(.pointer c_0),(.pointer p_1)]) (.J false [(0,.ptr)] (.T .N (.T (.T .N (.J false [(4,.int .i64)] (.L [(4,.int .i64)] .N) .N)) .N)) (.T .N (.J false [(0,.ptr)] (.T .N (.L [(5,.int .i64),(6,.int .i64)] (.T .N (.T (.T .N (.T .N (.T .N (.T .N (.T (.J false [] .N .N) .N))))) .N)))) .N))) (by kernel_rfl) h
def yC (N1:Int→PH→Prop) (c0a_ l1a_:Addr) (one_2:Value) (v_14 i_7:Int) (R:VR) (F:PH):Prop:=
 N1 (IntKind.i64.wrap (i_7+1)) F
def kz (N1:Int→PH→Prop) (c_0:Option Addr) (l1a_:Addr) (one_2:Value) (v_14:Int) (R:VR) (i_7:Int) (F:PH):Prop:=
 (Bc (i_7<v_14) (
  ∃c0a_,c_0=some c0a_∧Lb F (Addr.add c0a_ 3) fun v_22=>
  (Bb ((!v_22)) (
   Li F c0a_ fun v_30=>
   (Bc (v_30=0) (
    Ls F l1a_ fun v_35=>
    Ix v_35 i_7 fun a37_=>
    Fn one_2 fun k38 fst38 cap38=>ac prog k38 (fst38++([(Value.pointer (some (Addr.add a37_ (Int.toNat i_7*4))))]).toArray++cap38) F fun v F=>v=(Value.tuple #[])∧
    yC N1 c0a_ l1a_ one_2 v_14 i_7 R F) (
    Nb F (.cells zL 72) fun b8 F=>
    Fn one_2 fun k40 fst40 cap40=>ac prog k40 (fst40++([(Value.pointer (some (Am b8 0)))]).toArray++cap40) F fun v F=>v=(Value.tuple #[])∧
    Ls F l1a_ fun v_44=>
    Lr F 4 (Am b8 0) fun v_45=>
    v_45.size=4∧Nb F (.cells v_45 72) fun b46 F=>
    Ap 36 #[(Sl.v v_44),(Sl.v (Sb b46 1))] F fun v_47 F=>
    sto F l1a_ (Sl.v v_47) fun F=>
    yC N1 c0a_ l1a_ one_2 v_14 i_7 R F))) (
   R (.tuple #[]) F))) (
  R (.tuple #[]) F))
def Nn (c_0 l_1:Option Addr) (one_2:Value) (R:VR) (F:PH):Prop:=
 ∃l1a_,l_1=some l1a_∧Ls F l1a_ fun v_12=>
 Ci 178 #[(.pointer c_0),(.int .i64 (v_12.len:Int))] F fun v_14 F=>
 (Lp 0 F fun N i_7 F=>
  kz N c_0 l1a_ one_2 v_14 R i_7 F)
theorem No {c_0:Option Addr} {l_1:Option Addr} {one_2:Value} (h:Nn c_0 l_1 one_2 R F):ac prog 126 #[(.pointer c_0),(.pointer l_1),one_2] F R:=Rx.sxC (args:=[(.pointer c_0),(.pointer l_1),one_2]) (.T .N (.T .N (.L [(7,.int .i64)] (.T .N (.J false [] .N .N))))) (by kernel_rfl) h
def Ds (c_0 l_1:Option Addr) (R:VR) (F:PH):Prop:=
 ∃l1a_,l_1=some l1a_∧Cu 189 #[(.pointer c_0),(.pointer (some l1a_)),(.func (.func 125) #[(.pointer c_0)] #[])] F fun F=>
 Cu 125 #[(.pointer c_0),(.pointer (some (Addr.add l1a_ 1)))] F fun F=>
 Cu 120 #[(.pointer c_0),(.pointer (some (Addr.add l1a_ 2)))] F fun F=>
 R (.tuple #[]) F
theorem Hg {c_0:Option Addr} {l_1:Option Addr} (h:Ds c_0 l_1 R F):ac prog 127 #[(.pointer c_0),(.pointer l_1)] F R:=Rx.sxC (args:=[(.pointer c_0),(.pointer l_1)]) .N (by kernel_rfl) h
def yD (N1:Int→PH→Prop) (c0a_ l1a_:Addr) (one_2:Value) (v_14 i_7:Int) (R:VR) (F:PH):Prop:=
 N1 (IntKind.i64.wrap (i_7+1)) F
def kA (N1:Int→PH→Prop) (c_0:Option Addr) (l1a_:Addr) (one_2:Value) (v_14:Int) (R:VR) (i_7:Int) (F:PH):Prop:=
 (Bc (i_7<v_14) (
  ∃c0a_,c_0=some c0a_∧Lb F (Addr.add c0a_ 3) fun v_22=>
  (Bb ((!v_22)) (
   Li F c0a_ fun v_30=>
   (Bc (v_30=0) (
    Ls F l1a_ fun v_35=>
    Ix v_35 i_7 fun a37_=>
    Fn one_2 fun k38 fst38 cap38=>ac prog k38 (fst38++([(Value.pointer (some (Addr.add a37_ (Int.toNat i_7*9))))]).toArray++cap38) F fun v F=>v=(Value.tuple #[])∧
    yD N1 c0a_ l1a_ one_2 v_14 i_7 R F) (
    Nb F (.cells zF 74) fun b8 F=>
    Fn one_2 fun k40 fst40 cap40=>ac prog k40 (fst40++([(Value.pointer (some (Am b8 0)))]).toArray++cap40) F fun v F=>v=(Value.tuple #[])∧
    Ls F l1a_ fun v_44=>
    Lr F 9 (Am b8 0) fun v_45=>
    v_45.size=9∧Nb F (.cells v_45 74) fun b46 F=>
    Ap 37 #[(Sl.v v_44),(Sl.v (Sb b46 1))] F fun v_47 F=>
    sto F l1a_ (Sl.v v_47) fun F=>
    yD N1 c0a_ l1a_ one_2 v_14 i_7 R F))) (
   R (.tuple #[]) F))) (
  R (.tuple #[]) F))
def Np (c_0 l_1:Option Addr) (one_2:Value) (R:VR) (F:PH):Prop:=
 ∃l1a_,l_1=some l1a_∧Ls F l1a_ fun v_12=>
 Ci 178 #[(.pointer c_0),(.int .i64 (v_12.len:Int))] F fun v_14 F=>
 (Lp 0 F fun N i_7 F=>
  kA N c_0 l1a_ one_2 v_14 R i_7 F)
theorem Nq {c_0:Option Addr} {l_1:Option Addr} {one_2:Value} (h:Np c_0 l_1 one_2 R F):ac prog 128 #[(.pointer c_0),(.pointer l_1),one_2] F R:=Rx.sxC (args:=[(.pointer c_0),(.pointer l_1),one_2]) (.T .N (.T .N (.L [(7,.int .i64)] (.T .N (.J false [] .N .N))))) (by kernel_rfl) h
def td (c_0 f_1:Option Addr) (R:VR) (F:PH):Prop:=
 ∃f1a_,f_1=some f1a_∧Cu 189 #[(.pointer c_0),(.pointer (some (Addr.add f1a_ 6))),(.func (.func 125) #[(.pointer c_0)] #[])] F fun F=>
 Cu 120 #[(.pointer c_0),(.pointer (some (Addr.add f1a_ 7)))] F fun F=>
 R (.tuple #[]) F
def kB (N1:Int→PH→Prop) (c_0:Option Addr) (f1a__1:Addr) (b27:Nat) (R:VR) (v_29:Int) (F:PH):Prop:=
 (Bc (v_29<((Sb b27 6).len:Int)) (
  Ix (Sb b27 6) v_29 fun a31_=>
  Lq F (Addr.add a31_ (Int.toNat v_29*1)) fun v_32=>
  Cu 125 #[(.pointer c_0),(.pointer v_32)] F fun F=>
  N1 (IntKind.i64.wrap (v_29+1)) F) (
  td c_0 (some f1a__1) R F))
def Dt (c_0 f_1:Option Addr) (R:VR) (F:PH):Prop:=
 ∃f1a__1,f_1=some f1a__1∧Nb F (.cells #[(.pointer (some f1a__1)),(.pointer (some (Addr.add f1a__1 1))),(.pointer (some (Addr.add f1a__1 2))),(.pointer (some (Addr.add f1a__1 3))),(.pointer (some (Addr.add f1a__1 4))),(.pointer (some (Addr.add f1a__1 5)))] 189) fun b27 F=>
 (Lp 0 F fun N v_29 F=>
  kB N c_0 f1a__1 b27 R v_29 F)
theorem Hh {c_0:Option Addr} {f_1:Option Addr} (h:Dt c_0 f_1 R F):ac prog 129 #[(.pointer c_0),(.pointer f_1)] F R:=Rx.sxC (args:=[(.pointer c_0),(.pointer f_1)]) (.T .N (.J false [(1,.ptr)] (.T .N (.L [(29,.int .i64)] .N)) .N)) (by kernel_rfl) h
def Hi (p_0:Array Value) (R:VR) (F:PH):Prop:=
 Nb F (.cells p_0 67) fun b1 F=>
 Ls F (Am b1 2) fun v_4=>
 Ls F (Am b1 7) fun v_7=>
 R (.bool (decide ((16:Int)<(max (v_4.len:Int) (v_7.len:Int))))) F
theorem Nr {p_0:Array Value} (h:Hi p_0 R F):ac prog 146 #[(.agg p_0)] F R:=Rx.sxC (args:=[(.agg p_0)]) .N (by kernel_rfl) h
def Hj (R:VR) (F:PH):Prop:=
 Nb F (.map #[] 0) fun b2 F=>
 aE prog (Instr.mapUpdate 268 (.map (some b2)) (.string ⟨#[]⟩) (.bool true)) F fun _ F=>
 Nb F (.cells (#[.map none]) 268) fun b1 F=>
 sto F (Am b1 0) (.map (some b2)) fun F=>
 R (.func (.func 198) #[] #[(.pointer (some (Am b1 0)))]) F
theorem Ns (h:Hj R F):ac prog 147 #[] F R:=Rx.sxC (args:=[]) .N (by kernel_rfl) h
def yF (s_0:ByteArray) (R:VR) (F:PH):Prop:=
 R (.bool (!(s_0.toList==(ByteArray.mk #[]).toList))) F
def nu (N1:Int→PH→Prop) (s_0:ByteArray) (v_8:Int) (R:VR) (F:PH):Prop:=
 N1 (IntKind.i64.wrap (v_8+1)) F
def eQ (N1:Int→PH→Prop) (s_0:ByteArray) (v_8 v_13:Int) (letter_5:Bool) (R:VR) (F:PH):Prop:=
 (Bb ((!letter_5)) (
  (Bc (v_8=0) (
   R (.bool false) F) (
   (Bc (v_13<48) (
    R (.bool false) F) (
    (Bc (57<v_13) (
     R (.bool false) F) (
     nu N1 s_0 v_8 R F))))))) (
  nu N1 s_0 v_8 R F))
def te (N1:Int→PH→Prop) (s_0:ByteArray) (R:VR) (v_8:Int) (F:PH):Prop:=
 (Bc (v_8<(s_0.size:Int)) (
  0≤v_8∧v_8<(s_0.size:Int)∧
  ∃(hx:Int.toNat v_8<s_0.size) (v_13:Int),v_13=((s_0[Int.toNat v_8]'hx).toNat:Int)∧
  (Bc (97≤v_13) (
   (Bc (v_13≤(122:Int)) (
    eQ N1 s_0 v_8 v_13 true R F) (
    (Bc (65≤v_13) (
     (Bc (v_13≤(90:Int)) (
      eQ N1 s_0 v_8 v_13 true R F) (
      eQ N1 s_0 v_8 v_13 (decide (v_13=95)) R F))) (
     eQ N1 s_0 v_8 v_13 (decide (v_13=95)) R F))))) (
   (Bc (65≤v_13) (
    (Bc (v_13≤(90:Int)) (
     eQ N1 s_0 v_8 v_13 true R F) (
     eQ N1 s_0 v_8 v_13 (decide (v_13=95)) R F))) (
    eQ N1 s_0 v_8 v_13 (decide (v_13=95)) R F))))) (
  yF s_0 R F))
def Hk (s_0:ByteArray) (R:VR) (F:PH):Prop:=
 (Lp 0 F fun N v_8 F=>
  te N s_0 R v_8 F)
theorem Nt {s_0:ByteArray} (h:Hk s_0 R F):ac prog 148 #[(.string s_0)] F R:=Rx.sxC (args:=[(.string s_0)]) (.T .N (.J false [] (.T .N (.L [(8,.int .i64)] (.T .N (.T .N (.J false [] (.T .N (.T .N (.J false [(5,.bool)] .N .N))) .N))))) .N)) (by kernel_rfl) h
def Hl (d_0:Array Value) (n_1:Int) (R:VR) (F:PH):Prop:=
 Nb F (.cells d_0 33) fun b2 F=>
 Nb F (.cells #[(.int .i64 n_1)] 3) fun b3 F=>
 Lr F 2 (Am b2 0) fun v_5=>
 Ci 99 #[(.agg v_5)] F fun v_6 F=>
 (Bc (v_6≠0) (
  R (.bool false) F) (
  Ls F (Am b2 0) fun v_9=>
  Cbo 199 #[(Sl.v v_9),(.func (.func 200) #[] #[(.pointer (some (Am b3 0)))])] F fun v_11 F=>
  R (.bool (!v_11)) F))
theorem Nu {d_0:Array Value} {n_1:Int} (h:Hl d_0 n_1 R F):ac prog 149 #[(.agg d_0),(.int .i64 n_1)] F R:=Rx.sxC (args:=[(.agg d_0),(.int .i64 n_1)]) .N (by kernel_rfl) h
def Hm (s_0:Array Value) (v_1:Option Addr) (R:VR) (F:PH):Prop:=
 Nb F (.cells s_0 69) fun b2 F=>
 ∃v1a_,v_1=some v1a_∧Lr F 9 v1a_ fun v_4=>
 Lr F 2 (Am b2 0) fun v_5=>
 Cbo 153 #[(.agg v_4),(.agg v_5)] F fun v_6 F=>
 R (.bool (!v_6)) F
theorem Nv {s_0:Array Value} {v_1:Option Addr} (h:Hm s_0 v_1 R F):ac prog 152 #[(.agg s_0),(.pointer v_1)] F R:=Rx.sxC (args:=[(.agg s_0),(.pointer v_1)]) .N (by kernel_rfl) h
def Hn (g_0 s_1:Array Value) (R:VR) (F:PH):Prop:=
 Nb F (.cells g_0 39) fun b2 F=>
 Nb F (.cells s_1 69) fun b3 F=>
 Lb F (Am b3 0) fun v_6=>
 (Bb ((!v_6)) (
  Li F (Am b3 1) fun v_9=>
  (Bc (0≤v_9) (
   Li F (Am b3 1) fun v_13=>
   Ls F (Am b2 4) fun v_15=>
   R (.bool (decide (v_13<(v_15.len:Int)))) F) (
   R (.bool false) F))) (
  Li F (Am b3 1) fun v_20=>
  (Bc (0≤v_20) (
   Li F (Am b3 1) fun v_24=>
   Ls F (Am b2 3) fun v_26=>
   (Bc (v_24<(v_26.len:Int)) (
    Ls F (Am b2 3) fun v_32=>
    Li F (Am b3 1) fun v_34=>
    Ix v_32 v_34 fun a35_=>
    Li F (Addr.add (Addr.add a35_ (Int.toNat v_34*7)) 1) fun v_37=>
    R (.bool (decide (v_37=0))) F) (
    R (.bool false) F))) (
   R (.bool false) F))))
theorem Nw {g_0:Array Value} {s_1:Array Value} (h:Hn g_0 s_1 R F):ac prog 153 #[(.agg g_0),(.agg s_1)] F R:=Rx.sxC (args:=[(.agg g_0),(.agg s_1)]) .N (by kernel_rfl) h
def yG (b1:Nat) (R:VR) (F:PH):Prop:=
 Lr F 5 (Am b1 8) fun v_51=>
 Nb F (.cells (#[.bool false,.int .i64 0,.int .i64 0,.int .i64 0,.int .i64 0]) 65) fun b7 F=>
 aA F (Am b7 0) 5 v_51 fun F=>
 Li F (Am b7 1) fun v_54=>
 Li F (Am b7 2) fun v_56=>
 Cbo 208 #[(.int .i64 v_54),(.int .i64 v_56),(.int .i64 1),(.int .i64 7),(.pointer (some (Am b1 0)))] F fun v_57 F=>
 (Bb ((!v_57)) (
  R (.bool false) F) (
  Li F (Am b7 3) fun v_62=>
  Li F (Am b7 4) fun v_64=>
  Cbo 208 #[(.int .i64 v_62),(.int .i64 v_64),(.int .i64 0),(.int .i64 255),(.pointer (some (Am b1 0)))] F fun v_65 F=>
  (Bb ((!v_65)) (
   R (.bool false) F) (
   Lb F (Am b1 5) fun v_69=>
   (Bb ((!v_69)) (
    R (.bool true) F) (
    Ls F (Am b1 2) fun v_72=>
    (Bc ((v_72.len:Int)≠3) (
     R (.bool false) F) (
     Li F (Am b1 6) fun v_77=>
     (Bc (v_77≠0) (
      R (.bool false) F) (
      Ls F (Am b1 7) fun v_82=>
      (Bc ((0:Int)<(v_82.len:Int)) (
       R (.bool false) F) (
       Lr F 5 (Am b7 0) fun v_87=>
       ∃v_89,(∀F,rdo prog (Op.equal 65 (.agg v_87) (.agg (#[.bool false,.int .i64 0,.int .i64 0,.int .i64 0,.int .i64 0]:Array Value))) F v_89)∧
       (Bb ((!v_89)) (
        R (.bool false) F) (
        Ls F (Am b1 2) fun v_92=>
        Ix v_92 0 fun a93_=>
        Lb F (Addr.add a93_ (Int.toNat 0*2)) fun v_95=>
        (Bb (v_95) (
         Ls F (Am b1 2) fun v_98=>
         Ix v_98 1 fun a99_=>
         Lr F 2 (Addr.add a99_ (Int.toNat 1*2)) fun v_100=>
         Li F (Am b1 1) fun v_102=>
         ∃v_104,(∀F,rdo prog (Op.equal 69 (.agg v_100) (.agg (#[.bool false,(.int .i64 v_102)]:Array Value))) F v_104)∧
         (Bb (v_104) (
          Ls F (Am b1 2) fun v_108=>
          Ix v_108 2 fun a109_=>
          Lb F (Addr.add a109_ (Int.toNat 2*2)) fun v_111=>
          R (.bool v_111) F) (
          R (.bool false) F))) (
         R (.bool false) F))))))))))))))))
def ny (N1:Int→PH→Prop) (b1:Nat) (v_9:Sl) (v_11:Int) (R:VR) (F:PH):Prop:=
 N1 (IntKind.i64.wrap (v_11+1)) F
def tf (N1:Int→PH→Prop) (b1:Nat) (v_9:Sl) (R:VR) (v_11:Int) (F:PH):Prop:=
 (Bc (v_11<(v_9.len:Int)) (
  Ix v_9 v_11 fun a13_=>
  Lr F 3 (Addr.add a13_ (Int.toNat v_11*3)) fun v_14=>
  Nb F (.cells (#[.int .i64 0,.int .i64 0,.int .i64 0]) 101) fun b4 F=>
  aA F (Am b4 0) 3 v_14 fun F=>
  Li F (Am b4 0) fun v_17=>
  (Bc (v_17<1) (
   R (.bool false) F) (
   Li F (Am b4 0) fun v_21=>
   (Bc (4<v_21) (
    R (.bool false) F) (
    Li F (Am b4 1) fun v_27=>
    Cbo 207 #[(.int .i64 v_27),(.pointer (some (Am b1 0)))] F fun v_28 F=>
    (Bb ((!v_28)) (
     R (.bool false) F) (
     Li F (Am b4 2) fun v_34=>
     Cbo 207 #[(.int .i64 v_34),(.pointer (some (Am b1 0)))] F fun v_35 F=>
     (Bb ((!v_35)) (
      R (.bool false) F) (
      Li F (Am b4 0) fun v_40=>
      (Bc (v_40=1) (
       Li F (Am b4 2) fun v_44=>
       (Bc (v_44≠0) (
        R (.bool false) F) (
        ny N1 b1 v_9 v_11 R F))) (
       ny N1 b1 v_9 v_11 R F))))))))))) (
  yG b1 R F))
def Ho (p_0:Array Value) (R:VR) (F:PH):Prop:=
 Nb F (.cells p_0 67) fun b1 F=>
 Ls F (Am b1 7) fun v_9=>
 (Lp 0 F fun N v_11 F=>
  tf N b1 v_9 R v_11 F)
theorem Ny {p_0:Array Value} (h:Ho p_0 R F):ac prog 155 #[(.agg p_0)] F R:=Rx.sxC (args:=[(.agg p_0)]) (.T .N (.J false [] (.T .N (.L [(11,.int .i64)] (.T .N (.T .N (.J false [] .N .N))))) .N)) (by kernel_rfl) h
def Hp (t_0:Array Value) (R:VR) (F:PH):Prop:=
 Nb F (.cells t_0 79) fun b1 F=>
 Li F (Am b1 1) fun v_4=>
 R (.bool (decide (v_4=0))) F
theorem Nz {t_0:Array Value} (h:Hp t_0 R F):ac prog 156 #[(.agg t_0)] F R:=Rx.sxC (args:=[(.agg t_0)]) .N (by kernel_rfl) h
def Hq (t_0:Array Value) (R:VR) (F:PH):Prop:=
 Nb F (.cells t_0 79) fun b1 F=>
 Lx F (Am b1 2) fun v_4=>
 R (.bool (!(v_4.toList==(ByteArray.mk #[]).toList))) F
theorem NA {t_0:Array Value} (h:Hq t_0 R F):ac prog 157 #[(.agg t_0)] F R:=Rx.sxC (args:=[(.agg t_0)]) .N (by kernel_rfl) h
def Hr (g_0 f_1:Array Value) (R:VR) (F:PH):Prop:=
 Nb F (.cells g_0 39) fun b2 F=>
 Nb F (.cells f_1 74) fun b3 F=>
 Li F (Am b3 1) fun v_7=>
 (Bc (v_7<0) (
  R (.bool false) F) (
  Li F (Am b3 1) fun v_11=>
  Ls F (Am b2 5) fun v_13=>
  (Bc ((v_13.len:Int)≤v_11) (
   R (.bool false) F) (
   Li F (Am b3 3) fun v_19=>
   (Bc (v_19<0) (
    R (.bool false) F) (
    Li F (Am b3 3) fun v_24=>
    Ls F (Am b2 5) fun v_26=>
    (Bc ((v_26.len:Int)≤v_24) (
     R (.bool false) F) (
     Ls F (Am b2 5) fun v_31=>
     Li F (Am b3 1) fun v_33=>
     Ix v_31 v_33 fun a34_=>
     Ls F (Addr.add (Addr.add a34_ (Int.toNat v_33*13)) 2) fun v_36=>
     Li F (Am b3 2) fun v_38=>
     (Bc (0≤v_38) (
      Li F (Am b3 2) fun v_42=>
      (Bc (v_42<(v_36.len:Int)) (
       Li F (Am b3 2) fun v_50=>
       Ix v_36 v_50 fun a51_=>
       Lr F 2 (Addr.add a51_ (Int.toNat v_50*2)) fun v_52=>
       Ls F (Am b2 5) fun v_54=>
       Li F (Am b3 3) fun v_56=>
       Ix v_54 v_56 fun a57_=>
       Li F (Addr.add (Addr.add a57_ (Int.toNat v_56*13)) 1) fun v_59=>
       ∃v_61,(∀F,rdo prog (Op.equal 69 (.agg v_52) (.agg (#[.bool false,(.int .i64 v_59)]:Array Value))) F v_61)∧
       R (.bool v_61) F) (
       R (.bool false) F))) (
      R (.bool false) F))))))))))
theorem NB {g_0:Array Value} {f_1:Array Value} (h:Hr g_0 f_1 R F):ac prog 158 #[(.agg g_0),(.agg f_1)] F R:=Rx.sxC (args:=[(.agg g_0),(.agg f_1)]) .N (by kernel_rfl) h
def yH (l_1:Sl) (R:VR) (F:PH):Prop:=
 R (.bool (decide ((0:Int)<(l_1.len:Int)))) F
def nz (N1:Int→PH→Prop) (l_1:Sl) (kind_2:Value) (b3:Nat) (v_11:Int) (R:VR) (F:PH):Prop:=
 N1 (IntKind.i64.wrap (v_11+1)) F
def tg (N1:Int→PH→Prop) (l_1:Sl) (kind_2:Value) (b3:Nat) (R:VR) (v_11:Int) (F:PH):Prop:=
 (Bc (v_11<(l_1.len:Int)) (
  Ix l_1 v_11 fun a14_=>
  Li F (Addr.add a14_ (Int.toNat v_11*1)) fun v_15=>
  (Bc (v_15<0) (
   R (.bool false) F) (
   Ls F (Am b3 3) fun v_21=>
   (Bc ((v_21.len:Int)≤v_15) (
    R (.bool false) F) (
    (Bc (0<v_11) (
     Ix l_1 (IntKind.i64.wrap (v_11 - 1)) fun a33_=>
     ∃v_34,F.cell (Addr.add a33_ (Int.toNat (IntKind.i64.wrap (v_11 - 1))*1))=some (.int .i64 v_34)∧
     (Bc (v_15≤v_34) (
      R (.bool false) F) (
      Ls F (Am b3 3) fun v_41=>
      Ix v_41 v_15 fun a43_=>
      Lr F 7 (Addr.add a43_ (Int.toNat v_15*7)) fun v_44=>
      Fn kind_2 fun k45 fst45 cap45=>ac prog k45 (fst45++([(Value.agg v_44)]).toArray++cap45) F fun v F=>∃v_45,v=(Value.bool v_45)∧
      (Bb ((!v_45)) (
       R (.bool false) F) (
       nz N1 l_1 kind_2 b3 v_11 R F))))) (
     Ls F (Am b3 3) fun v_41_1=>
     Ix v_41_1 v_15 fun a43__1=>
     Lr F 7 (Addr.add a43__1 (Int.toNat v_15*7)) fun v_44_1=>
     Fn kind_2 fun k45 fst45 cap45=>ac prog k45 (fst45++([(Value.agg v_44_1)]).toArray++cap45) F fun v F=>∃v_45_1,v=(Value.bool v_45_1)∧
     (Bb ((!v_45_1)) (
      R (.bool false) F) (
      nz N1 l_1 kind_2 b3 v_11 R F))))))))) (
  yH l_1 R F))
def Ht (g_0:Array Value) (l_1:Sl) (kind_2:Value) (R:VR) (F:PH):Prop:=
 Nb F (.cells g_0 39) fun b3 F=>
 (Lp 0 F fun N v_11 F=>
  tg N l_1 kind_2 b3 R v_11 F)
theorem NC {g_0:Array Value} {l_1:Sl} {kind_2:Value} (h:Ht g_0 l_1 kind_2 R F):ac prog 159 #[(.agg g_0),(Sl.v l_1),kind_2] F R:=Rx.sxC (args:=[(.agg g_0),(Sl.v l_1),kind_2]) (.T .N (.J false [] (.T .N (.L [(11,.int .i64)] (.T .N (.T .N (.J false [] .N .N))))) .N)) (by kernel_rfl) h
def gC (c_0:Option Addr) (b3:Nat) (v_31:Bool) (R:VR) (F:PH):Prop:=
 (Bb (v_31) (
  ∃c0a_,c_0=some c0a_∧sto F (Addr.add c0a_ 3) (.bool true) fun F=>
  R (.int .i64 0) F) (
  Li F (Am b3 0) fun v_35=>
  R (.int .i64 v_35) F))
def Du (c_0:Option Addr) (n_1:Int) (R:VR) (F:PH):Prop:=
 Nb F (.cells #[(.int .i64 n_1)] 3) fun b3 F=>
 Cu 125 #[(.pointer c_0),(.pointer (some (Am b3 0)))] F fun F=>
 ∃c0a__1,c_0=some c0a__1∧Li F c0a__1 fun v_10=>
 (Bc (v_10=1) (
  Lb F (Addr.add c0a__1 3) fun v_16=>
  (Bb (v_16) (
   gC (some c0a__1) b3 true R F) (
   Li F (Am b3 0) fun v_18=>
   Ls F (Addr.add c0a__1 1) fun v_22=>
   Li F (Addr.add c0a__1 2) fun v_27=>
   gC (some c0a__1) b3 (decide ((IntKind.i64.wrap ((v_22.len:Int) - v_27))<v_18)) R F))) (
  gC (some c0a__1) b3 false R F))
theorem Hu {c_0:Option Addr} {n_1:Int} (h:Du c_0 n_1 R F):ac prog 178 #[(.pointer c_0),(.int .i64 n_1)] F R:=Rx.sxC (args:=[(.pointer c_0),(.int .i64 n_1)]) (.T .N (.T .N (.T (.J false [(0,.ptr),(31,.bool)] .N .N) .N))) (by kernel_rfl) h
def yI (N1:Int→PH→Prop) (c0a_ l1a_:Addr) (one_2:Value) (v_14 i_7:Int) (R:VR) (F:PH):Prop:=
 N1 (IntKind.i64.wrap (i_7+1)) F
def kC (N1:Int→PH→Prop) (c_0:Option Addr) (l1a_:Addr) (one_2:Value) (v_14:Int) (R:VR) (i_7:Int) (F:PH):Prop:=
 (Bc (i_7<v_14) (
  ∃c0a_,c_0=some c0a_∧Lb F (Addr.add c0a_ 3) fun v_22=>
  (Bb ((!v_22)) (
   Li F c0a_ fun v_30=>
   (Bc (v_30=0) (
    Ls F l1a_ fun v_35=>
    Ix v_35 i_7 fun a37_=>
    Fn one_2 fun k38 fst38 cap38=>ac prog k38 (fst38++([(Value.pointer (some (Addr.add a37_ (Int.toNat i_7*3))))]).toArray++cap38) F fun v F=>v=(Value.tuple #[])∧
    yI N1 c0a_ l1a_ one_2 v_14 i_7 R F) (
    Nb F (.cells (#[.int .i64 0,.int .i64 0,.int .i64 0]) 103) fun b8 F=>
    Fn one_2 fun k40 fst40 cap40=>ac prog k40 (fst40++([(Value.pointer (some (Am b8 0)))]).toArray++cap40) F fun v F=>v=(Value.tuple #[])∧
    Ls F l1a_ fun v_44=>
    Lr F 3 (Am b8 0) fun v_45=>
    v_45.size=3∧Nb F (.cells v_45 103) fun b46 F=>
    Ap 31 #[(Sl.v v_44),(Sl.v (Sb b46 1))] F fun v_47 F=>
    sto F l1a_ (Sl.v v_47) fun F=>
    yI N1 c0a_ l1a_ one_2 v_14 i_7 R F))) (
   R (.tuple #[]) F))) (
  R (.tuple #[]) F))
def ND (c_0 l_1:Option Addr) (one_2:Value) (R:VR) (F:PH):Prop:=
 ∃l1a_,l_1=some l1a_∧Ls F l1a_ fun v_12=>
 Ci 178 #[(.pointer c_0),(.int .i64 (v_12.len:Int))] F fun v_14 F=>
 (Lp 0 F fun N i_7 F=>
  kC N c_0 l1a_ one_2 v_14 R i_7 F)
theorem NE {c_0:Option Addr} {l_1:Option Addr} {one_2:Value} (h:ND c_0 l_1 one_2 R F):ac prog 179 #[(.pointer c_0),(.pointer l_1),one_2] F R:=Rx.sxC (args:=[(.pointer c_0),(.pointer l_1),one_2]) (.T .N (.T .N (.L [(7,.int .i64)] (.T .N (.J false [] .N .N))))) (by kernel_rfl) h
def Dv (b_0 v_1:Option Addr) (R:VR) (F:PH):Prop:=
 ∃v1a_,v_1=some v1a_∧Lq F v1a_ fun v_3=>
 ∃b0a_,b_0=some b0a_∧Nb F (.cells #[(.pointer (some b0a_)),(.pointer (some (Addr.add b0a_ 1))),(.pointer (some (Addr.add b0a_ 2)))] 189) fun b13 F=>
 Cu 181 #[(.pointer v_3),(Sl.v (Sb b13 3))] F fun F=>
 R (.tuple #[]) F
theorem Hv {b_0:Option Addr} {v_1:Option Addr} (h:Dv b_0 v_1 R F):ac prog 180 #[(.pointer b_0),(.pointer v_1)] F R:=Rx.sxC (args:=[(.pointer b_0),(.pointer v_1)]) .N (by kernel_rfl) h
def kD (N1:Int→PH→Prop) (c_0:Option Addr) (l_1:Sl) (R:VR) (v_8:Int) (F:PH):Prop:=
 (Bc (v_8<(l_1.len:Int)) (
  Ix l_1 v_8 fun a10_=>
  Lq F (Addr.add a10_ (Int.toNat v_8*1)) fun v_11=>
  Cu 125 #[(.pointer c_0),(.pointer v_11)] F fun F=>
  N1 (IntKind.i64.wrap (v_8+1)) F) (
  R (.tuple #[]) F))
def Dw (c_0:Option Addr) (l_1:Sl) (R:VR) (F:PH):Prop:=
 (Lp 0 F fun N v_8 F=>
  kD N c_0 l_1 R v_8 F)
theorem Hw {c_0:Option Addr} {l_1:Sl} (h:Dw c_0 l_1 R F):ac prog 181 #[(.pointer c_0),(Sl.v l_1)] F R:=Rx.sxC (args:=[(.pointer c_0),(Sl.v l_1)]) (.T .N (.L [(8,.int .i64)] .N)) (by kernel_rfl) h
def yJ (N1:Int→PH→Prop) (c0a_ l1a_:Addr) (one_2:Value) (v_14 i_7:Int) (R:VR) (F:PH):Prop:=
 N1 (IntKind.i64.wrap (i_7+1)) F
def kE (N1:Int→PH→Prop) (c_0:Option Addr) (l1a_:Addr) (one_2:Value) (v_14:Int) (R:VR) (i_7:Int) (F:PH):Prop:=
 (Bc (i_7<v_14) (
  ∃c0a_,c_0=some c0a_∧Lb F (Addr.add c0a_ 3) fun v_22=>
  (Bb ((!v_22)) (
   Li F c0a_ fun v_30=>
   (Bc (v_30=0) (
    Ls F l1a_ fun v_35=>
    Ix v_35 i_7 fun a37_=>
    Fn one_2 fun k38 fst38 cap38=>ac prog k38 (fst38++([(Value.pointer (some (Addr.add a37_ (Int.toNat i_7*5))))]).toArray++cap38) F fun v F=>v=(Value.tuple #[])∧
    yJ N1 c0a_ l1a_ one_2 v_14 i_7 R F) (
    Nb F (.cells (#[.int .i64 0,.int .i64 0,.int .i64 0,.int .i64 0,.int .i64 0]) 97) fun b8 F=>
    Fn one_2 fun k40 fst40 cap40=>ac prog k40 (fst40++([(Value.pointer (some (Am b8 0)))]).toArray++cap40) F fun v F=>v=(Value.tuple #[])∧
    Ls F l1a_ fun v_44=>
    Lr F 5 (Am b8 0) fun v_45=>
    v_45.size=5∧Nb F (.cells v_45 97) fun b46 F=>
    Ap 77 #[(Sl.v v_44),(Sl.v (Sb b46 1))] F fun v_47 F=>
    sto F l1a_ (Sl.v v_47) fun F=>
    yJ N1 c0a_ l1a_ one_2 v_14 i_7 R F))) (
   R (.tuple #[]) F))) (
  R (.tuple #[]) F))
def NF (c_0 l_1:Option Addr) (one_2:Value) (R:VR) (F:PH):Prop:=
 ∃l1a_,l_1=some l1a_∧Ls F l1a_ fun v_12=>
 Ci 178 #[(.pointer c_0),(.int .i64 (v_12.len:Int))] F fun v_14 F=>
 (Lp 0 F fun N i_7 F=>
  kE N c_0 l1a_ one_2 v_14 R i_7 F)
theorem NG {c_0:Option Addr} {l_1:Option Addr} {one_2:Value} (h:NF c_0 l_1 one_2 R F):ac prog 182 #[(.pointer c_0),(.pointer l_1),one_2] F R:=Rx.sxC (args:=[(.pointer c_0),(.pointer l_1),one_2]) (.T .N (.T .N (.L [(7,.int .i64)] (.T .N (.J false [] .N .N))))) (by kernel_rfl) h
def Dx (x_0 v_1:Option Addr) (R:VR) (F:PH):Prop:=
 ∃v1a_,v_1=some v1a_∧Lq F v1a_ fun v_3=>
 ∃x0a_,x_0=some x0a_∧Nb F (.cells #[(.pointer (some x0a_)),(.pointer (some (Addr.add x0a_ 1))),(.pointer (some (Addr.add x0a_ 2))),(.pointer (some (Addr.add x0a_ 3))),(.pointer (some (Addr.add x0a_ 4)))] 189) fun b19 F=>
 Cu 181 #[(.pointer v_3),(Sl.v (Sb b19 5))] F fun F=>
 R (.tuple #[]) F
theorem Hx {x_0:Option Addr} {v_1:Option Addr} (h:Dx x_0 v_1 R F):ac prog 183 #[(.pointer x_0),(.pointer v_1)] F R:=Rx.sxC (args:=[(.pointer x_0),(.pointer v_1)]) .N (by kernel_rfl) h
def yK (N1:Int→PH→Prop) (c0a_ l1a_:Addr) (one_2:Value) (v_14 i_7:Int) (R:VR) (F:PH):Prop:=
 N1 (IntKind.i64.wrap (i_7+1)) F
def kF (N1:Int→PH→Prop) (c_0:Option Addr) (l1a_:Addr) (one_2:Value) (v_14:Int) (R:VR) (i_7:Int) (F:PH):Prop:=
 (Bc (i_7<v_14) (
  ∃c0a_,c_0=some c0a_∧Lb F (Addr.add c0a_ 3) fun v_22=>
  (Bb ((!v_22)) (
   Li F c0a_ fun v_30=>
   (Bc (v_30=0) (
    Ls F l1a_ fun v_35=>
    Ix v_35 i_7 fun a37_=>
    Fn one_2 fun k38 fst38 cap38=>ac prog k38 (fst38++([(Value.pointer (some (Addr.add a37_ (Int.toNat i_7*2))))]).toArray++cap38) F fun v F=>v=(Value.tuple #[])∧
    yK N1 c0a_ l1a_ one_2 v_14 i_7 R F) (
    Nb F (.cells (#[.bool false,.int .i64 0]) 69) fun b8 F=>
    Fn one_2 fun k40 fst40 cap40=>ac prog k40 (fst40++([(Value.pointer (some (Am b8 0)))]).toArray++cap40) F fun v F=>v=(Value.tuple #[])∧
    Ls F l1a_ fun v_44=>
    Lr F 2 (Am b8 0) fun v_45=>
    v_45.size=2∧Nb F (.cells v_45 69) fun b46 F=>
    Ap 62 #[(Sl.v v_44),(Sl.v (Sb b46 1))] F fun v_47 F=>
    sto F l1a_ (Sl.v v_47) fun F=>
    yK N1 c0a_ l1a_ one_2 v_14 i_7 R F))) (
   R (.tuple #[]) F))) (
  R (.tuple #[]) F))
def NH (c_0 l_1:Option Addr) (one_2:Value) (R:VR) (F:PH):Prop:=
 ∃l1a_,l_1=some l1a_∧Ls F l1a_ fun v_12=>
 Ci 178 #[(.pointer c_0),(.int .i64 (v_12.len:Int))] F fun v_14 F=>
 (Lp 0 F fun N i_7 F=>
  kF N c_0 l1a_ one_2 v_14 R i_7 F)
theorem NI {c_0:Option Addr} {l_1:Option Addr} {one_2:Value} (h:NH c_0 l_1 one_2 R F):ac prog 184 #[(.pointer c_0),(.pointer l_1),one_2] F R:=Rx.sxC (args:=[(.pointer c_0),(.pointer l_1),one_2]) (.T .N (.T .N (.L [(7,.int .i64)] (.T .N (.J false [] .N .N))))) (by kernel_rfl) h
def Dy (s_0 v_1:Option Addr) (R:VR) (F:PH):Prop:=
 ∃v1a_,v_1=some v1a_∧Lq F v1a_ fun v_3=>
 ∃s0a_,s_0=some s0a_∧Cu 186 #[(.pointer v_3),(.pointer (some s0a_))] F fun F=>
 Lq F v1a_ fun v_8=>
 Cu 125 #[(.pointer v_8),(.pointer (some (Addr.add s0a_ 1)))] F fun F=>
 R (.tuple #[]) F
theorem Hy {s_0:Option Addr} {v_1:Option Addr} (h:Dy s_0 v_1 R F):ac prog 185 #[(.pointer s_0),(.pointer v_1)] F R:=Rx.sxC (args:=[(.pointer s_0),(.pointer v_1)]) .N (by kernel_rfl) h
def nA (p_1:Option Addr) (b4:Nat) (R:VR) (F:PH):Prop:=
 Li F (Am b4 0) fun v_27=>
 ∃p1a_,p_1=some p1a_∧sto F p1a_ (.bool (decide (v_27=1))) fun F=>
 R (.tuple #[]) F
def fe (c_0 p_1:Option Addr) (b4:Nat) (R:VR) (F:PH):Prop:=
 Cu 125 #[(.pointer c_0),(.pointer (some (Am b4 0)))] F fun F=>
 ∃c0a_,c_0=some c0a_∧Li F c0a_ fun v_13=>
 (Bc (v_13=1) (
  Lb F (Addr.add c0a_ 3) fun v_19=>
  (Bb (v_19) (
   sto F (Addr.add c0a_ 3) (.bool true) fun F=>
   nA p_1 b4 R F) (
   Li F (Am b4 0) fun v_21=>
   sto F (Addr.add c0a_ 3) (.bool (decide (1<v_21))) fun F=>
   nA p_1 b4 R F))) (
  R (.tuple #[]) F))
def Dz (c_0 p_1:Option Addr) (R:VR) (F:PH):Prop:=
 Nb F (.cells (#[.int .i64 0]) 3) fun b4 F=>
 sto F (Am b4 0) (.int .i64 0) fun F=>
 ∃p1a__1,p_1=some p1a__1∧Lb F p1a__1 fun v_7=>
 (Bb (v_7) (
  sto F (Am b4 0) (.int .i64 1) fun F=>
  fe c_0 (some p1a__1) b4 R F) (
  fe c_0 (some p1a__1) b4 R F))
theorem Hz {c_0:Option Addr} {p_1:Option Addr} (h:Dz c_0 p_1 R F):ac prog 186 #[(.pointer c_0),(.pointer p_1)] F R:=Rx.sxC (args:=[(.pointer c_0),(.pointer p_1)]) (.T .N (.J false [(1,.ptr)] .N (.T .N (.T .N (.T (.J false [] .N .N) .N))))) (by kernel_rfl) h
def yL (N1:Int→PH→Prop) (c0a_ l1a_:Addr) (one_2:Value) (v_14 i_7:Int) (R:VR) (F:PH):Prop:=
 N1 (IntKind.i64.wrap (i_7+1)) F
def kG (N1:Int→PH→Prop) (c_0:Option Addr) (l1a_:Addr) (one_2:Value) (v_14:Int) (R:VR) (i_7:Int) (F:PH):Prop:=
 (Bc (i_7<v_14) (
  ∃c0a_,c_0=some c0a_∧Lb F (Addr.add c0a_ 3) fun v_22=>
  (Bb ((!v_22)) (
   Li F c0a_ fun v_30=>
   (Bc (v_30=0) (
    Ls F l1a_ fun v_35=>
    Ix v_35 i_7 fun a37_=>
    Fn one_2 fun k38 fst38 cap38=>ac prog k38 (fst38++([(Value.pointer (some (Addr.add a37_ (Int.toNat i_7*3))))]).toArray++cap38) F fun v F=>v=(Value.tuple #[])∧
    yL N1 c0a_ l1a_ one_2 v_14 i_7 R F) (
    Nb F (.cells (#[.int .i64 0,.int .i64 0,.int .i64 0]) 101) fun b8 F=>
    Fn one_2 fun k40 fst40 cap40=>ac prog k40 (fst40++([(Value.pointer (some (Am b8 0)))]).toArray++cap40) F fun v F=>v=(Value.tuple #[])∧
    Ls F l1a_ fun v_44=>
    Lr F 3 (Am b8 0) fun v_45=>
    v_45.size=3∧Nb F (.cells v_45 101) fun b46 F=>
    Ap 63 #[(Sl.v v_44),(Sl.v (Sb b46 1))] F fun v_47 F=>
    sto F l1a_ (Sl.v v_47) fun F=>
    yL N1 c0a_ l1a_ one_2 v_14 i_7 R F))) (
   R (.tuple #[]) F))) (
  R (.tuple #[]) F))
def NJ (c_0 l_1:Option Addr) (one_2:Value) (R:VR) (F:PH):Prop:=
 ∃l1a_,l_1=some l1a_∧Ls F l1a_ fun v_12=>
 Ci 178 #[(.pointer c_0),(.int .i64 (v_12.len:Int))] F fun v_14 F=>
 (Lp 0 F fun N i_7 F=>
  kG N c_0 l1a_ one_2 v_14 R i_7 F)
theorem NK {c_0:Option Addr} {l_1:Option Addr} {one_2:Value} (h:NJ c_0 l_1 one_2 R F):ac prog 187 #[(.pointer c_0),(.pointer l_1),one_2] F R:=Rx.sxC (args:=[(.pointer c_0),(.pointer l_1),one_2]) (.T .N (.T .N (.L [(7,.int .i64)] (.T .N (.J false [] .N .N))))) (by kernel_rfl) h
def DA (x_0 v_1:Option Addr) (R:VR) (F:PH):Prop:=
 ∃v1a_,v_1=some v1a_∧Lq F v1a_ fun v_3=>
 ∃x0a_,x_0=some x0a_∧Nb F (.cells #[(.pointer (some x0a_)),(.pointer (some (Addr.add x0a_ 1))),(.pointer (some (Addr.add x0a_ 2)))] 189) fun b13 F=>
 Cu 181 #[(.pointer v_3),(Sl.v (Sb b13 3))] F fun F=>
 R (.tuple #[]) F
theorem HB {x_0:Option Addr} {v_1:Option Addr} (h:DA x_0 v_1 R F):ac prog 188 #[(.pointer x_0),(.pointer v_1)] F R:=Rx.sxC (args:=[(.pointer x_0),(.pointer v_1)]) .N (by kernel_rfl) h
def yM (N1:Int→PH→Prop) (c0a_ l1a_:Addr) (one_2:Value) (v_14 i_7:Int) (R:VR) (F:PH):Prop:=
 N1 (IntKind.i64.wrap (i_7+1)) F
def kH (N1:Int→PH→Prop) (c_0:Option Addr) (l1a_:Addr) (one_2:Value) (v_14:Int) (R:VR) (i_7:Int) (F:PH):Prop:=
 (Bc (i_7<v_14) (
  ∃c0a_,c_0=some c0a_∧Lb F (Addr.add c0a_ 3) fun v_22=>
  (Bb ((!v_22)) (
   Li F c0a_ fun v_30=>
   (Bc (v_30=0) (
    Ls F l1a_ fun v_35=>
    Ix v_35 i_7 fun a37_=>
    Fn one_2 fun k38 fst38 cap38=>ac prog k38 (fst38++([(Value.pointer (some (Addr.add a37_ (Int.toNat i_7*1))))]).toArray++cap38) F fun v F=>v=(Value.tuple #[])∧
    yM N1 c0a_ l1a_ one_2 v_14 i_7 R F) (
    Nb F (.cells (#[.int .i64 0]) 3) fun b8 F=>
    Fn one_2 fun k40 fst40 cap40=>ac prog k40 (fst40++([(Value.pointer (some (Am b8 0)))]).toArray++cap40) F fun v F=>v=(Value.tuple #[])∧
    Ls F l1a_ fun v_44=>
    Li F (Am b8 0) fun v_45=>
    Nb F (.cells #[(.int .i64 v_45)] 3) fun b46 F=>
    Ap 70 #[(Sl.v v_44),(Sl.v (Sb b46 1))] F fun v_47 F=>
    sto F l1a_ (Sl.v v_47) fun F=>
    yM N1 c0a_ l1a_ one_2 v_14 i_7 R F))) (
   R (.tuple #[]) F))) (
  R (.tuple #[]) F))
def NL (c_0 l_1:Option Addr) (one_2:Value) (R:VR) (F:PH):Prop:=
 ∃l1a_,l_1=some l1a_∧Ls F l1a_ fun v_12=>
 Ci 178 #[(.pointer c_0),(.int .i64 (v_12.len:Int))] F fun v_14 F=>
 (Lp 0 F fun N i_7 F=>
  kH N c_0 l1a_ one_2 v_14 R i_7 F)
theorem NM {c_0:Option Addr} {l_1:Option Addr} {one_2:Value} (h:NL c_0 l_1 one_2 R F):ac prog 189 #[(.pointer c_0),(.pointer l_1),one_2] F R:=Rx.sxC (args:=[(.pointer c_0),(.pointer l_1),one_2]) (.T .N (.T .N (.L [(7,.int .i64)] (.T .N (.J false [] .N .N))))) (by kernel_rfl) h
def HD (s_0:ByteArray) (v_1:Option Addr) (R:VR) (F:PH):Prop:=
 ∃v1a_,v_1=some v1a_∧∃v_4:Option Nat,F.cell v1a_=some (.map v_4)∧
 ∃v_6,rdo prog (Instr.lookup 268 (.map v_4) (.string s_0) false) F (.bool v_6)∧
 (Bb (v_6) (
  R (.bool false) F) (
  ∃v_7:Option Nat,F.cell v1a_=some (.map v_7)∧
  aE prog (Instr.mapUpdate 268 (.map v_7) (.string s_0) (.bool true)) F fun _ F=>
  R (.bool true) F))
theorem NO {s_0:ByteArray} {v_1:Option Addr} (h:HD s_0 v_1 R F):ac prog 198 #[(.string s_0),(.pointer v_1)] F R:=Rx.sxC (args:=[(.string s_0),(.pointer v_1)]) .N (by kernel_rfl) h
def HE (b_0:Array Value) (v_1:Option Addr) (R:VR) (F:PH):Prop:=
 Nb F (.cells b_0 103) fun b2 F=>
 Li F (Am b2 0) fun v_5=>
 ∃v1a_,v_1=some v1a_∧Li F v1a_ fun v_6=>
 R (.bool (decide (v_6≤v_5))) F
theorem NP {b_0:Array Value} {v_1:Option Addr} (h:HE b_0 v_1 R F):ac prog 200 #[(.agg b_0),(.pointer v_1)] F R:=Rx.sxC (args:=[(.agg b_0),(.pointer v_1)]) .N (by kernel_rfl) h
def HF (i_0:Int) (v_1:Option Addr) (R:VR) (F:PH):Prop:=
 (Bc (0≤i_0) (
  ∃v1a_,v_1=some v1a_∧Ls F (Addr.add v1a_ 2) fun v_9=>
  R (.bool (decide (i_0<(v_9.len:Int)))) F) (
  R (.bool false) F))
theorem NQ {i_0:Int} {v_1:Option Addr} (h:HF i_0 v_1 R F):ac prog 207 #[(.int .i64 i_0),(.pointer v_1)] F R:=Rx.sxC (args:=[(.int .i64 i_0),(.pointer v_1)]) .N (by kernel_rfl) h
def HG (k_0 value_1 low_2 high_3:Int) (v_4:Option Addr) (R:VR) (F:PH):Prop:=
 (Bc (k_0=0) (
  R (.bool (decide (value_1=0))) F) (
  (Bc (0<k_0) (
   ∃v4a_,v_4=some v4a_∧Ls F (Addr.add v4a_ 2) fun v_19=>
   (Bc (k_0≤(v_19.len:Int)) (
    Ls F (Addr.add v4a_ 2) fun v_25=>
    Ix v_25 (IntKind.i64.wrap (k_0 - 1)) fun a28_=>
    ∃v_30,F.cell (Addr.add a28_ (Int.toNat (IntKind.i64.wrap (k_0 - 1))*2))=some (.bool v_30)∧
    (Bb (v_30) (
     (Bc (low_2≤value_1) (
      R (.bool (decide (value_1≤high_3))) F) (
      R (.bool false) F))) (
     R (.bool false) F))) (
    R (.bool false) F))) (
   R (.bool false) F))))
theorem NR {k_0:Int} {value_1:Int} {low_2:Int} {high_3:Int} {v_4:Option Addr} (h:HG k_0 value_1 low_2 high_3 v_4 R F):ac prog 208 #[(.int .i64 k_0),(.int .i64 value_1),(.int .i64 low_2),(.int .i64 high_3),(.pointer v_4)] F R:=Rx.sxC (args:=[(.int .i64 k_0),(.int .i64 value_1),(.int .i64 low_2),(.int .i64 high_3),(.pointer v_4)]) .N (by kernel_rfl) h
end Go.Proofs.YtenpmjhnhepfdaaGreatDoor
