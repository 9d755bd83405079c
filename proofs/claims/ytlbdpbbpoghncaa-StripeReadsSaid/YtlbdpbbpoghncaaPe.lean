/- A part of the proof: lemmas that the law's row leans on. -/
import Derived.Test.YtlbdpbbpoghncaaPd
set_option linter.all false
namespace Wf
open Go Go.RowKit Go.Proofs
set_option linter.unusedVariables false
set_option maxRecDepth 100000
def zfs:Ann:={ loops:=[] }
noncomputable def zab:List D→Option D:=denP Try.prog (zax []) zfs [0] ID.wattlekeep_Within
theorem zio:za0 Try.prog ID.wattlekeep_Within (.pure [0] zab):=zao (zaz []) zby ⟨Try.f16,by kernel_rfl,by kernel_rfl,by kernel_rfl⟩
noncomputable def zcG:Fact Try.prog:=⟨ID.wattlekeep_Within,(.pure [0] zab),zio⟩
noncomputable def zeh (a0:Int) (a1:Int):Option D:=
  brK (decide (a1 < (1:Int)))
    (some (D.int IntKind.i64 (0:Int)))
    (sif (a1≠(0:Int)) <|
    letN (Int.tmod a0 a1) fun n1=>
    brK (decide (n1 < (0:Int)))
      (letN (IntKind.wrap IntKind.i64 (n1+a1)) fun n2=>
      some (D.int IntKind.i64 n2))
      (some (D.int IntKind.i64 n1)))
theorem zlA (a0:Int) (a1:Int):denP Try.prog (zax []) zfs [0] ID.wattlekeep_Within [.int .i64 a0,.int .i64 a1]=zeh a0 a1:=by kernel_rfl
theorem ziX (a0:Int) (a1:Int):zab [.int .i64 a0,.int .i64 a1]=zeh a0 a1:=zlA a0 a1
def zgs:Ann:={ loops:=[] }
noncomputable def zbp:List D→Option D:=denP Try.prog (zax [(ID.wattlekeep_Within,(.pure [0] zab))]) zgs [0] ID.wattleplay_Geom
theorem zjE:za0 Try.prog ID.wattleplay_Geom (.pure [0] zbp):=zao (zaz [zcG]) zby ⟨Try.f64,by kernel_rfl,by kernel_rfl,by kernel_rfl⟩
noncomputable def zkG:Fact Try.prog:=⟨ID.wattleplay_Geom,(.pure [0] zbp),zjE⟩
noncomputable def zfa (zab:List D→Option D) (a0:Int):Option D:=
  zap (zab [D.int IntKind.i64 a0,D.int IntKind.i64 (2:Int)]) fun r1=>
  asI IntKind.i64 r1 fun i2=>
  letN (IntKind.wrap IntKind.i64 ((5:Int)+i2)) fun n3=>
  letN (IntKind.wrap IntKind.i64 (Int.tdiv a0 (2:Int))) fun n4=>
  zap (zab [D.int IntKind.i64 n4,D.int IntKind.i64 (3:Int)]) fun r5=>
  asI IntKind.i64 r5 fun i6=>
  sif ((0:Int)≤i6) <|
  getK ([D.int IntKind.i64 (1:Int),D.int IntKind.i64 (2:Int),D.int IntKind.i64 (4:Int)]) (Int.toNat i6) fun d7=>
  asI IntKind.i64 d7 fun i8=>
  letN (IntKind.wrap IntKind.i64 (Int.tdiv a0 (6:Int))) fun n9=>
  zap (zab [D.int IntKind.i64 n9,D.int IntKind.i64 (4:Int)]) fun r10=>
  asI IntKind.i64 r10 fun i11=>
  letN (IntKind.wrap IntKind.i64 ((3:Int)+i11)) fun n12=>
  brK (n3 == (6:Int))
    (letN (IntKind.wrap IntKind.i64 (Int.tdiv a0 (6:Int))) fun n13=>
    zap (zab [D.int IntKind.i64 n13,D.int IntKind.i64 (4:Int)]) fun r14=>
    asI IntKind.i64 r14 fun i15=>
    letN (IntKind.wrap IntKind.i64 ((4:Int)+i15)) fun n16=>
    letN (IntKind.wrap IntKind.i64 (Int.tdiv a0 (24:Int))) fun n17=>
    zap (zab [D.int IntKind.i64 n17,D.int IntKind.i64 (40:Int)]) fun r18=>
    asI IntKind.i64 r18 fun i19=>
    brK (i19 == (36:Int))
      (zap (zab [D.int IntKind.i64 a0,D.int IntKind.i64 (9:Int)]) fun r20=>
      asI IntKind.i64 r20 fun i21=>
      some (D.agg [D.int IntKind.i64 i21,D.int IntKind.i64 n16,D.int IntKind.i64 i8]))
      (brK (i19 == (37:Int))
        (zap (zab [D.int IntKind.i64 a0,D.int IntKind.i64 (12:Int)]) fun r22=>
        asI IntKind.i64 r22 fun i23=>
        letN (IntKind.wrap IntKind.i64 (i23 - (1:Int))) fun n24=>
        some (D.agg [D.int IntKind.i64 n3,D.int IntKind.i64 n24,D.int IntKind.i64 i8]))
        (brK (i19 == (38:Int))
          (zap (zab [D.int IntKind.i64 a0,D.int IntKind.i64 (9:Int)]) fun r25=>
          asI IntKind.i64 r25 fun i26=>
          letN (IntKind.wrap IntKind.i64 (i26 - (1:Int))) fun n27=>
          some (D.agg [D.int IntKind.i64 n3,D.int IntKind.i64 n16,D.int IntKind.i64 n27]))
          (brK (i19 == (39:Int))
            (some (D.agg [D.int IntKind.i64 n3,D.int IntKind.i64 (8:Int),D.int IntKind.i64 i8]))
            (some (D.agg [D.int IntKind.i64 n3,D.int IntKind.i64 n16,D.int IntKind.i64 i8]))))))
    (letN (IntKind.wrap IntKind.i64 (Int.tdiv a0 (24:Int))) fun n28=>
    zap (zab [D.int IntKind.i64 n28,D.int IntKind.i64 (40:Int)]) fun r29=>
    asI IntKind.i64 r29 fun i30=>
    brK (i30 == (36:Int))
      (zap (zab [D.int IntKind.i64 a0,D.int IntKind.i64 (9:Int)]) fun r31=>
      asI IntKind.i64 r31 fun i32=>
      some (D.agg [D.int IntKind.i64 i32,D.int IntKind.i64 n12,D.int IntKind.i64 i8]))
      (brK (i30 == (37:Int))
        (zap (zab [D.int IntKind.i64 a0,D.int IntKind.i64 (12:Int)]) fun r33=>
        asI IntKind.i64 r33 fun i34=>
        letN (IntKind.wrap IntKind.i64 (i34 - (1:Int))) fun n35=>
        some (D.agg [D.int IntKind.i64 n3,D.int IntKind.i64 n35,D.int IntKind.i64 i8]))
        (brK (i30 == (38:Int))
          (zap (zab [D.int IntKind.i64 a0,D.int IntKind.i64 (9:Int)]) fun r36=>
          asI IntKind.i64 r36 fun i37=>
          letN (IntKind.wrap IntKind.i64 (i37 - (1:Int))) fun n38=>
          some (D.agg [D.int IntKind.i64 n3,D.int IntKind.i64 n12,D.int IntKind.i64 n38]))
          (brK (i30 == (39:Int))
            (some (D.agg [D.int IntKind.i64 n3,D.int IntKind.i64 (8:Int),D.int IntKind.i64 i8]))
            (some (D.agg [D.int IntKind.i64 n3,D.int IntKind.i64 n12,D.int IntKind.i64 i8]))))))
theorem znr (zab:List D→Option D) (a0:Int):denP Try.prog (zax [(ID.wattlekeep_Within,(.pure [0] zab))]) zgs [0] ID.wattleplay_Geom [.int .i64 a0]=zfa zab a0:=by kernel_rfl
theorem zkH (a0:Int):zbp [.int .i64 a0]=zfa zab a0:=znr zab a0
def zft:Ann:={ loops:=[] }
noncomputable def zad:List D→Option D:=denP Try.prog (zax []) zft [0] ID.wattleref01_Check
theorem ziq:za0 Try.prog ID.wattleref01_Check (.pure [0] zad):=zao (zaz []) zby ⟨Try.f53,by kernel_rfl,by kernel_rfl,by kernel_rfl⟩
noncomputable def zcf:Fact Try.prog:=⟨ID.wattleref01_Check,(.pure [0] zad),ziq⟩
noncomputable def zei (a0_0:Int) (a0_1:Int) (a0_2:Int):Option D:=
  brK (a0_0 == (6:Int))
    (brK (a0_0 == (5:Int))
      (brK (decide (a0_1≥(4:Int)))
        (brK (decide (a0_1≤(8:Int)))
          (brK (a0_2 == (1:Int))
            (some (D.bool true))
            (brK (a0_2 == (2:Int))
              (some (D.bool true))
              (some (D.bool (a0_2 == (4:Int))))))
          (some (D.bool false)))
        (some (D.bool false)))
      (brK (a0_0 == (6:Int))
        (brK (decide (a0_1≥(4:Int)))
          (brK (decide (a0_1≤(8:Int)))
            (brK (a0_2 == (1:Int))
              (some (D.bool true))
              (brK (a0_2 == (2:Int))
                (some (D.bool true))
                (some (D.bool (a0_2 == (4:Int))))))
            (some (D.bool false)))
          (some (D.bool false)))
        (some (D.bool false))))
    (brK (a0_0 == (5:Int))
      (brK (decide (a0_1≥(3:Int)))
        (brK (decide (a0_1≤(8:Int)))
          (brK (a0_2 == (1:Int))
            (some (D.bool true))
            (brK (a0_2 == (2:Int))
              (some (D.bool true))
              (some (D.bool (a0_2 == (4:Int))))))
          (some (D.bool false)))
        (some (D.bool false)))
      (brK (a0_0 == (6:Int))
        (brK (decide (a0_1≥(3:Int)))
          (brK (decide (a0_1≤(8:Int)))
            (brK (a0_2 == (1:Int))
              (some (D.bool true))
              (brK (a0_2 == (2:Int))
                (some (D.bool true))
                (some (D.bool (a0_2 == (4:Int))))))
            (some (D.bool false)))
          (some (D.bool false)))
        (some (D.bool false))))
theorem zlB (a0_0:Int) (a0_1:Int) (a0_2:Int):denP Try.prog (zax []) zft [0] ID.wattleref01_Check [.agg [.int .i64 a0_0,.int .i64 a0_1,.int .i64 a0_2]]=zei a0_0 a0_1 a0_2:=by kernel_rfl
theorem ziY (a0_0:Int) (a0_1:Int) (a0_2:Int):zad [.agg [.int .i64 a0_0,.int .i64 a0_1,.int .i64 a0_2]]=zei a0_0 a0_1 a0_2:=zlB a0_0 a0_1 a0_2
def zgt:Ann:={ loops:=[] }
noncomputable def zbq:List D→Option D:=denP Try.prog (zax [(ID.wattleplay_Geom,(.pure [0] zbp)),(ID.wattleref01_Check,(.pure [0] zad))]) zgt [0] ID.wattleplay_Good
theorem zjF:za0 Try.prog ID.wattleplay_Good (.pure [0] zbq):=zao (zaz [zkG,zcf]) zby ⟨Try.f15,by kernel_rfl,by kernel_rfl,by kernel_rfl⟩
noncomputable def zkI:Fact Try.prog:=⟨ID.wattleplay_Good,(.pure [0] zbq),zjF⟩
noncomputable def zfb (zbp:List D→Option D) (zad:List D→Option D) (a0:Int):Option D:=
  zap (zbp [D.int IntKind.i64 a0]) fun r1=>
  asAgg r1 fun cs2=>
  zay ([Lf.int IntKind.i64,Lf.int IntKind.i64,Lf.int IntKind.i64]) cs2 fun c3=>
  zap (zad [D.agg [D.int IntKind.i64 c3.fst,D.int IntKind.i64 c3.snd.fst,D.int IntKind.i64 c3.snd.snd.fst]]) fun r4=>
  asB r4 fun b5=>
  brK (!b5)
    (some (D.agg [D.int IntKind.i64 (5:Int),D.int IntKind.i64 (3:Int),D.int IntKind.i64 (1:Int)]))
    (some (D.agg [D.int IntKind.i64 c3.fst,D.int IntKind.i64 c3.snd.fst,D.int IntKind.i64 c3.snd.snd.fst]))
theorem zns (zbp:List D→Option D) (zad:List D→Option D) (a0:Int):denP Try.prog (zax [(ID.wattleplay_Geom,(.pure [0] zbp)),(ID.wattleref01_Check,(.pure [0] zad))]) zgt [0] ID.wattleplay_Good [.int .i64 a0]=zfb zbp zad a0:=by kernel_rfl
theorem zkJ (a0:Int):zbq [.int .i64 a0]=zfb zbp zad a0:=zns zbp zad a0
def zob:Ann:={ loops:=[],pubs:=[(1,[(0,119,7649)])],ks:=[(7649,true)] }
noncomputable def zcJ:List D→List Tb→Option Ans:=denS Try.prog (zax []) zob [0] ID.disk_New
theorem zqj:za0 Try.prog ID.disk_New (.st [] [0] [(7649,true)] zcJ):=zbL (zaz []) zby ⟨Try.f80,by kernel_rfl,by kernel_rfl,by kernel_rfl⟩
noncomputable def zsv:Fact Try.prog:=⟨ID.disk_New,(.st [] [0] [(7649,true)] zcJ),zqj⟩
noncomputable def znt (T0:Tb):Option Ans:=
  letT (T0++[List.map D.own0 (List.reverse ([D.bool false,D.sl Tag.nil []]++List.replicate 1664 (D.int IntKind.u8 (0:Int))))]) fun U1=>
  some (Ans.mk (D.h (7649:Nat) (List.length T0) (0:Nat)) [] [U1])
theorem zxh (T0:Tb):denS Try.prog (zax []) zob [0] ID.disk_New [] [T0]=znt T0:=by kernel_rfl
theorem zsw (T0:Tb):zcJ [] [T0]=znt T0:=zxh T0
def zmy:Ann:={ loops:=[(1,[.dead,.dead,.dead,.dead,.val (.cell (.hnd (3840:Nat))),.dead,.dead,.dead,.dead,.dead,.dead,.dead,.dead,.dead,.val (.cell (.int .i64)),.val (.cell (.int .i64))])],pubs:=[(3,[(4,63,3840)])],ks:=[(3840,true),(7649,true)] }
noncomputable def zbm:List D→List Tb→Option Ans:=denS Try.prog (zax [(ID.disk_New,(.st [] [0] [(7649,true)] zcJ))]) zmy [0,0] ID.bench_New
theorem zpI:za0 Try.prog ID.bench_New (.st [] [0,0] [(3840,true),(7649,true)] zbm):=zbL (zaz [zsv]) zby ⟨Try.f35,by kernel_rfl,by kernel_rfl,by kernel_rfl⟩
noncomputable def zla:Fact Try.prog:=⟨ID.bench_New,(.st [] [0,0] [(3840,true),(7649,true)] zbm),zpI⟩
noncomputable def zlC (zcJ:List D→List Tb→Option Ans) (a0:Int) (T0:Tb) (T1:Tb):Option Ans:=
  brK (decide (a0 < (1:Int)))
    (some (Ans.mk (D.tup [D.nilp,D.int IntKind.i64 (1:Int)]) [] [T0,T1]))
    (brK (decide (a0 > (8:Int)))
      (some (Ans.mk (D.tup [D.nilp,D.int IntKind.i64 (1:Int)]) [] [T0,T1]))
      (letT (T0++[[D.own0 (D.int IntKind.i64 (0:Int)),D.own0 (D.int IntKind.i64 (-1:Int)),D.own0 (D.bool false),D.own0 (D.sl Tag.nil [])]]) fun U1=>
      zb3 (α:=(Nat×Int×Int×PUnit)×List (List D)×List (List D)×PUnit) (fun again2 ((x3,(i4,(i5,_))),(U6,(U7,_)))=>
        brK (decide (i5 < i4))
          (getK U6 x3 fun d8=>
          getK d8 ((3:Nat)) fun d9=>
          zbl d9 fun l10=>
          zap (zcJ [] [U7]) fun r11=>
          nilK r11.outs <|
          zhD r11.tbs fun c12 q13=>
          nilK q13 <|
          sif (zg1 r11.r=true) <|
          sif (zeA (1:Nat) [r11.r]=true) <|
          getK U6 x3 fun d14=>
          getK d14 ((3:Nat)) fun d15=>
          zbl d15 fun l16=>
          sif (List.length l10+(1:Nat)≤(4294967296:Nat)) <|
          sif (zeA (1:Nat) [r11.r]=true) <|
          sif (List.length l10=List.length l16) <|
          letT (setT U6 x3 (3:Nat) D.undef) fun U17=>
          getK U17 x3 fun d18=>
          sif ((4:Nat)≤List.length d18) <|
          sif (List.length l10+(1:Nat)=List.length (l16++[r11.r])) <|
          sif (zdz (l16++[r11.r])=true) <|
          sif (zhF (1:Nat) (l16++[r11.r])=true) <|
          letT (zbk U17 x3 (3:Nat) [D.sl Tag.own (l16++[r11.r])]) fun U19=>
          letN (IntKind.wrap IntKind.i64 (i5+(1:Int))) fun n20=>
          again2 (((x3,i4,n20,PUnit.unit),U19,c12,PUnit.unit)))
          (some (Ans.mk (D.tup [D.h (3840) x3 (0:Nat),D.int IntKind.i64 (0:Int)]) [] [U6,U7])))
        (((List.length T0,a0,(0:Int),PUnit.unit),U1,T1,PUnit.unit))))
theorem zvh (zcJ:List D→List Tb→Option Ans) (a0:Int) (T0:Tb) (T1:Tb):denS Try.prog (zax [(ID.disk_New,(.st [] [0] [(7649,true)] zcJ))]) zmy [0,0] ID.bench_New [.int .i64 a0] [T0,T1]=zlC zcJ a0 T0 T1:=by kernel_rfl
theorem zqk (a0:Int) (T0:Tb) (T1:Tb):zbm [.int .i64 a0] [T0,T1]=zlC zcJ a0 T0 T1:=zvh zcJ a0 T0 T1
def zeX:Ann:={ loops:=[] }
noncomputable def zau:List D→Option D:=denP Try.prog (zax [(ID.wattleref01_Check,(.pure [0] zad))]) zeX [0] ID.wattleref01_Budget
theorem zhM:za0 Try.prog ID.wattleref01_Budget (.pure [0] zau):=zao (zaz [zcf]) zby ⟨Try.f76,by kernel_rfl,by kernel_rfl,by kernel_rfl⟩
noncomputable def zeF:Fact Try.prog:=⟨ID.wattleref01_Budget,(.pure [0] zau),zhM⟩
noncomputable def zdW (zad:List D→Option D) (a0_0:Int) (a0_1:Int) (a0_2:Int):Option D:=
  zap (zad [D.agg [D.int IntKind.i64 a0_0,D.int IntKind.i64 a0_1,D.int IntKind.i64 a0_2]]) fun r1=>
  asB r1 fun b2=>
  brK (!b2)
    (some (D.int IntKind.i64 (0:Int)))
    (letN (IntKind.wrap IntKind.i64 (a0_0 - (4:Int))) fun n3=>
    some (D.int IntKind.i64 n3))
theorem zkK (zad:List D→Option D) (a0_0:Int) (a0_1:Int) (a0_2:Int):denP Try.prog (zax [(ID.wattleref01_Check,(.pure [0] zad))]) zeX [0] ID.wattleref01_Budget [.agg [.int .i64 a0_0,.int .i64 a0_1,.int .i64 a0_2]]=zdW zad a0_0 a0_1 a0_2:=by kernel_rfl
theorem zir (a0_0:Int) (a0_1:Int) (a0_2:Int):zau [.agg [.int .i64 a0_0,.int .i64 a0_1,.int .i64 a0_2]]=zdW zad a0_0 a0_1 a0_2:=zkK zad a0_0 a0_1 a0_2
def zfu:Ann:={ loops:=[] }
noncomputable def zaa:List D→Option D:=denP Try.prog (zax [(ID.wattleref01_Check,(.pure [0] zad)),(ID.wattleref01_Budget,(.pure [0] zau))]) zfu [0] ID.wattleref01_Width
theorem zis:za0 Try.prog ID.wattleref01_Width (.pure [0] zaa):=zao (zaz [zcf,zeF]) zby ⟨Try.f32,by kernel_rfl,by kernel_rfl,by kernel_rfl⟩
noncomputable def zbO:Fact Try.prog:=⟨ID.wattleref01_Width,(.pure [0] zaa),zis⟩
noncomputable def zej (zad:List D→Option D) (zau:List D→Option D) (a0_0:Int) (a0_1:Int) (a0_2:Int):Option D:=
  zap (zad [D.agg [D.int IntKind.i64 a0_0,D.int IntKind.i64 a0_1,D.int IntKind.i64 a0_2]]) fun r1=>
  asB r1 fun b2=>
  brK (!b2)
    (some (D.int IntKind.i64 (0:Int)))
    (zap (zau [D.agg [D.int IntKind.i64 a0_0,D.int IntKind.i64 a0_1,D.int IntKind.i64 a0_2]]) fun r3=>
    asI IntKind.i64 r3 fun i4=>
    letN (IntKind.wrap IntKind.i64 (a0_1 - i4)) fun n5=>
    some (D.int IntKind.i64 n5))
theorem zlD (zad:List D→Option D) (zau:List D→Option D) (a0_0:Int) (a0_1:Int) (a0_2:Int):denP Try.prog (zax [(ID.wattleref01_Check,(.pure [0] zad)),(ID.wattleref01_Budget,(.pure [0] zau))]) zfu [0] ID.wattleref01_Width [.agg [.int .i64 a0_0,.int .i64 a0_1,.int .i64 a0_2]]=zej zad zau a0_0 a0_1 a0_2:=by kernel_rfl
theorem ziZ (a0_0:Int) (a0_1:Int) (a0_2:Int):zaa [.agg [.int .i64 a0_0,.int .i64 a0_1,.int .i64 a0_2]]=zej zad zau a0_0 a0_1 a0_2:=zlD zad zau a0_0 a0_1 a0_2
def zfv:Ann:={ loops:=[(1,[.val (.cell (.int .i64)),.dead,.dead,.own 1,.dead,.dead,.dead,.dead,.dead,.dead,.dead,.val (.cell (.int .i64)),.val (.cell (.int .i64))])] }
noncomputable def za1:List D→Option D:=denP Try.prog (zax [(ID.wattlekeep_Within,(.pure [0] zab))]) zfv [1] ID.wattleplay_Sector
theorem zit:za0 Try.prog ID.wattleplay_Sector (.pure [1] za1):=zao (zaz [zcG]) zby ⟨Try.f36,by kernel_rfl,by kernel_rfl,by kernel_rfl⟩
noncomputable def zi0:Fact Try.prog:=⟨ID.wattleplay_Sector,(.pure [1] za1),zit⟩
noncomputable def zek (zab:List D→Option D) (a0:Int):Option D:=
  zap (zab [D.int IntKind.i64 a0,D.int IntKind.i64 (11:Int)]) fun r1=>
  asI IntKind.i64 r1 fun i2=>
  brK (i2 == (10:Int))
    (some (D.sl Tag.own [D.int IntKind.u8 (0:Int),D.int IntKind.u8 (0:Int),D.int IntKind.u8 (0:Int),D.int IntKind.u8 (0:Int),D.int IntKind.u8 (0:Int),D.int IntKind.u8 (0:Int),D.int IntKind.u8 (0:Int),D.int IntKind.u8 (0:Int),D.int IntKind.u8 (0:Int),D.int IntKind.u8 (0:Int),D.int IntKind.u8 (0:Int),D.int IntKind.u8 (0:Int),D.int IntKind.u8 (0:Int),D.int IntKind.u8 (0:Int),D.int IntKind.u8 (0:Int),D.int IntKind.u8 (0:Int),D.int IntKind.u8 (0:Int),D.int IntKind.u8 (0:Int),D.int IntKind.u8 (0:Int),D.int IntKind.u8 (0:Int),D.int IntKind.u8 (0:Int),D.int IntKind.u8 (0:Int),D.int IntKind.u8 (0:Int),D.int IntKind.u8 (0:Int),D.int IntKind.u8 (0:Int),D.int IntKind.u8 (0:Int),D.int IntKind.u8 (0:Int),D.int IntKind.u8 (0:Int),D.int IntKind.u8 (0:Int),D.int IntKind.u8 (0:Int),D.int IntKind.u8 (0:Int),D.int IntKind.u8 (0:Int)]))
    (zb3 (α:=(Int×List D×Int×Int×PUnit)×PUnit) (fun again3 ((i4,(l5,(i6,(i7,_)))),_)=>
      brK (decide (i7 < i6))
        (letN (IntKind.wrap IntKind.i64 (Int.tdiv i4 (7:Int))) fun n8=>
        letN (bits BinOp.or IntKind.i64 n8 (1:Int)) fun n9=>
        letN (IntKind.wrap IntKind.i64 (i7*n9)) fun n10=>
        letN (IntKind.wrap IntKind.i64 (i4+n10)) fun n11=>
        letN (IntKind.wrap IntKind.u8 n11) fun n12=>
        sif ((0:Int)≤i7) <|
        sif (Int.toNat i7 < List.length l5) <|
        getK l5 ((0:Nat)+Int.toNat i7) fun d13=>
        sif (D.isAgg d13=false) <|
        letN (IntKind.wrap IntKind.i64 (i7+(1:Int))) fun n14=>
        sif (List.length l5=List.length (List.set l5 ((0:Nat)+Int.toNat i7) (D.int IntKind.u8 n12))) <|
        again3 (((i4,List.set l5 ((0:Nat)+Int.toNat i7) (D.int IntKind.u8 n12),i6,n14,PUnit.unit),PUnit.unit)))
        (sif (List.length l5=List.length l5) <|
        sif (List.all l5 D.free=true) <|
        some (D.sl Tag.own l5)))
      (((a0,[D.int IntKind.u8 (0:Int),D.int IntKind.u8 (0:Int),D.int IntKind.u8 (0:Int),D.int IntKind.u8 (0:Int),D.int IntKind.u8 (0:Int),D.int IntKind.u8 (0:Int),D.int IntKind.u8 (0:Int),D.int IntKind.u8 (0:Int),D.int IntKind.u8 (0:Int),D.int IntKind.u8 (0:Int),D.int IntKind.u8 (0:Int),D.int IntKind.u8 (0:Int),D.int IntKind.u8 (0:Int),D.int IntKind.u8 (0:Int),D.int IntKind.u8 (0:Int),D.int IntKind.u8 (0:Int),D.int IntKind.u8 (0:Int),D.int IntKind.u8 (0:Int),D.int IntKind.u8 (0:Int),D.int IntKind.u8 (0:Int),D.int IntKind.u8 (0:Int),D.int IntKind.u8 (0:Int),D.int IntKind.u8 (0:Int),D.int IntKind.u8 (0:Int),D.int IntKind.u8 (0:Int),D.int IntKind.u8 (0:Int),D.int IntKind.u8 (0:Int),D.int IntKind.u8 (0:Int),D.int IntKind.u8 (0:Int),D.int IntKind.u8 (0:Int),D.int IntKind.u8 (0:Int),D.int IntKind.u8 (0:Int)],(32:Int),(0:Int),PUnit.unit),PUnit.unit)))
theorem zlE (zab:List D→Option D) (a0:Int):denP Try.prog (zax [(ID.wattlekeep_Within,(.pure [0] zab))]) zfv [1] ID.wattleplay_Sector [.int .i64 a0]=zek zab a0:=by kernel_rfl
theorem zi1 (a0:Int):za1 [.int .i64 a0]=zek zab a0:=zlE zab a0
def zeY:Ann:={ loops:=[(0,[.val (.cell .lent),.val (.cell (.int .i64)),.dead,.dead,.dead,.own 1,.val (.cell (.int .i64))])] }
noncomputable def zav:List D→Option D:=denP Try.prog (zax [(ID.wattleplay_Sector,(.pure [1] za1))]) zeY [1] ID.wattleplay_Sectors
theorem zhN:za0 Try.prog ID.wattleplay_Sectors (.pure [1] zav):=zao (zaz [zi0]) zby ⟨Try.f31,by kernel_rfl,by kernel_rfl,by kernel_rfl⟩
noncomputable def zeG:Fact Try.prog:=⟨ID.wattleplay_Sectors,(.pure [1] zav),zhN⟩
noncomputable def zdX (za1:List D→Option D) (a0:List D) (a1:Int):Option D:=
  zb3 (α:=(List D×Int×List D×Int×PUnit)×PUnit) (fun again1 ((l2,(i3,(l4,(i5,_)))),_)=>
    brK (decide (i5 < i3))
      (letN (IntKind.wrap IntKind.i64 ((3:Int)*i5)) fun n6=>
      brK (decide (i5 < (↑(List.length l2):Int)))
        (sif ((0:Int)≤i5) <|
        getK l2 (Int.toNat i5) fun d7=>
        asI IntKind.i64 d7 fun i8=>
        zap (za1 [D.int IntKind.i64 i8]) fun r9=>
        zbl r9 fun l10=>
        sif ((0:Nat)+List.length l10≤List.length l10) <|
        sif (List.length l4+(1:Nat)≤(4294967296:Nat)) <|
        sif (List.length l4=List.length l4) <|
        letN (IntKind.wrap IntKind.i64 (i5+(1:Int))) fun n11=>
        sif (List.length l4+(1:Nat)=List.length (l4++[D.sl Tag.fresh (cut (0:Nat) (List.length l10) l10)])) <|
        again1 (((l2,i3,l4++[D.sl Tag.fresh (cut (0:Nat) (List.length l10) l10)],n11,PUnit.unit),PUnit.unit)))
        (zap (za1 [D.int IntKind.i64 n6]) fun r12=>
        zbl r12 fun l13=>
        sif ((0:Nat)+List.length l13≤List.length l13) <|
        sif (List.length l4+(1:Nat)≤(4294967296:Nat)) <|
        sif (List.length l4=List.length l4) <|
        letN (IntKind.wrap IntKind.i64 (i5+(1:Int))) fun n14=>
        sif (List.length l4+(1:Nat)=List.length (l4++[D.sl Tag.fresh (cut (0:Nat) (List.length l13) l13)])) <|
        again1 (((l2,i3,l4++[D.sl Tag.fresh (cut (0:Nat) (List.length l13) l13)],n14,PUnit.unit),PUnit.unit))))
      (sif (List.length l4=List.length l4) <|
      sif (List.all l4 D.free=true) <|
      some (D.sl Tag.own l4)))
    (((a0,a1,[],(0:Int),PUnit.unit),PUnit.unit))
theorem zkL (za1:List D→Option D) (tga0:Tag) (a0:List D) (a1:Int):denP Try.prog (zax [(ID.wattleplay_Sector,(.pure [1] za1))]) zeY [1] ID.wattleplay_Sectors [.sl tga0 a0,.int .i64 a1]=zdX za1 (D.lentL a0) a1:=by kernel_rfl
theorem ziu (tga0:Tag) (a0:List D) (a1:Int):zav [.sl tga0 a0,.int .i64 a1]=zdX za1 (D.lentL a0) a1:=zkL za1 tga0 a0 a1
def zfK:Ann:={ loops:=[] }
noncomputable def zaf:List D→Option D:=denP Try.prog (zax [(ID.wattleref01_Check,(.pure [0] zad))]) zfK [0] ID.wattleref01_fine
theorem zi2:za0 Try.prog ID.wattleref01_fine (.pure [0] zaf):=zao (zaz [zcf]) zby ⟨Try.f75,by kernel_rfl,by kernel_rfl,by kernel_rfl⟩
noncomputable def zcN:Fact Try.prog:=⟨ID.wattleref01_fine,(.pure [0] zaf),zi2⟩
noncomputable def zeH (zad:List D→Option D) (a0_0:Int) (a0_1:Int) (a0_2:Int) (a1:Int):Option D:=
  zap (zad [D.agg [D.int IntKind.i64 a0_0,D.int IntKind.i64 a0_1,D.int IntKind.i64 a0_2]]) fun r1=>
  asB r1 fun b2=>
  brK b2
    (brK (decide (a1≥(0:Int)))
      (some (D.bool (decide (a1 < (16:Int)))))
      (some (D.bool false)))
    (some (D.bool false))
theorem zmz (zad:List D→Option D) (a0_0:Int) (a0_1:Int) (a0_2:Int) (a1:Int):denP Try.prog (zax [(ID.wattleref01_Check,(.pure [0] zad))]) zfK [0] ID.wattleref01_fine [.agg [.int .i64 a0_0,.int .i64 a0_1,.int .i64 a0_2],.int .i64 a1]=zeH zad a0_0 a0_1 a0_2 a1:=by kernel_rfl
theorem zjG (a0_0:Int) (a0_1:Int) (a0_2:Int) (a1:Int):zaf [.agg [.int .i64 a0_0,.int .i64 a0_1,.int .i64 a0_2],.int .i64 a1]=zeH zad a0_0 a0_1 a0_2 a1:=zmz zad a0_0 a0_1 a0_2 a1
def zeZ:Ann:={ loops:=[] }
noncomputable def zah:List D→Option D:=denP Try.prog (zax [(ID.wattleref01_fine,(.pure [0] zaf))]) zeZ [0,0] ID.wattleref01_Parity
theorem zhO:za0 Try.prog ID.wattleref01_Parity (.pure [0,0] zah):=zao (zaz [zcN]) zby ⟨Try.f46,by kernel_rfl,by kernel_rfl,by kernel_rfl⟩
noncomputable def zde:Fact Try.prog:=⟨ID.wattleref01_Parity,(.pure [0,0] zah),zhO⟩
noncomputable def zdY (zaf:List D→Option D) (a0_0:Int) (a0_1:Int) (a0_2:Int) (a1:Int):Option D:=
  zap (zaf [D.agg [D.int IntKind.i64 a0_0,D.int IntKind.i64 a0_1,D.int IntKind.i64 a0_2],D.int IntKind.i64 a1]) fun r1=>
  asB r1 fun b2=>
  brK (!b2)
    (some (D.tup [D.int IntKind.i64 (-1:Int),D.int IntKind.i64 (-1:Int)]))
    (letN (IntKind.wrap IntKind.i64 (a0_1 - (1:Int))) fun n3=>
    sif (a0_2≠(0:Int)) <|
    letN (IntKind.wrap IntKind.i64 (Int.tdiv a1 a0_2)) fun n4=>
    sif (a0_1≠(0:Int)) <|
    letN (Int.tmod n4 a0_1) fun n5=>
    letN (IntKind.wrap IntKind.i64 (n3 - n5)) fun n6=>
    brK (a0_0 == (5:Int))
      (some (D.tup [D.int IntKind.i64 n6,D.int IntKind.i64 (-1:Int)]))
      (letN (IntKind.wrap IntKind.i64 (n6+(1:Int))) fun n7=>
      sif (a0_1≠(0:Int)) <|
      letN (Int.tmod n7 a0_1) fun n8=>
      some (D.tup [D.int IntKind.i64 n6,D.int IntKind.i64 n8])))
theorem zkM (zaf:List D→Option D) (a0_0:Int) (a0_1:Int) (a0_2:Int) (a1:Int):denP Try.prog (zax [(ID.wattleref01_fine,(.pure [0] zaf))]) zeZ [0,0] ID.wattleref01_Parity [.agg [.int .i64 a0_0,.int .i64 a0_1,.int .i64 a0_2],.int .i64 a1]=zdY zaf a0_0 a0_1 a0_2 a1:=by kernel_rfl
theorem ziv (a0_0:Int) (a0_1:Int) (a0_2:Int) (a1:Int):zah [.agg [.int .i64 a0_0,.int .i64 a0_1,.int .i64 a0_2],.int .i64 a1]=zdY zaf a0_0 a0_1 a0_2 a1:=zkM zaf a0_0 a0_1 a0_2 a1
def zfL:Ann:={ loops:=[] }
noncomputable def zaE:List D→Option D:=denP Try.prog (zax [(ID.wattleref01_fine,(.pure [0] zaf)),(ID.wattleref01_Width,(.pure [0] zaa)),(ID.wattleref01_Parity,(.pure [0,0] zah)),(ID.wattleref01_Budget,(.pure [0] zau))]) zfL [0] ID.wattleref01_Disk
theorem zi3:za0 Try.prog ID.wattleref01_Disk (.pure [0] zaE):=zao (zaz [zcN,zbO,zde,zeF]) zby ⟨Try.f74,by kernel_rfl,by kernel_rfl,by kernel_rfl⟩
noncomputable def zfw:Fact Try.prog:=⟨ID.wattleref01_Disk,(.pure [0] zaE),zi3⟩
noncomputable def zeI (zaf:List D→Option D) (zaa:List D→Option D) (zah:List D→Option D) (zau:List D→Option D) (a0_0:Int) (a0_1:Int) (a0_2:Int) (a1:Int) (a2:Int):Option D:=
  zap (zaf [D.agg [D.int IntKind.i64 a0_0,D.int IntKind.i64 a0_1,D.int IntKind.i64 a0_2],D.int IntKind.i64 a1]) fun r1=>
  asB r1 fun b2=>
  brK (!b2)
    (some (D.int IntKind.i64 (-1:Int)))
    (brK (decide (a2 < (0:Int)))
      (some (D.int IntKind.i64 (-1:Int)))
      (zap (zaa [D.agg [D.int IntKind.i64 a0_0,D.int IntKind.i64 a0_1,D.int IntKind.i64 a0_2]]) fun r3=>
      asI IntKind.i64 r3 fun i4=>
      brK (decide (a2≥i4))
        (some (D.int IntKind.i64 (-1:Int)))
        (zap (zah [D.agg [D.int IntKind.i64 a0_0,D.int IntKind.i64 a0_1,D.int IntKind.i64 a0_2],D.int IntKind.i64 a1]) fun r5=>
        zdP r5 fun ts6=>
        zay ([Lf.any,Lf.any]) ts6 fun c7=>
        asI IntKind.i64 c7.fst fun i8=>
        asI IntKind.i64 c7.snd.fst fun i9=>
        zap (zau [D.agg [D.int IntKind.i64 a0_0,D.int IntKind.i64 a0_1,D.int IntKind.i64 a0_2]]) fun r10=>
        asI IntKind.i64 r10 fun i11=>
        letN (IntKind.wrap IntKind.i64 (i8+i11)) fun n12=>
        letN (IntKind.wrap IntKind.i64 (n12+a2)) fun n13=>
        sif (a0_1≠(0:Int)) <|
        letN (Int.tmod n13 a0_1) fun n14=>
        some (D.int IntKind.i64 n14))))
theorem zmA (zaf:List D→Option D) (zaa:List D→Option D) (zah:List D→Option D) (zau:List D→Option D) (a0_0:Int) (a0_1:Int) (a0_2:Int) (a1:Int) (a2:Int):denP Try.prog (zax [(ID.wattleref01_fine,(.pure [0] zaf)),(ID.wattleref01_Width,(.pure [0] zaa)),(ID.wattleref01_Parity,(.pure [0,0] zah)),(ID.wattleref01_Budget,(.pure [0] zau))]) zfL [0] ID.wattleref01_Disk [.agg [.int .i64 a0_0,.int .i64 a0_1,.int .i64 a0_2],.int .i64 a1,.int .i64 a2]=zeI zaf zaa zah zau a0_0 a0_1 a0_2 a1 a2:=by kernel_rfl
theorem zjH (a0_0:Int) (a0_1:Int) (a0_2:Int) (a1:Int) (a2:Int):zaE [.agg [.int .i64 a0_0,.int .i64 a0_1,.int .i64 a0_2],.int .i64 a1,.int .i64 a2]=zeI zaf zaa zah zau a0_0 a0_1 a0_2 a1 a2:=zmA zaf zaa zah zau a0_0 a0_1 a0_2 a1 a2
def zfx:Ann:={ loops:=[(0,[.val (.cell .lent),.dead,.dead,.dead,.dead,.val (.cell .lent),.val (.cell (.int .i64)),.val (.cell (.int .i64))])] }
noncomputable def zaC:List D→Option D:=denP Try.prog (zax []) zfx [0] ID.wattleref01_alike
theorem ziw:za0 Try.prog ID.wattleref01_alike (.pure [0] zaC):=zao (zaz []) zby ⟨Try.f115,by kernel_rfl,by kernel_rfl,by kernel_rfl⟩
noncomputable def ze0:Fact Try.prog:=⟨ID.wattleref01_alike,(.pure [0] zaC),ziw⟩
noncomputable def zel (a0:List D):Option D:=
  zb3 (α:=(List D×List D×Int×Int×PUnit)×PUnit) (fun again1 ((l2,(l3,(i4,(i5,_)))),_)=>
    brK (decide (i5 < i4))
      (sif ((0:Int)≤i5) <|
      getK l3 (Int.toNat i5) fun d6=>
      asSl d6 fun t7 l8=>
      getK l2 ((0:Nat)) fun d9=>
      asSl d9 fun t10 l11=>
      brK ((↑(List.length l8):Int) != (↑(List.length l11):Int))
        (some (D.bool false))
        (letN (IntKind.wrap IntKind.i64 (i5+(1:Int))) fun n12=>
        again1 (((l2,l3,i4,n12,PUnit.unit),PUnit.unit))))
      (some (D.bool (decide ((↑(List.length l2):Int) > (0:Int))))))
    (((a0,a0,(↑(List.length a0):Int),(0:Int),PUnit.unit),PUnit.unit))
theorem zlF (tga0:Tag) (a0:List D):denP Try.prog (zax []) zfx [0] ID.wattleref01_alike [.sl tga0 a0]=zel (D.lentL a0):=by kernel_rfl
theorem zi4 (tga0:Tag) (a0:List D):zaC [.sl tga0 a0]=zel (D.lentL a0):=zlF tga0 a0
def zhP:Ann:={ loops:=[(1,[.dead,.dead,.dead,.own 1,.dead,.dead,.dead,.dead,.dead,.dead,.dead,.dead,.dead,.dead,.dead,.dead,.val (.cell .lent),.val (.cell (.int .i64)),.val (.cell (.int .i64))]),(3,[.dead,.dead,.dead,.own 1,.dead,.dead,.dead,.dead,.dead,.dead,.dead,.dead,.dead,.dead,.dead,.dead,.val (.cell .lent),.val (.cell (.int .i64)),.val (.cell (.int .i64)),.dead,.dead,.dead,.val (.cell .sl),.val (.cell (.int .i64)),.val (.cell (.int .i64))])] }
noncomputable def zbI:List D→Option D:=denP Try.prog (zax [(ID.wattleref01_alike,(.pure [0] zaC))]) zhP [1] ID.wattleref01_P
theorem zlG:za0 Try.prog ID.wattleref01_P (.pure [1] zbI):=zao (zaz [ze0]) zby ⟨Try.f81,by kernel_rfl,by kernel_rfl,by kernel_rfl⟩
noncomputable def zmB:Fact Try.prog:=⟨ID.wattleref01_P,(.pure [1] zbI),zlG⟩
noncomputable def zgu (zaC:List D→Option D) (a0:List D):Option D:=
  zap (zaC [D.sl Tag.lent a0]) fun r1=>
  asB r1 fun b2=>
  brK (!b2)
    (some (D.sl Tag.own []))
    (getK a0 ((0:Nat)) fun d3=>
    asSl d3 fun t4 l5=>
    sif ((↑(List.length l5):Int)=(↑(List.length l5):Int)) <|
    sif ((↑(List.length l5):Int)*(1:Int)≤(140737488355328:Int)) <|
    sif ((↑(List.length l5):Int)≤(140737488355328:Int)) <|
    sif (Int.toNat (↑(List.length l5):Int)=List.length (List.replicate (Int.toNat (↑(List.length l5):Int)) (D.int IntKind.u8 (0:Int)))) <|
    zb3 (α:=(List D×List D×Int×Int×PUnit)×PUnit) (fun again6 ((l7,(l8,(i9,(i10,_)))),_)=>
      brK (decide (i10 < i9))
        (sif ((0:Int)≤i10) <|
        getK l8 (Int.toNat i10) fun d11=>
        asSl d11 fun t12 l13=>
        sif (List.length l7=List.length l7) <|
        zb3 (α:=(List D×List D×Int×Int×(Tag×List D)×Int×Int×PUnit)×PUnit) (fun again14 ((l15,(l16,(i17,(i18,((t19,l20),(i21,(i22,_))))))),_)=>
          brK (decide (i22 < i21))
            (sif ((0:Int)≤i22) <|
            getK l20 (Int.toNat i22) fun d23=>
            asI IntKind.u8 d23 fun i24=>
            sif ((0:Int)≤i22) <|
            sif (Int.toNat i22 < List.length l15) <|
            getK l15 ((0:Nat)+Int.toNat i22) fun d25=>
            asI IntKind.u8 d25 fun i26=>
            letN (bits BinOp.xor IntKind.u8 i26 i24) fun n27=>
            sif ((0:Int)≤i22) <|
            sif (Int.toNat i22 < List.length l15) <|
            getK l15 ((0:Nat)+Int.toNat i22) fun d28=>
            sif (D.isAgg d28=false) <|
            letN (IntKind.wrap IntKind.i64 (i22+(1:Int))) fun n29=>
            sif (List.length l15=List.length (List.set l15 ((0:Nat)+Int.toNat i22) (D.int IntKind.u8 n27))) <|
            again14 (((List.set l15 ((0:Nat)+Int.toNat i22) (D.int IntKind.u8 n27),l16,i17,i18,(t19,l20),i21,n29,PUnit.unit),PUnit.unit)))
            (letN (IntKind.wrap IntKind.i64 (i18+(1:Int))) fun n30=>
            sif (List.length l15=List.length l15) <|
            again6 (((l15,l16,i17,n30,PUnit.unit),PUnit.unit))))
          (((l7,l8,i9,i10,(t12,l13),(↑(List.length l13):Int),(0:Int),PUnit.unit),PUnit.unit)))
        (sif (List.length l7=List.length l7) <|
        sif (List.all l7 D.free=true) <|
        some (D.sl Tag.own l7)))
      (((List.replicate (Int.toNat (↑(List.length l5):Int)) (D.int IntKind.u8 (0:Int)),a0,(↑(List.length a0):Int),(0:Int),PUnit.unit),PUnit.unit)))
theorem zpJ (zaC:List D→Option D) (tga0:Tag) (a0:List D):denP Try.prog (zax [(ID.wattleref01_alike,(.pure [0] zaC))]) zhP [1] ID.wattleref01_P [.sl tga0 a0]=zgu zaC (D.lentL a0):=by kernel_rfl
theorem zmC (tga0:Tag) (a0:List D):zbI [.sl tga0 a0]=zgu zaC (D.lentL a0):=zpJ zaC tga0 a0
def zgv:Ann:={ loops:=[(0,[.dead,.val (.cell (.int .u8)),.dead,.dead,.dead,.val (.cell (.int .i64)),.val (.cell (.int .i64)),.val (.cell (.int .i64))])] }
noncomputable def zaM:List D→Option D:=denP Try.prog (zax []) zgv [0] ID.wattleref01_Mul
theorem zjI:za0 Try.prog ID.wattleref01_Mul (.pure [0] zaM):=zao (zaz []) zby ⟨Try.f117,by kernel_rfl,by kernel_rfl,by kernel_rfl⟩
noncomputable def zfM:Fact Try.prog:=⟨ID.wattleref01_Mul,(.pure [0] zaM),zjI⟩
noncomputable def zfc (a0:Int) (a1:Int):Option D:=
  letN (IntKind.wrap IntKind.i64 a0) fun n1=>
  zb3 (α:=(Int×Int×Int×Int×PUnit)×PUnit) (fun again2 ((i3,(i4,(i5,(i6,_)))),_)=>
    brK (decide (i6 < (8:Int)))
      (letN (IntKind.wrap IntKind.u64 i6) fun n7=>
      sif ((0:Int)≤n7) <|
      letN (Int.fdiv i3 ((2:Int) ^ min (Int.toNat n7) (8:Nat))) fun n8=>
      letN (bits BinOp.and IntKind.u8 n8 (1:Int)) fun n9=>
      brK (n9 == (1:Int))
        (letN (bits BinOp.xor IntKind.i64 i5 i4) fun n10=>
        letN (IntKind.wrap IntKind.i64 (i4*(2:Int))) fun n11=>
        brK (decide (n11 > (255:Int)))
          (letN (bits BinOp.xor IntKind.i64 n11 (285:Int)) fun n12=>
          letN (IntKind.wrap IntKind.i64 (i6+(1:Int))) fun n13=>
          again2 (((i3,n12,n10,n13,PUnit.unit),PUnit.unit)))
          (letN (IntKind.wrap IntKind.i64 (i6+(1:Int))) fun n14=>
          again2 (((i3,n11,n10,n14,PUnit.unit),PUnit.unit))))
        (letN (IntKind.wrap IntKind.i64 (i4*(2:Int))) fun n15=>
        brK (decide (n15 > (255:Int)))
          (letN (bits BinOp.xor IntKind.i64 n15 (285:Int)) fun n16=>
          letN (IntKind.wrap IntKind.i64 (i6+(1:Int))) fun n17=>
          again2 (((i3,n16,i5,n17,PUnit.unit),PUnit.unit)))
          (letN (IntKind.wrap IntKind.i64 (i6+(1:Int))) fun n18=>
          again2 (((i3,n15,i5,n18,PUnit.unit),PUnit.unit)))))
      (letN (IntKind.wrap IntKind.u8 i5) fun n19=>
      some (D.int IntKind.u8 n19)))
    (((a1,n1,(0:Int),(0:Int),PUnit.unit),PUnit.unit))
theorem znu (a0:Int) (a1:Int):denP Try.prog (zax []) zgv [0] ID.wattleref01_Mul [.int .u8 a0,.int .u8 a1]=zfc a0 a1:=by kernel_rfl
theorem zkN (a0:Int) (a1:Int):zaM [.int .u8 a0,.int .u8 a1]=zfc a0 a1:=znu a0 a1
def zgw:Ann:={ loops:=[(1,[.val (.cell (.int .i64)),.dead,.dead,.val (.cell (.int .u8))])] }
noncomputable def zbr:List D→Option D:=denP Try.prog (zax [(ID.wattleref01_Mul,(.pure [0] zaM))]) zgw [0] ID.wattleref01_Pow
theorem zjJ:za0 Try.prog ID.wattleref01_Pow (.pure [0] zbr):=zao (zaz [zfM]) zby ⟨Try.f116,by kernel_rfl,by kernel_rfl,by kernel_rfl⟩
noncomputable def zkO:Fact Try.prog:=⟨ID.wattleref01_Pow,(.pure [0] zbr),zjJ⟩
noncomputable def zfd (zaM:List D→Option D) (a0:Int):Option D:=
  letN (Int.tmod a0 (255:Int)) fun n1=>
  brK (decide (n1 < (0:Int)))
    (letN (IntKind.wrap IntKind.i64 (n1+(255:Int))) fun n2=>
    zb3 (α:=(Int×Int×PUnit)×PUnit) (fun again3 ((i4,(i5,_)),_)=>
      brK (decide (i4 > (0:Int)))
        (zap (zaM [D.int IntKind.u8 i5,D.int IntKind.u8 (2:Int)]) fun r6=>
        asI IntKind.u8 r6 fun i7=>
        letN (IntKind.wrap IntKind.i64 (i4 - (1:Int))) fun n8=>
        again3 (((n8,i7,PUnit.unit),PUnit.unit)))
        (some (D.int IntKind.u8 i5)))
      (((n2,(1:Int),PUnit.unit),PUnit.unit)))
    (zb3 (α:=(Int×Int×PUnit)×PUnit) (fun again9 ((i10,(i11,_)),_)=>
      brK (decide (i10 > (0:Int)))
        (zap (zaM [D.int IntKind.u8 i11,D.int IntKind.u8 (2:Int)]) fun r12=>
        asI IntKind.u8 r12 fun i13=>
        letN (IntKind.wrap IntKind.i64 (i10 - (1:Int))) fun n14=>
        again9 (((n14,i13,PUnit.unit),PUnit.unit)))
        (some (D.int IntKind.u8 i11)))
      (((n1,(1:Int),PUnit.unit),PUnit.unit)))
theorem znv (zaM:List D→Option D) (a0:Int):denP Try.prog (zax [(ID.wattleref01_Mul,(.pure [0] zaM))]) zgw [0] ID.wattleref01_Pow [.int .i64 a0]=zfd zaM a0:=by kernel_rfl
theorem zkP (a0:Int):zbr [.int .i64 a0]=zfd zaM a0:=znv zaM a0
def zhQ:Ann:={ loops:=[(1,[.dead,.dead,.dead,.own 1,.dead,.dead,.dead,.dead,.dead,.dead,.dead,.dead,.dead,.dead,.dead,.dead,.dead,.val (.cell .lent),.val (.cell (.int .i64)),.val (.cell (.int .i64))]),(3,[.dead,.dead,.dead,.own 1,.dead,.dead,.val (.cell (.int .u8)),.dead,.dead,.dead,.dead,.dead,.dead,.dead,.dead,.dead,.dead,.val (.cell .lent),.val (.cell (.int .i64)),.val (.cell (.int .i64)),.dead,.dead,.dead,.dead,.dead,.dead,.val (.cell .sl),.val (.cell (.int .i64)),.val (.cell (.int .i64))])] }
noncomputable def zbJ:List D→Option D:=denP Try.prog (zax [(ID.wattleref01_alike,(.pure [0] zaC)),(ID.wattleref01_Pow,(.pure [0] zbr)),(ID.wattleref01_Mul,(.pure [0] zaM))]) zhQ [1] ID.wattleref01_Q
theorem zlH:za0 Try.prog ID.wattleref01_Q (.pure [1] zbJ):=zao (zaz [ze0,zkO,zfM]) zby ⟨Try.f82,by kernel_rfl,by kernel_rfl,by kernel_rfl⟩
noncomputable def zmD:Fact Try.prog:=⟨ID.wattleref01_Q,(.pure [1] zbJ),zlH⟩
noncomputable def zgx (zaC:List D→Option D) (zbr:List D→Option D) (zaM:List D→Option D) (a0:List D):Option D:=
  zap (zaC [D.sl Tag.lent a0]) fun r1=>
  asB r1 fun b2=>
  brK (!b2)
    (some (D.sl Tag.own []))
    (getK a0 ((0:Nat)) fun d3=>
    asSl d3 fun t4 l5=>
    sif ((↑(List.length l5):Int)=(↑(List.length l5):Int)) <|
    sif ((↑(List.length l5):Int)*(1:Int)≤(140737488355328:Int)) <|
    sif ((↑(List.length l5):Int)≤(140737488355328:Int)) <|
    sif (Int.toNat (↑(List.length l5):Int)=List.length (List.replicate (Int.toNat (↑(List.length l5):Int)) (D.int IntKind.u8 (0:Int)))) <|
    zb3 (α:=(List D×List D×Int×Int×PUnit)×PUnit) (fun again6 ((l7,(l8,(i9,(i10,_)))),_)=>
      brK (decide (i10 < i9))
        (sif ((0:Int)≤i10) <|
        getK l8 (Int.toNat i10) fun d11=>
        asSl d11 fun t12 l13=>
        zap (zbr [D.int IntKind.i64 i10]) fun r14=>
        asI IntKind.u8 r14 fun i15=>
        sif (List.length l7=List.length l7) <|
        zb3 (α:=(List D×Int×List D×Int×Int×(Tag×List D)×Int×Int×PUnit)×PUnit) (fun again16 ((l17,(i18,(l19,(i20,(i21,((t22,l23),(i24,(i25,_)))))))),_)=>
          brK (decide (i25 < i24))
            (sif ((0:Int)≤i25) <|
            getK l23 (Int.toNat i25) fun d26=>
            asI IntKind.u8 d26 fun i27=>
            sif ((0:Int)≤i25) <|
            sif (Int.toNat i25 < List.length l17) <|
            getK l17 ((0:Nat)+Int.toNat i25) fun d28=>
            asI IntKind.u8 d28 fun i29=>
            zap (zaM [D.int IntKind.u8 i27,D.int IntKind.u8 i18]) fun r30=>
            asI IntKind.u8 r30 fun i31=>
            letN (bits BinOp.xor IntKind.u8 i29 i31) fun n32=>
            sif ((0:Int)≤i25) <|
            sif (Int.toNat i25 < List.length l17) <|
            getK l17 ((0:Nat)+Int.toNat i25) fun d33=>
            sif (D.isAgg d33=false) <|
            letN (IntKind.wrap IntKind.i64 (i25+(1:Int))) fun n34=>
            sif (List.length l17=List.length (List.set l17 ((0:Nat)+Int.toNat i25) (D.int IntKind.u8 n32))) <|
            again16 (((List.set l17 ((0:Nat)+Int.toNat i25) (D.int IntKind.u8 n32),i18,l19,i20,i21,(t22,l23),i24,n34,PUnit.unit),PUnit.unit)))
            (letN (IntKind.wrap IntKind.i64 (i21+(1:Int))) fun n35=>
            sif (List.length l17=List.length l17) <|
            again6 (((l17,l19,i20,n35,PUnit.unit),PUnit.unit))))
          (((l7,i15,l8,i9,i10,(t12,l13),(↑(List.length l13):Int),(0:Int),PUnit.unit),PUnit.unit)))
        (sif (List.length l7=List.length l7) <|
        sif (List.all l7 D.free=true) <|
        some (D.sl Tag.own l7)))
      (((List.replicate (Int.toNat (↑(List.length l5):Int)) (D.int IntKind.u8 (0:Int)),a0,(↑(List.length a0):Int),(0:Int),PUnit.unit),PUnit.unit)))
theorem zpK (zaC:List D→Option D) (zbr:List D→Option D) (zaM:List D→Option D) (tga0:Tag) (a0:List D):denP Try.prog (zax [(ID.wattleref01_alike,(.pure [0] zaC)),(ID.wattleref01_Pow,(.pure [0] zbr)),(ID.wattleref01_Mul,(.pure [0] zaM))]) zhQ [1] ID.wattleref01_Q [.sl tga0 a0]=zgx zaC zbr zaM (D.lentL a0):=by kernel_rfl
theorem zmE (tga0:Tag) (a0:List D):zbJ [.sl tga0 a0]=zgx zaC zbr zaM (D.lentL a0):=zpK zaC zbr zaM tga0 a0
def zfN:Ann:={ loops:=[(1,[.dead,.val (.cell (.int .i64)),.val (.cell .lent),.box true [(.int .i64),(.int .i64),(.int .i64)],.dead,.dead,.dead,.dead,.own 1,.dead,.dead,.dead,.dead,.dead,.dead,.dead,.dead,.dead,.dead,.dead,.dead,.dead,.dead,.dead,.dead,.dead,.dead,.val (.cell .lent),.val (.cell (.int .i64)),.val (.cell (.int .i64))])] }
noncomputable def zbf:List D→Option D:=denP Try.prog (zax [(ID.wattleref01_fine,(.pure [0] zaf)),(ID.wattleref01_Width,(.pure [0] zaa)),(ID.wattleref01_Disk,(.pure [0] zaE)),(ID.wattleref01_Parity,(.pure [0,0] zah)),(ID.wattleref01_P,(.pure [1] zbI)),(ID.wattleref01_Q,(.pure [1] zbJ))]) zfN [1,0] ID.wattleref01_Fill
theorem zi5:za0 Try.prog ID.wattleref01_Fill (.pure [1,0] zbf):=zao (zaz [zcN,zbO,zfw,zde,zmB,zmD]) zby ⟨Try.f39,by kernel_rfl,by kernel_rfl,by kernel_rfl⟩
noncomputable def zjK:Fact Try.prog:=⟨ID.wattleref01_Fill,(.pure [1,0] zbf),zi5⟩
noncomputable def zeJ (zaf:List D→Option D) (zaa:List D→Option D) (zaE:List D→Option D) (zah:List D→Option D) (zbI:List D→Option D) (zbJ:List D→Option D) (a0_0:Int) (a0_1:Int) (a0_2:Int) (a1:Int) (a2:List D):Option D:=
  zap (zaf [D.agg [D.int IntKind.i64 a0_0,D.int IntKind.i64 a0_1,D.int IntKind.i64 a0_2],D.int IntKind.i64 a1]) fun r1=>
  asB r1 fun b2=>
  brK (!b2)
    (some (D.tup [D.sl Tag.own [],D.bool false]))
    (zap (zaa [D.agg [D.int IntKind.i64 a0_0,D.int IntKind.i64 a0_1,D.int IntKind.i64 a0_2]]) fun r3=>
    asI IntKind.i64 r3 fun i4=>
    brK ((↑(List.length a2):Int) != i4)
      (some (D.tup [D.sl Tag.own [],D.bool false]))
      (sif ((0:Int)≤a0_1) <|
      sif (a0_1=a0_1) <|
      sif (a0_1*(24:Int)≤(140737488355328:Int)) <|
      sif (a0_1≤(140737488355328:Int)) <|
      sif (Int.toNat a0_1=List.length (List.replicate (Int.toNat a0_1) (D.sl Tag.nil []))) <|
      zb3 (α:=(Int×List D×(Int×Int×Int×PUnit)×List D×List D×Int×Int×PUnit)×PUnit) (fun again5 ((i6,(l7,((i8,(i9,(i10,_))),(l11,(l12,(i13,(i14,_))))))),_)=>
        brK (decide (i14 < i13))
          (sif ((0:Int)≤i14) <|
          getK l12 (Int.toNat i14) fun d15=>
          asSl d15 fun t16 l17=>
          brK ((↑(List.length l17):Int) != (32:Int))
            (some (D.tup [D.sl Tag.own [],D.bool false]))
            (zap (zaE [D.agg [D.int IntKind.i64 i8,D.int IntKind.i64 i9,D.int IntKind.i64 i10],D.int IntKind.i64 i6,D.int IntKind.i64 i14]) fun r18=>
            asI IntKind.i64 r18 fun i19=>
            sif (List.length l17≤(4294967296:Nat)) <|
            sif (zeA (1:Nat) l17=true) <|
            sif ((0:Int)≤i19) <|
            sif (Int.toNat i19 < List.length l11) <|
            sif ((0:Nat)+List.length l17≤List.length l17) <|
            getK l11 ((0:Nat)+Int.toNat i19) fun d20=>
            sif ((0:Nat)+List.length l17≤List.length l17) <|
            sif (D.isAgg d20=false) <|
            letN (IntKind.wrap IntKind.i64 (i14+(1:Int))) fun n21=>
            sif (List.length l11=List.length (List.set l11 ((0:Nat)+Int.toNat i19) (D.sl Tag.fresh (cut (0:Nat) (List.length l17) l17)))) <|
            again5 (((i6,l7,(i8,i9,i10,PUnit.unit),List.set l11 ((0:Nat)+Int.toNat i19) (D.sl Tag.fresh (cut (0:Nat) (List.length l17) l17)),l12,i13,n21,PUnit.unit),PUnit.unit))))
          (zap (zah [D.agg [D.int IntKind.i64 i8,D.int IntKind.i64 i9,D.int IntKind.i64 i10],D.int IntKind.i64 i6]) fun r22=>
          zdP r22 fun ts23=>
          zay ([Lf.any,Lf.any]) ts23 fun c24=>
          asI IntKind.i64 c24.fst fun i25=>
          asI IntKind.i64 c24.snd.fst fun i26=>
          zap (zbI [D.sl Tag.lent l7]) fun r27=>
          zbl r27 fun l28=>
          sif ((0:Int)≤i25) <|
          sif (Int.toNat i25 < List.length l11) <|
          sif ((0:Nat)+List.length l28≤List.length l28) <|
          getK l11 ((0:Nat)+Int.toNat i25) fun d29=>
          sif ((0:Nat)+List.length l28≤List.length l28) <|
          sif (D.isAgg d29=false) <|
          brK (decide (i26≥(0:Int)))
            (zap (zbJ [D.sl Tag.lent l7]) fun r30=>
            zbl r30 fun l31=>
            sif ((0:Int)≤i26) <|
            sif (Int.toNat i26 < List.length l11) <|
            sif ((0:Nat)+List.length l31≤List.length l31) <|
            getK (List.set l11 ((0:Nat)+Int.toNat i25) (D.sl Tag.fresh (cut (0:Nat) (List.length l28) l28))) ((0:Nat)+Int.toNat i26) fun d32=>
            sif ((0:Nat)+List.length l31≤List.length l31) <|
            sif (D.isAgg d32=false) <|
            sif (List.length l11=List.length (List.set (List.set l11 ((0:Nat)+Int.toNat i25) (D.sl Tag.fresh (cut (0:Nat) (List.length l28) l28))) ((0:Nat)+Int.toNat i26) (D.sl Tag.fresh (cut (0:Nat) (List.length l31) l31)))) <|
            sif (List.all (List.set (List.set l11 ((0:Nat)+Int.toNat i25) (D.sl Tag.fresh (cut (0:Nat) (List.length l28) l28))) ((0:Nat)+Int.toNat i26) (D.sl Tag.fresh (cut (0:Nat) (List.length l31) l31))) D.free=true) <|
            some (D.tup [D.sl Tag.own (List.set (List.set l11 ((0:Nat)+Int.toNat i25) (D.sl Tag.fresh (cut (0:Nat) (List.length l28) l28))) ((0:Nat)+Int.toNat i26) (D.sl Tag.fresh (cut (0:Nat) (List.length l31) l31))),D.bool true]))
            (sif (List.length l11=List.length (List.set l11 ((0:Nat)+Int.toNat i25) (D.sl Tag.fresh (cut (0:Nat) (List.length l28) l28)))) <|
            sif (List.all (List.set l11 ((0:Nat)+Int.toNat i25) (D.sl Tag.fresh (cut (0:Nat) (List.length l28) l28))) D.free=true) <|
            some (D.tup [D.sl Tag.own (List.set l11 ((0:Nat)+Int.toNat i25) (D.sl Tag.fresh (cut (0:Nat) (List.length l28) l28))),D.bool true]))))
        (((a1,a2,(a0_0,a0_1,a0_2,PUnit.unit),List.replicate (Int.toNat a0_1) (D.sl Tag.nil []),a2,(↑(List.length a2):Int),(0:Int),PUnit.unit),PUnit.unit))))
theorem zmF (zaf:List D→Option D) (zaa:List D→Option D) (zaE:List D→Option D) (zah:List D→Option D) (zbI:List D→Option D) (zbJ:List D→Option D) (tga2:Tag) (a0_0:Int) (a0_1:Int) (a0_2:Int) (a1:Int) (a2:List D):denP Try.prog (zax [(ID.wattleref01_fine,(.pure [0] zaf)),(ID.wattleref01_Width,(.pure [0] zaa)),(ID.wattleref01_Disk,(.pure [0] zaE)),(ID.wattleref01_Parity,(.pure [0,0] zah)),(ID.wattleref01_P,(.pure [1] zbI)),(ID.wattleref01_Q,(.pure [1] zbJ))]) zfN [1,0] ID.wattleref01_Fill [.agg [.int .i64 a0_0,.int .i64 a0_1,.int .i64 a0_2],.int .i64 a1,.sl tga2 a2]=zeJ zaf zaa zaE zah zbI zbJ a0_0 a0_1 a0_2 a1 (D.lentL a2):=by kernel_rfl
theorem zjL (tga2:Tag) (a0_0:Int) (a0_1:Int) (a0_2:Int) (a1:Int) (a2:List D):zbf [.agg [.int .i64 a0_0,.int .i64 a0_1,.int .i64 a0_2],.int .i64 a1,.sl tga2 a2]=zeJ zaf zaa zaE zah zbI zbJ a0_0 a0_1 a0_2 a1 (D.lentL a2):=zmF zaf zaa zaE zah zbI zbJ tga2 a0_0 a0_1 a0_2 a1 a2
def zg5:Ann:={ loops:=[],ks:=[(3840,false)] }
noncomputable def zal:List D→List Tb→Option Ans:=denS Try.prog (zax []) zg5 [0] ID.bench_Bench_is
theorem zkQ:za0 Try.prog ID.bench_Bench_is (.st [] [0] [(3840,false)] zal):=zbL (zaz []) zby ⟨Try.f66,by kernel_rfl,by kernel_rfl,by kernel_rfl⟩
noncomputable def zdf:Fact Try.prog:=⟨ID.bench_Bench_is,(.st [] [0] [(3840,false)] zal),zkQ⟩
noncomputable def zfB (a0:Nat) (a1:Int) (T0:Tb):Option Ans:=
  brK (decide (a1≥(0:Int)))
    (getK T0 a0 fun d1=>
    getK d1 ((3:Nat)) fun d2=>
    zbl d2 fun l3=>
    getK T0 a0 fun d4=>
    getK d4 ((3:Nat)) fun d5=>
    zbl d5 fun l6=>
    sif ((0:Nat)+List.length l3≤List.length l6) <|
    some (Ans.mk (D.bool (decide (a1 < (↑(List.length l3):Int)))) [] []))
    (some (Ans.mk (D.bool false) [] []))
theorem zol (a0:Nat) (a1:Int) (T0:Tb):denS Try.prog (zax []) zg5 [0] ID.bench_Bench_is [.h 3840 a0 0,.int .i64 a1] [T0]=zfB a0 a1 T0:=by kernel_rfl
theorem zlI (a0:Nat) (a1:Int) (T0:Tb):zal [.h 3840 a0 0,.int .i64 a1] [T0]=zfB a0 a1 T0:=zol a0 a1 T0
def zhR:Ann:={ loops:=[],ks:=[(7649,false)] }
noncomputable def zaU:List D→List Tb→Option Ans:=denS Try.prog (zax []) zhR [0] ID.disk_Disk_may
theorem zlJ:za0 Try.prog ID.disk_Disk_may (.st [] [0] [(7649,false)] zaU):=zbL (zaz []) zby ⟨Try.f118,by kernel_rfl,by kernel_rfl,by kernel_rfl⟩
noncomputable def zg6:Fact Try.prog:=⟨ID.disk_Disk_may,(.st [] [0] [(7649,false)] zaU),zlJ⟩
noncomputable def zgy (a0:Nat) (a1:Int) (T0:Tb):Option Ans:=
  getK T0 a0 fun d1=>
  getK d1 ((1665:Nat)) fun d2=>
  asB d2 fun b3=>
  brK b3
    (some (Ans.mk (D.int IntKind.i64 (5:Int)) [] []))
    (brK (decide (a1 < (0:Int)))
      (some (Ans.mk (D.int IntKind.i64 (4:Int)) [] []))
      (brK (decide (a1≥(52:Int)))
        (some (Ans.mk (D.int IntKind.i64 (4:Int)) [] []))
        (some (Ans.mk (D.int IntKind.i64 (0:Int)) [] []))))
theorem zpL (a0:Nat) (a1:Int) (T0:Tb):denS Try.prog (zax []) zhR [0] ID.disk_Disk_may [.h 7649 a0 0,.int .i64 a1] [T0]=zgy a0 a1 T0:=by kernel_rfl
theorem zmG (a0:Nat) (a1:Int) (T0:Tb):zaU [.h 7649 a0 0,.int .i64 a1] [T0]=zgy a0 a1 T0:=zpL a0 a1 T0
def zhS:Ann:={ loops:=[],ks:=[(7649,false)] }
noncomputable def zbK:List D→List Tb→Option Ans:=denS Try.prog (zax [(ID.disk_Disk_may,(.st [] [0] [(7649,false)] zaU))]) zhS [0,0] ID.disk_Disk_put
theorem zlK:za0 Try.prog ID.disk_Disk_put (.st [] [0,0] [(7649,false)] zbK):=zbL (zaz [zg6]) zby ⟨Try.f124,by kernel_rfl,by kernel_rfl,by kernel_rfl⟩
noncomputable def zmH:Fact Try.prog:=⟨ID.disk_Disk_put,(.st [] [0,0] [(7649,false)] zbK),zlK⟩
noncomputable def zgz (zaU:List D→List Tb→Option Ans) (a0:Nat) (a1:Int) (a2:List D) (T0:Tb):Option Ans:=
  zap (zaU [D.h (7649:Nat) a0 (0:Nat),D.int IntKind.i64 a1] [T0]) fun r1=>
  nilK r1.outs <|
  nilK r1.tbs <|
  asI IntKind.i64 r1.r fun i2=>
  brK (i2 != (0:Int))
    (some (Ans.mk (D.tup [D.agg [D.int IntKind.i64 (0:Int),D.int IntKind.u8 (0:Int),D.int IntKind.u8 (0:Int),D.int IntKind.u8 (0:Int),D.int IntKind.u8 (0:Int),D.int IntKind.u8 (0:Int),D.int IntKind.u8 (0:Int),D.int IntKind.u8 (0:Int),D.int IntKind.u8 (0:Int),D.int IntKind.u8 (0:Int),D.int IntKind.u8 (0:Int),D.int IntKind.u8 (0:Int),D.int IntKind.u8 (0:Int),D.int IntKind.u8 (0:Int),D.int IntKind.u8 (0:Int),D.int IntKind.u8 (0:Int),D.int IntKind.u8 (0:Int),D.int IntKind.u8 (0:Int),D.int IntKind.u8 (0:Int),D.int IntKind.u8 (0:Int),D.int IntKind.u8 (0:Int),D.int IntKind.u8 (0:Int),D.int IntKind.u8 (0:Int),D.int IntKind.u8 (0:Int),D.int IntKind.u8 (0:Int),D.int IntKind.u8 (0:Int),D.int IntKind.u8 (0:Int),D.int IntKind.u8 (0:Int),D.int IntKind.u8 (0:Int),D.int IntKind.u8 (0:Int),D.int IntKind.u8 (0:Int),D.int IntKind.u8 (0:Int),D.int IntKind.u8 (0:Int)],D.int IntKind.i64 i2]) [] []))
    (brK ((↑(List.length a2):Int) != (32:Int))
      (some (Ans.mk (D.tup [D.agg [D.int IntKind.i64 (0:Int),D.int IntKind.u8 (0:Int),D.int IntKind.u8 (0:Int),D.int IntKind.u8 (0:Int),D.int IntKind.u8 (0:Int),D.int IntKind.u8 (0:Int),D.int IntKind.u8 (0:Int),D.int IntKind.u8 (0:Int),D.int IntKind.u8 (0:Int),D.int IntKind.u8 (0:Int),D.int IntKind.u8 (0:Int),D.int IntKind.u8 (0:Int),D.int IntKind.u8 (0:Int),D.int IntKind.u8 (0:Int),D.int IntKind.u8 (0:Int),D.int IntKind.u8 (0:Int),D.int IntKind.u8 (0:Int),D.int IntKind.u8 (0:Int),D.int IntKind.u8 (0:Int),D.int IntKind.u8 (0:Int),D.int IntKind.u8 (0:Int),D.int IntKind.u8 (0:Int),D.int IntKind.u8 (0:Int),D.int IntKind.u8 (0:Int),D.int IntKind.u8 (0:Int),D.int IntKind.u8 (0:Int),D.int IntKind.u8 (0:Int),D.int IntKind.u8 (0:Int),D.int IntKind.u8 (0:Int),D.int IntKind.u8 (0:Int),D.int IntKind.u8 (0:Int),D.int IntKind.u8 (0:Int),D.int IntKind.u8 (0:Int)],D.int IntKind.i64 (1:Int)]) [] []))
      (sif (cells a2=true) <|
      sif (List.length a2=(32:Nat)) <|
      sif ((33:Nat)≤List.length ([D.int IntKind.i64 a1]++(a2++[]))) <|
      zay ([Lf.int IntKind.i64,Lf.arr (32)]) (List.take (33:Nat) (List.drop (0:Nat) ([D.int IntKind.i64 a1]++(a2++[])))) fun c3=>
      sif (List.length ([D.int IntKind.i64 c3.fst]++(c3.snd.fst++[]))=(33:Nat)) <|
      sif ((33:Nat)≤List.length ([D.int IntKind.i64 c3.fst]++(c3.snd.fst++[]))) <|
      zay ([Lf.int IntKind.i64,Lf.arr (32)]) (List.take (33:Nat) (List.drop (0:Nat) ([D.int IntKind.i64 c3.fst]++(c3.snd.fst++[])))) fun c4=>
      sif (D.free (D.agg ([D.int IntKind.i64 c4.fst]++(c4.snd.fst++[])))=true) <|
      some (Ans.mk (D.tup [D.agg ([D.int IntKind.i64 c4.fst]++(c4.snd.fst++[])),D.int IntKind.i64 (0:Int)]) [] [])))
theorem zpM (zaU:List D→List Tb→Option Ans) (tga2:Tag) (a0:Nat) (a1:Int) (a2:List D) (T0:Tb):denS Try.prog (zax [(ID.disk_Disk_may,(.st [] [0] [(7649,false)] zaU))]) zhS [0,0] ID.disk_Disk_put [.h 7649 a0 0,.int .i64 a1,.sl tga2 a2] [T0]=zgz zaU a0 a1 (D.lentL a2) T0:=by kernel_rfl
theorem zmI (tga2:Tag) (a0:Nat) (a1:Int) (a2:List D) (T0:Tb):zbK [.h 7649 a0 0,.int .i64 a1,.sl tga2 a2] [T0]=zgz zaU a0 a1 (D.lentL a2) T0:=zpM zaU tga2 a0 a1 a2 T0
def zco:Ann:={ loops:=[] }
noncomputable def zan:List D→Option D:=denE Try.prog (zax []) zco [33] ID.slices_Clone_disk_write_disk_write
theorem zds:za0 Try.prog ID.slices_Clone_disk_write_disk_write (.pure [33] zan):=zrc (zaz []) zby ⟨Try.f121,by kernel_rfl,by kernel_rfl,by kernel_rfl⟩
noncomputable def zdD:Fact Try.prog:=⟨ID.slices_Clone_disk_write_disk_write,(.pure [33] zan),zds⟩
noncomputable def zbX (a0:D) (b0:List D):Option D:=
  sif (List.length (a0::b0)≤(4294967296:Nat)) <|
  sif (zeA (33:Nat) (a0::b0)=true) <|
  sif (List.length (a0::b0)=List.length (a0::b0)) <|
  sif (List.all (a0::b0) D.free=true) <|
  some (D.sl Tag.own (a0::b0))
theorem zd8 (tga0:Tag) (a0:D) (b0:List D):denE Try.prog (zax []) zco [33] ID.slices_Clone_disk_write_disk_write [.sl tga0 (a0::b0)]=zbX (D.lent a0) (D.lentL b0):=by kernel_rfl
theorem zdE (tga0:Tag) (a0:D) (b0:List D):zan [.sl tga0 (a0::b0)]=zbX (D.lent a0) (D.lentL b0):=zd8 tga0 a0 b0
theorem zdt (tg:Tag):zan [.sl tg []]=some (.sl .own []):=(zn8 (some (.sl .own [])))
def ze1:Ann:={ loops:=[],hints:=[(1,.at1 (.int .i64))] }
noncomputable def zaB:List D→Option D:=denP Try.prog (zax []) ze1 [0] ID.disk_Disk_Damage_1
theorem zhT:za0 Try.prog ID.disk_Disk_Damage_1 (.pure [0] zaB):=zao (zaz []) zby ⟨Try.f126,by kernel_rfl,by kernel_rfl,by kernel_rfl⟩
noncomputable def zeK:Fact Try.prog:=⟨ID.disk_Disk_Damage_1,(.pure [0] zaB),zhT⟩
noncomputable def zdZ (a0:List D) (c0:Int):Option D:=
  zay ([Lf.int IntKind.i64,Lf.arr (32)]) a0 fun c1=>
  some (D.bool (c1.fst == c0))
theorem zkR (a0:List D) (c0:Int):denP Try.prog (zax []) ze1 [0] ID.disk_Disk_Damage_1 [.agg a0,.at_ (.int .i64 c0)]=zdZ (D.lentL a0) c0:=by kernel_rfl
theorem zix (a0:List D) (c0:Int):zaB [.agg a0,.at_ (.int .i64 c0)]=zdZ (D.lentL a0) c0:=zkR a0 c0
def zcc:Ann:={ loops:=[(0,[.val (.cell .lent),.val (.fn1 (126:FuncId) (.int .i64)),.dead,.dead,.dead,.dead,.dead,.val (.cell (.int .i64)),.val (.cell (.int .i64))])] }
noncomputable def zam:List D→Option D:=denP Try.prog (zax [(ID.disk_Disk_Damage_1,(.pure [0] zaB))]) zcc [0] ID.slices_IndexFunc_disk_write_disk_write
theorem zc6:za0 Try.prog ID.slices_IndexFunc_disk_write_disk_write (.pure [0] zam):=zao (zaz [zeK]) zby ⟨Try.f139,by kernel_rfl,by kernel_rfl,by kernel_rfl⟩
noncomputable def zdg:Fact Try.prog:=⟨ID.slices_IndexFunc_disk_write_disk_write,(.pure [0] zam),zc6⟩
noncomputable def zbw (zaB:List D→Option D) (a0:List D) (c0:Int):Option D:=
  zb3 (α:=(List D×Int×Int×Int×PUnit)×PUnit) (fun again1 ((l2,(i3,(i4,(i5,_)))),_)=>
    brK (decide (i5 < i4))
      (sif ((0:Int)≤i5) <|
      getK l2 (Int.toNat i5) fun d6=>
      asAgg d6 fun cs7=>
      zay ([Lf.int IntKind.i64,Lf.arr (32)]) cs7 fun c8=>
      sif (D.width (D.agg ([D.int IntKind.i64 c8.fst]++(c8.snd.fst++[])))=(33:Nat)) <|
      zay ([Lf.int IntKind.i64,Lf.arr (32)]) ([D.int IntKind.i64 c8.fst]++(c8.snd.fst++[])) fun c9=>
      sif (D.width (D.agg ([D.int IntKind.i64 c9.fst]++(c9.snd.fst++[])))=(33:Nat)) <|
      zap (zaB [D.agg ([D.int IntKind.i64 c9.fst]++(c9.snd.fst++[])),D.at_ (D.int IntKind.i64 i3)]) fun r10=>
      asB r10 fun b11=>
      brK b11
        (some (D.int IntKind.i64 i5))
        (letN (IntKind.wrap IntKind.i64 (i5+(1:Int))) fun n12=>
        again1 (((l2,i3,i4,n12,PUnit.unit),PUnit.unit))))
      (some (D.int IntKind.i64 (-1:Int))))
    (((a0,c0,(↑(List.length a0):Int),(0:Int),PUnit.unit),PUnit.unit))
theorem zcO (zaB:List D→Option D) (tga0:Tag) (a0:List D) (c0:Int):denP Try.prog (zax [(ID.disk_Disk_Damage_1,(.pure [0] zaB))]) zcc [0] ID.slices_IndexFunc_disk_write_disk_write [.sl tga0 a0,.fn 126 [] [.at_ (.int .i64 c0)]]=zbw zaB (D.lentL a0) c0:=by kernel_rfl
theorem zcE (tga0:Tag) (a0:List D) (c0:Int):zam [.sl tga0 a0,.fn 126 [] [.at_ (.int .i64 c0)]]=zbw zaB (D.lentL a0) c0:=zcO zaB tga0 a0 c0
def zcb:Ann:={ loops:=[(1,[.own 33,.val (.fn1 (126:FuncId) (.int .i64)),.dead,.dead,.dead,.val (.cell (.int .i64)),.val (.cell (.int .i64))])],pms:=[(.own,33)] }
noncomputable def zak:List D→List Tb→Option Ans:=denS Try.prog (zax [(ID.slices_IndexFunc_disk_write_disk_write,(.pure [0] zam)),(ID.disk_Disk_Damage_1,(.pure [0] zaB))]) zcb [33] ID.slices_DeleteFunc_disk_write_disk_write
theorem zc2:za0 Try.prog ID.slices_DeleteFunc_disk_write_disk_write (.st [(.own,33)] [33] [] zak):=zbL (zaz [zdg,zeK]) zby ⟨Try.f125,by kernel_rfl,by kernel_rfl,by kernel_rfl⟩
noncomputable def zc7:Fact Try.prog:=⟨ID.slices_DeleteFunc_disk_write_disk_write,(.st [(.own,33)] [33] [] zak),zc2⟩
noncomputable def zbn (zam:List D→Option D) (zaB:List D→Option D) (a0:List D) (c0:Int):Option Ans:=
  sif ((0:Nat)+List.length a0≤List.length a0) <|
  zap (zam [D.sl Tag.lent (cut (0:Nat) (List.length a0) a0),D.fn (126:FuncId) [] [D.at_ (D.int IntKind.i64 c0)]]) fun r1=>
  asI IntKind.i64 r1 fun i2=>
  brK (i2 == (-1:Int))
    (sif (List.length a0=List.length a0) <|
    sif (List.all a0 D.free=true) <|
    some (Ans.mk (D.sl Tag.own a0) [] []))
    (letN (IntKind.wrap IntKind.i64 (i2+(1:Int))) fun n3=>
    none)
theorem zcI (zam:List D→Option D) (zaB:List D→Option D) (a0:List D) (c0:Int):denS Try.prog (zax [(ID.slices_IndexFunc_disk_write_disk_write,(.pure [0] zam)),(ID.disk_Disk_Damage_1,(.pure [0] zaB))]) zcb [33] ID.slices_DeleteFunc_disk_write_disk_write [.sl .own a0,.fn 126 [] [.at_ (.int .i64 c0)]] []=zbn zam zaB a0 c0:=by kernel_rfl
theorem zcA (a0:List D) (c0:Int):zak [.sl .own a0,.fn 126 [] [.at_ (.int .i64 c0)]] []=zbn zam zaB a0 c0:=zcI zam zaB a0 c0
def zfO:Ann:={ loops:=[],ks:=[(7649,true)] }
noncomputable def zbg:List D→List Tb→Option Ans:=denS Try.prog (zax [(ID.disk_Disk_put,(.st [] [0,0] [(7649,false)] zbK)),(ID.slices_Clone_disk_write_disk_write,(.pure [33] zan)),(ID.slices_DeleteFunc_disk_write_disk_write,(.st [(.own,33)] [33] [] zak))]) zfO [0] ID.disk_Disk_Damage
theorem zi6:za0 Try.prog ID.disk_Disk_Damage (.st [] [0] [(7649,true)] zbg):=zbL (zaz [zmH,zdD,zc7]) zby ⟨Try.f100,by kernel_rfl,by kernel_rfl,by kernel_rfl⟩
noncomputable def zjM:Fact Try.prog:=⟨ID.disk_Disk_Damage,(.st [] [0] [(7649,true)] zbg),zi6⟩
noncomputable def zeL (zbK:List D→List Tb→Option Ans) (zan:List D→Option D) (zak:List D→List Tb→Option Ans) (a0:Nat) (a1:Int) (a2:List D) (T0:Tb):Option Ans:=
  zap (zbK [D.h (7649:Nat) a0 (0:Nat),D.int IntKind.i64 a1,D.sl Tag.lent a2] [T0]) fun r1=>
  nilK r1.outs <|
  nilK r1.tbs <|
  zdP r1.r fun ts2=>
  zay ([Lf.any,Lf.any]) ts2 fun c3=>
  asAgg c3.fst fun cs4=>
  zay ([Lf.int IntKind.i64,Lf.arr (32)]) cs4 fun c5=>
  asI IntKind.i64 c3.snd.fst fun i6=>
  sif (List.length ([D.int IntKind.i64 c5.fst]++(c5.snd.fst++[]))=(33:Nat)) <|
  brK (i6 != (0:Int))
    (some (Ans.mk (D.int IntKind.i64 i6) [] [T0]))
    (sif ((33:Nat)≤List.length ([D.int IntKind.i64 c5.fst]++(c5.snd.fst++[]))) <|
    sif (List.length (List.take (32:Nat) (List.drop (1:Nat) ([D.int IntKind.i64 c5.fst]++(c5.snd.fst++[]))))=(32:Nat)) <|
    sif ((0:Int)≤a1) <|
    sif (Int.toNat a1 < (52:Nat)) <|
    getK T0 a0 fun d7=>
    sif ((0:Nat)+Int.toNat a1*(32:Nat)+(32:Nat)≤List.length d7) <|
    sif (List.length (List.take (32:Nat) (List.drop (1:Nat) ([D.int IntKind.i64 c5.fst]++(c5.snd.fst++[]))))=(32:Nat)) <|
    sif (zok (List.take (32:Nat) (List.drop (1:Nat) ([D.int IntKind.i64 c5.fst]++(c5.snd.fst++[]))))=true) <|
    sif (zok (List.take (32:Nat) (List.drop ((0:Nat)+Int.toNat a1*(32:Nat)) d7))=true) <|
    letT (zbk T0 a0 ((0:Nat)+Int.toNat a1*(32:Nat)) (List.take (32:Nat) (List.drop (1:Nat) ([D.int IntKind.i64 c5.fst]++(c5.snd.fst++[]))))) fun U8=>
    getK U8 a0 fun d9=>
    getK d9 ((1664:Nat)) fun d10=>
    zbl d10 fun l11=>
    getK U8 a0 fun d12=>
    getK d12 ((1664:Nat)) fun d13=>
    zbl d13 fun l14=>
    sif ((0:Nat)+List.length l11≤List.length l14) <|
    zap (zan [D.sl Tag.lent (cut (0:Nat) (List.length l11) l14)]) fun r15=>
    zbl r15 fun l16=>
    sif (List.length l16=List.length l16) <|
    sif (zdz l16=true) <|
    zap (zak [D.sl Tag.own l16,D.fn (126:Nat) [] [D.at_ (D.int IntKind.i64 a1)]] []) fun r17=>
    nilK r17.outs <|
    nilK r17.tbs <|
    zbl r17.r fun l18=>
    sif ((0:Nat)+List.length l18≤List.length l18) <|
    getK U8 a0 fun d19=>
    sif ((1665:Nat)≤List.length d19) <|
    sif (List.length l18=List.length l18) <|
    sif (zdz l18=true) <|
    sif (zhF (33:Nat) l18=true) <|
    letT (zbk U8 a0 (1664:Nat) [D.sl Tag.own l18]) fun U20=>
    some (Ans.mk (D.int IntKind.i64 (0:Int)) [] [U20]))
theorem zmJ (zbK:List D→List Tb→Option Ans) (zan:List D→Option D) (zak:List D→List Tb→Option Ans) (tga2:Tag) (a0:Nat) (a1:Int) (a2:List D) (T0:Tb):denS Try.prog (zax [(ID.disk_Disk_put,(.st [] [0,0] [(7649,false)] zbK)),(ID.slices_Clone_disk_write_disk_write,(.pure [33] zan)),(ID.slices_DeleteFunc_disk_write_disk_write,(.st [(.own,33)] [33] [] zak))]) zfO [0] ID.disk_Disk_Damage [.h 7649 a0 0,.int .i64 a1,.sl tga2 a2] [T0]=zeL zbK zan zak a0 a1 (D.lentL a2) T0:=by kernel_rfl
theorem zjN (tga2:Tag) (a0:Nat) (a1:Int) (a2:List D) (T0:Tb):zbg [.h 7649 a0 0,.int .i64 a1,.sl tga2 a2] [T0]=zeL zbK zan zak a0 a1 (D.lentL a2) T0:=zmJ zbK zan zak tga2 a0 a1 a2 T0
def ze2:Ann:={ loops:=[],ks:=[(3840,false),(7649,true)] }
noncomputable def za2:List D→List Tb→Option Ans:=denS Try.prog (zax [(ID.bench_Bench_is,(.st [] [0] [(3840,false)] zal)),(ID.disk_Disk_Damage,(.st [] [0] [(7649,true)] zbg))]) ze2 [0] ID.bench_Bench_Damage
theorem zhU:za0 Try.prog ID.bench_Bench_Damage (.st [] [0] [(3840,false),(7649,true)] za2):=zbL (zaz [zdf,zjM]) zby ⟨Try.f65,by kernel_rfl,by kernel_rfl,by kernel_rfl⟩
noncomputable def ziy:Fact Try.prog:=⟨ID.bench_Bench_Damage,(.st [] [0] [(3840,false),(7649,true)] za2),zhU⟩
noncomputable def zd0 (zal:List D→List Tb→Option Ans) (zbg:List D→List Tb→Option Ans) (a0:Nat) (a1:Int) (a2:Int) (a3:List D) (T0:Tb) (T1:Tb):Option Ans:=
  zap (zal [D.h (3840:Nat) a0 (0:Nat),D.int IntKind.i64 a1] [T0]) fun r1=>
  nilK r1.outs <|
  nilK r1.tbs <|
  asB r1.r fun b2=>
  brK (!b2)
    (some (Ans.mk (D.int IntKind.i64 (1:Int)) [] [T1]))
    (getK T0 a0 fun d3=>
    getK d3 ((3:Nat)) fun d4=>
    zbl d4 fun l5=>
    getK T0 a0 fun d6=>
    getK d6 ((3:Nat)) fun d7=>
    zbl d7 fun l8=>
    sif ((0:Int)≤a1) <|
    sif (Int.toNat a1 < List.length l5) <|
    getK T0 a0 fun d9=>
    getK d9 ((3:Nat)) fun d10=>
    zbl d10 fun l11=>
    getK l11 ((0:Nat)+Int.toNat a1) fun d12=>
    sif (D.isAgg d12=false) <|
    sif (D.width d12=(1:Nat)) <|
    sif (D.cell d12=true) <|
    zap (zbg [d12,D.int IntKind.i64 a2,D.sl Tag.lent a3] [T1]) fun r13=>
    nilK r13.outs <|
    zhD r13.tbs fun c14 q15=>
    nilK q15 <|
    asI IntKind.i64 r13.r fun i16=>
    some (Ans.mk (D.int IntKind.i64 i16) [] [c14]))
theorem zkS (zal:List D→List Tb→Option Ans) (zbg:List D→List Tb→Option Ans) (tga3:Tag) (a0:Nat) (a1:Int) (a2:Int) (a3:List D) (T0:Tb) (T1:Tb):denS Try.prog (zax [(ID.bench_Bench_is,(.st [] [0] [(3840,false)] zal)),(ID.disk_Disk_Damage,(.st [] [0] [(7649,true)] zbg))]) ze2 [0] ID.bench_Bench_Damage [.h 3840 a0 0,.int .i64 a1,.int .i64 a2,.sl tga3 a3] [T0,T1]=zd0 zal zbg a0 a1 a2 (D.lentL a3) T0 T1:=by kernel_rfl
theorem ziz (tga3:Tag) (a0:Nat) (a1:Int) (a2:Int) (a3:List D) (T0:Tb) (T1:Tb):za2 [.h 3840 a0 0,.int .i64 a1,.int .i64 a2,.sl tga3 a3] [T0,T1]=zd0 zal zbg a0 a1 a2 (D.lentL a3) T0 T1:=zkS zal zbg tga3 a0 a1 a2 a3 T0 T1
def ze3:Ann:={ loops:=[(1,[.dead,.val (.cell (.int .i64)),.val (.cell .lent),.box true [(.int .i64),(.int .i64),(.int .i64)],.dead,.dead,.dead,.ptr 3840,.dead,.val (.cell (.int .i64))]),(3,[.dead,.val (.cell (.int .i64)),.val (.cell .lent),.box true [(.int .i64),(.int .i64),(.int .i64)],.dead,.dead,.dead,.ptr 3840,.dead,.val (.cell (.int .i64)),.own 1,.val (.cell .bool),.val (.cell (.int .i64))])],ks:=[(3840,true),(7649,true)] }
noncomputable def zaY:List D→List Tb→Option Ans:=denS Try.prog (zax [(ID.bench_New,(.st [] [0,0] [(3840,true),(7649,true)] zbm)),(ID.wattleref01_Width,(.pure [0] zaa)),(ID.wattleplay_Sectors,(.pure [1] zav)),(ID.wattleref01_Fill,(.pure [1,0] zbf)),(ID.bench_Bench_Damage,(.st [] [0] [(3840,false),(7649,true)] za2))]) ze3 [0] ID.wattlelaw14_Filled
theorem zhV:za0 Try.prog ID.wattlelaw14_Filled (.st [] [0] [(3840,true),(7649,true)] zaY):=zbL (zaz [zla,zbO,zeG,zjK,ziy]) zby ⟨Try.f17,by kernel_rfl,by kernel_rfl,by kernel_rfl⟩
noncomputable def ziA:Fact Try.prog:=⟨ID.wattlelaw14_Filled,(.st [] [0] [(3840,true),(7649,true)] zaY),zhV⟩
noncomputable def zd1 (zbm:List D→List Tb→Option Ans) (zaa:List D→Option D) (zav:List D→Option D) (zbf:List D→Option D) (za2:List D→List Tb→Option Ans) (a0_0:Int) (a0_1:Int) (a0_2:Int) (a1:Int) (a2:List D) (T0:Tb) (T1:Tb):Option Ans:=
  zap (zbm [D.int IntKind.i64 a1] [T0,T1]) fun r1=>
  nilK r1.outs <|
  zhD r1.tbs fun c2 q3=>
  zhD q3 fun c4 q5=>
  nilK q5 <|
  zdP r1.r fun ts6=>
  zay ([Lf.any,Lf.any]) ts6 fun c7=>
  sif (zg1 c7.fst=true) <|
  asI IntKind.i64 c7.snd.fst fun i8=>
  brK (i8 != (0:Int))
    (some (Ans.mk D.nilp [] [c2,c4]))
    (znc c7.fst fun b9=>
    brK b9
      (some (Ans.mk D.nilp [] [c2,c4]))
      (zb3 (α:=(Int×List D×(Int×Int×Int×PUnit)×D×Int×PUnit)×List (List D)×List (List D)×PUnit) (fun again10 ((i11,(l12,((i13,(i14,(i15,_))),(x16,(i17,_))))),(U18,(U19,_)))=>
        brK (decide (i17 < (16:Int)))
          (letN (min i17 (↑(List.length l12):Int)) fun n20=>
          sif ((0:Int)≤n20) <|
          sif (n20≤(↑(List.length l12):Int)) <|
          sif ((↑(List.length l12):Int)≤(↑(List.length l12):Int)) <|
          sif ((↑(List.length l12):Int)=(↑(List.length l12):Int)) <|
          sif (zuN (1:Nat) l12=true) <|
          zap (zaa [D.agg [D.int IntKind.i64 i13,D.int IntKind.i64 i14,D.int IntKind.i64 i15]]) fun r21=>
          asI IntKind.i64 r21 fun i22=>
          zap (zav [D.sl (zdL Tag.lent false (decide ((↑(List.length l12):Int)=(↑(List.length l12):Int)))) (cutI n20 (↑(List.length l12):Int) l12),D.int IntKind.i64 i22]) fun r23=>
          zbl r23 fun l24=>
          sif ((0:Nat)+List.length l24≤List.length l24) <|
          zap (zbf [D.agg [D.int IntKind.i64 i13,D.int IntKind.i64 i14,D.int IntKind.i64 i15],D.int IntKind.i64 i17,D.sl Tag.lent (cut (0:Nat) (List.length l24) l24)]) fun r25=>
          zdP r25 fun ts26=>
          zay ([Lf.any,Lf.any]) ts26 fun c27=>
          zbl c27.fst fun l28=>
          asB c27.snd.fst fun b29=>
          sif (List.length l28=List.length l28) <|
          zb3 (α:=(Int×List D×(Int×Int×Int×PUnit)×D×Int×List D×Bool×Int×PUnit)×List (List D)×List (List D)×PUnit) (fun again30 ((i31,(l32,((i33,(i34,(i35,_))),(x36,(i37,(l38,(b39,(i40,_)))))))),(U41,(U42,_)))=>
            brK b39
              (sif ((0:Nat)+List.length l38≤List.length l38) <|
              brK (decide (i40 < (↑(List.length l38):Int)))
                (brK (decide (i40 < i31))
                  (letN (IntKind.wrap IntKind.i64 ((36:Int)+i37)) fun n43=>
                  sif ((0:Int)≤i40) <|
                  sif (Int.toNat i40 < List.length l38) <|
                  getK l38 ((0:Nat)+Int.toNat i40) fun d44=>
                  asSl d44 fun t45 l46=>
                  zap (za2 [x36,D.int IntKind.i64 i40,D.int IntKind.i64 n43,D.sl t45 l46] [U41,U42]) fun r47=>
                  nilK r47.outs <|
                  zhD r47.tbs fun c48 q49=>
                  nilK q49 <|
                  asI IntKind.i64 r47.r fun i50=>
                  letN (IntKind.wrap IntKind.i64 (i40+(1:Int))) fun n51=>
                  sif (List.length l38=List.length l38) <|
                  again30 (((i31,l32,(i33,i34,i35,PUnit.unit),x36,i37,l38,b39,n51,PUnit.unit),U41,c48,PUnit.unit)))
                  (letN (IntKind.wrap IntKind.i64 (i37+(1:Int))) fun n52=>
                  again10 (((i31,l32,(i33,i34,i35,PUnit.unit),x36,n52,PUnit.unit),U41,U42,PUnit.unit))))
                (letN (IntKind.wrap IntKind.i64 (i37+(1:Int))) fun n53=>
                again10 (((i31,l32,(i33,i34,i35,PUnit.unit),x36,n53,PUnit.unit),U41,U42,PUnit.unit))))
              (letN (IntKind.wrap IntKind.i64 (i37+(1:Int))) fun n54=>
              again10 (((i31,l32,(i33,i34,i35,PUnit.unit),x36,n54,PUnit.unit),U41,U42,PUnit.unit))))
            (((i11,l12,(i13,i14,i15,PUnit.unit),x16,i17,l28,b29,(0:Int),PUnit.unit),U18,U19,PUnit.unit)))
          (sif (D.free x16=true) <|
          some (Ans.mk x16 [] [U18,U19])))
        (((a1,a2,(a0_0,a0_1,a0_2,PUnit.unit),c7.fst,(0:Int),PUnit.unit),c2,c4,PUnit.unit))))
theorem zkT (zbm:List D→List Tb→Option Ans) (zaa:List D→Option D) (zav:List D→Option D) (zbf:List D→Option D) (za2:List D→List Tb→Option Ans) (tga2:Tag) (a0_0:Int) (a0_1:Int) (a0_2:Int) (a1:Int) (a2:List D) (T0:Tb) (T1:Tb):denS Try.prog (zax [(ID.bench_New,(.st [] [0,0] [(3840,true),(7649,true)] zbm)),(ID.wattleref01_Width,(.pure [0] zaa)),(ID.wattleplay_Sectors,(.pure [1] zav)),(ID.wattleref01_Fill,(.pure [1,0] zbf)),(ID.bench_Bench_Damage,(.st [] [0] [(3840,false),(7649,true)] za2))]) ze3 [0] ID.wattlelaw14_Filled [.agg [.int .i64 a0_0,.int .i64 a0_1,.int .i64 a0_2],.int .i64 a1,.sl tga2 a2] [T0,T1]=zd1 zbm zaa zav zbf za2 a0_0 a0_1 a0_2 a1 (D.lentL a2) T0 T1:=by kernel_rfl
theorem ziB (tga2:Tag) (a0_0:Int) (a0_1:Int) (a0_2:Int) (a1:Int) (a2:List D) (T0:Tb) (T1:Tb):zaY [.agg [.int .i64 a0_0,.int .i64 a0_1,.int .i64 a0_2],.int .i64 a1,.sl tga2 a2] [T0,T1]=zd1 zbm zaa zav zbf za2 a0_0 a0_1 a0_2 a1 (D.lentL a2) T0 T1:=zkT zbm zaa zav zbf za2 tga2 a0_0 a0_1 a0_2 a1 a2 T0 T1
def zgA:Ann:={ loops:=[(0,[.val (.cell (.int .i64)),.val (.cell (.int .i64)),.dead,.dead,.dead,.own 1,.dead,.dead,.dead,.dead,.val (.cell (.int .i64)),.val (.cell (.int .i64))])] }
noncomputable def zbs:List D→Option D:=denP Try.prog (zax [(ID.wattlekeep_Within,(.pure [0] zab))]) zgA [1] ID.wattleplay_Live
theorem zjO:za0 Try.prog ID.wattleplay_Live (.pure [1] zbs):=zao (zaz [zcG]) zby ⟨Try.f18,by kernel_rfl,by kernel_rfl,by kernel_rfl⟩
noncomputable def zkU:Fact Try.prog:=⟨ID.wattleplay_Live,(.pure [1] zbs),zjO⟩
noncomputable def zfe (zab:List D→Option D) (a0:Int) (a1:Int):Option D:=
  sif ((0:Int)≤a1) <|
  sif (a1=a1) <|
  sif (a1*(1:Int)≤(140737488355328:Int)) <|
  sif (a1≤(140737488355328:Int)) <|
  sif ((0:Nat)+Int.toNat a1≤List.length (List.replicate (Int.toNat a1) (D.bool false))) <|
  sif (Int.toNat a1=List.length (List.replicate (Int.toNat a1) (D.bool false))) <|
  zb3 (α:=(Int×Int×List D×Int×Int×PUnit)×PUnit) (fun again1 ((i2,(i3,(l4,(i5,(i6,_))))),_)=>
    brK (decide (i6 < i5))
      (sif ((0:Int)≤i6) <|
      sif (Int.toNat i6 < List.length l4) <|
      getK l4 ((0:Nat)+Int.toNat i6) fun d7=>
      sif (D.isAgg d7=false) <|
      letN (IntKind.wrap IntKind.i64 (i6+(1:Int))) fun n8=>
      sif (List.length l4=List.length (List.set l4 ((0:Nat)+Int.toNat i6) (D.bool true))) <|
      again1 (((i2,i3,List.set l4 ((0:Nat)+Int.toNat i6) (D.bool true),i5,n8,PUnit.unit),PUnit.unit)))
      (brK (decide (i3 > (0:Int)))
        (zap (zab [D.int IntKind.i64 i2,D.int IntKind.i64 (3:Int)]) fun r9=>
        asI IntKind.i64 r9 fun i10=>
        brK (decide (i10 > (0:Int)))
          (letN (IntKind.wrap IntKind.i64 (Int.tdiv i2 (3:Int))) fun n11=>
          zap (zab [D.int IntKind.i64 n11,D.int IntKind.i64 i3]) fun r12=>
          asI IntKind.i64 r12 fun i13=>
          sif ((0:Int)≤i13) <|
          sif (Int.toNat i13 < List.length l4) <|
          getK l4 ((0:Nat)+Int.toNat i13) fun d14=>
          sif (D.isAgg d14=false) <|
          brK (decide (i3 > (0:Int)))
            (zap (zab [D.int IntKind.i64 i2,D.int IntKind.i64 (9:Int)]) fun r15=>
            asI IntKind.i64 r15 fun i16=>
            brK (i16 == (8:Int))
              (letN (IntKind.wrap IntKind.i64 (Int.tdiv i2 (27:Int))) fun n17=>
              zap (zab [D.int IntKind.i64 n17,D.int IntKind.i64 i3]) fun r18=>
              asI IntKind.i64 r18 fun i19=>
              sif ((0:Int)≤i19) <|
              sif (Int.toNat i19 < List.length l4) <|
              getK (List.set l4 ((0:Nat)+Int.toNat i13) (D.bool false)) ((0:Nat)+Int.toNat i19) fun d20=>
              sif (D.isAgg d20=false) <|
              sif (List.length l4=List.length (List.set (List.set l4 ((0:Nat)+Int.toNat i13) (D.bool false)) ((0:Nat)+Int.toNat i19) (D.bool false))) <|
              sif (List.all (List.set (List.set l4 ((0:Nat)+Int.toNat i13) (D.bool false)) ((0:Nat)+Int.toNat i19) (D.bool false)) D.free=true) <|
              some (D.sl Tag.own (List.set (List.set l4 ((0:Nat)+Int.toNat i13) (D.bool false)) ((0:Nat)+Int.toNat i19) (D.bool false))))
              (sif (List.length l4=List.length (List.set l4 ((0:Nat)+Int.toNat i13) (D.bool false))) <|
              sif (List.all (List.set l4 ((0:Nat)+Int.toNat i13) (D.bool false)) D.free=true) <|
              some (D.sl Tag.own (List.set l4 ((0:Nat)+Int.toNat i13) (D.bool false)))))
            (sif (List.length l4=List.length (List.set l4 ((0:Nat)+Int.toNat i13) (D.bool false))) <|
            sif (List.all (List.set l4 ((0:Nat)+Int.toNat i13) (D.bool false)) D.free=true) <|
            some (D.sl Tag.own (List.set l4 ((0:Nat)+Int.toNat i13) (D.bool false)))))
          (brK (decide (i3 > (0:Int)))
            (zap (zab [D.int IntKind.i64 i2,D.int IntKind.i64 (9:Int)]) fun r21=>
            asI IntKind.i64 r21 fun i22=>
            brK (i22 == (8:Int))
              (letN (IntKind.wrap IntKind.i64 (Int.tdiv i2 (27:Int))) fun n23=>
              zap (zab [D.int IntKind.i64 n23,D.int IntKind.i64 i3]) fun r24=>
              asI IntKind.i64 r24 fun i25=>
              sif ((0:Int)≤i25) <|
              sif (Int.toNat i25 < List.length l4) <|
              getK l4 ((0:Nat)+Int.toNat i25) fun d26=>
              sif (D.isAgg d26=false) <|
              sif (List.length l4=List.length (List.set l4 ((0:Nat)+Int.toNat i25) (D.bool false))) <|
              sif (List.all (List.set l4 ((0:Nat)+Int.toNat i25) (D.bool false)) D.free=true) <|
              some (D.sl Tag.own (List.set l4 ((0:Nat)+Int.toNat i25) (D.bool false))))
              (sif (List.length l4=List.length l4) <|
              sif (List.all l4 D.free=true) <|
              some (D.sl Tag.own l4)))
            (sif (List.length l4=List.length l4) <|
            sif (List.all l4 D.free=true) <|
            some (D.sl Tag.own l4))))
        (brK (decide (i3 > (0:Int)))
          (zap (zab [D.int IntKind.i64 i2,D.int IntKind.i64 (9:Int)]) fun r27=>
          asI IntKind.i64 r27 fun i28=>
          brK (i28 == (8:Int))
            (letN (IntKind.wrap IntKind.i64 (Int.tdiv i2 (27:Int))) fun n29=>
            zap (zab [D.int IntKind.i64 n29,D.int IntKind.i64 i3]) fun r30=>
            asI IntKind.i64 r30 fun i31=>
            sif ((0:Int)≤i31) <|
            sif (Int.toNat i31 < List.length l4) <|
            getK l4 ((0:Nat)+Int.toNat i31) fun d32=>
            sif (D.isAgg d32=false) <|
            sif (List.length l4=List.length (List.set l4 ((0:Nat)+Int.toNat i31) (D.bool false))) <|
            sif (List.all (List.set l4 ((0:Nat)+Int.toNat i31) (D.bool false)) D.free=true) <|
            some (D.sl Tag.own (List.set l4 ((0:Nat)+Int.toNat i31) (D.bool false))))
            (sif (List.length l4=List.length l4) <|
            sif (List.all l4 D.free=true) <|
            some (D.sl Tag.own l4)))
          (sif (List.length l4=List.length l4) <|
          sif (List.all l4 D.free=true) <|
          some (D.sl Tag.own l4)))))
    (((a0,a1,List.replicate (Int.toNat a1) (D.bool false),(↑(Int.toNat a1):Int),(0:Int),PUnit.unit),PUnit.unit))
theorem znw (zab:List D→Option D) (a0:Int) (a1:Int):denP Try.prog (zax [(ID.wattlekeep_Within,(.pure [0] zab))]) zgA [1] ID.wattleplay_Live [.int .i64 a0,.int .i64 a1]=zfe zab a0 a1:=by kernel_rfl
theorem zkV (a0:Int) (a1:Int):zbs [.int .i64 a0,.int .i64 a1]=zfe zab a0 a1:=znw zab a0 a1
def zg7:Ann:={ loops:=[],ks:=[(7649,true)] }
noncomputable def zbz:List D→List Tb→Option Ans:=denS Try.prog (zax []) zg7 [] ID.disk_Disk_Fail
theorem zkW:za0 Try.prog ID.disk_Disk_Fail (.st [] [] [(7649,true)] zbz):=zbL (zaz []) zby ⟨Try.f67,by kernel_rfl,by kernel_rfl,by kernel_rfl⟩
noncomputable def zlL:Fact Try.prog:=⟨ID.disk_Disk_Fail,(.st [] [] [(7649,true)] zbz),zkW⟩
noncomputable def zfC (a0:Nat) (T0:Tb):Option Ans:=
  getK T0 a0 fun d1=>
  sif ((1666:Nat)≤List.length d1) <|
  letT (zbk T0 a0 (0:Nat) (List.map D.own0 (List.set (List.reverse ([D.bool false,D.sl Tag.nil []]++List.replicate 1664 (D.int IntKind.u8 (0:Int)))) (1665:Nat) (D.bool true)))) fun U2=>
  some (Ans.mk (D.tup []) [] [U2])
theorem zom (a0:Nat) (T0:Tb):denS Try.prog (zax []) zg7 [] ID.disk_Disk_Fail [.h 7649 a0 0] [T0]=zfC a0 T0:=by kernel_rfl
theorem zlM (a0:Nat) (T0:Tb):zbz [.h 7649 a0 0] [T0]=zfC a0 T0:=zom a0 T0
def zfP:Ann:={ loops:=[],ks:=[(3840,false),(7649,true)] }
noncomputable def za6:List D→List Tb→Option Ans:=denS Try.prog (zax [(ID.bench_Bench_is,(.st [] [0] [(3840,false)] zal)),(ID.disk_Disk_Fail,(.st [] [] [(7649,true)] zbz))]) zfP [0] ID.bench_Bench_Fail
theorem zi7:za0 Try.prog ID.bench_Bench_Fail (.st [] [0] [(3840,false),(7649,true)] za6):=zbL (zaz [zdf,zlL]) zby ⟨Try.f19,by kernel_rfl,by kernel_rfl,by kernel_rfl⟩
noncomputable def zjP:Fact Try.prog:=⟨ID.bench_Bench_Fail,(.st [] [0] [(3840,false),(7649,true)] za6),zi7⟩
noncomputable def zeM (zal:List D→List Tb→Option Ans) (zbz:List D→List Tb→Option Ans) (a0:Nat) (a1:Int) (T0:Tb) (T1:Tb):Option Ans:=
  zap (zal [D.h (3840:Nat) a0 (0:Nat),D.int IntKind.i64 a1] [T0]) fun r1=>
  nilK r1.outs <|
  nilK r1.tbs <|
  asB r1.r fun b2=>
  brK (!b2)
    (some (Ans.mk (D.int IntKind.i64 (1:Int)) [] [T1]))
    (getK T0 a0 fun d3=>
    getK d3 ((3:Nat)) fun d4=>
    zbl d4 fun l5=>
    getK T0 a0 fun d6=>
    getK d6 ((3:Nat)) fun d7=>
    zbl d7 fun l8=>
    sif ((0:Int)≤a1) <|
    sif (Int.toNat a1 < List.length l5) <|
    getK T0 a0 fun d9=>
    getK d9 ((3:Nat)) fun d10=>
    zbl d10 fun l11=>
    getK l11 ((0:Nat)+Int.toNat a1) fun d12=>
    sif (D.isAgg d12=false) <|
    sif (D.width d12=(1:Nat)) <|
    sif (D.cell d12=true) <|
    zap (zbz [d12] [T1]) fun r13=>
    nilK r13.outs <|
    zhD r13.tbs fun c14 q15=>
    nilK q15 <|
    zdP r13.r fun ts16=>
    nilK ts16 <|
    some (Ans.mk (D.int IntKind.i64 (0:Int)) [] [c14]))
theorem zmK (zal:List D→List Tb→Option Ans) (zbz:List D→List Tb→Option Ans) (a0:Nat) (a1:Int) (T0:Tb) (T1:Tb):denS Try.prog (zax [(ID.bench_Bench_is,(.st [] [0] [(3840,false)] zal)),(ID.disk_Disk_Fail,(.st [] [] [(7649,true)] zbz))]) zfP [0] ID.bench_Bench_Fail [.h 3840 a0 0,.int .i64 a1] [T0,T1]=zeM zal zbz a0 a1 T0 T1:=by kernel_rfl
theorem zjQ (a0:Nat) (a1:Int) (T0:Tb) (T1:Tb):za6 [.h 3840 a0 0,.int .i64 a1] [T0,T1]=zeM zal zbz a0 a1 T0 T1:=zmK zal zbz a0 a1 T0 T1
def zfQ:Ann:={ loops:=[],ks:=[(7649,false)] }
noncomputable def zbh:List D→List Tb→Option Ans:=denS Try.prog (zax []) zfQ [0] ID.disk_Disk_Failed
theorem zi8:za0 Try.prog ID.disk_Disk_Failed (.st [] [0] [(7649,false)] zbh):=zbL (zaz []) zby ⟨Try.f84,by kernel_rfl,by kernel_rfl,by kernel_rfl⟩
noncomputable def zjR:Fact Try.prog:=⟨ID.disk_Disk_Failed,(.st [] [0] [(7649,false)] zbh),zi8⟩
noncomputable def zeN (a0:Nat) (T0:Tb):Option Ans:=
  getK T0 a0 fun d1=>
  getK d1 ((1665:Nat)) fun d2=>
  asB d2 fun b3=>
  some (Ans.mk (D.bool b3) [] [])
theorem zmL (a0:Nat) (T0:Tb):denS Try.prog (zax []) zfQ [0] ID.disk_Disk_Failed [.h 7649 a0 0] [T0]=zeN a0 T0:=by kernel_rfl
theorem zjS (a0:Nat) (T0:Tb):zbh [.h 7649 a0 0] [T0]=zeN a0 T0:=zmL a0 T0
def ze4:Ann:={ loops:=[],ks:=[(3840,false),(7649,false)] }
noncomputable def zaw:List D→List Tb→Option Ans:=denS Try.prog (zax [(ID.bench_Bench_is,(.st [] [0] [(3840,false)] zal)),(ID.disk_Disk_Failed,(.st [] [0] [(7649,false)] zbh))]) ze4 [0] ID.bench_Bench_Failed
theorem zhW:za0 Try.prog ID.bench_Bench_Failed (.st [] [0] [(3840,false),(7649,false)] zaw):=zbL (zaz [zdf,zjR]) zby ⟨Try.f41,by kernel_rfl,by kernel_rfl,by kernel_rfl⟩
noncomputable def zeO:Fact Try.prog:=⟨ID.bench_Bench_Failed,(.st [] [0] [(3840,false),(7649,false)] zaw),zhW⟩
noncomputable def zd2 (zal:List D→List Tb→Option Ans) (zbh:List D→List Tb→Option Ans) (a0:Nat) (a1:Int) (T0:Tb) (T1:Tb):Option Ans:=
  zap (zal [D.h (3840:Nat) a0 (0:Nat),D.int IntKind.i64 a1] [T0]) fun r1=>
  nilK r1.outs <|
  nilK r1.tbs <|
  asB r1.r fun b2=>
  brK b2
    (getK T0 a0 fun d3=>
    getK d3 ((3:Nat)) fun d4=>
    zbl d4 fun l5=>
    getK T0 a0 fun d6=>
    getK d6 ((3:Nat)) fun d7=>
    zbl d7 fun l8=>
    sif ((0:Int)≤a1) <|
    sif (Int.toNat a1 < List.length l5) <|
    getK T0 a0 fun d9=>
    getK d9 ((3:Nat)) fun d10=>
    zbl d10 fun l11=>
    getK l11 ((0:Nat)+Int.toNat a1) fun d12=>
    sif (D.isAgg d12=false) <|
    sif (D.width d12=(1:Nat)) <|
    sif (D.cell d12=true) <|
    zap (zbh [d12] [T1]) fun r13=>
    nilK r13.outs <|
    nilK r13.tbs <|
    asB r13.r fun b14=>
    some (Ans.mk (D.bool b14) [] []))
    (some (Ans.mk (D.bool false) [] []))
theorem zkX (zal:List D→List Tb→Option Ans) (zbh:List D→List Tb→Option Ans) (a0:Nat) (a1:Int) (T0:Tb) (T1:Tb):denS Try.prog (zax [(ID.bench_Bench_is,(.st [] [0] [(3840,false)] zal)),(ID.disk_Disk_Failed,(.st [] [0] [(7649,false)] zbh))]) ze4 [0] ID.bench_Bench_Failed [.h 3840 a0 0,.int .i64 a1] [T0,T1]=zd2 zal zbh a0 a1 T0 T1:=by kernel_rfl
theorem ziC (a0:Nat) (a1:Int) (T0:Tb) (T1:Tb):zaw [.h 3840 a0 0,.int .i64 a1] [T0,T1]=zd2 zal zbh a0 a1 T0 T1:=zkX zal zbh a0 a1 T0 T1
def zgB:Ann:={ loops:=[],ks:=[(3840,false)] }
noncomputable def zaO:List D→List Tb→Option Ans:=denS Try.prog (zax []) zgB [0] ID.bench_Bench_Len
theorem zjT:za0 Try.prog ID.bench_Bench_Len (.st [] [0] [(3840,false)] zaO):=zbL (zaz []) zby ⟨Try.f68,by kernel_rfl,by kernel_rfl,by kernel_rfl⟩
noncomputable def zfR:Fact Try.prog:=⟨ID.bench_Bench_Len,(.st [] [0] [(3840,false)] zaO),zjT⟩
noncomputable def zff (a0:Nat) (T0:Tb):Option Ans:=
  getK T0 a0 fun d1=>
  getK d1 ((3:Nat)) fun d2=>
  zbl d2 fun l3=>
  getK T0 a0 fun d4=>
  getK d4 ((3:Nat)) fun d5=>
  zbl d5 fun l6=>
  sif ((0:Nat)+List.length l3≤List.length l6) <|
  some (Ans.mk (D.int IntKind.i64 (↑(List.length l3):Int)) [] [])
theorem znx (a0:Nat) (T0:Tb):denS Try.prog (zax []) zgB [0] ID.bench_Bench_Len [.h 3840 a0 0] [T0]=zff a0 T0:=by kernel_rfl
theorem zkY (a0:Nat) (T0:Tb):zaO [.h 3840 a0 0] [T0]=zff a0 T0:=znx a0 T0
def zfS:Ann:={ loops:=[(0,[.val (.cell (.hnd (3840:Nat))),.val (.cell .lent),.dead,.dead,.dead,.box true [(.int .i64),(.int .i64),(.int .i64)],.dead,.map (.int .i64),.val (.cell (.int .i64))])],ks:=[(3840,false),(7649,false)] }
noncomputable def zbi:List D→List Tb→Option Ans:=denS Try.prog (zax [(ID.bench_Bench_Failed,(.st [] [0] [(3840,false),(7649,false)] zaw)),(ID.bench_Bench_Len,(.st [] [0] [(3840,false)] zaO))]) zfS [0] ID.wattlelaw14_lost
theorem zi9:za0 Try.prog ID.wattlelaw14_lost (.st [] [0] [(3840,false),(7649,false)] zbi):=zbL (zaz [zeO,zfR]) zby ⟨Try.f20,by kernel_rfl,by kernel_rfl,by kernel_rfl⟩
noncomputable def zjU:Fact Try.prog:=⟨ID.wattlelaw14_lost,(.st [] [0] [(3840,false),(7649,false)] zbi),zi9⟩
noncomputable def zeP (zaw:List D→List Tb→Option Ans) (zaO:List D→List Tb→Option Ans) (a0:Nat) (a1:List D) (a2_0:Int) (a2_1:Int) (a2_2:Int) (T0:Tb) (T1:Tb):Option Ans:=
  zb3 (α:=(Nat×List D×(Int×Int×Int×PUnit)×List (Int×D)×Int×PUnit)×List (List D)×List (List D)×PUnit) (fun again1 ((x2,(l3,((i4,(i5,(i6,_))),(l7,(i8,_))))),(U9,(U10,_)))=>
    brK (decide (i8 < i5))
      (brK (decide (i8≥(↑(List.length l3):Int)))
        (letN (IntKind.wrap IntKind.i64 (i8+(1:Int))) fun n11=>
        again1 (((x2,l3,(i4,i5,i6,PUnit.unit),setD i8 (D.bool true) l7,n11,PUnit.unit),U9,U10,PUnit.unit)))
        (sif ((0:Int)≤i8) <|
        getK l3 (Int.toNat i8) fun d12=>
        asB d12 fun b13=>
        brK (!b13)
          (letN (IntKind.wrap IntKind.i64 (i8+(1:Int))) fun n14=>
          again1 (((x2,l3,(i4,i5,i6,PUnit.unit),setD i8 (D.bool true) l7,n14,PUnit.unit),U9,U10,PUnit.unit)))
          (zap (zaw [D.h (3840) x2 (0:Nat),D.int IntKind.i64 i8] [U9,U10]) fun r15=>
          nilK r15.outs <|
          nilK r15.tbs <|
          asB r15.r fun b16=>
          brK b16
            (letN (IntKind.wrap IntKind.i64 (i8+(1:Int))) fun n17=>
            again1 (((x2,l3,(i4,i5,i6,PUnit.unit),setD i8 (D.bool true) l7,n17,PUnit.unit),U9,U10,PUnit.unit)))
            (zap (zaO [D.h (3840) x2 (0:Nat)] [U9]) fun r18=>
            nilK r18.outs <|
            nilK r18.tbs <|
            asI IntKind.i64 r18.r fun i19=>
            brK (decide (i8≥i19))
              (letN (IntKind.wrap IntKind.i64 (i8+(1:Int))) fun n20=>
              again1 (((x2,l3,(i4,i5,i6,PUnit.unit),setD i8 (D.bool true) l7,n20,PUnit.unit),U9,U10,PUnit.unit)))
              (letN (IntKind.wrap IntKind.i64 (i8+(1:Int))) fun n21=>
              again1 (((x2,l3,(i4,i5,i6,PUnit.unit),l7,n21,PUnit.unit),U9,U10,PUnit.unit)))))))
      (sif (D.freeE l7=true) <|
      some (Ans.mk (D.mp Tag.own (MK.int IntKind.i64) l7) [] [])))
    (((a0,a1,(a2_0,a2_1,a2_2,PUnit.unit),[],(0:Int),PUnit.unit),T0,T1,PUnit.unit))
theorem zmM (zaw:List D→List Tb→Option Ans) (zaO:List D→List Tb→Option Ans) (tga1:Tag) (a0:Nat) (a1:List D) (a2_0:Int) (a2_1:Int) (a2_2:Int) (T0:Tb) (T1:Tb):denS Try.prog (zax [(ID.bench_Bench_Failed,(.st [] [0] [(3840,false),(7649,false)] zaw)),(ID.bench_Bench_Len,(.st [] [0] [(3840,false)] zaO))]) zfS [0] ID.wattlelaw14_lost [.h 3840 a0 0,.sl tga1 a1,.agg [.int .i64 a2_0,.int .i64 a2_1,.int .i64 a2_2]] [T0,T1]=zeP zaw zaO a0 (D.lentL a1) a2_0 a2_1 a2_2 T0 T1:=by kernel_rfl
theorem zjV (tga1:Tag) (a0:Nat) (a1:List D) (a2_0:Int) (a2_1:Int) (a2_2:Int) (T0:Tb) (T1:Tb):zbi [.h 3840 a0 0,.sl tga1 a1,.agg [.int .i64 a2_0,.int .i64 a2_1,.int .i64 a2_2]] [T0,T1]=zeP zaw zaO a0 (D.lentL a1) a2_0 a2_1 a2_2 T0 T1:=zmM zaw zaO tga1 a0 a1 a2_0 a2_1 a2_2 T0 T1
def zes:Ann:={ loops:=[(0,[.val (.cell .lent),.val (.cell (.int .i64)),.dead,.dead,.dead,.dead,.dead,.val (.cell (.int .i64)),.val (.cell (.int .i64))])] }
noncomputable def zaZ:List D→Option D:=denP Try.prog (zax []) zes [0] ID.slices_Index_int_int
theorem zgP:za0 Try.prog ID.slices_Index_int_int (.pure [0] zaZ):=zao (zaz []) zby ⟨Try.f87,by kernel_rfl,by kernel_rfl,by kernel_rfl⟩
noncomputable def zhg:Fact Try.prog:=⟨ID.slices_Index_int_int,(.pure [0] zaZ),zgP⟩
noncomputable def zdm (a0:List D) (a1:Int):Option D:=
  zb3 (α:=(List D×Int×Int×Int×PUnit)×PUnit) (fun again1 ((l2,(i3,(i4,(i5,_)))),_)=>
    brK (decide (i5 < i4))
      (sif ((0:Int)≤i5) <|
      getK l2 (Int.toNat i5) fun d6=>
      asI IntKind.i64 d6 fun i7=>
      brK (i3 == i7)
        (some (D.int IntKind.i64 i5))
        (letN (IntKind.wrap IntKind.i64 (i5+(1:Int))) fun n8=>
        again1 (((l2,i3,i4,n8,PUnit.unit),PUnit.unit))))
      (some (D.int IntKind.i64 (-1:Int))))
    (((a0,a1,(↑(List.length a0):Int),(0:Int),PUnit.unit),PUnit.unit))
theorem zja (tga0:Tag) (a0:List D) (a1:Int):denP Try.prog (zax []) zes [0] ID.slices_Index_int_int [.sl tga0 a0,.int .i64 a1]=zdm (D.lentL a0) a1:=by kernel_rfl
theorem zhh (tga0:Tag) (a0:List D) (a1:Int):zaZ [.sl tga0 a0,.int .i64 a1]=zdm (D.lentL a0) a1:=zja tga0 a0 a1
def zdF:Ann:={ loops:=[] }
noncomputable def zaP:List D→Option D:=denP Try.prog (zax [(ID.slices_Index_int_int,(.pure [0] zaZ))]) zdF [0] ID.slices_Contains_int_int
theorem zfD:za0 Try.prog ID.slices_Contains_int_int (.pure [0] zaP):=zao (zaz [zhg]) zby ⟨Try.f101,by kernel_rfl,by kernel_rfl,by kernel_rfl⟩
noncomputable def zf4:Fact Try.prog:=⟨ID.slices_Contains_int_int,(.pure [0] zaP),zfD⟩
noncomputable def zcT (zaZ:List D→Option D) (a0:List D) (a1:Int):Option D:=
  zap (zaZ [D.sl Tag.lent a0,D.int IntKind.i64 a1]) fun r1=>
  asI IntKind.i64 r1 fun i2=>
  some (D.bool (decide (i2≥(0:Int))))
theorem zhi (zaZ:List D→Option D) (tga0:Tag) (a0:List D) (a1:Int):denP Try.prog (zax [(ID.slices_Index_int_int,(.pure [0] zaZ))]) zdF [0] ID.slices_Contains_int_int [.sl tga0 a0,.int .i64 a1]=zcT zaZ (D.lentL a0) a1:=by kernel_rfl
theorem zf5 (tga0:Tag) (a0:List D) (a1:Int):zaP [.sl tga0 a0,.int .i64 a1]=zcT zaZ (D.lentL a0) a1:=zhi zaZ tga0 a0 a1
def zlb:Ann:={ loops:=[] }
noncomputable def zar:List D→Option D:=denP Try.prog (zax [(ID.slices_Contains_int_int,(.pure [0] zaP))]) zlb [0] ID.geom_Check
theorem zon:za0 Try.prog ID.geom_Check (.pure [0] zar):=zao (zaz [zf4]) zby ⟨Try.f69,by kernel_rfl,by kernel_rfl,by kernel_rfl⟩
noncomputable def zdG:Fact Try.prog:=⟨ID.geom_Check,(.pure [0] zar),zon⟩
noncomputable def zjW (zaP:List D→Option D) (a0_0:Int) (a0_1:Int) (a0_2:Int):Option D:=
  asI IntKind.i64 (zng a0_0 (D.int IntKind.i64 (0:Int)) (setD (6:Int) (D.int IntKind.i64 (4:Int)) (setD (5:Int) (D.int IntKind.i64 (3:Int)) []))) fun i1=>
  brK (i1 == (0:Int))
    (some (D.int IntKind.i64 (1:Int)))
    (brK (decide (a0_1 < i1))
      (some (D.int IntKind.i64 (1:Int)))
      (brK (decide (a0_1 > (8:Int)))
        (some (D.int IntKind.i64 (1:Int)))
        (zap (zaP [D.sl Tag.full [D.int IntKind.i64 (1:Int),D.int IntKind.i64 (2:Int),D.int IntKind.i64 (4:Int)],D.int IntKind.i64 a0_2]) fun r2=>
        asB r2 fun b3=>
        brK (!b3)
          (some (D.int IntKind.i64 (1:Int)))
          (some (D.int IntKind.i64 (0:Int))))))
theorem zt9 (zaP:List D→Option D) (a0_0:Int) (a0_1:Int) (a0_2:Int):denP Try.prog (zax [(ID.slices_Contains_int_int,(.pure [0] zaP))]) zlb [0] ID.geom_Check [.agg [.int .i64 a0_0,.int .i64 a0_1,.int .i64 a0_2]]=zjW zaP a0_0 a0_1 a0_2:=by kernel_rfl
theorem zpN (a0_0:Int) (a0_1:Int) (a0_2:Int):zar [.agg [.int .i64 a0_0,.int .i64 a0_1,.int .i64 a0_2]]=zjW zaP a0_0 a0_1 a0_2:=zt9 zaP a0_0 a0_1 a0_2
def zmN:Ann:={ loops:=[],ks:=[(3840,false),(7649,false)] }
noncomputable def zbB:List D→List Tb→Option Ans:=denS Try.prog (zax [(ID.bench_Bench_Len,(.st [] [0] [(3840,false)] zaO)),(ID.bench_Bench_Failed,(.st [] [0] [(3840,false),(7649,false)] zaw))]) zmN [0] ID.stripe_up
theorem zpO:za0 Try.prog ID.stripe_up (.st [] [0] [(3840,false),(7649,false)] zbB):=zbL (zaz [zfR,zeO]) zby ⟨Try.f70,by kernel_rfl,by kernel_rfl,by kernel_rfl⟩
noncomputable def zlc:Fact Try.prog:=⟨ID.stripe_up,(.st [] [0] [(3840,false),(7649,false)] zbB),zpO⟩
noncomputable def zlN (zaO:List D→List Tb→Option Ans) (zaw:List D→List Tb→Option Ans) (a0:Nat) (a1:List D) (a2:Int) (T0:Tb) (T1:Tb):Option Ans:=
  zap (zaO [D.h (3840:Nat) a0 (0:Nat)] [T0]) fun r1=>
  nilK r1.outs <|
  nilK r1.tbs <|
  asI IntKind.i64 r1.r fun i2=>
  brK (decide (a2 < i2))
    (brK (decide (a2 < (↑(List.length a1):Int)))
      (sif ((0:Int)≤a2) <|
      getK a1 (Int.toNat a2) fun d3=>
      asB d3 fun b4=>
      brK b4
        (zap (zaw [D.h (3840:Nat) a0 (0:Nat),D.int IntKind.i64 a2] [T0,T1]) fun r5=>
        nilK r5.outs <|
        nilK r5.tbs <|
        asB r5.r fun b6=>
        some (Ans.mk (D.bool !b6) [] []))
        (some (Ans.mk (D.bool false) [] [])))
      (some (Ans.mk (D.bool false) [] [])))
    (some (Ans.mk (D.bool false) [] []))
theorem zvi (zaO:List D→List Tb→Option Ans) (zaw:List D→List Tb→Option Ans) (tga1:Tag) (a0:Nat) (a1:List D) (a2:Int) (T0:Tb) (T1:Tb):denS Try.prog (zax [(ID.bench_Bench_Len,(.st [] [0] [(3840,false)] zaO)),(ID.bench_Bench_Failed,(.st [] [0] [(3840,false),(7649,false)] zaw))]) zmN [0] ID.stripe_up [.h 3840 a0 0,.sl tga1 a1,.int .i64 a2] [T0,T1]=zlN zaO zaw a0 (D.lentL a1) a2 T0 T1:=by kernel_rfl
theorem zql (tga1:Tag) (a0:Nat) (a1:List D) (a2:Int) (T0:Tb) (T1:Tb):zbB [.h 3840 a0 0,.sl tga1 a1,.int .i64 a2] [T0,T1]=zlN zaO zaw a0 (D.lentL a1) a2 T0 T1:=zvi zaO zaw tga1 a0 a1 a2 T0 T1
def zgC:Ann:={ loops:=[],ks:=[(3840,false)] }
noncomputable def zbt:List D→List Tb→Option Ans:=denS Try.prog (zax [(ID.bench_Bench_is,(.st [] [0] [(3840,false)] zal))]) zgC [0] ID.bench_Bench_may
theorem zjX:za0 Try.prog ID.bench_Bench_may (.st [] [0] [(3840,false)] zbt):=zbL (zaz [zdf]) zby ⟨Try.f85,by kernel_rfl,by kernel_rfl,by kernel_rfl⟩
noncomputable def zkZ:Fact Try.prog:=⟨ID.bench_Bench_may,(.st [] [0] [(3840,false)] zbt),zjX⟩
noncomputable def zfg (zal:List D→List Tb→Option Ans) (a0:Nat) (a1:Int) (T0:Tb):Option Ans:=
  zap (zal [D.h (3840:Nat) a0 (0:Nat),D.int IntKind.i64 a1] [T0]) fun r1=>
  nilK r1.outs <|
  nilK r1.tbs <|
  asB r1.r fun b2=>
  brK (!b2)
    (some (Ans.mk (D.int IntKind.i64 (1:Int)) [] []))
    (getK T0 a0 fun d3=>
    getK d3 ((2:Nat)) fun d4=>
    asB d4 fun b5=>
    brK b5
      (some (Ans.mk (D.int IntKind.i64 (6:Int)) [] []))
      (some (Ans.mk (D.int IntKind.i64 (0:Int)) [] [])))
theorem zny (zal:List D→List Tb→Option Ans) (a0:Nat) (a1:Int) (T0:Tb):denS Try.prog (zax [(ID.bench_Bench_is,(.st [] [0] [(3840,false)] zal))]) zgC [0] ID.bench_Bench_may [.h 3840 a0 0,.int .i64 a1] [T0]=zfg zal a0 a1 T0:=by kernel_rfl
theorem zk0 (a0:Nat) (a1:Int) (T0:Tb):zbt [.h 3840 a0 0,.int .i64 a1] [T0]=zfg zal a0 a1 T0:=zny zal a0 a1 T0
def zdU:Ann:={ loops:=[] }
noncomputable def zaI:List D→Option D:=denE Try.prog (zax []) zdU [1] ID.slices_Clone_byte_byte
theorem zf6:za0 Try.prog ID.slices_Clone_byte_byte (.pure [1] zaI):=zrc (zaz []) zby ⟨Try.f109,by kernel_rfl,by kernel_rfl,by kernel_rfl⟩
noncomputable def zgD:Fact Try.prog:=⟨ID.slices_Clone_byte_byte,(.pure [1] zaI),zf6⟩
noncomputable def zc3 (a0:D) (b0:List D):Option D:=
  sif (List.length (a0::b0)≤(4294967296:Nat)) <|
  sif (zeA (1:Nat) (a0::b0)=true) <|
  sif (List.length (a0::b0)=List.length (a0::b0)) <|
  sif (List.all (a0::b0) D.free=true) <|
  some (D.sl Tag.own (a0::b0))
theorem zhX (tga0:Tag) (a0:D) (b0:List D):denE Try.prog (zax []) zdU [1] ID.slices_Clone_byte_byte [.sl tga0 (a0::b0)]=zc3 (D.lent a0) (D.lentL b0):=by kernel_rfl
theorem zgE (tga0:Tag) (a0:D) (b0:List D):zaI [.sl tga0 (a0::b0)]=zc3 (D.lent a0) (D.lentL b0):=zhX tga0 a0 b0
theorem zf7 (tg:Tag):zaI [.sl tg []]=some (.sl .own []):=(zn8 (some (.sl .own [])))
def zg8:Ann:={ loops:=[(1,[.dead,.val (.cell (.int .i64)),.dead,.dead,.dead,.dead,.dead,.box true [(.arr 32)],.dead,.dead,.dead,.dead,.dead,.dead,.dead,.dead,.dead,.dead,.dead,.dead,.dead,.dead,.dead,.dead,.dead,.view 7649 1664,.val (.cell (.int .i64)),.val (.cell (.int .i64))])],ks:=[(7649,false)] }
noncomputable def zbA:List D→List Tb→Option Ans:=denS Try.prog (zax [(ID.disk_Disk_may,(.st [] [0] [(7649,false)] zaU)),(ID.slices_Clone_byte_byte,(.pure [1] zaI))]) zg8 [1,0] ID.disk_Disk_Read
theorem zk1:za0 Try.prog ID.disk_Disk_Read (.st [] [1,0] [(7649,false)] zbA):=zbL (zaz [zg6,zgD]) zby ⟨Try.f86,by kernel_rfl,by kernel_rfl,by kernel_rfl⟩
noncomputable def zlO:Fact Try.prog:=⟨ID.disk_Disk_Read,(.st [] [1,0] [(7649,false)] zbA),zk1⟩
noncomputable def zfE (zaU:List D→List Tb→Option Ans) (zaI:List D→Option D) (a0:Nat) (a1:Int) (T0:Tb):Option Ans:=
  zap (zaU [D.h (7649:Nat) a0 (0:Nat),D.int IntKind.i64 a1] [T0]) fun r1=>
  nilK r1.outs <|
  nilK r1.tbs <|
  asI IntKind.i64 r1.r fun i2=>
  brK (i2 != (0:Int))
    (some (Ans.mk (D.tup [D.sl Tag.own [],D.int IntKind.i64 i2]) [] []))
    (sif ((0:Int)≤a1) <|
    sif (Int.toNat a1 < (52:Nat)) <|
    getK T0 a0 fun d3=>
    sif ((0:Nat)+Int.toNat a1*(32:Nat)+(32:Nat)≤List.length d3) <|
    sif (zok (List.take (32:Nat) (List.drop ((0:Nat)+Int.toNat a1*(32:Nat)) d3))=true) <|
    sif (List.length (List.take (32:Nat) (List.drop ((0:Nat)+Int.toNat a1*(32:Nat)) d3))=(32:Nat)) <|
    sif (List.length (List.take (32:Nat) (List.drop ((0:Nat)+Int.toNat a1*(32:Nat)) d3))=(32:Nat)) <|
    getK T0 a0 fun d4=>
    getK d4 ((1664:Nat)) fun d5=>
    zbl d5 fun l6=>
    getK T0 a0 fun d7=>
    getK d7 ((1664:Nat)) fun d8=>
    zbl d8 fun l9=>
    sif ((0:Nat)+List.length l6≤List.length l9) <|
    zay ([Lf.arr (32)]) (List.take (32:Nat) (List.drop ((0:Nat)+Int.toNat a1*(32:Nat)) d3)) fun c10=>
    zb3 (α:=(Int×(List D×PUnit)×(Nat×Nat×Nat)×Int×Int×PUnit)×List (List D)×PUnit) (fun again11 ((i12,((l13,_),((x14,(x15,x16)),(i17,(i18,_))))),(U19,_))=>
      brK (decide (i18 < i17))
        (getK U19 x14 fun d20=>
        getK d20 ((1664:Nat)) fun d21=>
        zbl d21 fun l22=>
        sif ((0:Int)≤i18) <|
        sif (Int.toNat i18 < x16) <|
        getK U19 x14 fun d23=>
        getK d23 ((1664:Nat)) fun d24=>
        zbl d24 fun l25=>
        getK l25 (x15+Int.toNat i18) fun d26=>
        asAgg d26 fun cs27=>
        zay ([Lf.int IntKind.i64,Lf.arr (32)]) cs27 fun c28=>
        sif (D.width (D.agg ([D.int IntKind.i64 c28.fst]++(c28.snd.fst++[])))=(33:Nat)) <|
        sif (List.length ([D.int IntKind.i64 c28.fst]++(c28.snd.fst++[]))=(33:Nat)) <|
        brK (c28.fst == i12)
          (sif ((33:Nat)≤List.length ([D.int IntKind.i64 c28.fst]++(c28.snd.fst++[]))) <|
          sif (List.length (List.take (32:Nat) (List.drop (1:Nat) ([D.int IntKind.i64 c28.fst]++(c28.snd.fst++[]))))=(32:Nat)) <|
          sif (List.length (List.take (32:Nat) (List.drop (1:Nat) ([D.int IntKind.i64 c28.fst]++(c28.snd.fst++[]))))=(32:Nat)) <|
          sif ((32:Nat)≤List.length (l13++[])) <|
          letN (IntKind.wrap IntKind.i64 (i18+(1:Int))) fun n29=>
          zay ([Lf.arr (32)]) (spl (0:Nat) (32:Nat) (l13++[]) (List.take (32:Nat) (List.drop (1:Nat) ([D.int IntKind.i64 c28.fst]++(c28.snd.fst++[]))))) fun c30=>
          again11 (((i12,c30,(x14,x15,x16),i17,n29,PUnit.unit),U19,PUnit.unit)))
          (letN (IntKind.wrap IntKind.i64 (i18+(1:Int))) fun n31=>
          zay ([Lf.arr (32)]) (l13++[]) fun c32=>
          again11 (((i12,c32,(x14,x15,x16),i17,n31,PUnit.unit),U19,PUnit.unit))))
        (sif ((32:Nat)≤List.length (l13++[])) <|
        sif ((32:Nat)≤List.length (l13++[])) <|
        zap (zaI [D.sl Tag.lent (cut (0:Nat) (32:Nat) (l13++[]))]) fun r33=>
        zbl r33 fun l34=>
        sif (List.length l34=List.length l34) <|
        sif (List.all l34 D.free=true) <|
        some (Ans.mk (D.tup [D.sl Tag.own l34,D.int IntKind.i64 (0:Int)]) [] [])))
      (((a1,c10,(a0,(0:Nat),List.length l6),(↑(List.length l6):Int),(0:Int),PUnit.unit),T0,PUnit.unit)))
theorem zoo (zaU:List D→List Tb→Option Ans) (zaI:List D→Option D) (a0:Nat) (a1:Int) (T0:Tb):denS Try.prog (zax [(ID.disk_Disk_may,(.st [] [0] [(7649,false)] zaU)),(ID.slices_Clone_byte_byte,(.pure [1] zaI))]) zg8 [1,0] ID.disk_Disk_Read [.h 7649 a0 0,.int .i64 a1] [T0]=zfE zaU zaI a0 a1 T0:=by kernel_rfl
theorem zlP (a0:Nat) (a1:Int) (T0:Tb):zbA [.h 7649 a0 0,.int .i64 a1] [T0]=zfE zaU zaI a0 a1 T0:=zoo zaU zaI a0 a1 T0
def zfT:Ann:={ loops:=[],ks:=[(3840,false),(7649,false)] }
noncomputable def zaJ:List D→List Tb→Option Ans:=denS Try.prog (zax [(ID.bench_Bench_may,(.st [] [0] [(3840,false)] zbt)),(ID.disk_Disk_Read,(.st [] [1,0] [(7649,false)] zbA))]) zfT [1,0] ID.bench_Bench_Read
theorem zjb:za0 Try.prog ID.bench_Bench_Read (.st [] [1,0] [(3840,false),(7649,false)] zaJ):=zbL (zaz [zkZ,zlO]) zby ⟨Try.f42,by kernel_rfl,by kernel_rfl,by kernel_rfl⟩
noncomputable def zfy:Fact Try.prog:=⟨ID.bench_Bench_Read,(.st [] [1,0] [(3840,false),(7649,false)] zaJ),zjb⟩
noncomputable def zeQ (zbt:List D→List Tb→Option Ans) (zbA:List D→List Tb→Option Ans) (a0:Nat) (a1:Int) (a2:Int) (T0:Tb) (T1:Tb):Option Ans:=
  zap (zbt [D.h (3840:Nat) a0 (0:Nat),D.int IntKind.i64 a1] [T0]) fun r1=>
  nilK r1.outs <|
  nilK r1.tbs <|
  asI IntKind.i64 r1.r fun i2=>
  brK (i2 != (0:Int))
    (some (Ans.mk (D.tup [D.sl Tag.own [],D.int IntKind.i64 i2]) [] []))
    (getK T0 a0 fun d3=>
    getK d3 ((3:Nat)) fun d4=>
    zbl d4 fun l5=>
    getK T0 a0 fun d6=>
    getK d6 ((3:Nat)) fun d7=>
    zbl d7 fun l8=>
    sif ((0:Int)≤a1) <|
    sif (Int.toNat a1 < List.length l5) <|
    getK T0 a0 fun d9=>
    getK d9 ((3:Nat)) fun d10=>
    zbl d10 fun l11=>
    getK l11 ((0:Nat)+Int.toNat a1) fun d12=>
    sif (D.isAgg d12=false) <|
    sif (D.width d12=(1:Nat)) <|
    sif (D.cell d12=true) <|
    zap (zbA [d12,D.int IntKind.i64 a2] [T1]) fun r13=>
    nilK r13.outs <|
    nilK r13.tbs <|
    zdP r13.r fun ts14=>
    zay ([Lf.any,Lf.any]) ts14 fun c15=>
    zbl c15.fst fun l16=>
    asI IntKind.i64 c15.snd.fst fun i17=>
    sif (List.length l16=List.length l16) <|
    sif (List.all l16 D.free=true) <|
    some (Ans.mk (D.tup [D.sl Tag.own l16,D.int IntKind.i64 i17]) [] []))
theorem zmO (zbt:List D→List Tb→Option Ans) (zbA:List D→List Tb→Option Ans) (a0:Nat) (a1:Int) (a2:Int) (T0:Tb) (T1:Tb):denS Try.prog (zax [(ID.bench_Bench_may,(.st [] [0] [(3840,false)] zbt)),(ID.disk_Disk_Read,(.st [] [1,0] [(7649,false)] zbA))]) zfT [1,0] ID.bench_Bench_Read [.h 3840 a0 0,.int .i64 a1,.int .i64 a2] [T0,T1]=zeQ zbt zbA a0 a1 a2 T0 T1:=by kernel_rfl
theorem zjY (a0:Nat) (a1:Int) (a2:Int) (T0:Tb) (T1:Tb):zaJ [.h 3840 a0 0,.int .i64 a1,.int .i64 a2] [T0,T1]=zeQ zbt zbA a0 a1 a2 T0 T1:=zmO zbt zbA a0 a1 a2 T0 T1
def zrn:Ann:={ loops:=[] }
noncomputable def zeb:List D→Option D:=denP Try.prog (zax [(ID.geom_Check,(.pure [0] zar))]) zrn [0] ID.row_in
theorem zua:za0 Try.prog ID.row_in (.pure [0] zeb):=zao (zaz [zdG]) zby ⟨Try.f102,by kernel_rfl,by kernel_rfl,by kernel_rfl⟩
noncomputable def zvj:Fact Try.prog:=⟨ID.row_in,(.pure [0] zeb),zua⟩
noncomputable def zsx (zar:List D→Option D) (a0_0:Int) (a0_1:Int) (a0_2:Int) (a1:Int):Option D:=
  zap (zar [D.agg [D.int IntKind.i64 a0_0,D.int IntKind.i64 a0_1,D.int IntKind.i64 a0_2]]) fun r1=>
  asI IntKind.i64 r1 fun i2=>
  brK (i2 == (0:Int))
    (brK (decide (a1≥(0:Int)))
      (some (D.bool (decide (a1 < (16:Int)))))
      (some (D.bool false)))
    (some (D.bool false))
theorem zAt (zar:List D→Option D) (a0_0:Int) (a0_1:Int) (a0_2:Int) (a1:Int):denP Try.prog (zax [(ID.geom_Check,(.pure [0] zar))]) zrn [0] ID.row_in [.agg [.int .i64 a0_0,.int .i64 a0_1,.int .i64 a0_2],.int .i64 a1]=zsx zar a0_0 a0_1 a0_2 a1:=by kernel_rfl
theorem zvk (a0_0:Int) (a0_1:Int) (a0_2:Int) (a1:Int):zeb [.agg [.int .i64 a0_0,.int .i64 a0_1,.int .i64 a0_2],.int .i64 a1]=zsx zar a0_0 a0_1 a0_2 a1:=zAt zar a0_0 a0_1 a0_2 a1
def zjZ:Ann:={ loops:=[] }
noncomputable def za7:List D→Option D:=denP Try.prog (zax [(ID.geom_Check,(.pure [0] zar))]) zjZ [0] ID.geom_Budget
theorem znz:za0 Try.prog ID.geom_Budget (.pure [0] za7):=zao (zaz [zdG]) zby ⟨Try.f127,by kernel_rfl,by kernel_rfl,by kernel_rfl⟩
noncomputable def ziQ:Fact Try.prog:=⟨ID.geom_Budget,(.pure [0] za7),znz⟩
noncomputable def ziD (zar:List D→Option D) (a0_0:Int) (a0_1:Int) (a0_2:Int):Option D:=
  zap (zar [D.agg [D.int IntKind.i64 a0_0,D.int IntKind.i64 a0_1,D.int IntKind.i64 a0_2]]) fun r1=>
  asI IntKind.i64 r1 fun i2=>
  brK (i2 != (0:Int))
    (some (D.int IntKind.i64 (0:Int)))
    (letN (IntKind.wrap IntKind.i64 (a0_0 - (4:Int))) fun n3=>
    some (D.int IntKind.i64 n3))
theorem zsy (zar:List D→Option D) (a0_0:Int) (a0_1:Int) (a0_2:Int):denP Try.prog (zax [(ID.geom_Check,(.pure [0] zar))]) zjZ [0] ID.geom_Budget [.agg [.int .i64 a0_0,.int .i64 a0_1,.int .i64 a0_2]]=ziD zar a0_0 a0_1 a0_2:=by kernel_rfl
theorem zop (a0_0:Int) (a0_1:Int) (a0_2:Int):za7 [.agg [.int .i64 a0_0,.int .i64 a0_1,.int .i64 a0_2]]=ziD zar a0_0 a0_1 a0_2:=zsy zar a0_0 a0_1 a0_2
def zld:Ann:={ loops:=[] }
noncomputable def zaj:List D→Option D:=denP Try.prog (zax [(ID.geom_Check,(.pure [0] zar)),(ID.geom_Budget,(.pure [0] za7))]) zld [0] ID.geom_Width
theorem zoq:za0 Try.prog ID.geom_Width (.pure [0] zaj):=zao (zaz [zdG,ziQ]) zby ⟨Try.f103,by kernel_rfl,by kernel_rfl,by kernel_rfl⟩
noncomputable def zc4:Fact Try.prog:=⟨ID.geom_Width,(.pure [0] zaj),zoq⟩
noncomputable def zj0 (zar:List D→Option D) (za7:List D→Option D) (a0_0:Int) (a0_1:Int) (a0_2:Int):Option D:=
  zap (zar [D.agg [D.int IntKind.i64 a0_0,D.int IntKind.i64 a0_1,D.int IntKind.i64 a0_2]]) fun r1=>
  asI IntKind.i64 r1 fun i2=>
  brK (i2 != (0:Int))
    (some (D.int IntKind.i64 (0:Int)))
    (zap (za7 [D.agg [D.int IntKind.i64 a0_0,D.int IntKind.i64 a0_1,D.int IntKind.i64 a0_2]]) fun r3=>
    asI IntKind.i64 r3 fun i4=>
    letN (IntKind.wrap IntKind.i64 (a0_1 - i4)) fun n5=>
    some (D.int IntKind.i64 n5))
theorem zub (zar:List D→Option D) (za7:List D→Option D) (a0_0:Int) (a0_1:Int) (a0_2:Int):denP Try.prog (zax [(ID.geom_Check,(.pure [0] zar)),(ID.geom_Budget,(.pure [0] za7))]) zld [0] ID.geom_Width [.agg [.int .i64 a0_0,.int .i64 a0_1,.int .i64 a0_2]]=zj0 zar za7 a0_0 a0_1 a0_2:=by kernel_rfl
theorem zpP (a0_0:Int) (a0_1:Int) (a0_2:Int):zaj [.agg [.int .i64 a0_0,.int .i64 a0_1,.int .i64 a0_2]]=zj0 zar za7 a0_0 a0_1 a0_2:=zub zar za7 a0_0 a0_1 a0_2
def zoc:Ann:={ loops:=[] }
noncomputable def zbc:List D→Option D:=denP Try.prog (zax [(ID.geom_Check,(.pure [0] zar))]) zoc [0] ID.place_in
theorem zqm:za0 Try.prog ID.place_in (.pure [0] zbc):=zao (zaz [zdG]) zby ⟨Try.f106,by kernel_rfl,by kernel_rfl,by kernel_rfl⟩
noncomputable def ziE:Fact Try.prog:=⟨ID.place_in,(.pure [0] zbc),zqm⟩
noncomputable def znA (zar:List D→Option D) (a0_0:Int) (a0_1:Int) (a0_2:Int) (a1:Int):Option D:=
  zap (zar [D.agg [D.int IntKind.i64 a0_0,D.int IntKind.i64 a0_1,D.int IntKind.i64 a0_2]]) fun r1=>
  asI IntKind.i64 r1 fun i2=>
  brK (i2 == (0:Int))
    (brK (decide (a1≥(0:Int)))
      (some (D.bool (decide (a1 < (16:Int)))))
      (some (D.bool false)))
    (some (D.bool false))
theorem zxi (zar:List D→Option D) (a0_0:Int) (a0_1:Int) (a0_2:Int) (a1:Int):denP Try.prog (zax [(ID.geom_Check,(.pure [0] zar))]) zoc [0] ID.place_in [.agg [.int .i64 a0_0,.int .i64 a0_1,.int .i64 a0_2],.int .i64 a1]=znA zar a0_0 a0_1 a0_2 a1:=by kernel_rfl
theorem zsz (a0_0:Int) (a0_1:Int) (a0_2:Int) (a1:Int):zbc [.agg [.int .i64 a0_0,.int .i64 a0_1,.int .i64 a0_2],.int .i64 a1]=znA zar a0_0 a0_1 a0_2 a1:=zxi zar a0_0 a0_1 a0_2 a1
def ziR:Ann:={ loops:=[] }
noncomputable def zaW:List D→Option D:=denP Try.prog (zax [(ID.place_in,(.pure [0] zbc))]) ziR [0,0] ID.place_Parity
theorem zmP:za0 Try.prog ID.place_Parity (.pure [0,0] zaW):=zao (zaz [ziE]) zby ⟨Try.f88,by kernel_rfl,by kernel_rfl,by kernel_rfl⟩
noncomputable def zhY:Fact Try.prog:=⟨ID.place_Parity,(.pure [0,0] zaW),zmP⟩
noncomputable def zhj (zbc:List D→Option D) (a0_0:Int) (a0_1:Int) (a0_2:Int) (a1:Int):Option D:=
  zap (zbc [D.agg [D.int IntKind.i64 a0_0,D.int IntKind.i64 a0_1,D.int IntKind.i64 a0_2],D.int IntKind.i64 a1]) fun r1=>
  asB r1 fun b2=>
  brK (!b2)
    (some (D.tup [D.int IntKind.i64 (-1:Int),D.int IntKind.i64 (-1:Int)]))
    (letN (IntKind.wrap IntKind.i64 (a0_1 - (1:Int))) fun n3=>
    sif (a0_2≠(0:Int)) <|
    letN (IntKind.wrap IntKind.i64 (Int.tdiv a1 a0_2)) fun n4=>
    sif (a0_1≠(0:Int)) <|
    letN (Int.tmod n4 a0_1) fun n5=>
    letN (IntKind.wrap IntKind.i64 (n3 - n5)) fun n6=>
    brK (a0_0 == (5:Int))
      (some (D.tup [D.int IntKind.i64 n6,D.int IntKind.i64 (-1:Int)]))
      (letN (IntKind.wrap IntKind.i64 (n6+(1:Int))) fun n7=>
      sif (a0_1≠(0:Int)) <|
      letN (Int.tmod n7 a0_1) fun n8=>
      some (D.tup [D.int IntKind.i64 n6,D.int IntKind.i64 n8])))
theorem zqn (zbc:List D→Option D) (a0_0:Int) (a0_1:Int) (a0_2:Int) (a1:Int):denP Try.prog (zax [(ID.place_in,(.pure [0] zbc))]) ziR [0,0] ID.place_Parity [.agg [.int .i64 a0_0,.int .i64 a0_1,.int .i64 a0_2],.int .i64 a1]=zhj zbc a0_0 a0_1 a0_2 a1:=by kernel_rfl
theorem znB (a0_0:Int) (a0_1:Int) (a0_2:Int) (a1:Int):zaW [.agg [.int .i64 a0_0,.int .i64 a0_1,.int .i64 a0_2],.int .i64 a1]=zhj zbc a0_0 a0_1 a0_2 a1:=zqn zbc a0_0 a0_1 a0_2 a1
def zle:Ann:={ loops:=[] }
noncomputable def zbd:List D→Option D:=denP Try.prog (zax [(ID.place_in,(.pure [0] zbc)),(ID.geom_Width,(.pure [0] zaj)),(ID.place_Parity,(.pure [0,0] zaW)),(ID.geom_Budget,(.pure [0] za7))]) zle [0] ID.place_Disk
theorem zor:za0 Try.prog ID.place_Disk (.pure [0] zbd):=zao (zaz [ziE,zc4,zhY,ziQ]) zby ⟨Try.f104,by kernel_rfl,by kernel_rfl,by kernel_rfl⟩
noncomputable def zj1:Fact Try.prog:=⟨ID.place_Disk,(.pure [0] zbd),zor⟩
noncomputable def zj2 (zbc:List D→Option D) (zaj:List D→Option D) (zaW:List D→Option D) (za7:List D→Option D) (a0_0:Int) (a0_1:Int) (a0_2:Int) (a1:Int) (a2:Int):Option D:=
  zap (zbc [D.agg [D.int IntKind.i64 a0_0,D.int IntKind.i64 a0_1,D.int IntKind.i64 a0_2],D.int IntKind.i64 a1]) fun r1=>
  asB r1 fun b2=>
  brK (!b2)
    (some (D.int IntKind.i64 (-1:Int)))
    (brK (decide (a2 < (0:Int)))
      (some (D.int IntKind.i64 (-1:Int)))
      (zap (zaj [D.agg [D.int IntKind.i64 a0_0,D.int IntKind.i64 a0_1,D.int IntKind.i64 a0_2]]) fun r3=>
      asI IntKind.i64 r3 fun i4=>
      brK (decide (a2≥i4))
        (some (D.int IntKind.i64 (-1:Int)))
        (zap (zaW [D.agg [D.int IntKind.i64 a0_0,D.int IntKind.i64 a0_1,D.int IntKind.i64 a0_2],D.int IntKind.i64 a1]) fun r5=>
        zdP r5 fun ts6=>
        zay ([Lf.any,Lf.any]) ts6 fun c7=>
        asI IntKind.i64 c7.fst fun i8=>
        asI IntKind.i64 c7.snd.fst fun i9=>
        zap (za7 [D.agg [D.int IntKind.i64 a0_0,D.int IntKind.i64 a0_1,D.int IntKind.i64 a0_2]]) fun r10=>
        asI IntKind.i64 r10 fun i11=>
        letN (IntKind.wrap IntKind.i64 (i8+i11)) fun n12=>
        letN (IntKind.wrap IntKind.i64 (n12+a2)) fun n13=>
        sif (a0_1≠(0:Int)) <|
        letN (Int.tmod n13 a0_1) fun n14=>
        some (D.int IntKind.i64 n14))))
theorem zuc (zbc:List D→Option D) (zaj:List D→Option D) (zaW:List D→Option D) (za7:List D→Option D) (a0_0:Int) (a0_1:Int) (a0_2:Int) (a1:Int) (a2:Int):denP Try.prog (zax [(ID.place_in,(.pure [0] zbc)),(ID.geom_Width,(.pure [0] zaj)),(ID.place_Parity,(.pure [0,0] zaW)),(ID.geom_Budget,(.pure [0] za7))]) zle [0] ID.place_Disk [.agg [.int .i64 a0_0,.int .i64 a0_1,.int .i64 a0_2],.int .i64 a1,.int .i64 a2]=zj2 zbc zaj zaW za7 a0_0 a0_1 a0_2 a1 a2:=by kernel_rfl
theorem zpQ (a0_0:Int) (a0_1:Int) (a0_2:Int) (a1:Int) (a2:Int):zbd [.agg [.int .i64 a0_0,.int .i64 a0_1,.int .i64 a0_2],.int .i64 a1,.int .i64 a2]=zj2 zbc zaj zaW za7 a0_0 a0_1 a0_2 a1 a2:=zuc zbc zaj zaW za7 a0_0 a0_1 a0_2 a1 a2
def zhZ:Ann:={ loops:=[(0,[.dead,.dead,.dead,.own 1,.dead,.dead,.val (.cell .lent),.val (.cell (.int .i64)),.val (.cell (.int .i64))])] }
noncomputable def zbx:List D→Option D:=denP Try.prog (zax []) zhZ [1] ID.erase_Missing
theorem zlQ:za0 Try.prog ID.erase_Missing (.pure [1] zbx):=zao (zaz []) zby ⟨Try.f128,by kernel_rfl,by kernel_rfl,by kernel_rfl⟩
noncomputable def zmQ:Fact Try.prog:=⟨ID.erase_Missing,(.pure [1] zbx),zlQ⟩
noncomputable def zgF (a0:List D):Option D:=
  zb3 (α:=(List D×List D×Int×Int×PUnit)×PUnit) (fun again1 ((l2,(l3,(i4,(i5,_)))),_)=>
    brK (decide (i5 < i4))
      (sif ((0:Int)≤i5) <|
      getK l3 (Int.toNat i5) fun d6=>
      asSl d6 fun t7 l8=>
      brK ((↑(List.length l8):Int) == (0:Int))
        (sif (List.length l2+(1:Nat)≤(4294967296:Nat)) <|
        sif (List.length l2=List.length l2) <|
        letN (IntKind.wrap IntKind.i64 (i5+(1:Int))) fun n9=>
        sif (List.length l2+(1:Nat)=List.length (l2++[D.int IntKind.i64 i5])) <|
        again1 (((l2++[D.int IntKind.i64 i5],l3,i4,n9,PUnit.unit),PUnit.unit)))
        (letN (IntKind.wrap IntKind.i64 (i5+(1:Int))) fun n10=>
        sif (List.length l2=List.length l2) <|
        again1 (((l2,l3,i4,n10,PUnit.unit),PUnit.unit))))
      (sif (List.length l2=List.length l2) <|
      sif (List.all l2 D.free=true) <|
      some (D.sl Tag.own l2)))
    ((([],a0,(↑(List.length a0):Int),(0:Int),PUnit.unit),PUnit.unit))
theorem zpR (tga0:Tag) (a0:List D):denP Try.prog (zax []) zhZ [1] ID.erase_Missing [.sl tga0 a0]=zgF (D.lentL a0):=by kernel_rfl
theorem zmR (tga0:Tag) (a0:List D):zbx [.sl tga0 a0]=zgF (D.lentL a0):=zpR tga0 a0
def ziS:Ann:={ loops:=[],hints:=[(1,.at1 (.int .i64))] }
noncomputable def za3:List D→Option D:=denP Try.prog (zax []) ziS [0] ID.erase_fits_1
theorem zmS:za0 Try.prog ID.erase_fits_1 (.pure [0] za3):=zao (zaz []) zby ⟨Try.f140,by kernel_rfl,by kernel_rfl,by kernel_rfl⟩
noncomputable def zh0:Fact Try.prog:=⟨ID.erase_fits_1,(.pure [0] za3),zmS⟩
noncomputable def zhk (a0:List D) (c0:Int):Option D:=
  brK (decide ((↑(List.length a0):Int) > (0:Int)))
    (some (D.bool ((↑(List.length a0):Int) != c0)))
    (some (D.bool false))
theorem zqo (tga0:Tag) (a0:List D) (c0:Int):denP Try.prog (zax []) ziS [0] ID.erase_fits_1 [.sl tga0 a0,.at_ (.int .i64 c0)]=zhk (D.lentL a0) c0:=by kernel_rfl
theorem znC (tga0:Tag) (a0:List D) (c0:Int):za3 [.sl tga0 a0,.at_ (.int .i64 c0)]=zhk (D.lentL a0) c0:=zqo tga0 a0 c0
def znD:Ann:={ loops:=[] }
noncomputable def zbb:List D→Option D:=denP Try.prog (zax []) znD [0] ID.row_sectors_1
theorem zlR:za0 Try.prog ID.row_sectors_1 (.pure [0] zbb):=zao (zaz []) zby ⟨Try.f135,by kernel_rfl,by kernel_rfl,by kernel_rfl⟩
noncomputable def zg9:Fact Try.prog:=⟨ID.row_sectors_1,(.pure [0] zbb),zlR⟩
def zc8:List (Nat×Ann):=[(140,{ loops:=[(0,[.val (.cell .lent),.val (.fn1 (140:FuncId) (.int .i64)),.dead,.dead,.dead,.dead,.dead,.val (.cell (.int .i64)),.val (.cell (.int .i64))])] }),(135,{ loops:=[(0,[.val (.cell .lent),.fnc 135,.dead,.dead,.dead,.dead,.dead,.val (.cell (.int .i64)),.val (.cell (.int .i64))])] })]
noncomputable def zaG:List D→Option D:=denA Try.prog (zax [(ID.erase_fits_1,(.pure [0] za3)),(ID.row_sectors_1,(.pure [0] zbb))]) zc8 [0] ID.slices_IndexFunc_byte_byte
theorem zeV:za0 Try.prog ID.slices_IndexFunc_byte_byte (.pure [0] zaG):=zrd (zaz [zh0,zg9]) zby ⟨Try.f143,by kernel_rfl,by kernel_rfl,by kernel_rfl⟩
noncomputable def zfh:Fact Try.prog:=⟨ID.slices_IndexFunc_byte_byte,(.pure [0] zaG),zeV⟩
noncomputable def zb6 (za3:List D→Option D) (zbb:List D→Option D) (a0:List D) (c0:Int):Option D:=
  zb3 (α:=(List D×Int×Int×Int×PUnit)×PUnit) (fun again1 ((l2,(i3,(i4,(i5,_)))),_)=>
    brK (decide (i5 < i4))
      (sif ((0:Int)≤i5) <|
      getK l2 (Int.toNat i5) fun d6=>
      asSl d6 fun t7 l8=>
      zap (za3 [D.sl t7 l8,D.at_ (D.int IntKind.i64 i3)]) fun r9=>
      asB r9 fun b10=>
      brK b10
        (some (D.int IntKind.i64 i5))
        (letN (IntKind.wrap IntKind.i64 (i5+(1:Int))) fun n11=>
        again1 (((l2,i3,i4,n11,PUnit.unit),PUnit.unit))))
      (some (D.int IntKind.i64 (-1:Int))))
    (((a0,c0,(↑(List.length a0):Int),(0:Int),PUnit.unit),PUnit.unit))
theorem zex (za3:List D→Option D) (zbb:List D→Option D) (tga0:Tag) (a0:List D) (c0:Int):denA Try.prog (zax [(ID.erase_fits_1,(.pure [0] za3)),(ID.row_sectors_1,(.pure [0] zbb))]) zc8 [0] ID.slices_IndexFunc_byte_byte [.sl tga0 a0,.fn 140 [] [.at_ (.int .i64 c0)]]=zb6 za3 zbb (D.lentL a0) c0:=by kernel_rfl
theorem zd3 (tga0:Tag) (a0:List D) (c0:Int):zaG [.sl tga0 a0,.fn 140 [] [.at_ (.int .i64 c0)]]=zb6 za3 zbb (D.lentL a0) c0:=zex za3 zbb tga0 a0 c0
def zcP:Ann:={ loops:=[] }
noncomputable def zat:List D→Option D:=denP Try.prog (zax [(ID.slices_IndexFunc_byte_byte,(.pure [0] zaG)),(ID.erase_fits_1,(.pure [0] za3)),(ID.row_sectors_1,(.pure [0] zbb))]) zcP [0] ID.slices_ContainsFunc_byte_byte
theorem zem:za0 Try.prog ID.slices_ContainsFunc_byte_byte (.pure [0] zat):=zao (zaz [zfh,zh0,zg9]) zby ⟨Try.f134,by kernel_rfl,by kernel_rfl,by kernel_rfl⟩
noncomputable def zey:Fact Try.prog:=⟨ID.slices_ContainsFunc_byte_byte,(.pure [0] zat),zem⟩
noncomputable def zbT (zaG:List D→Option D) (za3:List D→Option D) (zbb:List D→Option D) (a0:List D) (c0:Int):Option D:=
  zap (zaG [D.sl Tag.lent a0,D.fn (140:FuncId) [] [D.at_ (D.int IntKind.i64 c0)]]) fun r1=>
  asI IntKind.i64 r1 fun i2=>
  some (D.bool (decide (i2≥(0:Int))))
theorem zd4 (zaG:List D→Option D) (za3:List D→Option D) (zbb:List D→Option D) (tga0:Tag) (a0:List D) (c0:Int):denP Try.prog (zax [(ID.slices_IndexFunc_byte_byte,(.pure [0] zaG)),(ID.erase_fits_1,(.pure [0] za3)),(ID.row_sectors_1,(.pure [0] zbb))]) zcP [0] ID.slices_ContainsFunc_byte_byte [.sl tga0 a0,.fn 140 [] [.at_ (.int .i64 c0)]]=zbT zaG za3 zbb (D.lentL a0) c0:=by kernel_rfl
theorem zdu (tga0:Tag) (a0:List D) (c0:Int):zat [.sl tga0 a0,.fn 140 [] [.at_ (.int .i64 c0)]]=zbT zaG za3 zbb (D.lentL a0) c0:=zd4 zaG za3 zbb tga0 a0 c0
def zlf:Ann:={ loops:=[] }
noncomputable def zbV:List D→Option D:=denP Try.prog (zax [(ID.slices_ContainsFunc_byte_byte,(.pure [0] zat))]) zlf [0] ID.erase_fits
theorem zos:za0 Try.prog ID.erase_fits (.pure [0] zbV):=zao (zaz [zey]) zby ⟨Try.f129,by kernel_rfl,by kernel_rfl,by kernel_rfl⟩
noncomputable def zpS:Fact Try.prog:=⟨ID.erase_fits,(.pure [0] zbV),zos⟩
noncomputable def zj3 (zat:List D→Option D) (a0:Int) (a1:List D):Option D:=
  zap (zat [D.sl Tag.lent a1,D.fn (140:Nat) [] [D.at_ (D.int IntKind.i64 a0)]]) fun r1=>
  asB r1 fun b2=>
  some (D.bool !b2)
theorem zud (zat:List D→Option D) (tga1:Tag) (a0:Int) (a1:List D):denP Try.prog (zax [(ID.slices_ContainsFunc_byte_byte,(.pure [0] zat))]) zlf [0] ID.erase_fits [.int .i64 a0,.sl tga1 a1]=zj3 zat a0 (D.lentL a1):=by kernel_rfl
theorem zpT (tga1:Tag) (a0:Int) (a1:List D):zbV [.int .i64 a0,.sl tga1 a1]=zj3 zat a0 (D.lentL a1):=zud zat tga1 a0 a1
def ziT:Ann:={ loops:=[(0,[.val (.cell (.int .i64)),.dead,.dead,.dead,.dead,.own 1,.dead,.dead,.dead,.val (.cell .lent),.val (.cell (.int .i64)),.val (.cell (.int .i64))])] }
noncomputable def zbM:List D→Option D:=denP Try.prog (zax []) ziT [1] ID.erase_filled
theorem zmT:za0 Try.prog ID.erase_filled (.pure [1] zbM):=zao (zaz []) zby ⟨Try.f130,by kernel_rfl,by kernel_rfl,by kernel_rfl⟩
noncomputable def znE:Fact Try.prog:=⟨ID.erase_filled,(.pure [1] zbM),zmT⟩
noncomputable def zhl (a0:Int) (a1:List D):Option D:=
  zb3 (α:=(Int×List D×List D×Int×Int×PUnit)×PUnit) (fun again1 ((i2,(l3,(l4,(i5,(i6,_))))),_)=>
    brK (decide (i6 < i5))
      (sif ((0:Int)≤i6) <|
      getK l4 (Int.toNat i6) fun d7=>
      asSl d7 fun t8 l9=>
      sif ((0:Int)≤i2) <|
      sif (i2=i2) <|
      sif (i2*(1:Int)≤(140737488355328:Int)) <|
      sif (i2≤(140737488355328:Int)) <|
      sif ((0:Nat)+Int.toNat i2≤List.length (List.replicate (Int.toNat i2) (D.int IntKind.u8 (0:Int)))) <|
      sif (cells l9=true) <|
      sif ((0:Nat)+Int.toNat i2≤List.length ([]++List.take (Int.toNat i2) l9++List.drop ((0:Nat)+List.length (List.take (Int.toNat i2) l9)) (List.replicate (Int.toNat i2) (D.int IntKind.u8 (0:Int))))) <|
      sif (List.length l3+(1:Nat)≤(4294967296:Nat)) <|
      sif (List.length l3=List.length l3) <|
      letN (IntKind.wrap IntKind.i64 (i6+(1:Int))) fun n10=>
      sif (List.length l3+(1:Nat)=List.length (l3++[D.sl Tag.fresh (cut (0:Nat) (Int.toNat i2) ([]++List.take (Int.toNat i2) l9++List.drop ((0:Nat)+List.length (List.take (Int.toNat i2) l9)) (List.replicate (Int.toNat i2) (D.int IntKind.u8 (0:Int)))))])) <|
      again1 (((i2,l3++[D.sl Tag.fresh (cut (0:Nat) (Int.toNat i2) ([]++List.take (Int.toNat i2) l9++List.drop ((0:Nat)+List.length (List.take (Int.toNat i2) l9)) (List.replicate (Int.toNat i2) (D.int IntKind.u8 (0:Int)))))],l4,i5,n10,PUnit.unit),PUnit.unit)))
      (sif (List.length l3=List.length l3) <|
      sif (List.all l3 D.free=true) <|
      some (D.sl Tag.own l3)))
    (((a0,[],a1,(↑(List.length a1):Int),(0:Int),PUnit.unit),PUnit.unit))
theorem zqp (tga1:Tag) (a0:Int) (a1:List D):denP Try.prog (zax []) ziT [1] ID.erase_filled [.int .i64 a0,.sl tga1 a1]=zhl a0 (D.lentL a1):=by kernel_rfl
theorem znF (tga1:Tag) (a0:Int) (a1:List D):zbM [.int .i64 a0,.sl tga1 a1]=zhl a0 (D.lentL a1):=zqp tga1 a0 a1
def zmU:Ann:={ loops:=[] }
noncomputable def zaX:List D→Option D:=denP Try.prog (zax []) zmU [0] ID.gf_double
theorem zpU:za0 Try.prog ID.gf_double (.pure [0] zaX):=zao (zaz []) zby ⟨Try.f144,by kernel_rfl,by kernel_rfl,by kernel_rfl⟩
noncomputable def zhm:Fact Try.prog:=⟨ID.gf_double,(.pure [0] zaX),zpU⟩
noncomputable def zlS (a0:Int):Option D:=
  brK (decide (a0≥(128:Int)))
    (letN (IntKind.wrap IntKind.u8 (a0*(2:Int))) fun n1=>
    letN (bits BinOp.xor IntKind.u8 n1 (29:Int)) fun n2=>
    some (D.int IntKind.u8 n2))
    (letN (IntKind.wrap IntKind.u8 (a0*(2:Int))) fun n3=>
    some (D.int IntKind.u8 n3))
theorem zvl (a0:Int):denP Try.prog (zax []) zmU [0] ID.gf_double [.int .u8 a0]=zlS a0:=by kernel_rfl
theorem zqq (a0:Int):zaX [.int .u8 a0]=zlS a0:=zvl a0
def zro:Ann:={ loops:=[(0,[.val (.cell (.int .u8)),.val (.cell (.int .u8)),.dead,.dead,.dead,.val (.cell (.int .u8))])] }
noncomputable def zec:List D→Option D:=denP Try.prog (zax [(ID.gf_double,(.pure [0] zaX))]) zro [0] ID.gf_Mul
theorem zue:za0 Try.prog ID.gf_Mul (.pure [0] zec):=zao (zaz [zhm]) zby ⟨Try.f146,by kernel_rfl,by kernel_rfl,by kernel_rfl⟩
noncomputable def zvm:Fact Try.prog:=⟨ID.gf_Mul,(.pure [0] zec),zue⟩
noncomputable def zsA (zaX:List D→Option D) (a0:Int) (a1:Int):Option D:=
  zb3 (α:=(Int×Int×Int×PUnit)×PUnit) (fun again1 ((i2,(i3,(i4,_))),_)=>
    brK (decide (i3 > (0:Int)))
      (letN (bits BinOp.and IntKind.u8 i3 (1:Int)) fun n5=>
      brK (n5 == (1:Int))
        (letN (bits BinOp.xor IntKind.u8 i4 i2) fun n6=>
        zap (zaX [D.int IntKind.u8 i2]) fun r7=>
        asI IntKind.u8 r7 fun i8=>
        letN (Int.fdiv i3 (2:Int)) fun n9=>
        again1 (((i8,n9,n6,PUnit.unit),PUnit.unit)))
        (zap (zaX [D.int IntKind.u8 i2]) fun r10=>
        asI IntKind.u8 r10 fun i11=>
        letN (Int.fdiv i3 (2:Int)) fun n12=>
        again1 (((i11,n12,i4,PUnit.unit),PUnit.unit))))
      (some (D.int IntKind.u8 i4)))
    (((a0,a1,(0:Int),PUnit.unit),PUnit.unit))
theorem zAu (zaX:List D→Option D) (a0:Int) (a1:Int):denP Try.prog (zax [(ID.gf_double,(.pure [0] zaX))]) zro [0] ID.gf_Mul [.int .u8 a0,.int .u8 a1]=zsA zaX a0 a1:=by kernel_rfl
theorem zvn (a0:Int) (a1:Int):zec [.int .u8 a0,.int .u8 a1]=zsA zaX a0 a1:=zAu zaX a0 a1
def zlg:Ann:={ loops:=[(0,[.dead,.val (.cell (.int .u8)),.dead,.dead,.dead,.own 1,.dead,.dead,.val (.cell .lent),.val (.cell (.int .i64)),.val (.cell (.int .i64))])] }
noncomputable def zaD:List D→Option D:=denP Try.prog (zax [(ID.gf_Mul,(.pure [0] zec))]) zlg [1] ID.synd_Scale
theorem zot:za0 Try.prog ID.synd_Scale (.pure [1] zaD):=zao (zaz [zvm]) zby ⟨Try.f142,by kernel_rfl,by kernel_rfl,by kernel_rfl⟩
noncomputable def zgG:Fact Try.prog:=⟨ID.synd_Scale,(.pure [1] zaD),zot⟩
noncomputable def zj4 (zec:List D→Option D) (a0:List D) (a1:Int):Option D:=
  zb3 (α:=(Int×List D×List D×Int×Int×PUnit)×PUnit) (fun again1 ((i2,(l3,(l4,(i5,(i6,_))))),_)=>
    brK (decide (i6 < i5))
      (sif ((0:Int)≤i6) <|
      getK l4 (Int.toNat i6) fun d7=>
      asI IntKind.u8 d7 fun i8=>
      zap (zec [D.int IntKind.u8 i8,D.int IntKind.u8 i2]) fun r9=>
      asI IntKind.u8 r9 fun i10=>
      sif (List.length l3+(1:Nat)≤(4294967296:Nat)) <|
      sif (List.length l3=List.length l3) <|
      letN (IntKind.wrap IntKind.i64 (i6+(1:Int))) fun n11=>
      sif (List.length l3+(1:Nat)=List.length (l3++[D.int IntKind.u8 i10])) <|
      again1 (((i2,l3++[D.int IntKind.u8 i10],l4,i5,n11,PUnit.unit),PUnit.unit)))
      (sif (List.length l3=List.length l3) <|
      sif (List.all l3 D.free=true) <|
      some (D.sl Tag.own l3)))
    (((a1,[],a0,(↑(List.length a0):Int),(0:Int),PUnit.unit),PUnit.unit))
theorem zuf (zec:List D→Option D) (tga0:Tag) (a0:List D) (a1:Int):denP Try.prog (zax [(ID.gf_Mul,(.pure [0] zec))]) zlg [1] ID.synd_Scale [.sl tga0 a0,.int .u8 a1]=zj4 zec (D.lentL a0) a1:=by kernel_rfl
theorem zpV (tga0:Tag) (a0:List D) (a1:Int):zaD [.sl tga0 a0,.int .u8 a1]=zj4 zec (D.lentL a0) a1:=zuf zec tga0 a0 a1
def zod:Ann:={ loops:=[(1,[.dead,.val (.cell .lent),.dead,.dead,.dead,.own 1,.dead,.dead,.dead,.dead,.dead,.dead,.dead,.val (.cell .lent),.val (.cell (.int .i64)),.val (.cell (.int .i64))])] }
noncomputable def zaF:List D→Option D:=denP Try.prog (zax []) zod [1] ID.synd_Add
theorem zqr:za0 Try.prog ID.synd_Add (.pure [1] zaF):=zao (zaz []) zby ⟨Try.f132,by kernel_rfl,by kernel_rfl,by kernel_rfl⟩
noncomputable def zf8:Fact Try.prog:=⟨ID.synd_Add,(.pure [1] zaF),zqr⟩
noncomputable def znG (a0:List D) (a1:List D):Option D:=
  brK ((↑(List.length a0):Int) != (↑(List.length a1):Int))
    (some (D.sl Tag.own []))
    (zb3 (α:=(List D×List D×List D×Int×Int×PUnit)×PUnit) (fun again1 ((l2,(l3,(l4,(i5,(i6,_))))),_)=>
      brK (decide (i6 < i5))
        (sif ((0:Int)≤i6) <|
        getK l4 (Int.toNat i6) fun d7=>
        asI IntKind.u8 d7 fun i8=>
        sif ((0:Int)≤i6) <|
        getK l2 (Int.toNat i6) fun d9=>
        asI IntKind.u8 d9 fun i10=>
        letN (bits BinOp.xor IntKind.u8 i8 i10) fun n11=>
        sif (List.length l3+(1:Nat)≤(4294967296:Nat)) <|
        sif (List.length l3=List.length l3) <|
        letN (IntKind.wrap IntKind.i64 (i6+(1:Int))) fun n12=>
        sif (List.length l3+(1:Nat)=List.length (l3++[D.int IntKind.u8 n11])) <|
        again1 (((l2,l3++[D.int IntKind.u8 n11],l4,i5,n12,PUnit.unit),PUnit.unit)))
        (sif (List.length l3=List.length l3) <|
        sif (List.all l3 D.free=true) <|
        some (D.sl Tag.own l3)))
      (((a1,[],a0,(↑(List.length a0):Int),(0:Int),PUnit.unit),PUnit.unit)))
theorem zxj (tga0:Tag) (tga1:Tag) (a0:List D) (a1:List D):denP Try.prog (zax []) zod [1] ID.synd_Add [.sl tga0 a0,.sl tga1 a1]=znG (D.lentL a0) (D.lentL a1):=by kernel_rfl
theorem zsB (tga0:Tag) (tga1:Tag) (a0:List D) (a1:List D):zaF [.sl tga0 a0,.sl tga1 a1]=znG (D.lentL a0) (D.lentL a1):=zxj tga0 tga1 a0 a1
def zrp:Ann:={ loops:=[(0,[.dead,.dead,.dead,.val (.cell (.int .u8)),.dead,.dead,.dead,.val (.cell (.int .i64)),.val (.cell (.int .i64))])] }
noncomputable def zaR:List D→Option D:=denP Try.prog (zax [(ID.gf_double,(.pure [0] zaX))]) zrp [0] ID.gf_Pow
theorem zug:za0 Try.prog ID.gf_Pow (.pure [0] zaR):=zao (zaz [zhm]) zby ⟨Try.f138,by kernel_rfl,by kernel_rfl,by kernel_rfl⟩
noncomputable def zgH:Fact Try.prog:=⟨ID.gf_Pow,(.pure [0] zaR),zug⟩
noncomputable def zoM (zaX:List D→Option D) (a0:Int):Option D:=
  letN (Int.tmod a0 (255:Int)) fun n1=>
  letN (IntKind.wrap IntKind.i64 (n1+(255:Int))) fun n2=>
  letN (Int.tmod n2 (255:Int)) fun n3=>
  zb3 (α:=(Int×Int×Int×PUnit)×PUnit) (fun again4 ((i5,(i6,(i7,_))),_)=>
    brK (decide (i7 < i6))
      (zap (zaX [D.int IntKind.u8 i5]) fun r8=>
      asI IntKind.u8 r8 fun i9=>
      letN (IntKind.wrap IntKind.i64 (i7+(1:Int))) fun n10=>
      again4 (((i9,i6,n10,PUnit.unit),PUnit.unit)))
      (some (D.int IntKind.u8 i5)))
    ((((1:Int),n3,(0:Int),PUnit.unit),PUnit.unit))
theorem zAv (zaX:List D→Option D) (a0:Int):denP Try.prog (zax [(ID.gf_double,(.pure [0] zaX))]) zrp [0] ID.gf_Pow [.int .i64 a0]=zoM zaX a0:=by kernel_rfl
theorem zpW (a0:Int):zaR [.int .i64 a0]=zoM zaX a0:=zAv zaX a0
def zoe:Ann:={ loops:=[] }
noncomputable def zbu:List D→Option D:=denP Try.prog (zax []) zoe [0] ID.synd_P_1
theorem zqs:za0 Try.prog ID.synd_P_1 (.pure [0] zbu):=zao (zaz []) zby ⟨Try.f137,by kernel_rfl,by kernel_rfl,by kernel_rfl⟩
noncomputable def zmV:Fact Try.prog:=⟨ID.synd_P_1,(.pure [0] zbu),zqs⟩
noncomputable def zrq (a0:Int):Option D:=
  some (D.int IntKind.u8 (1:Int))
theorem zxk (a0:Int):denP Try.prog (zax []) zoe [0] ID.synd_P_1 [.int .i64 a0]=zrq a0:=by kernel_rfl
theorem zsC (a0:Int):zbu [.int .i64 a0]=zrq a0:=zxk a0
def zj5:List (Nat×Ann):=[(137,{ loops:=[(1,[.dead,.fnc 137,.dead,.dead,.dead,.own 1,.dead,.dead,.dead,.dead,.dead,.dead,.dead,.dead,.dead,.dead,.val (.cell .lent),.val (.cell (.int .i64)),.val (.cell (.int .i64))])] }),(138,{ loops:=[(1,[.dead,.fnc 138,.dead,.dead,.dead,.own 1,.dead,.dead,.dead,.dead,.dead,.dead,.dead,.dead,.dead,.dead,.val (.cell .lent),.val (.cell (.int .i64)),.val (.cell (.int .i64))])] })]
noncomputable def zbG:List D→Option D:=denA Try.prog (zax [(ID.synd_Scale,(.pure [1] zaD)),(ID.synd_Add,(.pure [1] zaF)),(ID.gf_Pow,(.pure [0] zaR)),(ID.synd_P_1,(.pure [0] zbu))]) zj5 [1] ID.synd_sum
theorem zqt:za0 Try.prog ID.synd_sum (.pure [1] zbG):=zrd (zaz [zgG,zf8,zgH,zmV]) zby ⟨Try.f136,by kernel_rfl,by kernel_rfl,by kernel_rfl⟩
noncomputable def zmW:Fact Try.prog:=⟨ID.synd_sum,(.pure [1] zbG),zqt⟩
noncomputable def ziF (zaD:List D→Option D) (zaF:List D→Option D) (zaR:List D→Option D) (zbu:List D→Option D) (a0:List D):Option D:=
  brK ((↑(List.length a0):Int) == (0:Int))
    (some (D.sl Tag.own []))
    (getK a0 ((0:Nat)) fun d1=>
    asSl d1 fun t2 l3=>
    sif ((↑(List.length l3):Int)=(↑(List.length l3):Int)) <|
    sif ((↑(List.length l3):Int)*(1:Int)≤(140737488355328:Int)) <|
    sif ((↑(List.length l3):Int)≤(140737488355328:Int)) <|
    sif (Int.toNat (↑(List.length l3):Int)=List.length (List.replicate (Int.toNat (↑(List.length l3):Int)) (D.int IntKind.u8 (0:Int)))) <|
    zb3 (α:=(List D×List D×Int×Int×PUnit)×PUnit) (fun again4 ((l5,(l6,(i7,(i8,_)))),_)=>
      brK (decide (i8 < i7))
        (sif ((0:Int)≤i8) <|
        getK l6 (Int.toNat i8) fun d9=>
        asSl d9 fun t10 l11=>
        sif ((0:Nat)+List.length l5≤List.length l5) <|
        brK ((↑(List.length l11):Int) != (↑(List.length l5):Int))
          (some (D.sl Tag.own []))
          (zap (zbu [D.int IntKind.i64 i8]) fun r12=>
          asI IntKind.u8 r12 fun i13=>
          zap (zaD [D.sl t10 l11,D.int IntKind.u8 i13]) fun r14=>
          zbl r14 fun l15=>
          sif ((0:Nat)+List.length l5≤List.length l5) <|
          sif ((0:Nat)+List.length l15≤List.length l15) <|
          zap (zaF [D.sl Tag.lent (cut (0:Nat) (List.length l5) l5),D.sl Tag.lent (cut (0:Nat) (List.length l15) l15)]) fun r16=>
          zbl r16 fun l17=>
          letN (IntKind.wrap IntKind.i64 (i8+(1:Int))) fun n18=>
          sif (List.length l17=List.length l17) <|
          again4 (((l17,l6,i7,n18,PUnit.unit),PUnit.unit))))
        (sif (List.length l5=List.length l5) <|
        sif (List.all l5 D.free=true) <|
        some (D.sl Tag.own l5)))
      (((List.replicate (Int.toNat (↑(List.length l3):Int)) (D.int IntKind.u8 (0:Int)),a0,(↑(List.length a0):Int),(0:Int),PUnit.unit),PUnit.unit)))
theorem zsD (zaD:List D→Option D) (zaF:List D→Option D) (zaR:List D→Option D) (zbu:List D→Option D) (tga0:Tag) (a0:List D):denA Try.prog (zax [(ID.synd_Scale,(.pure [1] zaD)),(ID.synd_Add,(.pure [1] zaF)),(ID.gf_Pow,(.pure [0] zaR)),(ID.synd_P_1,(.pure [0] zbu))]) zj5 [1] ID.synd_sum [.sl tga0 a0,.fn 137 [] []]=ziF zaD zaF zaR zbu (D.lentL a0):=by kernel_rfl
theorem zou (tga0:Tag) (a0:List D):zbG [.sl tga0 a0,.fn 137 [] []]=ziF zaD zaF zaR zbu (D.lentL a0):=zsD zaD zaF zaR zbu tga0 a0
noncomputable def ziG (zaD:List D→Option D) (zaF:List D→Option D) (zaR:List D→Option D) (zbu:List D→Option D) (a0:List D):Option D:=
  brK ((↑(List.length a0):Int) == (0:Int))
    (some (D.sl Tag.own []))
    (getK a0 ((0:Nat)) fun d1=>
    asSl d1 fun t2 l3=>
    sif ((↑(List.length l3):Int)=(↑(List.length l3):Int)) <|
    sif ((↑(List.length l3):Int)*(1:Int)≤(140737488355328:Int)) <|
    sif ((↑(List.length l3):Int)≤(140737488355328:Int)) <|
    sif (Int.toNat (↑(List.length l3):Int)=List.length (List.replicate (Int.toNat (↑(List.length l3):Int)) (D.int IntKind.u8 (0:Int)))) <|
    zb3 (α:=(List D×List D×Int×Int×PUnit)×PUnit) (fun again4 ((l5,(l6,(i7,(i8,_)))),_)=>
      brK (decide (i8 < i7))
        (sif ((0:Int)≤i8) <|
        getK l6 (Int.toNat i8) fun d9=>
        asSl d9 fun t10 l11=>
        sif ((0:Nat)+List.length l5≤List.length l5) <|
        brK ((↑(List.length l11):Int) != (↑(List.length l5):Int))
          (some (D.sl Tag.own []))
          (zap (zaR [D.int IntKind.i64 i8]) fun r12=>
          asI IntKind.u8 r12 fun i13=>
          zap (zaD [D.sl t10 l11,D.int IntKind.u8 i13]) fun r14=>
          zbl r14 fun l15=>
          sif ((0:Nat)+List.length l5≤List.length l5) <|
          sif ((0:Nat)+List.length l15≤List.length l15) <|
          zap (zaF [D.sl Tag.lent (cut (0:Nat) (List.length l5) l5),D.sl Tag.lent (cut (0:Nat) (List.length l15) l15)]) fun r16=>
          zbl r16 fun l17=>
          letN (IntKind.wrap IntKind.i64 (i8+(1:Int))) fun n18=>
          sif (List.length l17=List.length l17) <|
          again4 (((l17,l6,i7,n18,PUnit.unit),PUnit.unit))))
        (sif (List.length l5=List.length l5) <|
        sif (List.all l5 D.free=true) <|
        some (D.sl Tag.own l5)))
      (((List.replicate (Int.toNat (↑(List.length l3):Int)) (D.int IntKind.u8 (0:Int)),a0,(↑(List.length a0):Int),(0:Int),PUnit.unit),PUnit.unit)))
theorem zsE (zaD:List D→Option D) (zaF:List D→Option D) (zaR:List D→Option D) (zbu:List D→Option D) (tga0:Tag) (a0:List D):denA Try.prog (zax [(ID.synd_Scale,(.pure [1] zaD)),(ID.synd_Add,(.pure [1] zaF)),(ID.gf_Pow,(.pure [0] zaR)),(ID.synd_P_1,(.pure [0] zbu))]) zj5 [1] ID.synd_sum [.sl tga0 a0,.fn 138 [] []]=ziG zaD zaF zaR zbu (D.lentL a0):=by kernel_rfl
theorem zov (tga0:Tag) (a0:List D):zbG [.sl tga0 a0,.fn 138 [] []]=ziG zaD zaF zaR zbu (D.lentL a0):=zsE zaD zaF zaR zbu tga0 a0
def zrr:Ann:={ loops:=[] }
noncomputable def zcp:List D→Option D:=denP Try.prog (zax [(ID.synd_sum,(.pure [1] zbG)),(ID.synd_P_1,(.pure [0] zbu))]) zrr [1] ID.synd_P
theorem zuh:za0 Try.prog ID.synd_P (.pure [1] zcp):=zao (zaz [zmW,zmV]) zby ⟨Try.f110,by kernel_rfl,by kernel_rfl,by kernel_rfl⟩
noncomputable def zpX:Fact Try.prog:=⟨ID.synd_P,(.pure [1] zcp),zuh⟩
noncomputable def zsF (zbG:List D→Option D) (zbu:List D→Option D) (a0:List D):Option D:=
  zap (zbG [D.sl Tag.lent a0,D.fn (137:Nat) [] []]) fun r1=>
  zbl r1 fun l2=>
  sif (List.length l2=List.length l2) <|
  sif (List.all l2 D.free=true) <|
  some (D.sl Tag.own l2)
theorem zAw (zbG:List D→Option D) (zbu:List D→Option D) (tga0:Tag) (a0:List D):denP Try.prog (zax [(ID.synd_sum,(.pure [1] zbG)),(ID.synd_P_1,(.pure [0] zbu))]) zrr [1] ID.synd_P [.sl tga0 a0]=zsF zbG zbu (D.lentL a0):=by kernel_rfl
theorem zvo (tga0:Tag) (a0:List D):zcp [.sl tga0 a0]=zsF zbG zbu (D.lentL a0):=zAw zbG zbu tga0 a0
def zrs:Ann:={ loops:=[] }
noncomputable def zcq:List D→Option D:=denP Try.prog (zax [(ID.synd_sum,(.pure [1] zbG)),(ID.gf_Pow,(.pure [0] zaR))]) zrs [1] ID.synd_Q
theorem zui:za0 Try.prog ID.synd_Q (.pure [1] zcq):=zao (zaz [zmW,zgH]) zby ⟨Try.f111,by kernel_rfl,by kernel_rfl,by kernel_rfl⟩
noncomputable def zpY:Fact Try.prog:=⟨ID.synd_Q,(.pure [1] zcq),zui⟩
noncomputable def zsG (zbG:List D→Option D) (zaR:List D→Option D) (a0:List D):Option D:=
  zap (zbG [D.sl Tag.lent a0,D.fn (138:Nat) [] []]) fun r1=>
  zbl r1 fun l2=>
  sif (List.length l2=List.length l2) <|
  sif (List.all l2 D.free=true) <|
  some (D.sl Tag.own l2)
theorem zAx (zbG:List D→Option D) (zaR:List D→Option D) (tga0:Tag) (a0:List D):denP Try.prog (zax [(ID.synd_sum,(.pure [1] zbG)),(ID.gf_Pow,(.pure [0] zaR))]) zrs [1] ID.synd_Q [.sl tga0 a0]=zsG zbG zaR (D.lentL a0):=by kernel_rfl
theorem zvp (tga0:Tag) (a0:List D):zcq [.sl tga0 a0]=zsG zbG zaR (D.lentL a0):=zAx zbG zaR tga0 a0
def zrt:Ann:={ loops:=[(0,[.val (.cell (.int .u8)),.dead,.dead,.val (.cell (.int .u8)),.dead,.val (.cell (.int .i64))])] }
noncomputable def zed:List D→Option D:=denP Try.prog (zax [(ID.gf_double,(.pure [0] zaX))]) zrt [0] ID.gf_Log
theorem zuj:za0 Try.prog ID.gf_Log (.pure [0] zed):=zao (zaz [zhm]) zby ⟨Try.f145,by kernel_rfl,by kernel_rfl,by kernel_rfl⟩
noncomputable def zvq:Fact Try.prog:=⟨ID.gf_Log,(.pure [0] zed),zuj⟩
noncomputable def zsH (zaX:List D→Option D) (a0:Int):Option D:=
  zb3 (α:=(Int×Int×Int×PUnit)×PUnit) (fun again1 ((i2,(i3,(i4,_))),_)=>
    brK (decide (i4 < (255:Int)))
      (brK (i3 == i2)
        (some (D.int IntKind.i64 i4))
        (zap (zaX [D.int IntKind.u8 i3]) fun r5=>
        asI IntKind.u8 r5 fun i6=>
        letN (IntKind.wrap IntKind.i64 (i4+(1:Int))) fun n7=>
        again1 (((i2,i6,n7,PUnit.unit),PUnit.unit))))
      (some (D.int IntKind.i64 (-1:Int))))
    (((a0,(1:Int),(0:Int),PUnit.unit),PUnit.unit))
theorem zAy (zaX:List D→Option D) (a0:Int):denP Try.prog (zax [(ID.gf_double,(.pure [0] zaX))]) zrt [0] ID.gf_Log [.int .u8 a0]=zsH zaX a0:=by kernel_rfl
theorem zvr (a0:Int):zed [.int .u8 a0]=zsH zaX a0:=zAy zaX a0
def zru:Ann:={ loops:=[] }
noncomputable def zcr:List D→Option D:=denP Try.prog (zax [(ID.gf_Log,(.pure [0] zed)),(ID.gf_Pow,(.pure [0] zaR))]) zru [0] ID.gf_Inv
theorem zuk:za0 Try.prog ID.gf_Inv (.pure [0] zcr):=zao (zaz [zvq,zgH]) zby ⟨Try.f141,by kernel_rfl,by kernel_rfl,by kernel_rfl⟩
noncomputable def zpZ:Fact Try.prog:=⟨ID.gf_Inv,(.pure [0] zcr),zuk⟩
noncomputable def zsI (zed:List D→Option D) (zaR:List D→Option D) (a0:Int):Option D:=
  brK (a0 == (0:Int))
    (some (D.int IntKind.u8 (0:Int)))
    (zap (zed [D.int IntKind.u8 a0]) fun r1=>
    asI IntKind.i64 r1 fun i2=>
    letN (IntKind.wrap IntKind.i64 ((255:Int) - i2)) fun n3=>
    zap (zaR [D.int IntKind.i64 n3]) fun r4=>
    asI IntKind.u8 r4 fun i5=>
    some (D.int IntKind.u8 i5))
theorem zAz (zed:List D→Option D) (zaR:List D→Option D) (a0:Int):denP Try.prog (zax [(ID.gf_Log,(.pure [0] zed)),(ID.gf_Pow,(.pure [0] zaR))]) zru [0] ID.gf_Inv [.int .u8 a0]=zsI zed zaR a0:=by kernel_rfl
theorem zvs (a0:Int):zcr [.int .u8 a0]=zsI zed zaR a0:=zAz zed zaR a0
def zmX:Ann:={ loops:=[] }
noncomputable def zcv:List D→Option D:=denP Try.prog (zax [(ID.synd_P,(.pure [1] zcp)),(ID.synd_Add,(.pure [1] zaF)),(ID.synd_Q,(.pure [1] zcq)),(ID.gf_Pow,(.pure [0] zaR)),(ID.gf_Inv,(.pure [0] zcr)),(ID.synd_Scale,(.pure [1] zaD))]) zmX [1,1] ID.erase_two
theorem zp0:za0 Try.prog ID.erase_two (.pure [1,1] zcv):=zao (zaz [zpX,zf8,zpY,zgH,zpZ,zgG]) zby ⟨Try.f131,by kernel_rfl,by kernel_rfl,by kernel_rfl⟩
noncomputable def zqu:Fact Try.prog:=⟨ID.erase_two,(.pure [1,1] zcv),zp0⟩
noncomputable def zlT (zcp:List D→Option D) (zaF:List D→Option D) (zcq:List D→Option D) (zaR:List D→Option D) (zcr:List D→Option D) (zaD:List D→Option D) (a0:List D) (a1:List D) (a2:List D) (a3:Int) (a4:Int):Option D:=
  zap (zcp [D.sl Tag.lent a2]) fun r1=>
  zbl r1 fun l2=>
  sif ((0:Nat)+List.length l2≤List.length l2) <|
  zap (zaF [D.sl Tag.lent a0,D.sl Tag.lent (cut (0:Nat) (List.length l2) l2)]) fun r3=>
  zbl r3 fun l4=>
  zap (zcq [D.sl Tag.lent a2]) fun r5=>
  zbl r5 fun l6=>
  sif ((0:Nat)+List.length l6≤List.length l6) <|
  zap (zaF [D.sl Tag.lent a1,D.sl Tag.lent (cut (0:Nat) (List.length l6) l6)]) fun r7=>
  zbl r7 fun l8=>
  zap (zaR [D.int IntKind.i64 a3]) fun r9=>
  asI IntKind.u8 r9 fun i10=>
  zap (zaR [D.int IntKind.i64 a4]) fun r11=>
  asI IntKind.u8 r11 fun i12=>
  letN (bits BinOp.xor IntKind.u8 i10 i12) fun n13=>
  zap (zcr [D.int IntKind.u8 n13]) fun r14=>
  asI IntKind.u8 r14 fun i15=>
  zap (zaR [D.int IntKind.i64 a4]) fun r16=>
  asI IntKind.u8 r16 fun i17=>
  sif ((0:Nat)+List.length l4≤List.length l4) <|
  zap (zaD [D.sl Tag.lent (cut (0:Nat) (List.length l4) l4),D.int IntKind.u8 i17]) fun r18=>
  zbl r18 fun l19=>
  sif ((0:Nat)+List.length l8≤List.length l8) <|
  sif ((0:Nat)+List.length l19≤List.length l19) <|
  zap (zaF [D.sl Tag.lent (cut (0:Nat) (List.length l8) l8),D.sl Tag.lent (cut (0:Nat) (List.length l19) l19)]) fun r20=>
  zbl r20 fun l21=>
  sif ((0:Nat)+List.length l21≤List.length l21) <|
  zap (zaD [D.sl Tag.lent (cut (0:Nat) (List.length l21) l21),D.int IntKind.u8 i15]) fun r22=>
  zbl r22 fun l23=>
  sif ((0:Nat)+List.length l4≤List.length l4) <|
  sif ((0:Nat)+List.length l23≤List.length l23) <|
  zap (zaF [D.sl Tag.lent (cut (0:Nat) (List.length l4) l4),D.sl Tag.lent (cut (0:Nat) (List.length l23) l23)]) fun r24=>
  zbl r24 fun l25=>
  sif (List.length l23=List.length l23) <|
  sif (List.all l23 D.free=true) <|
  sif (List.length l25=List.length l25) <|
  sif (List.all l25 D.free=true) <|
  some (D.tup [D.sl Tag.own l23,D.sl Tag.own l25])
theorem zvt (zcp:List D→Option D) (zaF:List D→Option D) (zcq:List D→Option D) (zaR:List D→Option D) (zcr:List D→Option D) (zaD:List D→Option D) (tga0:Tag) (tga1:Tag) (tga2:Tag) (a0:List D) (a1:List D) (a2:List D) (a3:Int) (a4:Int):denP Try.prog (zax [(ID.synd_P,(.pure [1] zcp)),(ID.synd_Add,(.pure [1] zaF)),(ID.synd_Q,(.pure [1] zcq)),(ID.gf_Pow,(.pure [0] zaR)),(ID.gf_Inv,(.pure [0] zcr)),(ID.synd_Scale,(.pure [1] zaD))]) zmX [1,1] ID.erase_two [.sl tga0 a0,.sl tga1 a1,.sl tga2 a2,.int .i64 a3,.int .i64 a4]=zlT zcp zaF zcq zaR zcr zaD (D.lentL a0) (D.lentL a1) (D.lentL a2) a3 a4:=by kernel_rfl
theorem zqv (tga0:Tag) (tga1:Tag) (tga2:Tag) (a0:List D) (a1:List D) (a2:List D) (a3:Int) (a4:Int):zcv [.sl tga0 a0,.sl tga1 a1,.sl tga2 a2,.int .i64 a3,.int .i64 a4]=zlT zcp zaF zcq zaR zcr zaD (D.lentL a0) (D.lentL a1) (D.lentL a2) a3 a4:=zvt zcp zaF zcq zaR zcr zaD tga0 tga1 tga2 a0 a1 a2 a3 a4
def zmY:Ann:={ loops:=[] }
noncomputable def zcg:List D→Option D:=denP Try.prog (zax [(ID.synd_Q,(.pure [1] zcq)),(ID.synd_Add,(.pure [1] zaF)),(ID.gf_Pow,(.pure [0] zaR)),(ID.gf_Inv,(.pure [0] zcr)),(ID.synd_Scale,(.pure [1] zaD))]) zmY [1] ID.erase_byQ
theorem zp1:za0 Try.prog ID.erase_byQ (.pure [1] zcg):=zao (zaz [zpY,zf8,zgH,zpZ,zgG]) zby ⟨Try.f133,by kernel_rfl,by kernel_rfl,by kernel_rfl⟩
noncomputable def zqw:Fact Try.prog:=⟨ID.erase_byQ,(.pure [1] zcg),zp1⟩
noncomputable def zlU (zcq:List D→Option D) (zaF:List D→Option D) (zaR:List D→Option D) (zcr:List D→Option D) (zaD:List D→Option D) (a0:List D) (a1:List D) (a2:Int):Option D:=
  zap (zcq [D.sl Tag.lent a1]) fun r1=>
  zbl r1 fun l2=>
  sif ((0:Nat)+List.length l2≤List.length l2) <|
  zap (zaF [D.sl Tag.lent a0,D.sl Tag.lent (cut (0:Nat) (List.length l2) l2)]) fun r3=>
  zbl r3 fun l4=>
  zap (zaR [D.int IntKind.i64 a2]) fun r5=>
  asI IntKind.u8 r5 fun i6=>
  zap (zcr [D.int IntKind.u8 i6]) fun r7=>
  asI IntKind.u8 r7 fun i8=>
  sif ((0:Nat)+List.length l4≤List.length l4) <|
  zap (zaD [D.sl Tag.lent (cut (0:Nat) (List.length l4) l4),D.int IntKind.u8 i8]) fun r9=>
  zbl r9 fun l10=>
  sif (List.length l10=List.length l10) <|
  sif (List.all l10 D.free=true) <|
  some (D.sl Tag.own l10)
theorem zvu (zcq:List D→Option D) (zaF:List D→Option D) (zaR:List D→Option D) (zcr:List D→Option D) (zaD:List D→Option D) (tga0:Tag) (tga1:Tag) (a0:List D) (a1:List D) (a2:Int):denP Try.prog (zax [(ID.synd_Q,(.pure [1] zcq)),(ID.synd_Add,(.pure [1] zaF)),(ID.gf_Pow,(.pure [0] zaR)),(ID.gf_Inv,(.pure [0] zcr)),(ID.synd_Scale,(.pure [1] zaD))]) zmY [1] ID.erase_byQ [.sl tga0 a0,.sl tga1 a1,.int .i64 a2]=zlU zcq zaF zaR zcr zaD (D.lentL a0) (D.lentL a1) a2:=by kernel_rfl
theorem zqx (tga0:Tag) (tga1:Tag) (a0:List D) (a1:List D) (a2:Int):zcg [.sl tga0 a0,.sl tga1 a1,.int .i64 a2]=zlU zcq zaF zaR zcr zaD (D.lentL a0) (D.lentL a1) a2:=zvu zcq zaF zaR zcr zaD tga0 tga1 a0 a1 a2
def zj6:Ann:={ loops:=[] }
noncomputable def zbS:List D→Option D:=denP Try.prog (zax [(ID.erase_Missing,(.pure [1] zbx)),(ID.erase_fits,(.pure [0] zbV)),(ID.erase_filled,(.pure [1] zbM)),(ID.erase_two,(.pure [1,1] zcv)),(ID.synd_P,(.pure [1] zcp)),(ID.synd_Add,(.pure [1] zaF)),(ID.erase_byQ,(.pure [1] zcg))]) zj6 [1,0] ID.erase_Solve
theorem znH:za0 Try.prog ID.erase_Solve (.pure [1,0] zbS):=zao (zaz [zmQ,zpS,znE,zqu,zpX,zf8,zqw]) zby ⟨Try.f105,by kernel_rfl,by kernel_rfl,by kernel_rfl⟩
noncomputable def zow:Fact Try.prog:=⟨ID.erase_Solve,(.pure [1,0] zbS),znH⟩
noncomputable def ziH (zbx:List D→Option D) (zbV:List D→Option D) (zbM:List D→Option D) (zcv:List D→Option D) (zcp:List D→Option D) (zaF:List D→Option D) (zcg:List D→Option D) (a0:Int) (a1:List D) (a2:List D) (a3:List D):Option D:=
  zap (zbx [D.sl Tag.lent a3]) fun r1=>
  zbl r1 fun l2=>
  brK (decide (a0 < (1:Int)))
    (some (D.tup [D.sl Tag.own [],D.bool false]))
    (brK (decide ((↑(List.length a3):Int) < (1:Int)))
      (some (D.tup [D.sl Tag.own [],D.bool false]))
      (brK (decide ((↑(List.length a3):Int) > (8:Int)))
        (some (D.tup [D.sl Tag.own [],D.bool false]))
        (zap (zbV [D.int IntKind.i64 a0,D.sl Tag.lent a3]) fun r3=>
        asB r3 fun b4=>
        brK (!b4)
          (some (D.tup [D.sl Tag.own [],D.bool false]))
          (zap (zbV [D.int IntKind.i64 a0,D.sl Tag.full [D.sl Tag.lent a1,D.sl Tag.lent a2]]) fun r5=>
          asB r5 fun b6=>
          brK (!b6)
            (some (D.tup [D.sl Tag.own [],D.bool false]))
            (sif ((0:Nat)+List.length l2≤List.length l2) <|
            zap (zbx [D.sl Tag.full [D.sl Tag.lent a1,D.sl Tag.lent a2]]) fun r7=>
            zbl r7 fun l8=>
            sif ((0:Nat)+List.length l8≤List.length l8) <|
            letN (IntKind.wrap IntKind.i64 ((↑(List.length l2):Int)+(↑(List.length l8):Int))) fun n9=>
            brK (decide (n9 > (2:Int)))
              (some (D.tup [D.sl Tag.own [],D.bool false]))
              (zap (zbM [D.int IntKind.i64 a0,D.sl Tag.lent a3]) fun r10=>
              zbl r10 fun l11=>
              sif ((0:Nat)+List.length l2≤List.length l2) <|
              brK ((↑(List.length l2):Int) == (2:Int))
                (sif ((0:Nat) < List.length l2) <|
                getK l2 ((0:Nat)) fun d12=>
                asI IntKind.i64 d12 fun i13=>
                sif ((1:Nat) < List.length l2) <|
                getK l2 ((1:Nat)) fun d14=>
                asI IntKind.i64 d14 fun i15=>
                sif ((0:Nat) < List.length l2) <|
                getK l2 ((0:Nat)) fun d16=>
                asI IntKind.i64 d16 fun i17=>
                sif ((1:Nat) < List.length l2) <|
                getK l2 ((1:Nat)) fun d18=>
                asI IntKind.i64 d18 fun i19=>
                sif ((0:Nat)+List.length l11≤List.length l11) <|
                zap (zcv [D.sl Tag.lent a1,D.sl Tag.lent a2,D.sl Tag.lent (cut (0:Nat) (List.length l11) l11),D.int IntKind.i64 i17,D.int IntKind.i64 i19]) fun r20=>
                zdP r20 fun ts21=>
                zay ([Lf.any,Lf.any]) ts21 fun c22=>
                zbl c22.fst fun l23=>
                zbl c22.snd.fst fun l24=>
                sif ((0:Int)≤i13) <|
                sif (Int.toNat i13 < List.length l11) <|
                sif ((0:Nat)+List.length l23≤List.length l23) <|
                getK l11 ((0:Nat)+Int.toNat i13) fun d25=>
                sif ((0:Nat)+List.length l23≤List.length l23) <|
                sif (D.isAgg d25=false) <|
                sif ((0:Int)≤i15) <|
                sif (Int.toNat i15 < List.length l11) <|
                sif ((0:Nat)+List.length l24≤List.length l24) <|
                getK (List.set l11 ((0:Nat)+Int.toNat i13) (D.sl Tag.fresh (cut (0:Nat) (List.length l23) l23))) ((0:Nat)+Int.toNat i15) fun d26=>
                sif ((0:Nat)+List.length l24≤List.length l24) <|
                sif (D.isAgg d26=false) <|
                sif (List.length l11=List.length (List.set (List.set l11 ((0:Nat)+Int.toNat i13) (D.sl Tag.fresh (cut (0:Nat) (List.length l23) l23))) ((0:Nat)+Int.toNat i15) (D.sl Tag.fresh (cut (0:Nat) (List.length l24) l24)))) <|
                sif (List.all (List.set (List.set l11 ((0:Nat)+Int.toNat i13) (D.sl Tag.fresh (cut (0:Nat) (List.length l23) l23))) ((0:Nat)+Int.toNat i15) (D.sl Tag.fresh (cut (0:Nat) (List.length l24) l24))) D.free=true) <|
                some (D.tup [D.sl Tag.own (List.set (List.set l11 ((0:Nat)+Int.toNat i13) (D.sl Tag.fresh (cut (0:Nat) (List.length l23) l23))) ((0:Nat)+Int.toNat i15) (D.sl Tag.fresh (cut (0:Nat) (List.length l24) l24))),D.bool true]))
                (sif ((0:Nat)+List.length l2≤List.length l2) <|
                brK ((↑(List.length l2):Int) == (1:Int))
                  (brK (decide ((↑(List.length a1):Int) > (0:Int)))
                    (sif ((0:Nat) < List.length l2) <|
                    getK l2 ((0:Nat)) fun d27=>
                    asI IntKind.i64 d27 fun i28=>
                    sif ((0:Nat)+List.length l11≤List.length l11) <|
                    zap (zcp [D.sl Tag.lent (cut (0:Nat) (List.length l11) l11)]) fun r29=>
                    zbl r29 fun l30=>
                    sif ((0:Nat)+List.length l30≤List.length l30) <|
                    zap (zaF [D.sl Tag.lent a1,D.sl Tag.lent (cut (0:Nat) (List.length l30) l30)]) fun r31=>
                    zbl r31 fun l32=>
                    sif ((0:Int)≤i28) <|
                    sif (Int.toNat i28 < List.length l11) <|
                    sif ((0:Nat)+List.length l32≤List.length l32) <|
                    getK l11 ((0:Nat)+Int.toNat i28) fun d33=>
                    sif ((0:Nat)+List.length l32≤List.length l32) <|
                    sif (D.isAgg d33=false) <|
                    sif (List.length l11=List.length (List.set l11 ((0:Nat)+Int.toNat i28) (D.sl Tag.fresh (cut (0:Nat) (List.length l32) l32)))) <|
                    sif (List.all (List.set l11 ((0:Nat)+Int.toNat i28) (D.sl Tag.fresh (cut (0:Nat) (List.length l32) l32))) D.free=true) <|
                    some (D.tup [D.sl Tag.own (List.set l11 ((0:Nat)+Int.toNat i28) (D.sl Tag.fresh (cut (0:Nat) (List.length l32) l32))),D.bool true]))
                    (sif ((0:Nat)+List.length l2≤List.length l2) <|
                    brK ((↑(List.length l2):Int) == (1:Int))
                      (sif ((0:Nat) < List.length l2) <|
                      getK l2 ((0:Nat)) fun d34=>
                      asI IntKind.i64 d34 fun i35=>
                      sif ((0:Nat) < List.length l2) <|
                      getK l2 ((0:Nat)) fun d36=>
                      asI IntKind.i64 d36 fun i37=>
                      sif ((0:Nat)+List.length l11≤List.length l11) <|
                      zap (zcg [D.sl Tag.lent a2,D.sl Tag.lent (cut (0:Nat) (List.length l11) l11),D.int IntKind.i64 i37]) fun r38=>
                      zbl r38 fun l39=>
                      sif ((0:Int)≤i35) <|
                      sif (Int.toNat i35 < List.length l11) <|
                      sif ((0:Nat)+List.length l39≤List.length l39) <|
                      getK l11 ((0:Nat)+Int.toNat i35) fun d40=>
                      sif ((0:Nat)+List.length l39≤List.length l39) <|
                      sif (D.isAgg d40=false) <|
                      sif (List.length l11=List.length (List.set l11 ((0:Nat)+Int.toNat i35) (D.sl Tag.fresh (cut (0:Nat) (List.length l39) l39)))) <|
                      sif (List.all (List.set l11 ((0:Nat)+Int.toNat i35) (D.sl Tag.fresh (cut (0:Nat) (List.length l39) l39))) D.free=true) <|
                      some (D.tup [D.sl Tag.own (List.set l11 ((0:Nat)+Int.toNat i35) (D.sl Tag.fresh (cut (0:Nat) (List.length l39) l39))),D.bool true]))
                      (sif (List.length l11=List.length l11) <|
                      sif (List.all l11 D.free=true) <|
                      some (D.tup [D.sl Tag.own l11,D.bool true]))))
                  (sif ((0:Nat)+List.length l2≤List.length l2) <|
                  brK ((↑(List.length l2):Int) == (1:Int))
                    (sif ((0:Nat) < List.length l2) <|
                    getK l2 ((0:Nat)) fun d41=>
                    asI IntKind.i64 d41 fun i42=>
                    sif ((0:Nat) < List.length l2) <|
                    getK l2 ((0:Nat)) fun d43=>
                    asI IntKind.i64 d43 fun i44=>
                    sif ((0:Nat)+List.length l11≤List.length l11) <|
                    zap (zcg [D.sl Tag.lent a2,D.sl Tag.lent (cut (0:Nat) (List.length l11) l11),D.int IntKind.i64 i44]) fun r45=>
                    zbl r45 fun l46=>
                    sif ((0:Int)≤i42) <|
                    sif (Int.toNat i42 < List.length l11) <|
                    sif ((0:Nat)+List.length l46≤List.length l46) <|
                    getK l11 ((0:Nat)+Int.toNat i42) fun d47=>
                    sif ((0:Nat)+List.length l46≤List.length l46) <|
                    sif (D.isAgg d47=false) <|
                    sif (List.length l11=List.length (List.set l11 ((0:Nat)+Int.toNat i42) (D.sl Tag.fresh (cut (0:Nat) (List.length l46) l46)))) <|
                    sif (List.all (List.set l11 ((0:Nat)+Int.toNat i42) (D.sl Tag.fresh (cut (0:Nat) (List.length l46) l46))) D.free=true) <|
                    some (D.tup [D.sl Tag.own (List.set l11 ((0:Nat)+Int.toNat i42) (D.sl Tag.fresh (cut (0:Nat) (List.length l46) l46))),D.bool true]))
                    (sif (List.length l11=List.length l11) <|
                    sif (List.all l11 D.free=true) <|
                    some (D.tup [D.sl Tag.own l11,D.bool true]))))))))))
theorem zsJ (zbx:List D→Option D) (zbV:List D→Option D) (zbM:List D→Option D) (zcv:List D→Option D) (zcp:List D→Option D) (zaF:List D→Option D) (zcg:List D→Option D) (tga1:Tag) (tga2:Tag) (tga3:Tag) (a0:Int) (a1:List D) (a2:List D) (a3:List D):denP Try.prog (zax [(ID.erase_Missing,(.pure [1] zbx)),(ID.erase_fits,(.pure [0] zbV)),(ID.erase_filled,(.pure [1] zbM)),(ID.erase_two,(.pure [1,1] zcv)),(ID.synd_P,(.pure [1] zcp)),(ID.synd_Add,(.pure [1] zaF)),(ID.erase_byQ,(.pure [1] zcg))]) zj6 [1,0] ID.erase_Solve [.int .i64 a0,.sl tga1 a1,.sl tga2 a2,.sl tga3 a3]=ziH zbx zbV zbM zcv zcp zaF zcg a0 (D.lentL a1) (D.lentL a2) (D.lentL a3):=by kernel_rfl
theorem zox (tga1:Tag) (tga2:Tag) (tga3:Tag) (a0:Int) (a1:List D) (a2:List D) (a3:List D):zbS [.int .i64 a0,.sl tga1 a1,.sl tga2 a2,.sl tga3 a3]=ziH zbx zbV zbM zcv zcp zaF zcg a0 (D.lentL a1) (D.lentL a2) (D.lentL a3):=zsJ zbx zbV zbM zcv zcp zaF zcg tga1 tga2 tga3 a0 a1 a2 a3
def zof:Ann:={ loops:=[(1,[.dead,.val (.cell (.int .i64)),.val (.cell .lent),.box true [(.int .i64),(.int .i64),(.int .i64)],.dead,.dead,.dead,.dead,.own 1,.dead,.dead,.dead,.dead,.dead,.dead,.dead,.dead,.dead,.dead,.dead,.dead,.dead,.dead,.dead,.val (.cell (.int .i64)),.val (.cell (.int .i64))])] }
noncomputable def zcK:List D→Option D:=denP Try.prog (zax [(ID.row_in,(.pure [0] zeb)),(ID.geom_Width,(.pure [0] zaj)),(ID.place_Disk,(.pure [0] zbd)),(ID.place_Parity,(.pure [0,0] zaW)),(ID.erase_Solve,(.pure [1,0] zbS))]) zof [1,0] ID.row_Take
theorem zqy:za0 Try.prog ID.row_Take (.pure [1,0] zcK):=zao (zaz [zvj,zc4,zj1,zhY,zow]) zby ⟨Try.f71,by kernel_rfl,by kernel_rfl,by kernel_rfl⟩
noncomputable def zsK:Fact Try.prog:=⟨ID.row_Take,(.pure [1,0] zcK),zqy⟩
noncomputable def znI (zeb:List D→Option D) (zaj:List D→Option D) (zbd:List D→Option D) (zaW:List D→Option D) (zbS:List D→Option D) (a0_0:Int) (a0_1:Int) (a0_2:Int) (a1:Int) (a2:List D):Option D:=
  zap (zeb [D.agg [D.int IntKind.i64 a0_0,D.int IntKind.i64 a0_1,D.int IntKind.i64 a0_2],D.int IntKind.i64 a1]) fun r1=>
  asB r1 fun b2=>
  brK (!b2)
    (some (D.tup [D.sl Tag.own [],D.bool false]))
    (brK ((↑(List.length a2):Int) != a0_1)
      (some (D.tup [D.sl Tag.own [],D.bool false]))
      (zap (zaj [D.agg [D.int IntKind.i64 a0_0,D.int IntKind.i64 a0_1,D.int IntKind.i64 a0_2]]) fun r3=>
      asI IntKind.i64 r3 fun i4=>
      zb3 (α:=(Int×List D×(Int×Int×Int×PUnit)×List D×Int×Int×PUnit)×PUnit) (fun again5 ((i6,(l7,((i8,(i9,(i10,_))),(l11,(i12,(i13,_)))))),_)=>
        brK (decide (i13 < i12))
          (zap (zbd [D.agg [D.int IntKind.i64 i8,D.int IntKind.i64 i9,D.int IntKind.i64 i10],D.int IntKind.i64 i6,D.int IntKind.i64 i13]) fun r14=>
          asI IntKind.i64 r14 fun i15=>
          sif ((0:Int)≤i15) <|
          getK l7 (Int.toNat i15) fun d16=>
          asSl d16 fun t17 l18=>
          sif (List.length l11+(1:Nat)≤(4294967296:Nat)) <|
          sif (List.length l11=List.length l11) <|
          letN (IntKind.wrap IntKind.i64 (i13+(1:Int))) fun n19=>
          sif (List.length l11+(1:Nat)=List.length (l11++[D.sl t17 l18])) <|
          again5 (((i6,l7,(i8,i9,i10,PUnit.unit),l11++[D.sl t17 l18],i12,n19,PUnit.unit),PUnit.unit)))
          (zap (zaW [D.agg [D.int IntKind.i64 i8,D.int IntKind.i64 i9,D.int IntKind.i64 i10],D.int IntKind.i64 i6]) fun r20=>
          zdP r20 fun ts21=>
          zay ([Lf.any,Lf.any]) ts21 fun c22=>
          asI IntKind.i64 c22.fst fun i23=>
          asI IntKind.i64 c22.snd.fst fun i24=>
          brK (decide (i24 < (0:Int)))
            (sif ((0:Int)≤i23) <|
            getK l7 (Int.toNat i23) fun d25=>
            asSl d25 fun t26 l27=>
            sif ((0:Nat)+List.length l11≤List.length l11) <|
            zap (zbS [D.int IntKind.i64 (32:Int),D.sl t26 l27,D.sl Tag.nil [],D.sl Tag.lent (cut (0:Nat) (List.length l11) l11)]) fun r28=>
            zdP r28 fun ts29=>
            zay ([Lf.any,Lf.any]) ts29 fun c30=>
            zbl c30.fst fun l31=>
            asB c30.snd.fst fun b32=>
            sif (List.length l31=List.length l31) <|
            sif (List.all l31 D.free=true) <|
            some (D.tup [D.sl Tag.own l31,D.bool b32]))
            (sif ((0:Int)≤i23) <|
            getK l7 (Int.toNat i23) fun d33=>
            asSl d33 fun t34 l35=>
            sif ((0:Int)≤i24) <|
            getK l7 (Int.toNat i24) fun d36=>
            asSl d36 fun t37 l38=>
            sif ((0:Nat)+List.length l11≤List.length l11) <|
            zap (zbS [D.int IntKind.i64 (32:Int),D.sl t34 l35,D.sl t37 l38,D.sl Tag.lent (cut (0:Nat) (List.length l11) l11)]) fun r39=>
            zdP r39 fun ts40=>
            zay ([Lf.any,Lf.any]) ts40 fun c41=>
            zbl c41.fst fun l42=>
            asB c41.snd.fst fun b43=>
            sif (List.length l42=List.length l42) <|
            sif (List.all l42 D.free=true) <|
            some (D.tup [D.sl Tag.own l42,D.bool b43]))))
        (((a1,a2,(a0_0,a0_1,a0_2,PUnit.unit),[],i4,(0:Int),PUnit.unit),PUnit.unit))))
theorem zxl (zeb:List D→Option D) (zaj:List D→Option D) (zbd:List D→Option D) (zaW:List D→Option D) (zbS:List D→Option D) (tga2:Tag) (a0_0:Int) (a0_1:Int) (a0_2:Int) (a1:Int) (a2:List D):denP Try.prog (zax [(ID.row_in,(.pure [0] zeb)),(ID.geom_Width,(.pure [0] zaj)),(ID.place_Disk,(.pure [0] zbd)),(ID.place_Parity,(.pure [0,0] zaW)),(ID.erase_Solve,(.pure [1,0] zbS))]) zof [1,0] ID.row_Take [.agg [.int .i64 a0_0,.int .i64 a0_1,.int .i64 a0_2],.int .i64 a1,.sl tga2 a2]=znI zeb zaj zbd zaW zbS a0_0 a0_1 a0_2 a1 (D.lentL a2):=by kernel_rfl
theorem zsL (tga2:Tag) (a0_0:Int) (a0_1:Int) (a0_2:Int) (a1:Int) (a2:List D):zcK [.agg [.int .i64 a0_0,.int .i64 a0_1,.int .i64 a0_2],.int .i64 a1,.sl tga2 a2]=znI zeb zaj zbd zaW zbS a0_0 a0_1 a0_2 a1 (D.lentL a2):=zxl zeb zaj zbd zaW zbS tga2 a0_0 a0_1 a0_2 a1 a2
def zj7:Ann:={ loops:=[(1,[.val (.cell (.hnd (3840:Nat))),.val (.cell .lent),.dead,.val (.cell (.int .i64)),.dead,.dead,.box true [(.int .i64),(.int .i64),(.int .i64)],.dead,.dead,.dead,.own 1,.dead,.dead,.dead,.dead,.dead,.dead,.dead,.dead,.dead,.dead,.dead,.dead,.dead,.dead,.dead,.dead,.dead,.dead,.dead,.dead,.val (.cell (.int .i64)),.val (.cell (.int .i64))])],ks:=[(3840,false),(7649,false)] }
noncomputable def zaL:List D→List Tb→Option Ans:=denS Try.prog (zax [(ID.geom_Check,(.pure [0] zar)),(ID.stripe_up,(.st [] [0] [(3840,false),(7649,false)] zbB)),(ID.bench_Bench_Read,(.st [] [1,0] [(3840,false),(7649,false)] zaJ)),(ID.row_Take,(.pure [1,0] zcK))]) zj7 [1,0] ID.stripe_Read
theorem znJ:za0 Try.prog ID.stripe_Read (.st [] [1,0] [(3840,false),(7649,false)] zaL):=zbL (zaz [zdG,zlc,zfy,zsK]) zby ⟨Try.f21,by kernel_rfl,by kernel_rfl,by kernel_rfl⟩
noncomputable def zfF:Fact Try.prog:=⟨ID.stripe_Read,(.st [] [1,0] [(3840,false),(7649,false)] zaL),znJ⟩
noncomputable def ziI (zar:List D→Option D) (zbB:List D→List Tb→Option Ans) (zaJ:List D→List Tb→Option Ans) (zcK:List D→Option D) (a0:Nat) (a1:List D) (a2_0:Int) (a2_1:Int) (a2_2:Int) (a3:Int) (T0:Tb) (T1:Tb):Option Ans:=
  zap (zar [D.agg [D.int IntKind.i64 a2_0,D.int IntKind.i64 a2_1,D.int IntKind.i64 a2_2]]) fun r1=>
  asI IntKind.i64 r1 fun i2=>
  brK (i2 != (0:Int))
    (some (Ans.mk (D.tup [D.sl Tag.own [],D.int IntKind.i64 (1:Int)]) [] []))
    (brK (decide (a3 < (0:Int)))
      (some (Ans.mk (D.tup [D.sl Tag.own [],D.int IntKind.i64 (1:Int)]) [] []))
      (brK (decide (a3≥(16:Int)))
        (some (Ans.mk (D.tup [D.sl Tag.own [],D.int IntKind.i64 (1:Int)]) [] []))
        (sif ((0:Int)≤a2_1) <|
        sif (a2_1=a2_1) <|
        sif (a2_1*(24:Int)≤(140737488355328:Int)) <|
        sif (a2_1≤(140737488355328:Int)) <|
        sif ((0:Nat)+Int.toNat a2_1≤List.length (List.replicate (Int.toNat a2_1) (D.sl Tag.nil []))) <|
        sif (Int.toNat a2_1=List.length (List.replicate (Int.toNat a2_1) (D.sl Tag.nil []))) <|
        zb3 (α:=(Nat×List D×Int×(Int×Int×Int×PUnit)×List D×Int×Int×PUnit)×List (List D)×List (List D)×PUnit) (fun again3 ((x4,(l5,(i6,((i7,(i8,(i9,_))),(l10,(i11,(i12,_))))))),(U13,(U14,_)))=>
          brK (decide (i12 < i11))
            (zap (zbB [D.h (3840) x4 (0:Nat),D.sl Tag.lent l5,D.int IntKind.i64 i12] [U13,U14]) fun r15=>
            nilK r15.outs <|
            nilK r15.tbs <|
            asB r15.r fun b16=>
            brK (!b16)
              (letN (IntKind.wrap IntKind.i64 (i12+(1:Int))) fun n17=>
              sif (List.length l10=List.length l10) <|
              again3 (((x4,l5,i6,(i7,i8,i9,PUnit.unit),l10,i11,n17,PUnit.unit),U13,U14,PUnit.unit)))
              (letN (IntKind.wrap IntKind.i64 ((36:Int)+i6)) fun n18=>
              zap (zaJ [D.h (3840) x4 (0:Nat),D.int IntKind.i64 i12,D.int IntKind.i64 n18] [U13,U14]) fun r19=>
              nilK r19.outs <|
              nilK r19.tbs <|
              zdP r19.r fun ts20=>
              zay ([Lf.any,Lf.any]) ts20 fun c21=>
              zbl c21.fst fun l22=>
              asI IntKind.i64 c21.snd.fst fun i23=>
              brK (i23 != (0:Int))
                (some (Ans.mk (D.tup [D.sl Tag.own [],D.int IntKind.i64 i23]) [] []))
                (sif ((0:Int)≤i12) <|
                sif (Int.toNat i12 < List.length l10) <|
                sif ((0:Nat)+List.length l22≤List.length l22) <|
                getK l10 ((0:Nat)+Int.toNat i12) fun d24=>
                sif ((0:Nat)+List.length l22≤List.length l22) <|
                sif (D.isAgg d24=false) <|
                letN (IntKind.wrap IntKind.i64 (i12+(1:Int))) fun n25=>
                sif (List.length l10=List.length (List.set l10 ((0:Nat)+Int.toNat i12) (D.sl Tag.fresh (cut (0:Nat) (List.length l22) l22)))) <|
                again3 (((x4,l5,i6,(i7,i8,i9,PUnit.unit),List.set l10 ((0:Nat)+Int.toNat i12) (D.sl Tag.fresh (cut (0:Nat) (List.length l22) l22)),i11,n25,PUnit.unit),U13,U14,PUnit.unit)))))
            (sif ((0:Nat)+List.length l10≤List.length l10) <|
            zap (zcK [D.agg [D.int IntKind.i64 i7,D.int IntKind.i64 i8,D.int IntKind.i64 i9],D.int IntKind.i64 i6,D.sl Tag.lent (cut (0:Nat) (List.length l10) l10)]) fun r26=>
            zdP r26 fun ts27=>
            zay ([Lf.any,Lf.any]) ts27 fun c28=>
            zbl c28.fst fun l29=>
            asB c28.snd.fst fun b30=>
            brK (!b30)
              (some (Ans.mk (D.tup [D.sl Tag.own [],D.int IntKind.i64 (7:Int)]) [] []))
              (sif (List.length l29=List.length l29) <|
              sif (List.all l29 D.free=true) <|
              some (Ans.mk (D.tup [D.sl Tag.own l29,D.int IntKind.i64 (0:Int)]) [] []))))
          (((a0,a1,a3,(a2_0,a2_1,a2_2,PUnit.unit),List.replicate (Int.toNat a2_1) (D.sl Tag.nil []),(↑(Int.toNat a2_1):Int),(0:Int),PUnit.unit),T0,T1,PUnit.unit)))))
theorem zsM (zar:List D→Option D) (zbB:List D→List Tb→Option Ans) (zaJ:List D→List Tb→Option Ans) (zcK:List D→Option D) (tga1:Tag) (a0:Nat) (a1:List D) (a2_0:Int) (a2_1:Int) (a2_2:Int) (a3:Int) (T0:Tb) (T1:Tb):denS Try.prog (zax [(ID.geom_Check,(.pure [0] zar)),(ID.stripe_up,(.st [] [0] [(3840,false),(7649,false)] zbB)),(ID.bench_Bench_Read,(.st [] [1,0] [(3840,false),(7649,false)] zaJ)),(ID.row_Take,(.pure [1,0] zcK))]) zj7 [1,0] ID.stripe_Read [.h 3840 a0 0,.sl tga1 a1,.agg [.int .i64 a2_0,.int .i64 a2_1,.int .i64 a2_2],.int .i64 a3] [T0,T1]=ziI zar zbB zaJ zcK a0 (D.lentL a1) a2_0 a2_1 a2_2 a3 T0 T1:=by kernel_rfl
theorem zoy (tga1:Tag) (a0:Nat) (a1:List D) (a2_0:Int) (a2_1:Int) (a2_2:Int) (a3:Int) (T0:Tb) (T1:Tb):zaL [.h 3840 a0 0,.sl tga1 a1,.agg [.int .i64 a2_0,.int .i64 a2_1,.int .i64 a2_2],.int .i64 a3] [T0,T1]=ziI zar zbB zaJ zcK a0 (D.lentL a1) a2_0 a2_1 a2_2 a3 T0 T1:=zsM zar zbB zaJ zcK tga1 a0 a1 a2_0 a2_1 a2_2 a3 T0 T1
def zgI:Ann:={ loops:=[(0,[.dead,.dead,.val (.cell (.map (.int .i64))),.box true [(.int .i64),(.int .i64),(.int .i64)],.dead,.dead,.dead,.val (.cell (.int .i64)),.val (.cell (.int .i64)),.val (.cell (.int .i64)),.val (.cell (.int .i64)),.val (.cell (.int .i64))])] }
noncomputable def za8:List D→Option D:=denP Try.prog (zax [(ID.wattleref01_Parity,(.pure [0,0] zah))]) zgI [0] ID.wattlelaw14_can
theorem zj8:za0 Try.prog ID.wattlelaw14_can (.pure [0] za8):=zao (zaz [zde]) zby ⟨Try.f22,by kernel_rfl,by kernel_rfl,by kernel_rfl⟩
noncomputable def zk2:Fact Try.prog:=⟨ID.wattlelaw14_can,(.pure [0] za8),zj8⟩
noncomputable def zfi (zah:List D→Option D) (a0_0:Int) (a0_1:Int) (a0_2:Int) (a1:Int) (a2:List (Int×D)):Option D:=
  zap (zah [D.agg [D.int IntKind.i64 a0_0,D.int IntKind.i64 a0_1,D.int IntKind.i64 a0_2],D.int IntKind.i64 a1]) fun r1=>
  zdP r1 fun ts2=>
  zay ([Lf.any,Lf.any]) ts2 fun c3=>
  asI IntKind.i64 c3.fst fun i4=>
  asI IntKind.i64 c3.snd.fst fun i5=>
  zb3 (α:=(List (Int×D)×(Int×Int×Int×PUnit)×Int×Int×Int×Int×Int×PUnit)×PUnit) (fun again6 ((l7,((i8,(i9,(i10,_))),(i11,(i12,(i13,(i14,(i15,_))))))),_)=>
    brK (decide (i15 < i9))
      (brK (i15 == i11)
        (asB (zng i15 (D.bool false) l7) fun b16=>
        brK (!b16)
          (letN (IntKind.wrap IntKind.i64 (i14+(1:Int))) fun n17=>
          letN (IntKind.wrap IntKind.i64 (i15+(1:Int))) fun n18=>
          again6 (((l7,(i8,i9,i10,PUnit.unit),i11,i12,i13,n17,n18,PUnit.unit),PUnit.unit)))
          (letN (IntKind.wrap IntKind.i64 (i15+(1:Int))) fun n19=>
          again6 (((l7,(i8,i9,i10,PUnit.unit),i11,i12,i13,i14,n19,PUnit.unit),PUnit.unit))))
        (brK (i15 == i12)
          (asB (zng i15 (D.bool false) l7) fun b20=>
          brK (!b20)
            (letN (IntKind.wrap IntKind.i64 (i14+(1:Int))) fun n21=>
            letN (IntKind.wrap IntKind.i64 (i15+(1:Int))) fun n22=>
            again6 (((l7,(i8,i9,i10,PUnit.unit),i11,i12,i13,n21,n22,PUnit.unit),PUnit.unit)))
            (letN (IntKind.wrap IntKind.i64 (i15+(1:Int))) fun n23=>
            again6 (((l7,(i8,i9,i10,PUnit.unit),i11,i12,i13,i14,n23,PUnit.unit),PUnit.unit))))
          (asB (zng i15 (D.bool false) l7) fun b24=>
          brK b24
            (letN (IntKind.wrap IntKind.i64 (i13+(1:Int))) fun n25=>
            letN (IntKind.wrap IntKind.i64 (i15+(1:Int))) fun n26=>
            again6 (((l7,(i8,i9,i10,PUnit.unit),i11,i12,n25,i14,n26,PUnit.unit),PUnit.unit)))
            (letN (IntKind.wrap IntKind.i64 (i15+(1:Int))) fun n27=>
            again6 (((l7,(i8,i9,i10,PUnit.unit),i11,i12,i13,i14,n27,PUnit.unit),PUnit.unit))))))
      (some (D.bool (decide (i13≤i14)))))
    (((a2,(a0_0,a0_1,a0_2,PUnit.unit),i4,i5,(0:Int),(0:Int),(0:Int),PUnit.unit),PUnit.unit))
theorem znK (zah:List D→Option D) (tga2:Tag) (a0_0:Int) (a0_1:Int) (a0_2:Int) (a1:Int) (a2:List (Int×D)):denP Try.prog (zax [(ID.wattleref01_Parity,(.pure [0,0] zah))]) zgI [0] ID.wattlelaw14_can [.agg [.int .i64 a0_0,.int .i64 a0_1,.int .i64 a0_2],.int .i64 a1,.mp tga2 (.int .i64) a2]=zfi zah a0_0 a0_1 a0_2 a1 (D.lentE a2):=by kernel_rfl
theorem zk3 (tga2:Tag) (a0_0:Int) (a0_1:Int) (a0_2:Int) (a1:Int) (a2:List (Int×D)):za8 [.agg [.int .i64 a0_0,.int .i64 a0_1,.int .i64 a0_2],.int .i64 a1,.mp tga2 (.int .i64) a2]=zfi zah a0_0 a0_1 a0_2 a1 (D.lentE a2):=znK zah tga2 a0_0 a0_1 a0_2 a1 a2
def zfU:Ann:={ loops:=[] }
noncomputable def zaS:List D→Option D:=denP Try.prog (zax [(ID.wattleref01_Width,(.pure [0] zaa)),(ID.wattleplay_Sectors,(.pure [1] zav))]) zfU [1] ID.wattlelaw14_Data
theorem zjc:za0 Try.prog ID.wattlelaw14_Data (.pure [1] zaS):=zao (zaz [zbO,zeG]) zby ⟨Try.f24,by kernel_rfl,by kernel_rfl,by kernel_rfl⟩
noncomputable def zj9:Fact Try.prog:=⟨ID.wattlelaw14_Data,(.pure [1] zaS),zjc⟩
noncomputable def zeR (zaa:List D→Option D) (zav:List D→Option D) (a0_0:Int) (a0_1:Int) (a0_2:Int) (a1:Int) (a2:List D):Option D:=
  letN (min a1 (↑(List.length a2):Int)) fun n1=>
  sif ((0:Int)≤n1) <|
  sif (n1≤(↑(List.length a2):Int)) <|
  sif ((↑(List.length a2):Int)≤(↑(List.length a2):Int)) <|
  sif ((↑(List.length a2):Int)=(↑(List.length a2):Int)) <|
  sif (zuN (1:Nat) a2=true) <|
  zap (zaa [D.agg [D.int IntKind.i64 a0_0,D.int IntKind.i64 a0_1,D.int IntKind.i64 a0_2]]) fun r2=>
  asI IntKind.i64 r2 fun i3=>
  zap (zav [D.sl (zdL Tag.lent false (decide ((↑(List.length a2):Int)=(↑(List.length a2):Int)))) (cutI n1 (↑(List.length a2):Int) a2),D.int IntKind.i64 i3]) fun r4=>
  zbl r4 fun l5=>
  sif (List.length l5=List.length l5) <|
  sif (List.all l5 D.free=true) <|
  some (D.sl Tag.own l5)
theorem zmZ (zaa:List D→Option D) (zav:List D→Option D) (tga2:Tag) (a0_0:Int) (a0_1:Int) (a0_2:Int) (a1:Int) (a2:List D):denP Try.prog (zax [(ID.wattleref01_Width,(.pure [0] zaa)),(ID.wattleplay_Sectors,(.pure [1] zav))]) zfU [1] ID.wattlelaw14_Data [.agg [.int .i64 a0_0,.int .i64 a0_1,.int .i64 a0_2],.int .i64 a1,.sl tga2 a2]=zeR zaa zav a0_0 a0_1 a0_2 a1 (D.lentL a2):=by kernel_rfl
theorem zka (tga2:Tag) (a0_0:Int) (a0_1:Int) (a0_2:Int) (a1:Int) (a2:List D):zaS [.agg [.int .i64 a0_0,.int .i64 a0_1,.int .i64 a0_2],.int .i64 a1,.sl tga2 a2]=zeR zaa zav a0_0 a0_1 a0_2 a1 (D.lentL a2):=zmZ zaa zav tga2 a0_0 a0_1 a0_2 a1 a2
def zet:Ann:={ loops:=[(1,[.val (.cell .lent),.val (.cell .lent),.dead,.dead,.dead,.val (.cell (.int .i64))])] }
noncomputable def zae:List D→Option D:=denP Try.prog (zax []) zet [0] ID.wattlekeep_Same_byte
theorem zgQ:za0 Try.prog ID.wattlekeep_Same_byte (.pure [0] zae):=zao (zaz []) zby ⟨Try.f30,by kernel_rfl,by kernel_rfl,by kernel_rfl⟩
noncomputable def zcU:Fact Try.prog:=⟨ID.wattlekeep_Same_byte,(.pure [0] zae),zgQ⟩
noncomputable def zdn (a0:List D) (a1:List D):Option D:=
  brK ((↑(List.length a0):Int) != (↑(List.length a1):Int))
    (some (D.bool false))
    (zb3 (α:=(List D×List D×Int×PUnit)×PUnit) (fun again1 ((l2,(l3,(i4,_))),_)=>
      brK (decide (i4 < (↑(List.length l2):Int)))
        (sif ((0:Int)≤i4) <|
        getK l2 (Int.toNat i4) fun d5=>
        asI IntKind.u8 d5 fun i6=>
        sif ((0:Int)≤i4) <|
        getK l3 (Int.toNat i4) fun d7=>
        asI IntKind.u8 d7 fun i8=>
        brK (i6 != i8)
          (some (D.bool false))
          (letN (IntKind.wrap IntKind.i64 (i4+(1:Int))) fun n9=>
          again1 (((l2,l3,n9,PUnit.unit),PUnit.unit))))
        (some (D.bool true)))
      (((a0,a1,(0:Int),PUnit.unit),PUnit.unit)))
theorem zjd (tga0:Tag) (tga1:Tag) (a0:List D) (a1:List D):denP Try.prog (zax []) zet [0] ID.wattlekeep_Same_byte [.sl tga0 a0,.sl tga1 a1]=zdn (D.lentL a0) (D.lentL a1):=by kernel_rfl
theorem zhn (tga0:Tag) (tga1:Tag) (a0:List D) (a1:List D):zae [.sl tga0 a0,.sl tga1 a1]=zdn (D.lentL a0) (D.lentL a1):=zjd tga0 tga1 a0 a1
def zfV:Ann:={ loops:=[(1,[.val (.cell .lent),.val (.cell .lent),.dead,.dead,.dead,.dead,.dead,.dead,.dead,.dead,.dead,.dead,.val (.cell (.int .i64)),.val (.cell (.int .i64))])] }
noncomputable def za9:List D→Option D:=denP Try.prog (zax [(ID.wattlekeep_Same_byte,(.pure [0] zae))]) zfV [0] ID.wattlelaw14_Same
theorem zje:za0 Try.prog ID.wattlelaw14_Same (.pure [0] za9):=zao (zaz [zcU]) zby ⟨Try.f23,by kernel_rfl,by kernel_rfl,by kernel_rfl⟩
noncomputable def zkb:Fact Try.prog:=⟨ID.wattlelaw14_Same,(.pure [0] za9),zje⟩
noncomputable def zeS (zae:List D→Option D) (a0:List D) (a1:List D):Option D:=
  brK ((↑(List.length a0):Int) != (↑(List.length a1):Int))
    (some (D.bool false))
    (zb3 (α:=(List D×List D×Int×Int×PUnit)×PUnit) (fun again1 ((l2,(l3,(i4,(i5,_)))),_)=>
      brK (decide (i5 < i4))
        (sif ((0:Int)≤i5) <|
        getK l2 (Int.toNat i5) fun d6=>
        asSl d6 fun t7 l8=>
        sif ((0:Int)≤i5) <|
        getK l3 (Int.toNat i5) fun d9=>
        asSl d9 fun t10 l11=>
        zap (zae [D.sl t7 l8,D.sl t10 l11]) fun r12=>
        asB r12 fun b13=>
        brK (!b13)
          (some (D.bool false))
          (letN (IntKind.wrap IntKind.i64 (i5+(1:Int))) fun n14=>
          again1 (((l2,l3,i4,n14,PUnit.unit),PUnit.unit))))
        (some (D.bool true)))
      (((a0,a1,(↑(List.length a0):Int),(0:Int),PUnit.unit),PUnit.unit)))
theorem zm0 (zae:List D→Option D) (tga0:Tag) (tga1:Tag) (a0:List D) (a1:List D):denP Try.prog (zax [(ID.wattlekeep_Same_byte,(.pure [0] zae))]) zfV [0] ID.wattlelaw14_Same [.sl tga0 a0,.sl tga1 a1]=zeS zae (D.lentL a0) (D.lentL a1):=by kernel_rfl
theorem zkc (tga0:Tag) (tga1:Tag) (a0:List D) (a1:List D):za9 [.sl tga0 a0,.sl tga1 a1]=zeS zae (D.lentL a0) (D.lentL a1):=zm0 zae tga0 tga1 a0 a1
def zeu:Ann:={ loops:=[] }
noncomputable def zaq:List D→Option D:=denP Try.prog (zax [(ID.wattleref01_Width,(.pure [0] zaa))]) zeu [0] ID.wattleref01_Capacity
theorem zgR:za0 Try.prog ID.wattleref01_Capacity (.pure [0] zaq):=zao (zaz [zbO]) zby ⟨Try.f25,by kernel_rfl,by kernel_rfl,by kernel_rfl⟩
noncomputable def zd9:Fact Try.prog:=⟨ID.wattleref01_Capacity,(.pure [0] zaq),zgR⟩
noncomputable def zdo (zaa:List D→Option D) (a0_0:Int) (a0_1:Int) (a0_2:Int):Option D:=
  zap (zaa [D.agg [D.int IntKind.i64 a0_0,D.int IntKind.i64 a0_1,D.int IntKind.i64 a0_2]]) fun r1=>
  asI IntKind.i64 r1 fun i2=>
  letN (IntKind.wrap IntKind.i64 (i2*(16:Int))) fun n3=>
  some (D.int IntKind.i64 n3)
theorem zjf (zaa:List D→Option D) (a0_0:Int) (a0_1:Int) (a0_2:Int):denP Try.prog (zax [(ID.wattleref01_Width,(.pure [0] zaa))]) zeu [0] ID.wattleref01_Capacity [.agg [.int .i64 a0_0,.int .i64 a0_1,.int .i64 a0_2]]=zdo zaa a0_0 a0_1 a0_2:=by kernel_rfl
theorem zho (a0_0:Int) (a0_1:Int) (a0_2:Int):zaq [.agg [.int .i64 a0_0,.int .i64 a0_1,.int .i64 a0_2]]=zdo zaa a0_0 a0_1 a0_2:=zjf zaa a0_0 a0_1 a0_2
def zh1:Ann:={ loops:=[] }
noncomputable def zbC:List D→Option D:=denP Try.prog (zax [(ID.geom_Width,(.pure [0] zaj))]) zh1 [0] ID.geom_Capacity
theorem zlV:za0 Try.prog ID.geom_Capacity (.pure [0] zbC):=zao (zaz [zc4]) zby ⟨Try.f97,by kernel_rfl,by kernel_rfl,by kernel_rfl⟩
noncomputable def zm1:Fact Try.prog:=⟨ID.geom_Capacity,(.pure [0] zbC),zlV⟩
noncomputable def zgJ (zaj:List D→Option D) (a0_0:Int) (a0_1:Int) (a0_2:Int):Option D:=
  zap (zaj [D.agg [D.int IntKind.i64 a0_0,D.int IntKind.i64 a0_1,D.int IntKind.i64 a0_2]]) fun r1=>
  asI IntKind.i64 r1 fun i2=>
  letN (IntKind.wrap IntKind.i64 (i2*(16:Int))) fun n3=>
  some (D.int IntKind.i64 n3)
theorem zp2 (zaj:List D→Option D) (a0_0:Int) (a0_1:Int) (a0_2:Int):denP Try.prog (zax [(ID.geom_Width,(.pure [0] zaj))]) zh1 [0] ID.geom_Capacity [.agg [.int .i64 a0_0,.int .i64 a0_1,.int .i64 a0_2]]=zgJ zaj a0_0 a0_1 a0_2:=by kernel_rfl
theorem zm2 (a0_0:Int) (a0_1:Int) (a0_2:Int):zbC [.agg [.int .i64 a0_0,.int .i64 a0_1,.int .i64 a0_2]]=zgJ zaj a0_0 a0_1 a0_2:=zp2 zaj a0_0 a0_1 a0_2
def zog:Ann:={ loops:=[] }
noncomputable def zcB:List D→Option D:=denP Try.prog (zax [(ID.geom_Capacity,(.pure [0] zbC)),(ID.geom_Width,(.pure [0] zaj)),(ID.place_Disk,(.pure [0] zbd))]) zog [0,0,0] ID.place_Of
theorem zqz:za0 Try.prog ID.place_Of (.pure [0,0,0] zcB):=zao (zaz [zm1,zc4,zj1]) zby ⟨Try.f72,by kernel_rfl,by kernel_rfl,by kernel_rfl⟩
noncomputable def zsN:Fact Try.prog:=⟨ID.place_Of,(.pure [0,0,0] zcB),zqz⟩
noncomputable def znL (zbC:List D→Option D) (zaj:List D→Option D) (zbd:List D→Option D) (a0_0:Int) (a0_1:Int) (a0_2:Int) (a1:Int):Option D:=
  brK (decide (a1 < (0:Int)))
    (some (D.tup [D.int IntKind.i64 (0:Int),D.int IntKind.i64 (0:Int),D.bool false]))
    (zap (zbC [D.agg [D.int IntKind.i64 a0_0,D.int IntKind.i64 a0_1,D.int IntKind.i64 a0_2]]) fun r1=>
    asI IntKind.i64 r1 fun i2=>
    brK (decide (a1≥i2))
      (some (D.tup [D.int IntKind.i64 (0:Int),D.int IntKind.i64 (0:Int),D.bool false]))
      (sif (a0_2≠(0:Int)) <|
      letN (IntKind.wrap IntKind.i64 (Int.tdiv a1 a0_2)) fun n3=>
      zap (zaj [D.agg [D.int IntKind.i64 a0_0,D.int IntKind.i64 a0_1,D.int IntKind.i64 a0_2]]) fun r4=>
      asI IntKind.i64 r4 fun i5=>
      sif (i5≠(0:Int)) <|
      letN (IntKind.wrap IntKind.i64 (Int.tdiv n3 i5)) fun n6=>
      letN (IntKind.wrap IntKind.i64 (n6*a0_2)) fun n7=>
      sif (a0_2≠(0:Int)) <|
      letN (Int.tmod a1 a0_2) fun n8=>
      letN (IntKind.wrap IntKind.i64 (n7+n8)) fun n9=>
      zap (zaj [D.agg [D.int IntKind.i64 a0_0,D.int IntKind.i64 a0_1,D.int IntKind.i64 a0_2]]) fun r10=>
      asI IntKind.i64 r10 fun i11=>
      sif (i11≠(0:Int)) <|
      letN (Int.tmod n3 i11) fun n12=>
      zap (zbd [D.agg [D.int IntKind.i64 a0_0,D.int IntKind.i64 a0_1,D.int IntKind.i64 a0_2],D.int IntKind.i64 n9,D.int IntKind.i64 n12]) fun r13=>
      asI IntKind.i64 r13 fun i14=>
      some (D.tup [D.int IntKind.i64 i14,D.int IntKind.i64 n9,D.bool true])))
theorem zxm (zbC:List D→Option D) (zaj:List D→Option D) (zbd:List D→Option D) (a0_0:Int) (a0_1:Int) (a0_2:Int) (a1:Int):denP Try.prog (zax [(ID.geom_Capacity,(.pure [0] zbC)),(ID.geom_Width,(.pure [0] zaj)),(ID.place_Disk,(.pure [0] zbd))]) zog [0,0,0] ID.place_Of [.agg [.int .i64 a0_0,.int .i64 a0_1,.int .i64 a0_2],.int .i64 a1]=znL zbC zaj zbd a0_0 a0_1 a0_2 a1:=by kernel_rfl
theorem zsO (a0_0:Int) (a0_1:Int) (a0_2:Int) (a1:Int):zcB [.agg [.int .i64 a0_0,.int .i64 a0_1,.int .i64 a0_2],.int .i64 a1]=znL zbC zaj zbd a0_0 a0_1 a0_2 a1:=zxm zbC zaj zbd a0_0 a0_1 a0_2 a1
def ziU:Ann:={ loops:=[] }
noncomputable def zbR:List D→Option D:=denP Try.prog (zax [(ID.geom_Width,(.pure [0] zaj))]) ziU [0] ID.place_number
theorem zm3:za0 Try.prog ID.place_number (.pure [0] zbR):=zao (zaz [zc4]) zby ⟨Try.f107,by kernel_rfl,by kernel_rfl,by kernel_rfl⟩
noncomputable def znM:Fact Try.prog:=⟨ID.place_number,(.pure [0] zbR),zm3⟩
noncomputable def zhp (zaj:List D→Option D) (a0_0:Int) (a0_1:Int) (a0_2:Int) (a1:Int) (a2:Int):Option D:=
  sif (a0_2≠(0:Int)) <|
  letN (IntKind.wrap IntKind.i64 (Int.tdiv a1 a0_2)) fun n1=>
  zap (zaj [D.agg [D.int IntKind.i64 a0_0,D.int IntKind.i64 a0_1,D.int IntKind.i64 a0_2]]) fun r2=>
  asI IntKind.i64 r2 fun i3=>
  letN (IntKind.wrap IntKind.i64 (n1*i3)) fun n4=>
  letN (IntKind.wrap IntKind.i64 (n4+a2)) fun n5=>
  letN (IntKind.wrap IntKind.i64 (n5*a0_2)) fun n6=>
  sif (a0_2≠(0:Int)) <|
  letN (Int.tmod a1 a0_2) fun n7=>
  letN (IntKind.wrap IntKind.i64 (n6+n7)) fun n8=>
  some (D.int IntKind.i64 n8)
theorem zqA (zaj:List D→Option D) (a0_0:Int) (a0_1:Int) (a0_2:Int) (a1:Int) (a2:Int):denP Try.prog (zax [(ID.geom_Width,(.pure [0] zaj))]) ziU [0] ID.place_number [.agg [.int .i64 a0_0,.int .i64 a0_1,.int .i64 a0_2],.int .i64 a1,.int .i64 a2]=zhp zaj a0_0 a0_1 a0_2 a1 a2:=by kernel_rfl
theorem znN (a0_0:Int) (a0_1:Int) (a0_2:Int) (a1:Int) (a2:Int):zbR [.agg [.int .i64 a0_0,.int .i64 a0_1,.int .i64 a0_2],.int .i64 a1,.int .i64 a2]=zhp zaj a0_0 a0_1 a0_2 a1 a2:=zqA zaj a0_0 a0_1 a0_2 a1 a2
def zh2:Ann:={ loops:=[(1,[.dead,.val (.cell (.int .i64)),.box true [(.int .i64),(.int .i64),(.int .i64)],.dead,.dead,.own 1,.dead,.dead,.dead,.dead,.dead,.dead,.val (.cell (.int .i64)),.val (.cell (.int .i64))])] }
noncomputable def zbD:List D→Option D:=denP Try.prog (zax [(ID.place_in,(.pure [0] zbc)),(ID.geom_Width,(.pure [0] zaj)),(ID.place_number,(.pure [0] zbR))]) zh2 [1] ID.place_Numbers
theorem zlW:za0 Try.prog ID.place_Numbers (.pure [1] zbD):=zao (zaz [ziE,zc4,znM]) zby ⟨Try.f73,by kernel_rfl,by kernel_rfl,by kernel_rfl⟩
noncomputable def zm4:Fact Try.prog:=⟨ID.place_Numbers,(.pure [1] zbD),zlW⟩
noncomputable def zgK (zbc:List D→Option D) (zaj:List D→Option D) (zbR:List D→Option D) (a0_0:Int) (a0_1:Int) (a0_2:Int) (a1:Int):Option D:=
  zap (zbc [D.agg [D.int IntKind.i64 a0_0,D.int IntKind.i64 a0_1,D.int IntKind.i64 a0_2],D.int IntKind.i64 a1]) fun r1=>
  asB r1 fun b2=>
  brK (!b2)
    (some (D.sl Tag.own []))
    (zap (zaj [D.agg [D.int IntKind.i64 a0_0,D.int IntKind.i64 a0_1,D.int IntKind.i64 a0_2]]) fun r3=>
    asI IntKind.i64 r3 fun i4=>
    zb3 (α:=(Int×(Int×Int×Int×PUnit)×List D×Int×Int×PUnit)×PUnit) (fun again5 ((i6,((i7,(i8,(i9,_))),(l10,(i11,(i12,_))))),_)=>
      brK (decide (i12 < i11))
        (zap (zbR [D.agg [D.int IntKind.i64 i7,D.int IntKind.i64 i8,D.int IntKind.i64 i9],D.int IntKind.i64 i6,D.int IntKind.i64 i12]) fun r13=>
        asI IntKind.i64 r13 fun i14=>
        sif (List.length l10+(1:Nat)≤(4294967296:Nat)) <|
        sif (List.length l10=List.length l10) <|
        letN (IntKind.wrap IntKind.i64 (i12+(1:Int))) fun n15=>
        sif (List.length l10+(1:Nat)=List.length (l10++[D.int IntKind.i64 i14])) <|
        again5 (((i6,(i7,i8,i9,PUnit.unit),l10++[D.int IntKind.i64 i14],i11,n15,PUnit.unit),PUnit.unit)))
        (sif (List.length l10=List.length l10) <|
        sif (List.all l10 D.free=true) <|
        some (D.sl Tag.own l10)))
      (((a1,(a0_0,a0_1,a0_2,PUnit.unit),[],i4,(0:Int),PUnit.unit),PUnit.unit)))
theorem zp3 (zbc:List D→Option D) (zaj:List D→Option D) (zbR:List D→Option D) (a0_0:Int) (a0_1:Int) (a0_2:Int) (a1:Int):denP Try.prog (zax [(ID.place_in,(.pure [0] zbc)),(ID.geom_Width,(.pure [0] zaj)),(ID.place_number,(.pure [0] zbR))]) zh2 [1] ID.place_Numbers [.agg [.int .i64 a0_0,.int .i64 a0_1,.int .i64 a0_2],.int .i64 a1]=zgK zbc zaj zbR a0_0 a0_1 a0_2 a1:=by kernel_rfl
theorem zm5 (a0_0:Int) (a0_1:Int) (a0_2:Int) (a1:Int):zbD [.agg [.int .i64 a0_0,.int .i64 a0_1,.int .i64 a0_2],.int .i64 a1]=zgK zbc zaj zbR a0_0 a0_1 a0_2 a1:=zp3 zbc zaj zbR a0_0 a0_1 a0_2 a1
def zlh:Ann:={ loops:=[(3,[.dead,.dead,.dead,.val (.cell (.int .i64)),.dead,.dead,.dead,.dead,.dead,.dead,.dead,.dead,.dead,.own 1,.dead,.dead,.dead,.dead,.dead,.dead,.dead,.dead,.dead,.dead,.dead,.dead,.dead,.dead,.dead,.dead,.dead,.dead,.dead,.dead,.dead,.dead,.dead,.dead,.dead,.dead,.dead,.dead,.dead,.dead,.dead,.dead,.dead,.dead,.dead,.dead,.own 1,.val (.cell (.int .i64)),.val (.cell (.int .i64))])],ks:=[(3840,false),(7649,false)] }
noncomputable def zb1:List D→List Tb→Option Ans:=denS Try.prog (zax [(ID.place_Of,(.pure [0,0,0] zcB)),(ID.stripe_up,(.st [] [0] [(3840,false),(7649,false)] zbB)),(ID.bench_Bench_Read,(.st [] [1,0] [(3840,false),(7649,false)] zaJ)),(ID.stripe_Read,(.st [] [1,0] [(3840,false),(7649,false)] zaL)),(ID.place_Numbers,(.pure [1] zbD))]) zlh [0,0] ID.stripe_One
theorem zoz:za0 Try.prog ID.stripe_One (.st [] [0,0] [(3840,false),(7649,false)] zb1):=zbL (zaz [zsN,zlc,zfy,zfF,zm4]) zby ⟨Try.f26,by kernel_rfl,by kernel_rfl,by kernel_rfl⟩
noncomputable def zp4:Fact Try.prog:=⟨ID.stripe_One,(.st [] [0,0] [(3840,false),(7649,false)] zb1),zoz⟩
noncomputable def zkd (zcB:List D→Option D) (zbB:List D→List Tb→Option Ans) (zaJ:List D→List Tb→Option Ans) (zaL:List D→List Tb→Option Ans) (zbD:List D→Option D) (a0:Nat) (a1:List D) (a2_0:Int) (a2_1:Int) (a2_2:Int) (a3:Int) (T0:Tb) (T1:Tb):Option Ans:=
  zap (zcB [D.agg [D.int IntKind.i64 a2_0,D.int IntKind.i64 a2_1,D.int IntKind.i64 a2_2],D.int IntKind.i64 a3]) fun r1=>
  zdP r1 fun ts2=>
  zay ([Lf.any,Lf.any,Lf.any]) ts2 fun c3=>
  asI IntKind.i64 c3.fst fun i4=>
  asI IntKind.i64 c3.snd.fst fun i5=>
  asB c3.snd.snd.fst fun b6=>
  brK (!b6)
    (some (Ans.mk (D.tup [D.sl Tag.nil [],D.int IntKind.i64 (4:Int)]) [] []))
    (zap (zbB [D.h (3840:Nat) a0 (0:Nat),D.sl Tag.lent a1,D.int IntKind.i64 i4] [T0,T1]) fun r7=>
    nilK r7.outs <|
    nilK r7.tbs <|
    asB r7.r fun b8=>
    brK b8
      (letN (IntKind.wrap IntKind.i64 ((36:Int)+i5)) fun n9=>
      zap (zaJ [D.h (3840:Nat) a0 (0:Nat),D.int IntKind.i64 i4,D.int IntKind.i64 n9] [T0,T1]) fun r10=>
      nilK r10.outs <|
      nilK r10.tbs <|
      zdP r10.r fun ts11=>
      zay ([Lf.any,Lf.any]) ts11 fun c12=>
      zbl c12.fst fun l13=>
      asI IntKind.i64 c12.snd.fst fun i14=>
      sif ((0:Nat)+List.length l13≤List.length l13) <|
      sif (D.free (D.sl Tag.fresh (cut (0:Nat) (List.length l13) l13))=true) <|
      some (Ans.mk (D.tup [D.sl Tag.fresh (cut (0:Nat) (List.length l13) l13),D.int IntKind.i64 i14]) [] []))
      (zap (zaL [D.h (3840:Nat) a0 (0:Nat),D.sl Tag.lent a1,D.agg [D.int IntKind.i64 a2_0,D.int IntKind.i64 a2_1,D.int IntKind.i64 a2_2],D.int IntKind.i64 i5] [T0,T1]) fun r15=>
      nilK r15.outs <|
      nilK r15.tbs <|
      zdP r15.r fun ts16=>
      zay ([Lf.any,Lf.any]) ts16 fun c17=>
      zbl c17.fst fun l18=>
      asI IntKind.i64 c17.snd.fst fun i19=>
      brK (i19 != (0:Int))
        (some (Ans.mk (D.tup [D.sl Tag.nil [],D.int IntKind.i64 i19]) [] []))
        (zap (zbD [D.agg [D.int IntKind.i64 a2_0,D.int IntKind.i64 a2_1,D.int IntKind.i64 a2_2],D.int IntKind.i64 i5]) fun r20=>
        zbl r20 fun l21=>
        sif ((0:Nat)+List.length l21≤List.length l21) <|
        sif (List.length l18=List.length l18) <|
        sif (List.length l21=List.length l21) <|
        zb3 (α:=(Int×List D×List D×Int×Int×PUnit)×List (List D)×List (List D)×PUnit) (fun again22 ((i23,(l24,(l25,(i26,(i27,_))))),(U28,(U29,_)))=>
          brK (decide (i27 < i26))
            (sif ((0:Int)≤i27) <|
            sif (Int.toNat i27 < List.length l25) <|
            getK l25 ((0:Nat)+Int.toNat i27) fun d30=>
            asI IntKind.i64 d30 fun i31=>
            brK (i31 == i23)
              (sif ((0:Int)≤i27) <|
              sif (Int.toNat i27 < List.length l24) <|
              getK l24 ((0:Nat)+Int.toNat i27) fun d32=>
              asSl d32 fun t33 l34=>
              sif (D.free (D.sl t33 l34)=true) <|
              some (Ans.mk (D.tup [D.sl t33 l34,D.int IntKind.i64 (0:Int)]) [] []))
              (letN (IntKind.wrap IntKind.i64 (i27+(1:Int))) fun n35=>
              sif (List.length l24=List.length l24) <|
              sif (List.length l25=List.length l25) <|
              again22 (((i23,l24,l25,i26,n35,PUnit.unit),U28,U29,PUnit.unit))))
            (some (Ans.mk (D.tup [D.sl Tag.nil [],D.int IntKind.i64 (4:Int)]) [] [])))
          (((a3,l18,l21,(↑(List.length l21):Int),(0:Int),PUnit.unit),T0,T1,PUnit.unit)))))
theorem zul (zcB:List D→Option D) (zbB:List D→List Tb→Option Ans) (zaJ:List D→List Tb→Option Ans) (zaL:List D→List Tb→Option Ans) (zbD:List D→Option D) (tga1:Tag) (a0:Nat) (a1:List D) (a2_0:Int) (a2_1:Int) (a2_2:Int) (a3:Int) (T0:Tb) (T1:Tb):denS Try.prog (zax [(ID.place_Of,(.pure [0,0,0] zcB)),(ID.stripe_up,(.st [] [0] [(3840,false),(7649,false)] zbB)),(ID.bench_Bench_Read,(.st [] [1,0] [(3840,false),(7649,false)] zaJ)),(ID.stripe_Read,(.st [] [1,0] [(3840,false),(7649,false)] zaL)),(ID.place_Numbers,(.pure [1] zbD))]) zlh [0,0] ID.stripe_One [.h 3840 a0 0,.sl tga1 a1,.agg [.int .i64 a2_0,.int .i64 a2_1,.int .i64 a2_2],.int .i64 a3] [T0,T1]=zkd zcB zbB zaJ zaL zbD a0 (D.lentL a1) a2_0 a2_1 a2_2 a3 T0 T1:=by kernel_rfl
theorem zp5 (tga1:Tag) (a0:Nat) (a1:List D) (a2_0:Int) (a2_1:Int) (a2_2:Int) (a3:Int) (T0:Tb) (T1:Tb):zb1 [.h 3840 a0 0,.sl tga1 a1,.agg [.int .i64 a2_0,.int .i64 a2_1,.int .i64 a2_2],.int .i64 a3] [T0,T1]=zkd zcB zbB zaJ zaL zbD a0 (D.lentL a1) a2_0 a2_1 a2_2 a3 T0 T1:=zul zcB zbB zaJ zaL zbD tga1 a0 a1 a2_0 a2_1 a2_2 a3 T0 T1
def zha:Ann:={ loops:=[] }
noncomputable def zbv:List D→Option D:=denP Try.prog (zax [(ID.wattleref01_Check,(.pure [0] zad)),(ID.wattleref01_Capacity,(.pure [0] zaq)),(ID.wattleref01_Width,(.pure [0] zaa)),(ID.wattleref01_Disk,(.pure [0] zaE))]) zha [0,0,0] ID.wattleref01_Of
theorem zk4:za0 Try.prog ID.wattleref01_Of (.pure [0,0,0] zbv):=zao (zaz [zcf,zd9,zbO,zfw]) zby ⟨Try.f27,by kernel_rfl,by kernel_rfl,by kernel_rfl⟩
noncomputable def zlX:Fact Try.prog:=⟨ID.wattleref01_Of,(.pure [0,0,0] zbv),zk4⟩
noncomputable def zfG (zad:List D→Option D) (zaq:List D→Option D) (zaa:List D→Option D) (zaE:List D→Option D) (a0_0:Int) (a0_1:Int) (a0_2:Int) (a1:Int):Option D:=
  zap (zad [D.agg [D.int IntKind.i64 a0_0,D.int IntKind.i64 a0_1,D.int IntKind.i64 a0_2]]) fun r1=>
  asB r1 fun b2=>
  brK (!b2)
    (some (D.tup [D.int IntKind.i64 (0:Int),D.int IntKind.i64 (0:Int),D.bool false]))
    (brK (decide (a1 < (0:Int)))
      (some (D.tup [D.int IntKind.i64 (0:Int),D.int IntKind.i64 (0:Int),D.bool false]))
      (zap (zaq [D.agg [D.int IntKind.i64 a0_0,D.int IntKind.i64 a0_1,D.int IntKind.i64 a0_2]]) fun r3=>
      asI IntKind.i64 r3 fun i4=>
      brK (decide (a1≥i4))
        (some (D.tup [D.int IntKind.i64 (0:Int),D.int IntKind.i64 (0:Int),D.bool false]))
        (sif (a0_2≠(0:Int)) <|
        letN (IntKind.wrap IntKind.i64 (Int.tdiv a1 a0_2)) fun n5=>
        zap (zaa [D.agg [D.int IntKind.i64 a0_0,D.int IntKind.i64 a0_1,D.int IntKind.i64 a0_2]]) fun r6=>
        asI IntKind.i64 r6 fun i7=>
        sif (i7≠(0:Int)) <|
        letN (IntKind.wrap IntKind.i64 (Int.tdiv n5 i7)) fun n8=>
        letN (IntKind.wrap IntKind.i64 (n8*a0_2)) fun n9=>
        sif (a0_2≠(0:Int)) <|
        letN (Int.tmod a1 a0_2) fun n10=>
        letN (IntKind.wrap IntKind.i64 (n9+n10)) fun n11=>
        zap (zaa [D.agg [D.int IntKind.i64 a0_0,D.int IntKind.i64 a0_1,D.int IntKind.i64 a0_2]]) fun r12=>
        asI IntKind.i64 r12 fun i13=>
        sif (i13≠(0:Int)) <|
        letN (Int.tmod n5 i13) fun n14=>
        zap (zaE [D.agg [D.int IntKind.i64 a0_0,D.int IntKind.i64 a0_1,D.int IntKind.i64 a0_2],D.int IntKind.i64 n11,D.int IntKind.i64 n14]) fun r15=>
        asI IntKind.i64 r15 fun i16=>
        some (D.tup [D.int IntKind.i64 i16,D.int IntKind.i64 n11,D.bool true]))))
theorem zoA (zad:List D→Option D) (zaq:List D→Option D) (zaa:List D→Option D) (zaE:List D→Option D) (a0_0:Int) (a0_1:Int) (a0_2:Int) (a1:Int):denP Try.prog (zax [(ID.wattleref01_Check,(.pure [0] zad)),(ID.wattleref01_Capacity,(.pure [0] zaq)),(ID.wattleref01_Width,(.pure [0] zaa)),(ID.wattleref01_Disk,(.pure [0] zaE))]) zha [0,0,0] ID.wattleref01_Of [.agg [.int .i64 a0_0,.int .i64 a0_1,.int .i64 a0_2],.int .i64 a1]=zfG zad zaq zaa zaE a0_0 a0_1 a0_2 a1:=by kernel_rfl
theorem zlY (a0_0:Int) (a0_1:Int) (a0_2:Int) (a1:Int):zbv [.agg [.int .i64 a0_0,.int .i64 a0_1,.int .i64 a0_2],.int .i64 a1]=zfG zad zaq zaa zaE a0_0 a0_1 a0_2 a1:=zoA zad zaq zaa zaE a0_0 a0_1 a0_2 a1
def zfz:Ann:={ loops:=[],ks:=[(3840,true),(7649,true)] }
noncomputable def zaH:List D→Option D:=denT Try.prog (zax [(ID.bench_New,(.st [] [0,0] [(3840,true),(7649,true)] zbm)),(ID.stripe_Read,(.st [] [1,0] [(3840,false),(7649,false)] zaL)),(ID.wattlekeep_Same_byte,(.pure [0] zae))]) zfz [0] ID.wattlelaw14_wakes
theorem ziJ:za0 Try.prog ID.wattlelaw14_wakes (.pure [0] zaH):=zre (zaz [zla,zfF,zcU]) zby ⟨Try.f28,by kernel_rfl,by kernel_rfl,by kernel_rfl⟩
noncomputable def zjg:Fact Try.prog:=⟨ID.wattlelaw14_wakes,(.pure [0] zaH),ziJ⟩
noncomputable def zen (zbm:List D→List Tb→Option Ans) (zaL:List D→List Tb→Option Ans) (zae:List D→Option D):Option D:=
  zap (zbm [D.int IntKind.i64 (3:Int)] [[],[]]) fun r1=>
  nilK r1.outs <|
  zhD r1.tbs fun c2 q3=>
  zhD q3 fun c4 q5=>
  nilK q5 <|
  zdP r1.r fun ts6=>
  zay ([Lf.any,Lf.any]) ts6 fun c7=>
  sif (zg1 c7.fst=true) <|
  asI IntKind.i64 c7.snd.fst fun i8=>
  brK (i8 != (0:Int))
    (some (D.bool false))
    (znc c7.fst fun b9=>
    brK b9
      (some (D.bool false))
      (zap (zaL [c7.fst,D.sl Tag.full [D.bool true,D.bool true,D.bool true],D.agg [D.int IntKind.i64 (5:Int),D.int IntKind.i64 (3:Int),D.int IntKind.i64 (1:Int)],D.int IntKind.i64 (4:Int)] [c2,c4]) fun r10=>
      nilK r10.outs <|
      nilK r10.tbs <|
      zdP r10.r fun ts11=>
      zay ([Lf.any,Lf.any]) ts11 fun c12=>
      zbl c12.fst fun l13=>
      asI IntKind.i64 c12.snd.fst fun i14=>
      brK (i14 == (0:Int))
        (sif ((0:Nat)+List.length l13≤List.length l13) <|
        brK ((↑(List.length l13):Int) == (2:Int))
          (sif ((0:Nat) < List.length l13) <|
          getK l13 ((0:Nat)) fun d15=>
          asSl d15 fun t16 l17=>
          zap (zae [D.sl t16 l17,D.sl Tag.lent [D.int IntKind.u8 (0:Int),D.int IntKind.u8 (0:Int),D.int IntKind.u8 (0:Int),D.int IntKind.u8 (0:Int),D.int IntKind.u8 (0:Int),D.int IntKind.u8 (0:Int),D.int IntKind.u8 (0:Int),D.int IntKind.u8 (0:Int),D.int IntKind.u8 (0:Int),D.int IntKind.u8 (0:Int),D.int IntKind.u8 (0:Int),D.int IntKind.u8 (0:Int),D.int IntKind.u8 (0:Int),D.int IntKind.u8 (0:Int),D.int IntKind.u8 (0:Int),D.int IntKind.u8 (0:Int),D.int IntKind.u8 (0:Int),D.int IntKind.u8 (0:Int),D.int IntKind.u8 (0:Int),D.int IntKind.u8 (0:Int),D.int IntKind.u8 (0:Int),D.int IntKind.u8 (0:Int),D.int IntKind.u8 (0:Int),D.int IntKind.u8 (0:Int),D.int IntKind.u8 (0:Int),D.int IntKind.u8 (0:Int),D.int IntKind.u8 (0:Int),D.int IntKind.u8 (0:Int),D.int IntKind.u8 (0:Int),D.int IntKind.u8 (0:Int),D.int IntKind.u8 (0:Int),D.int IntKind.u8 (0:Int)]]) fun r18=>
          asB r18 fun b19=>
          some (D.bool b19))
          (some (D.bool false)))
        (some (D.bool false))))
theorem zlZ (zbm:List D→List Tb→Option Ans) (zaL:List D→List Tb→Option Ans) (zae:List D→Option D):denT Try.prog (zax [(ID.bench_New,(.st [] [0,0] [(3840,true),(7649,true)] zbm)),(ID.stripe_Read,(.st [] [1,0] [(3840,false),(7649,false)] zaL)),(ID.wattlekeep_Same_byte,(.pure [0] zae))]) zfz [0] ID.wattlelaw14_wakes []=sif (D.nohL []=true) (zen zbm zaL zae ):=by kernel_rfl
theorem zjh:zaH []=sif (D.nohL []=true) (zen zbm zaL zae ):=zlZ zbm zaL zae
def zeT:Ann:={ loops:=[(1,[.dead,.val (.cell (.int .i64)),.box true [(.int .i64),(.int .i64),(.int .i64)],.dead,.dead,.own 1,.val (.cell (.int .i64))])] }
noncomputable def zaN:List D→Option D:=denP Try.prog (zax [(ID.wattleref01_fine,(.pure [0] zaf)),(ID.wattleref01_Width,(.pure [0] zaa))]) zeT [1] ID.wattleref01_Numbers
theorem zhq:za0 Try.prog ID.wattleref01_Numbers (.pure [1] zaN):=zao (zaz [zcN,zbO]) zby ⟨Try.f29,by kernel_rfl,by kernel_rfl,by kernel_rfl⟩
noncomputable def zh3:Fact Try.prog:=⟨ID.wattleref01_Numbers,(.pure [1] zaN),zhq⟩
noncomputable def zdH (zaf:List D→Option D) (zaa:List D→Option D) (a0_0:Int) (a0_1:Int) (a0_2:Int) (a1:Int):Option D:=
  zap (zaf [D.agg [D.int IntKind.i64 a0_0,D.int IntKind.i64 a0_1,D.int IntKind.i64 a0_2],D.int IntKind.i64 a1]) fun r1=>
  asB r1 fun b2=>
  brK (!b2)
    (some (D.sl Tag.own []))
    (zb3 (α:=(Int×(Int×Int×Int×PUnit)×List D×Int×PUnit)×PUnit) (fun again3 ((i4,((i5,(i6,(i7,_))),(l8,(i9,_)))),_)=>
      zap (zaa [D.agg [D.int IntKind.i64 i5,D.int IntKind.i64 i6,D.int IntKind.i64 i7]]) fun r10=>
      asI IntKind.i64 r10 fun i11=>
      brK (decide (i9 < i11))
        (sif (i7≠(0:Int)) <|
        letN (IntKind.wrap IntKind.i64 (Int.tdiv i4 i7)) fun n12=>
        zap (zaa [D.agg [D.int IntKind.i64 i5,D.int IntKind.i64 i6,D.int IntKind.i64 i7]]) fun r13=>
        asI IntKind.i64 r13 fun i14=>
        letN (IntKind.wrap IntKind.i64 (n12*i14)) fun n15=>
        letN (IntKind.wrap IntKind.i64 (n15+i9)) fun n16=>
        letN (IntKind.wrap IntKind.i64 (n16*i7)) fun n17=>
        sif (i7≠(0:Int)) <|
        letN (Int.tmod i4 i7) fun n18=>
        letN (IntKind.wrap IntKind.i64 (n17+n18)) fun n19=>
        sif (List.length l8+(1:Nat)≤(4294967296:Nat)) <|
        sif (List.length l8=List.length l8) <|
        letN (IntKind.wrap IntKind.i64 (i9+(1:Int))) fun n20=>
        sif (List.length l8+(1:Nat)=List.length (l8++[D.int IntKind.i64 n19])) <|
        again3 (((i4,(i5,i6,i7,PUnit.unit),l8++[D.int IntKind.i64 n19],n20,PUnit.unit),PUnit.unit)))
        (sif (List.length l8=List.length l8) <|
        sif (List.all l8 D.free=true) <|
        some (D.sl Tag.own l8)))
      (((a1,(a0_0,a0_1,a0_2,PUnit.unit),[],(0:Int),PUnit.unit),PUnit.unit)))
theorem zke (zaf:List D→Option D) (zaa:List D→Option D) (a0_0:Int) (a0_1:Int) (a0_2:Int) (a1:Int):denP Try.prog (zax [(ID.wattleref01_fine,(.pure [0] zaf)),(ID.wattleref01_Width,(.pure [0] zaa))]) zeT [1] ID.wattleref01_Numbers [.agg [.int .i64 a0_0,.int .i64 a0_1,.int .i64 a0_2],.int .i64 a1]=zdH zaf zaa a0_0 a0_1 a0_2 a1:=by kernel_rfl
theorem zh4 (a0_0:Int) (a0_1:Int) (a0_2:Int) (a1:Int):zaN [.agg [.int .i64 a0_0,.int .i64 a0_1,.int .i64 a0_2],.int .i64 a1]=zdH zaf zaa a0_0 a0_1 a0_2 a1:=zke zaf zaa a0_0 a0_1 a0_2 a1
end Wf

namespace Wf
open Go Go.RowKit Go.Proofs
set_option linter.unusedSimpArgs false
set_option linter.unusedVariables false
theorem zum (c:Int):zaP [.sl .full [.int .i64 1,.int .i64 2,.int .i64 4],.int .i64 c]=some (.bool (c == 1 || c == 2 || c == 4)):=by
  rw [zf5]
  unfold zcT
  rw [zhh]
  unfold zdm
  obtain ⟨m,hm⟩:=zy0
  by_cases h1:c=1<;>by_cases h2:c=2<;>by_cases h4:c=4<;>
    simp [zb3,hm,fixN,zbQ,h1,h2,h4,zag]<;>omega
theorem zh5 (l d c:Int):zar [gD l d c]=some (iD (if zeW l d c then 0 else 1)):=by
  rw [zpN]
  unfold zjW
  have hc:=zum c
  unfold zeW
  obtain ⟨q,hq⟩:∃ q,(c == 1 || c == 2 || c == 4)=q:=⟨_,rfl⟩
  rw [hq] at hc ⊢
  by_cases h5:l=5
  · subst h5
    by_cases h3:d < 3<;>by_cases h8:8 < d<;>cases q<;>simp [zng,zew,setD,hc,zbQ,h3,h8]<;>omega
  · by_cases h6:l=6
    · subst h6
      by_cases h3:d < 4<;>by_cases h8:8 < d<;>cases q<;>simp [zng,zew,setD,hc,zbQ,h3,h8]<;>omega
    · simp [zng,zew,setD,hc,zbQ,h5,h6]
theorem zp6 (l d c:Int):za7 [gD l d c]=some (iD (zlz l d c)):=by
  rw [zop]
  unfold ziD zlz
  rw [zh5]
  cases h:zeW l d c
  · simp [zbQ]
  · have:=zhL.1 h
    simp [zbQ]
    exact zag (by omega) (by omega)
theorem zrv (l d c:Int):zaj [gD l d c]=some (iD (ziP l d c)):=by
  rw [zpP]
  unfold zj0 ziP
  rw [zh5,zp6]
  unfold zlz
  cases h:zeW l d c
  · simp [zbQ]
  · have:=zhL.1 h
    simp [zbQ]
    exact zag (by omega) (by omega)
theorem zsP (l d c:Int):zbC [gD l d c]=some (iD (capG l d c)):=by
  rw [zm2]
  unfold zgJ capG
  rw [zrv]
  have:=zAk l d c
  simp
  exact zag (by omega) (by omega)
theorem zkf (l d c:Int):zad [gD l d c]=some (.bool (zeW l d c)):=by
  rw [ziY]
  unfold zei zeW
  by_cases h5:l=5
  · subst h5
    by_cases h3:3≤d<;>by_cases h8:d≤8<;>simp [zbQ,h3,h8]<;>by_cases h1:c=1<;>by_cases h2:c=2<;>simp [h1,h2]<;>omega
  · by_cases h6:l=6
    · subst h6
      by_cases h3:4≤d<;>by_cases h8:d≤8<;>simp [zbQ,h3,h8]<;>by_cases h1:c=1<;>by_cases h2:c=2<;>simp [h1,h2]<;>omega
    · simp [zbQ,h5,h6]
theorem zrw (l d c:Int):zau [gD l d c]=some (iD (zlz l d c)):=by
  rw [zir]
  unfold zdW zlz
  rw [zkf]
  cases h:zeW l d c
  · simp [zbQ]
  · have:=zhL.1 h
    simp [zbQ]
    exact zag (by omega) (by omega)
theorem zy6 (l d c:Int):zaa [gD l d c]=some (iD (ziP l d c)):=by
  rw [ziZ]
  unfold zej ziP
  rw [zkf,zrw]
  unfold zlz
  cases h:zeW l d c
  · simp [zbQ]
  · have:=zhL.1 h
    simp [zbQ]
    exact zag (by omega) (by omega)
theorem zp7 (a n:Int) (h:1≤n) (h9:n < 1000000000):zab [.int .i64 a,.int .i64 n]=some (iD (a % n)):=by
  rw [ziX]
  unfold zeh
  have hm:=zxf a n h
  have hlt:=Int.lt_tmod_of_pos a (show 0 < n by omega)
  have h1:¬ n < 1:=by omega
  have h0:n≠0:=by omega
  rcases hm with ⟨k1,k2⟩ | ⟨k1,k2⟩
  · simp [zbQ,h1,h0,Int.not_lt.2 k1,k2]
  · simp [zbQ,h1,h0,k1,k2]
    exact zag (by omega) (by omega)
theorem zy7 (n:Int):zbp [.int .i64 n]=some (zt1 n).D:=by
  rw [zkH]
  unfold zfa
  have w5:IntKind.i64.wrap (5+n % 2)=5+n % 2:=zag (by omega) (by omega)
  have w3:IntKind.i64.wrap (3+qn n 6 % 4)=3+qn n 6 % 4:=zag (by omega) (by omega)
  have w4:IntKind.i64.wrap (4+qn n 6 % 4)=4+qn n 6 % 4:=zag (by omega) (by omega)
  have w12:IntKind.i64.wrap (n % 12 - 1)=n % 12 - 1:=zag (by omega) (by omega)
  have w9:IntKind.i64.wrap (n % 9 - 1)=n % 9 - 1:=zag (by omega) (by omega)
  have h0:0≤qn n 2 % 3:=by omega
  have h3:qn n 2 % 3 < 3:=by omega
  have e2:IntKind.i64.wrap (n.tdiv 2)=qn n 2:=rfl
  have e6:IntKind.i64.wrap (n.tdiv 6)=qn n 6:=rfl
  have e24:IntKind.i64.wrap (n.tdiv 24)=qn n 24:=rfl
  simp only [zp7 _ _ (show (1:Int)≤2 by decide) (show (2:Int) < 1000000000 by decide),zp7 _ _ (show (1:Int)≤3 by decide) (show (3:Int) < 1000000000 by decide),zp7 _ _ (show (1:Int)≤4 by decide) (show (4:Int) < 1000000000 by decide),
    zp7 _ _ (show (1:Int)≤9 by decide) (show (9:Int) < 1000000000 by decide),zp7 _ _ (show (1:Int)≤12 by decide) (show (12:Int) < 1000000000 by decide),zp7 _ _ (show (1:Int)≤40 by decide) (show (40:Int) < 1000000000 by decide),
    zai,iD,zbF,zaQ,w5,w3,w4,w12,w9,e2,e6,e24,zac h0,zAl _ h0 h3]
  unfold Geo.D zt1
  have hl:n % 2=0∨n % 2=1:=by omega
  by_cases k1:qn n 24 % 40=36<;>by_cases k2:qn n 24 % 40=37<;>by_cases k3:qn n 24 % 40=38<;>by_cases k4:qn n 24 % 40=39<;>rcases hl with hl | hl<;>
    simp [zbQ,k1,k2,k3,k4,hl]<;>omega
theorem zy8 (n:Int):zbq [.int .i64 n]=some (zt2 n).D:=by
  rw [zkJ]
  unfold zfb
  rw [zy7]
  unfold zt2
  obtain ⟨l,d,c⟩:=zt1 n
  simp only [zai,Geo.D,zjy,zg3,zer,zkf,zdp,Geo.ok]
  by_cases h:zeW l d c=true
  · simp [zbQ,h]
  · simp only [Bool.not_eq_true] at h; simp [zbQ,h]
theorem zkg (g:Geo):zaj [gD g.l g.d g.c]=some (iD g.width):=zrv ..
theorem zCs (g:Geo):zbC [gD g.l g.d g.c]=some (iD g.cap):=zsP ..
theorem znO (g:Geo):zaa [gD g.l g.d g.c]=some (iD g.width):=zy6 ..
section
variable (a b c x y z k:Int)
end
section
variable (g:Geo) (a row k:Int)
theorem zsQ:zbc [g.D,.int .i64 row]=some (.bool (zb5 g row)):=by
  unfold Geo.D
  rw [zsz]
  unfold znA
  rw [zh5]
  unfold zb5 Geo.ok
  cases zeW g.l g.d g.c<;>simp [zbQ]<;>(by_cases h:0≤row<;>simp [h])
theorem zoN:zaf [g.D,.int .i64 row]=some (.bool (zb5 g row)):=by
  unfold Geo.D
  rw [zjG]
  unfold zeH
  rw [zkf]
  unfold zb5 Geo.ok
  cases zeW g.l g.d g.c<;>simp [zbQ]<;>(by_cases h:0≤row<;>simp [h])
theorem zun:zaW [g.D,.int .i64 row]=some (.tup [iD (parP g row).1,iD (parP g row).2]):=by
  have hi:=zsQ g row
  unfold Geo.D at*
  rw [znB]
  unfold zhj
  rw [hi]
  unfold parP
  cases h:zb5 g row
  · simp [zbQ]
  · obtain ⟨hk,h0,h1⟩:=zbE.1 h
    have hd:=ok_d hk
    have hv:=zAm hk h0
    have hp:=zk9 hk row
    have w1:IntKind.i64.wrap (g.d - 1)=g.d - 1:=zag (by omega) (by omega)
    have w2:IntKind.i64.wrap (row.tdiv g.c)=row / g.c:=by rw [zt4 hk h0]; exact zag (by omega) (by omega)
    have w3:IntKind.i64.wrap (g.d - 1 - (row / g.c).tmod g.d)=parA g row:=by rw [zjD hv.1]; exact zag (by unfold parA at hp; omega) (by unfold parA at hp; omega)
    have w4:IntKind.i64.wrap (parA g row+1)=parA g row+1:=zag (by omega) (by omega)
    have t4:(parA g row+1).tmod g.d=(parA g row+1) % g.d:=zjD (by omega)
    by_cases h5:g.l=5
    · simp [zbQ,show g.c≠0 by omega,show g.d≠0 by omega,w1,w2,w3,h5]
    · simp [zbQ,show g.c≠0 by omega,show g.d≠0 by omega,w1,w2,w3,h5,w4,t4]
theorem zy9:zah [g.D,.int .i64 row]=some (.tup [iD (parP g row).1,iD (parP g row).2]):=by
  have hi:=zoN g row
  unfold Geo.D at*
  rw [ziv]
  unfold zdY
  rw [hi]
  unfold parP
  cases h:zb5 g row
  · simp [zbQ]
  · obtain ⟨hk,h0,h1⟩:=zbE.1 h
    have hd:=ok_d hk
    have hv:=zAm hk h0
    have hp:=zk9 hk row
    have w1:IntKind.i64.wrap (g.d - 1)=g.d - 1:=zag (by omega) (by omega)
    have w2:IntKind.i64.wrap (row.tdiv g.c)=row / g.c:=by rw [zt4 hk h0]; exact zag (by omega) (by omega)
    have w3:IntKind.i64.wrap (g.d - 1 - (row / g.c).tmod g.d)=parA g row:=by rw [zjD hv.1]; exact zag (by unfold parA at hp; omega) (by unfold parA at hp; omega)
    have w4:IntKind.i64.wrap (parA g row+1)=parA g row+1:=zag (by omega) (by omega)
    have t4:(parA g row+1).tmod g.d=(parA g row+1) % g.d:=zjD (by omega)
    by_cases h5:g.l=5
    · simp [zbQ,show g.c≠0 by omega,show g.d≠0 by omega,w1,w2,w3,h5]
    · simp [zbQ,show g.c≠0 by omega,show g.d≠0 by omega,w1,w2,w3,h5,w4,t4]
theorem zrx:zbd [g.D,.int .i64 row,.int .i64 k]=some (iD (zch g row k)):=by
  have hi:=zsQ g row
  have hp:=zun g row
  unfold Geo.D at*
  rw [zpQ]
  unfold zj2
  rw [hi,hp,zkg,zp6]
  unfold zch
  cases h:zb5 g row
  · simp [zbQ]
  · obtain ⟨hk,h0,h1⟩:=zbE.1 h
    have hd:=ok_d hk
    have hw:=zb2 hk
    have hb:=zt3 hk
    have hl:=zd7.1 hk
    have hpa:=zk9 hk row
    by_cases k0:k < 0
    · simp [zbQ,k0,show ¬ 0≤k by omega]
    · by_cases k1:g.width≤k
      · simp [zbQ,k0,k1,show ¬ k < g.width by omega]
      · have w1:IntKind.i64.wrap (parA g row+(g.l - 4))=parA g row+(g.l - 4):=zag (by omega) (by omega)
        have w2:IntKind.i64.wrap (parA g row+(g.l - 4)+k)=parA g row+(g.l - 4)+k:=zag (by omega) (by omega)
        have t2:(parA g row+(g.l - 4)+k).tmod g.d=(parA g row+(g.l - 4)+k) % g.d:=zjD (by omega)
        have hp1:(parP g row).1=parA g row:=by unfold parP; simp [h]
        simp [zbQ,k0,k1,show 0≤k by omega,show k < g.width by omega,hb,hp1,w1,w2,t2,show g.d≠0 by omega]
theorem zAA:zaE [g.D,.int .i64 row,.int .i64 k]=some (iD (zch g row k)):=by
  have hi:=zoN g row
  have hp:=zy9 g row
  unfold Geo.D at*
  rw [zjH]
  unfold zeI
  rw [hi,hp,znO,zrw]
  unfold zch
  cases h:zb5 g row
  · simp [zbQ]
  · obtain ⟨hk,h0,h1⟩:=zbE.1 h
    have hd:=ok_d hk
    have hw:=zb2 hk
    have hb:=zt3 hk
    have hl:=zd7.1 hk
    have hpa:=zk9 hk row
    by_cases k0:k < 0
    · simp [zbQ,k0,show ¬ 0≤k by omega]
    · by_cases k1:g.width≤k
      · simp [zbQ,k0,k1,show ¬ k < g.width by omega]
      · have w1:IntKind.i64.wrap (parA g row+(g.l - 4))=parA g row+(g.l - 4):=zag (by omega) (by omega)
        have w2:IntKind.i64.wrap (parA g row+(g.l - 4)+k)=parA g row+(g.l - 4)+k:=zag (by omega) (by omega)
        have t2:(parA g row+(g.l - 4)+k).tmod g.d=(parA g row+(g.l - 4)+k) % g.d:=zjD (by omega)
        have hp1:(parP g row).1=parA g row:=by unfold parP; simp [h]
        simp [zbQ,k0,k1,show 0≤k by omega,show k < g.width by omega,hb,hp1,w1,w2,t2,show g.d≠0 by omega]
theorem zAB:zcB [g.D,.int .i64 a]=some (ofD (ofP g a)):=by
  have hdk:=fun row k=>zrx g row k
  unfold Geo.D at*
  rw [zsO]
  unfold znL
  rw [zkg,zCs]
  unfold ofP ofD
  by_cases h0:a < 0
  · simp [zbQ,h0,show ¬ 0≤a by omega]
  · by_cases h1:g.cap≤a
    · simp [zbQ,h0,h1,show ¬ a < g.cap by omega]
    · have h0:0≤a:=by omega
      have h1:a < g.cap:=by omega
      have hk:=zrl h0 h1
      have hd:=ok_d hk
      have hw:=zb2 hk
      have hv:=zAm hk h0
      have hr:=zmx h0 h1
      have hca:g.cap=g.width*16:=rfl
      have hvw:a / g.c / g.width≤a / g.c:=Int.ediv_le_self _ hv.1
      have w1:IntKind.i64.wrap (a.tdiv g.c)=a / g.c:=by rw [zt4 hk h0]; exact zag (by omega) (by omega)
      have w2:IntKind.i64.wrap ((a / g.c).tdiv g.width)=a / g.c / g.width:=by rw [Int.tdiv_eq_ediv_of_nonneg hv.1]; exact zag (by omega) (by omega)
      have hm:0≤a / g.c / g.width*g.c:=Int.mul_nonneg hr.2.2.1 (by omega)
      have w3:IntKind.i64.wrap (a / g.c / g.width*g.c)=a / g.c / g.width*g.c:=zag (by omega) (by omega)
      have w4:IntKind.i64.wrap (a / g.c / g.width*g.c+a.tmod g.c)=rowG g a:=by rw [zjD h0]; exact zag (by omega) (by omega)
      have t5:(a / g.c).tmod g.width=zca g a:=zjD hv.1
      simp [zbQ,h0,h1,show ¬ a < 0 by omega,show ¬ g.cap≤a by omega,w1,w2,w3,w4,t5,show g.c≠0 by omega,show g.width≠0 by omega,hdk]
end
section
variable (l d c a row k:Int)
end
section
variable (g:Geo) (row k:Int)
theorem zuo (h:zb5 g row=true) (k0:0≤k) (k1:k≤8):zbR [gD g.l g.d g.c,.int .i64 row,.int .i64 k]=some (iD (numP g row k)):=by
  obtain ⟨hk,h0,h1⟩:=zbE.1 h
  obtain ⟨w1,w2,w3,w4,w5⟩:=zy1 hk h0 h1 k0 k1
  have hd:=ok_d hk
  rw [znN]
  unfold zhp
  rw [zkg]
  simp [show g.c≠0 by omega,w1,w2,w3,w4,w5]
theorem zxn:zbD [g.D,.int .i64 row]=some (.sl .own (zsq g row)):=by
  have hi:=zsQ g row
  unfold Geo.D at*
  rw [zm5]
  unfold zgK
  rw [hi,zkg]
  unfold zsq
  cases h:zb5 g row
  · simp [zbQ]
  · obtain ⟨hk,h0,h1⟩:=zbE.1 h
    have hw:=zb2 hk
    simp only [zai,zdp,zbQ,iD,zbF,Bool.not_true,Bool.false_eq_true,if_false,if_true]
    refine zgc (fun a=>(g.width - a.1.2.2.2.2.1).toNat) (fun _=>some (D.sl Tag.own (numD g row g.width.toNat))) (fun a=>∃ n:Nat,n≤g.width∧
      a=((row,(g.l,g.d,g.c,PUnit.unit),numD g row n,g.width,(n:Int),PUnit.unit),PUnit.unit)) ?_ ⟨0,by omega,rfl⟩ ?_
    rotate_left
    · simp; omega
    rintro again _ ⟨n,hn,rfl⟩ ih
    dsimp only
    by_cases hl:(n:Int) < g.width
    · have:=ih _ ⟨n+1,by omega,rfl⟩ (by dsimp only; omega)
      have wn:IntKind.i64.wrap ((n:Int)+1)=(n:Int)+1:=zag (by omega) (by omega)
      rw [zt5] at this
      simp [hl,zuo g row n h (by omega) (by omega),zim,wn,show n+1≤4294967296 by omega]
      simpa using this
    · have hnw:g.width.toNat=n:=by omega
      simp only [hl,decide_false,hnw,Bool.false_eq_true,if_false]
      simp [zim,zt6]
theorem zAC:zaN [g.D,.int .i64 row]=some (.sl .own (zsq g row)):=by
  have hi:=zoN g row
  unfold Geo.D at*
  rw [zh4]
  unfold zdH
  rw [hi]
  unfold zsq
  cases h:zb5 g row
  · simp [zbQ]
  · obtain ⟨hk,h0,h1⟩:=zbE.1 h
    have hw:=zb2 hk
    have hd:=ok_d hk
    simp only [zai,zdp,zbQ,iD,zbF,Bool.not_true,Bool.false_eq_true,if_false,if_true]
    refine zgc (fun a=>(g.width - a.1.2.2.2.1).toNat) (fun _=>some (D.sl Tag.own (numD g row g.width.toNat))) (fun a=>∃ n:Nat,n≤g.width∧
      a=((row,(g.l,g.d,g.c,PUnit.unit),numD g row n,(n:Int),PUnit.unit),PUnit.unit)) ?_ ⟨0,by omega,rfl⟩ ?_
    rotate_left
    · simp; omega
    rintro again _ ⟨n,hn,rfl⟩ ih
    dsimp only
    rw [znO]
    by_cases hl:(n:Int) < g.width
    · have:=ih _ ⟨n+1,by omega,rfl⟩ (by dsimp only; omega)
      have wn:IntKind.i64.wrap ((n:Int)+1)=(n:Int)+1:=zag (by omega) (by omega)
      obtain ⟨w1,w2,w3,w4,w5⟩:=zy1 hk h0 h1 (show 0≤(n:Int) by omega) (by omega)
      rw [zt5] at this
      simp [hl,w1,w2,w3,w4,w5,zim,wn,show n+1≤4294967296 by omega,show g.c≠0 by omega]
      simpa using this
    · have hnw:g.width.toNat=n:=by omega
      simp only [hl,decide_false,hnw,Bool.false_eq_true,if_false,zai,iD,zbF]
      simp [zim,zt6]
end
section
variable (l d c row k:Int)
end
end Wf

namespace Wf
open Go Go.RowKit Go.Proofs
set_option linter.unusedSimpArgs false
set_option linter.unusedVariables false
theorem ziK (a n:Int) (h:1≤n) (h9:n < 1000000000):zab [.int .i64 a,.int .i64 n]=some (.int .i64 (a % n)):=zp7 a n h h9
theorem zp8 (t t':Tag) (l m:List Int) (hl:l.length < 1000000000):zae [.sl t (uL l),.sl t' (uL m)]=some (.bool (decide (l=m))):=by
  rw [zhn,zdd,zdd]
  unfold zdn
  by_cases hlen:l.length=m.length
  · simp only [zdT,hlen,bne_self_eq_false,zaA]
    refine zgc (fun a=>(m.length:Int).toNat - a.1.2.2.1.toNat) (fun _=>some (D.bool (decide (l=m))))
      (fun a=>∃ k:Nat,k≤m.length∧l.take k=m.take k∧a=((uL l,uL m,(k:Int),PUnit.unit),PUnit.unit)) ?_ ⟨0,by omega,by simp,rfl⟩ (by simp; omega)
    rintro again _ ⟨k,hk,he,rfl⟩ hag
    dsimp only
    rw [zdT,hlen]
    by_cases hkm:k < m.length
    · have h1:l[k]? =some l[k]:=List.getElem?_eq_getElem (by omega)
      have h2:m[k]? =some m[k]:=List.getElem?_eq_getElem hkm
      have hd:decide ((k:Int) < (m.length:Int))=true:=by simp; omega
      rw [hd,za5,zac (by omega),zas (by simpa using ziO h1),zbF,zac (by omega),zas (by simpa using ziO h2),zbF]
      by_cases hx:l[k]=m[k]
      · have hb:(l[k] != m[k])=false:=by simp [hx]
        rw [hb,zaA,zaQ,zag (by omega) (by omega)]
        exact hag _ ⟨k+1,by omega,by rw [List.take_add_one,List.take_add_one,he,h1,h2,hx],rfl⟩ (by simp; omega)
      · have hb:(l[k] != m[k])=true:=by simp [hx]
        rw [hb,za5]
        congr 2
        symm
        simp
        intro e
        subst e
        exact hx rfl
    · have hd:decide ((k:Int) < (m.length:Int))=false:=by simp; omega
      rw [hd,zaA]
      have:l=m:=by
        have e1:l.take k=l:=List.take_of_length_le (by omega)
        have e2:m.take k=m:=List.take_of_length_le (by omega)
        rw [←e1,←e2,he]
      simp [this]
  · have hb:((l.length:Int) != (m.length:Int))=true:=by simp; omega
    simp only [zdT,hb,za5]
    congr 2
    symm
    simp
    intro e; subst e; exact hlen rfl
theorem zfj {R:Type} (a:Int) {b:List Int} (h:b.length=32) (f:LfT [.int .i64,.arr 32]→Option R):zay [.int .i64,.arr 32] (.int .i64 a::uL b) f=f (a,uL b,()):=by
  have e1:(uL b).take 32=uL b:=List.take_of_length_le (by simp [h])
  have e2:(uL b).drop 32=[]:=List.drop_of_length_le (by simp [h])
  simp [zay,zdx,Lf.get,h,e1,e2]
theorem znP {R:Type} {b:List Int} (h:b.length=32) (f:LfT [.arr 32]→Option R):zay [.arr 32] (uL b) f=f (uL b,()):=by
  have e1:(uL b).take 32=uL b:=List.take_of_length_le (by simp [h])
  have e2:(uL b).drop 32=[]:=List.drop_of_length_le (by simp [h])
  simp [zay,zdx,Lf.get,h,e1,e2]
theorem zDG {T:Tb} {i:Nat} {s:DS} (h:T[i]? =some s.cells) (hs:s.Ok) (a:Int):zaU [.h kD i 0,.int .i64 a] [T]=some (Ans.mk (.int .i64 (s.may a)) [] []):=by
  rw [zmG]
  unfold zgy DS.may
  rw [zas h,zas (ztW hs.len),zdp]
  cases hf:s.failed
  · by_cases h0:a < 0
    · simp [zbQ,h0]
    · by_cases h1:52≤a
      · simp [zbQ,h0,h1]
      · simp [zbQ,h0,h1]
  · simp [zbQ]
theorem zAD {T:Tb} {i:Nat} {s:DS} (h:T[i]? =some s.cells) (hs:s.Ok):zbh [.h kD i 0] [T]=some (Ans.mk (.bool s.failed) [] []):=by
  rw [zjS]
  unfold zeN
  rw [zas h,zas (ztW hs.len),zdp]
theorem zvv {b:List Int} (h:b.length≤4294967296) (tg:Tag):zaI [.sl tg (uL b)]=some (.sl .own (uL b)):=by
  cases b with
  | nil=>exact zf7 tg
  | cons n b=>
    show zaI [.sl tg (.int .u8 n::uL b)]=some (.sl .own (.int .u8 n::uL b))
    rw [zgE,zdd]
    unfold zc3
    have h1:(D.lent (.int .u8 n)::uL b)=uL (n::b):=by simp [uL]
    rw [h1]
    simp only [zdT,zAh,zgr,zac,h]
    simp [uL]
theorem zBg (w:Int×List Int):(wD w).free=true:=by
  simp only [wD,D.free,D.freeL,zoK,Bool.and_self]
theorem zBh (w:Int×List Int):(wD w).lent=wD w:=by
  simp only [wD,D.lent,D.lentL,zdd]
theorem zza (p:List (Int×List Int)):D.lentL (p.map wD)=p.map wD:=by
  induction p with
  | nil=>rfl
  | cons w p ih=>simp [ih,zBh]
theorem zCt {p:List (Int×List Int)} (h:∀ w∈p,Sec w.2):zeA 33 (p.map wD)=true:=by
  simp only [zeA,List.all_map,List.all_eq_true]
  intro w hw
  have:=(h w hw).len
  simp [wD,D.width,D.isAgg,D.cell,this]
theorem zCu {p:List (Int×List Int)} (hp:∀ w∈p,Sec w.2) (h:p.length≤4294967296) (tg:Tag):zan [.sl tg (p.map wD)]=some (.sl .own (p.map wD)):=by
  cases p with
  | nil=>exact zdt tg
  | cons w p=>
    have hok:=zCt hp
    rw [List.map_cons] at hok ⊢
    rw [zdE,zza,zBh]
    unfold zbX
    have hf:(wD w::p.map wD).all D.free=true:=by
      rw [←List.map_cons (f:=wD),List.all_map,List.all_eq_true]; intro w _; exact zBg w
    have hl:(wD w::p.map wD).length≤4294967296:=by simpa using h
    simp only [zac,hl,hok,hf]
theorem zBi {p:List (Int×List Int)} {k:Nat} {w:Int×List Int} (h:p[k]? =some w):(p.map wD)[k]? =some (.agg (.int .i64 w.1::uL w.2)):=by simp [h,wD]
theorem zup (l:List D):D.width (.agg l)=l.length:=rfl
theorem zDH {T:Tb} {i:Nat} {s:DS} (h:T[i]? =some s.cells) (hs:s.Ok) (hn:s.pend.length≤1000000) (a:Int):
    zbA [.h kD i 0,.int .i64 a] [T]=some (Ans.mk (.tup [.sl .own (uL (s.read a).1),.int .i64 (s.read a).2]) [] []):=by
  rw [zlP]
  unfold zfE DS.read
  rw [zDG h hs a,zai,zea,zea,zbF]
  by_cases hm:s.may a=0
  · rw [hm]
    have hb:((0:Int) != 0)=false:=rfl
    rw [hb,zaA,if_neg (by simp)]
    have ha:0≤a∧a < 52:=by
      unfold DS.may at hm
      split at hm
      · omega
      · split at hm<;>omega
    have hp:=zyS (s:=s) hs.len
    have hbase:=zyT (s:=s) hs.len (a:=a.toNat) (by omega)
    have hsec:=zAi hs (a:=a.toNat) (by omega)
    rw [zac ha.1,zac (by omega),zas h,zac (by rw [zri hs.len]; omega),Nat.zero_add,hbase]
    rw [zac (zsm _),zac (by simp [hsec.len]),zac (by simp [hsec.len]),zas h,zas hp,zbW,zas h,zas hp,zbW,zac (by simp)]
    rw [znP hsec.len,List.length_map]
    refine zcu (R:=Ans) (α:=(Int×(List D×PUnit)×(Nat×Nat×Nat)×Int×Int×PUnit)×List (List D)×PUnit)
      (fun k=>((a,(uL (look (s.pend.take k) a (s.base a.toNat)),PUnit.unit),(i,0,s.pend.length),(s.pend.length:Int),(k:Int),PUnit.unit),T,PUnit.unit)) s.pend.length (by omega) ?_ ?_
    · intro again k hk
      dsimp only
      obtain ⟨w,hw⟩:∃ w,s.pend[k]? =some w:=⟨_,List.getElem?_eq_getElem hk⟩
      have hws:=hs.ps w (List.mem_of_getElem? hw)
      have hd:decide ((k:Int) < (s.pend.length:Int))=true:=by simp; omega
      have hlk:(look (s.pend.take k) a (s.base a.toNat)).length=32:=zwp (fun w hw=>(hs.ps w (List.mem_of_mem_take hw)).len) hsec.len
      rw [hd,za5,zas h,zas hp,zbW,zac (by omega),zac (by simpa using hk),zas h,zas hp,zbW,zas (by simpa using zBi hw),zjy,zfj _ hws.len]
      dsimp only
      simp only [List.append_nil,List.cons_append,List.nil_append,zup,List.length_cons,zdT,hws.len,hlk,zac]
      by_cases hwa:w.1=a
      · have hb:(w.1 == a)=true:=by simp [hwa]
        rw [hb,za5,List.drop_succ_cons,List.drop_zero]
        have et:(uL w.2).take 32=uL w.2:=List.take_of_length_le (by simp [hws.len])
        rw [et,zac (by omega),zac (by simp [hws.len]),zac (by simp [hws.len]),zac (by omega),zaQ,zag (by omega) (by omega),zA3 (by simp [hws.len])]
        have e3:(uL (look (s.pend.take k) a (s.base a.toNat))).take 0++uL w.2++(uL (look (s.pend.take k) a (s.base a.toNat))).drop (0+32)=uL w.2:=by
          rw [List.drop_of_length_le (by simp [hlk])]; simp
        rw [e3,znP hws.len,ztX hw,if_pos hwa]
        rfl
      · have hb:(w.1 == a)=false:=by simp [hwa]
        rw [hb,zaA,zaQ,zag (by omega) (by omega),znP hlk,ztX hw,if_neg hwa]
        rfl
    · intro again
      have hlk:=zwp (p:=s.pend) (a:=a) (fun w hw=>(hs.ps w hw).len) hsec.len
      have hd:decide ((s.pend.length:Int) < (s.pend.length:Int))=false:=by simp
      dsimp only
      rw [hd,zaA,List.take_length]
      simp only [List.append_nil,zdT,hlk,Nat.le_refl,zac]
      have ec:cut 0 32 (uL (look s.pend a (s.base a.toNat)))=uL (look s.pend a (s.base a.toNat)):=by
        have:=zc0 (uL (look s.pend a (s.base a.toNat)))
        rw [zdT,hlk] at this; exact this
      rw [ec,zvv (by rw [hlk]; omega),zai,zbW]
      simp
      rfl
  · have hb:(s.may a != 0)=true:=by simp [hm]
    rw [hb,za5,if_pos hm]
    rfl
theorem zEz {T:Tb} {i:Nat} {s:DS} (h:T[i]? =some s.cells) (hs:s.Ok) (a:Int) (tg:Tag) (b:List Int):
    zbK [.h kD i 0,.int .i64 a,.sl tg (uL b)] [T]=some (Ans.mk (.tup [wD (putR s a b).1,.int .i64 (putR s a b).2]) [] []):=by
  rw [zmI,zdd]
  unfold zgz putR
  rw [zDG h hs a,zai,zea,zea,zbF]
  by_cases hm:s.may a=0
  · rw [hm]
    have hb:((0:Int) != 0)=false:=rfl
    rw [hb,zaA,if_neg (by simp)]
    by_cases hl:b.length=32
    · have hb2:(((uL b).length:Int) != 32)=false:=by simp [hl]
      rw [hb2,zaA,if_neg (by simp [hl]),zac (zwo _),zac (by simp [hl])]
      have et:(D.int .i64 a::uL b).take 33=.int .i64 a::uL b:=List.take_of_length_le (by simp [hl])
      simp only [List.append_nil,List.cons_append,List.nil_append,List.length_cons,zdT,hl,List.drop_zero,et]
      rw [zac (by omega),zfj _ hl]
      dsimp only
      simp only [zdT,hl,Nat.le_refl,zac,List.take_of_length_le,et]
      rw [zfj _ hl]
      dsimp only
      rw [zac (by simp only [D.free,D.freeL,zoK,Bool.and_self])]
      rfl
    · have hb2:(((uL b).length:Int) != 32)=true:=by simp; omega
      rw [hb2,za5,if_pos hl]
      rfl
  · have hb:(s.may a != 0)=true:=by simp [hm]
    rw [hb,za5,if_pos hm]
    rfl
theorem zCv (w:Int×List Int) (hw:Sec w.2) (c:Int):zaB [wD w,.at_ (.int .i64 c)]=some (.bool (w.1 == c)):=by
  unfold wD
  rw [zix]
  unfold zdZ
  rw [show D.lentL (.int .i64 w.1::uL w.2)=.int .i64 w.1::uL w.2 by simp [zdd],zfj _ hw.len]
theorem zvw {p:List (Int×List Int)} (hp:∀ w∈p,Sec w.2) {c:Int} (hc:∀ w∈p,w.1≠c) (hn:p.length≤1000000) (tg:Tag):
    zam [.sl tg (p.map wD),.fn ID.disk_Disk_Damage_1 [] [.at_ (.int .i64 c)]]=some (.int .i64 (-1)):=by
  rw [zcE,zza]
  unfold zbw
  rw [List.length_map]
  refine zcu (R:=D) (α:=(List D×Int×Int×Int×PUnit)×PUnit) (fun k=>((p.map wD,c,(p.length:Int),(k:Int),PUnit.unit),PUnit.unit)) p.length (by omega) ?_ ?_
  · intro again k hk
    dsimp only
    obtain ⟨w,hw⟩:∃ w,p[k]? =some w:=⟨_,List.getElem?_eq_getElem hk⟩
    have hws:=hp w (List.mem_of_getElem? hw)
    have hd:decide ((k:Int) < (p.length:Int))=true:=by simp; omega
    rw [hd,za5,zac (by omega),zas (by simpa using zBi hw),zjy,zfj _ hws.len]
    dsimp only
    simp only [List.append_nil,List.cons_append,List.nil_append,zup,List.length_cons,zdT,hws.len,zac]
    rw [zfj _ hws.len]
    dsimp only
    rw [zdT,hws.len,zac (by omega)]
    have:=zCv w hws c
    unfold wD at this
    rw [this,zai,zdp]
    have hb:(w.1 == c)=false:=by simp [hc w (List.mem_of_getElem? hw)]
    rw [hb,zaA,zaQ,zag (by omega) (by omega)]
    rfl
  · intro again
    have hd:decide ((p.length:Int) < (p.length:Int))=false:=by simp
    dsimp only
    rw [hd,zaA]
theorem zuq {p:List (Int×List Int)} (hp:∀ w∈p,Sec w.2) {c:Int} (hc:∀ w∈p,w.1≠c) (hn:p.length≤1000000):
    zak [.sl .own (p.map wD),.fn ID.disk_Disk_Damage_1 [] [.at_ (.int .i64 c)]] []=some (Ans.mk (.sl .own (p.map wD)) [] []):=by
  rw [zcA]
  unfold zbn
  rw [zac (by omega),zc0,zvw hp hc hn,zai,zbF]
  have hb:((-1:Int) == -1)=true:=rfl
  have hf:(p.map wD).all D.free=true:=by rw [List.all_map,List.all_eq_true]; intro w _; exact zBg w
  rw [hb,za5,zac (by rfl),zac hf]
theorem zur (p:List (Int×List Int)):zdz (p.map wD)=true:=by
  simp only [zdz,List.all_map,List.all_eq_true]
  intro w _
  simp [wD,D.flatEl,D.flat,uL]
theorem zAE {p:List (Int×List Int)} (h:∀ w∈p,Sec w.2):zhF 33 (p.map wD)=true:=by
  simp only [zhF,List.all_map,List.all_eq_true]
  intro w hw
  have:=(h w hw).len
  simp [wD,D.width,this]
theorem zAF {T:Tb} {i:Nat} {s:DS} (h:T[i]? =some s.cells) (hs:s.Ok) (hn:s.pend.length≤1000000) {a:Int} (hc:∀ w∈s.pend,w.1≠a) (tg:Tag) (b:List Int):
    zbg [.h kD i 0,.int .i64 a,.sl tg (uL b)] [T]=some (Ans.mk (.int .i64 (s.damage a b).1) [] [T.set i (s.damage a b).2.cells]):=by
  rw [zjN,zdd]
  unfold zeL DS.damage
  have hpl:=zAj s a b
  rw [zEz h hs,zai,zea,zea,zmo,zdC,zdC,zer]
  dsimp only
  unfold wD
  rw [zjy,zfj _ hpl,zbF]
  dsimp only
  rw [zac (by simp [hpl])]
  by_cases he:(putR s a b).2=0
  · obtain ⟨h1,h2,h3,h4,h5⟩:=zyV he
    have hb:((putR s a b).2 != 0)=false:=by simp [he]
    rw [hb,zaA,if_pos he,h3]
    try rw [he]
    dsimp only
    have et:(uL b).take 32=uL b:=List.take_of_length_le (by simp [h2])
    simp only [List.append_nil,List.cons_append,List.nil_append,List.length_cons,zdT,h2,List.drop_succ_cons,List.drop_zero,et,zsm,Nat.zero_add]
    have hlen:=hs.len
    have hset:zbk T i (a.toNat*32) (uL b)=T.set i (s.setSec a.toNat b).cells:=by
      rw [zil h,zdT,h2,zDx hlen (by omega)]
    have hlen2:=zrj (s:=s) hlen (a:=a.toNat) (by omega) h2
    have hU:=zwh h (s.setSec a.toNat b).cells
    have hp:=zyS hlen2
    have hpe:(s.setSec a.toNat b).pend=s.pend:=rfl
    rw [zac (by first | trivial | omega),zac (by first | trivial | omega),zac h4,zac (by first | trivial | omega),zas h,zac (by rw [zri hlen]; omega),zac (by first | trivial | omega),zac (by first | trivial | rfl)]
    rw [zyT hlen (by first | trivial | omega),zac (zsm _),zpC,hset,zas hU,zas hp,zbW,zas hU,zas hp,zbW,zac (by first | trivial | omega),zc0,hpe]
    rw [zCu hs.ps (by first | trivial | omega),zai,zbW,zac (by first | trivial | rfl),zac (zur _),zuq hs.ps hc hn,zai,zea,zea,zbW,zac (by first | trivial | omega),zas hU,zac (by rw [zri hlen2]; omega),
      zac (by first | trivial | rfl),zac (zur _),zac (zAE hs.ps),zpC]
    have h6:zbk (T.set i (s.setSec a.toNat b).cells) i 1664 [.sl .own (s.pend.map wD)]=T.set i (s.setSec a.toNat b).cells:=by
      rw [zil hU]
      have:=zxd (s:=s.setSec a.toNat b) hlen2 s.pend
      rw [show (1664:Nat)+[D.sl .own (s.pend.map wD)].length=1665 from rfl,this,List.set_set]
      rfl
    rw [h6,show s.mayW a b=0 from he]
  · have hb:((putR s a b).2 != 0)=true:=by simp [he]
    rw [hb,za5,if_neg he]
    have:T.set i s.cells=T:=by
      apply List.ext_getElem?
      intro j
      rw [List.getElem?_set]
      split
      · rename_i e; subst e; rw [h]; simp [zaT h]
      · rfl
    rw [this]
theorem zAG (T:Tb):znt T=some (Ans.mk (.h kD T.length 0) [] [T++[List.replicate 1664 (D.int .u8 0)++[.sl .own [],.bool false]]]):=by kernel_rfl
theorem zEA (T:Tb):zcJ [] [T]=some (Ans.mk (.h kD T.length 0) [] [T++[DS.new.cells]]):=by
  rw [zsw]
  have e:DS.new.cells=List.replicate 1664 (D.int .u8 0)++[.sl .own [],.bool false]:=by
    show uL (List.replicate 1664 0)++[.sl .own [],.bool false]=_
    rw [←zoa]
  rw [e]
  exact zAG T
section
variable {T:Tb} {i:Nat} {s:DS}
theorem zvx {β:Type} {l:List β} {n:Nat} (h:l.length=n):cut 0 n l=l:=by subst h; exact zc0 l
theorem zDI (l:List Int):(uL l).map D.own0=uL l:=by
  unfold uL; rw [List.map_map]; apply List.map_congr_left; intro n _; rfl
theorem zDJ (h:T[i]? =some s.cells) (hs:s.Ok):zbz [.h kD i 0] [T]=some (Ans.mk (.tup []) [] [T.set i DS.dead.cells]):=by
  rw [zlM]
  unfold zfC
  have e:List.map D.own0 (List.set (List.reverse ([D.bool false,D.sl Tag.nil []]++List.replicate 1664 (D.int IntKind.u8 (0:Int)))) 1665 (D.bool true))=DS.dead.cells:=by
    rw [List.reverse_append,List.reverse_replicate]
    show List.map D.own0 (List.set (List.replicate 1664 (D.int IntKind.u8 (0:Int))++[D.sl Tag.nil [],D.bool false]) 1665 (D.bool true))=uL (List.replicate 1664 0)++[.sl .own [],.bool true]
    rw [List.set_append_right _ _ (by rw [List.length_replicate]; omega),List.length_replicate,List.map_append,zoa,zDI]
    rfl
  have hl:DS.dead.cells.length=1666:=zri (s:=DS.dead) (List.length_replicate ..)
  have hset:zbk T i 0 DS.dead.cells=T.set i DS.dead.cells:=by
    rw [zil h,hl]
    rw [List.take_zero,List.nil_append,List.drop_of_length_le (by rw [zri hs.len]; omega),List.append_nil]
  rw [e,hset,zas h,zri hs.len]
  simp
end
end Wf

namespace Wf
open Go Go.RowKit Go.Proofs
set_option linter.unusedSimpArgs false
set_option linter.unusedVariables false
section
variable {T0 T1:Tb} {b:Nat} {idx:List Nat} {B:Ben}
theorem At.ds (h:At T0 T1 b idx B) (hw:B.w≤1000000) (d:Int):(B.dk d).Ok∧(B.dk d).pend.length≤1000000:=by
  have:=zxe h.ok d
  exact ⟨this.1,by have:=this.2; omega⟩
theorem zzb (h:At T0 T1 b idx B):zaO [.h kB b 0] [P0 T0 b idx B]=some (Ans.mk (.int .i64 B.n) [] []):=by
  rw [zkY]
  unfold zff
  simp [zas h.get0,bRow,h.len,Ben.n]
theorem b_is (h:At T0 T1 b idx B) (d:Int):zal [.h kB b 0,.int .i64 d] [P0 T0 b idx B]=some (Ans.mk (.bool (B.is d)) [] []):=by
  rw [zlI]
  unfold zfB Ben.is Ben.n
  by_cases h0:0≤d
  · simp [zas h.get0,bRow,h0,h.len]
  · simp [h0]
theorem zwt (h:At T0 T1 b idx B) (d:Int):zaw [.h kB b 0,.int .i64 d] [P0 T0 b idx B,P1 T1 idx B]=some (Ans.mk (.bool (B.failed d)) [] []):=by
  rw [ziC]
  unfold zd2 Ben.failed
  cases hd:B.is d
  · simp [b_is h d,hd]
  · obtain ⟨h0,h1⟩:=zhK.1 hd
    have h1':d.toNat < idx.length:=by have:=h.len; unfold Ben.n at h1; omega
    simp (disch:=first | omega | assumption | (simp; done) | fail) [b_is h d,hd,zas h.get0,bRow,h0,h1',zas (h.hd hd),D.isAgg,D.width,D.cell,zAD (h.get1 hd) (zxe h.ok d).1]
theorem zDK (h:At T0 T1 b idx B) (d:Int):zbt [.h kB b 0,.int .i64 d] [P0 T0 b idx B]=some (Ans.mk (.int .i64 (B.may d)) [] []):=by
  rw [zk0]
  unfold zfg Ben.may
  cases hd:B.is d
  · simp [b_is h d,hd]
  · cases hw:B.down<;>simp [b_is h d,hd,zas h.get0,bRow,hw]
theorem zzc (h:At T0 T1 b idx B) (hw:B.w≤1000000) (d a:Int):zaJ [.h kB b 0,.int .i64 d,.int .i64 a] [P0 T0 b idx B,P1 T1 idx B]=some (Ans.mk (.tup [.sl .own (uL (B.read d a).1),.int .i64 (B.read d a).2]) [] []):=by
  rw [zjY]
  unfold zeQ Ben.read
  by_cases hm:B.may d=0
  · obtain ⟨hd,hdn⟩:=may0.1 hm
    obtain ⟨h0,h1⟩:=zhK.1 hd
    have h1':d.toNat < idx.length:=by have:=h.len; unfold Ben.n at h1; omega
    have hu:=zgr ((B.dk d).read a).1
    simp only [List.all_eq_true] at hu
    simp (disch:=first | omega | assumption | (simp; done) | fail) [zDK h d,hm,zas h.get0,bRow,h0,h1',zas (h.hd hd),D.isAgg,D.width,D.cell,zDH (h.get1 hd) (h.ds hw d).1 (h.ds hw d).2]
  · simp [zDK h d,hm]; rfl
theorem zDL (h:At T0 T1 b idx B) (tg:Tag) (live:List Bool) {d:Int} (h0:0≤d):zbB [.h kB b 0,.sl tg (live.map D.bool),.int .i64 d] [P0 T0 b idx B,P1 T1 idx B]=some (Ans.mk (.bool (B.up live d)) [] []):=by
  have hl:D.lentL (live.map D.bool)=live.map D.bool:=by
    induction live with
    | nil=>rfl
    | cons x l ih=>simp [ih]
  rw [zql,hl]
  unfold zlN Ben.up
  by_cases h1:d < B.n
  · by_cases h2:d < live.length
    · have e:live[d.toNat]? =some (live[d.toNat]'(by omega)):=List.getElem?_eq_getElem (by omega)
      have e':(live.map D.bool)[d.toNat]? =some (.bool (live[d.toNat]'(by omega))):=by simp [e]
      cases hv:live[d.toNat]'(by omega)
      · rw [hv] at e e'
        simp [zzb h,h1,h2,h0,zas e',e,hv]
      · rw [hv] at e e'
        simp [zzb h,h1,h2,h0,zas e',e,zwt h d,hv]
    · have e:live[d.toNat]? =none:=List.getElem?_eq_none (by omega)
      simp [zzb h,h1,h2,e]
  · simp [zzb h,h1]
theorem zDM (h:At T0 T1 b idx B) (d:Int):
    za6 [.h kB b 0,.int .i64 d] [P0 T0 b idx B,P1 T1 idx B]=some (Ans.mk (.int .i64 (B.fail d).1) [] [P1 T1 idx (B.fail d).2]):=by
  rw [zjQ]
  unfold zeM Ben.fail
  cases hd:B.is d
  · simp [b_is h d,hd]
  · obtain ⟨h0,h1⟩:=zhK.1 hd
    have h1':d.toNat < idx.length:=by have:=h.len; unfold Ben.n at h1; omega
    simp (disch:=first | omega | assumption | (simp; done) | fail) [b_is h d,hd,zas h.get0,bRow,h0,h1',zas (h.hd hd),D.isAgg,D.width,D.cell,zDJ (h.get1 hd) (zxe h.ok d).1,h.set1 hd]
theorem zAH (h:At T0 T1 b idx B) (hw:B.w≤1000000) (d:Int) {a:Int} (hc:∀ w∈(B.dk d).pend,w.1≠a) (tg:Tag) (x:List Int):
    za2 [.h kB b 0,.int .i64 d,.int .i64 a,.sl tg (uL x)] [P0 T0 b idx B,P1 T1 idx B]=some (Ans.mk (.int .i64 (B.damage d a x).1) [] [P1 T1 idx (B.damage d a x).2]):=by
  rw [ziz,zdd]
  unfold zd0 Ben.damage
  cases hd:B.is d
  · simp [b_is h d,hd]
  · obtain ⟨h0,h1⟩:=zhK.1 hd
    obtain ⟨ho,hp⟩:=h.ds hw d
    have h1':d.toNat < idx.length:=by have:=h.len; unfold Ben.n at h1; omega
    simp (disch:=first | omega | assumption | (simp; done) | fail) [b_is h d,hd,zas h.get0,bRow,h0,h1',zas (h.hd hd),D.isAgg,D.width,D.cell,zAF (h.get1 hd) ho hp hc,h.set1 hd]
end
end Wf

namespace Wf
open Go Go.RowKit Go.Proofs
set_option linter.unusedSimpArgs false
set_option linter.unusedVariables false
theorem gf_double (a:Int):zaX [.int .u8 a]=some (.int .u8 (dbl a)):=by
  rw [zqq]
  unfold zlS dbl
  by_cases h:128≤a
  · simp [h]
  · simp [h]
theorem zDN (a b:Int) (h0:0≤b) (h1:b < 256):zec [.int .u8 a,.int .u8 b]=some (.int .u8 (mul8 a b)):=by
  rw [zvn]
  unfold zsA
  refine zgc (fun x=>x.1.2.1.toNat) (fun _=>some (D.int .u8 (mul8 a b)))
    (fun x=>∃ (n:Nat) (a' b' o:Int),0≤b'∧b' < 2 ^ n∧n≤8∧mulA n a' b' o=mul8 a b∧x=((a',b',o,PUnit.unit),PUnit.unit)) ?_ ⟨8,a,b,0,h0,h1,Nat.le_refl _,rfl,rfl⟩ (by simp; omega)
  rintro again _ ⟨n,a',b',o,p0,p1,p2,p3,rfl⟩ hag
  dsimp only
  by_cases hb:b' > 0
  · have hd:decide (b' > 0)=true:=by simp [hb]
    rw [hd,za5,zaQ]
    cases n with
    | zero=>simp at p1; omega
    | succ n=>
      have hdiv:b'.fdiv 2=b' / 2:=Int.fdiv_eq_ediv_of_nonneg _ (by omega)
      have hlt:b' / 2 < 2 ^ n:=by
        have:(2:Int) ^ (n+1)=2 ^ n*2:=Int.pow_succ ..
        omega
      by_cases hone:bits .and .u8 b' 1=1
      · have hbo:(bits .and .u8 b' 1 == 1)=true:=by simp [hone]
        rw [hbo,za5,zaQ,gf_double,zai,zbF,zaQ,hdiv]
        refine hag _ ⟨n,_,_,_,by omega,hlt,by omega,?_,rfl⟩ (by simp; omega)
        rw [←p3]
        show _=mulA n (dbl a') (b' / 2) (if bits .and .u8 b' 1=1 then xor8 o a' else o)
        rw [if_pos hone]
      · have hbo:(bits .and .u8 b' 1 == 1)=false:=by simp [hone]
        rw [hbo,zaA,gf_double,zai,zbF,zaQ,hdiv]
        refine hag _ ⟨n,_,_,_,by omega,hlt,by omega,?_,rfl⟩ (by simp; omega)
        rw [←p3]
        show _=mulA n (dbl a') (b' / 2) (if bits .and .u8 b' 1=1 then xor8 o a' else o)
        rw [if_neg hone]
  · have hd:decide (b' > 0)=false:=by simp [hb]
    have:b'=0:=by omega
    subst this
    rw [hd,zaA,←p3,zyF]
theorem zAI {a b:List Int} {k:Nat} {x y:Int} (h1:a[k]? =some x) (h2:b[k]? =some y):(List.zipWith xor8 a b).take (k+1)=(List.zipWith xor8 a b).take k++[xor8 x y]:=by
  rw [List.take_add_one]
  congr 1
  simp [List.getElem?_zipWith,h1,h2]
theorem zhb (t t':Tag) (a b:List Int) (ha:a.length < 100000):zaF [.sl t (uL a),.sl t' (uL b)]=some (.sl .own (uL (addL a b))):=by
  rw [zsB,zdd,zdd]
  unfold znG addL
  by_cases hl:a.length=b.length
  · have hb:(((uL a).length:Int) != ((uL b).length:Int))=false:=by simp [hl]
    rw [hb,zaA,if_pos hl]
    let st:Nat→(List D×List D×List D×Int×Int×PUnit)×PUnit:=fun k=>((uL b,uL ((List.zipWith xor8 a b).take k),uL a,(a.length:Int),(k:Int),PUnit.unit),PUnit.unit)
    have hst:st 0=((uL b,[],uL a,((uL a).length:Int),0,PUnit.unit),PUnit.unit):=by simp [st,uL]
    rw [←hst]
    refine zb0 st a.length ha ?_ ?_
    · intro again k hk
      dsimp only [st]
      have h1:a[k]? =some a[k]:=List.getElem?_eq_getElem hk
      have h2:b[k]? =some (b[k]'(by omega)):=List.getElem?_eq_getElem (by omega)
      have hd:decide ((k:Int) < (a.length:Int))=true:=by simp; omega
      rw [hd,za5,zac (by omega),zas (by simpa using ziO h1),zbF,zac (by omega),zas (by simpa using ziO h2),zbF,zaQ,zac (by simp; omega),zac (by rfl),zaQ,zag (by omega) (by omega),zac (by simp)]
      rw [zAI h1 h2,←zyQ]
      rfl
    · intro again
      dsimp only [st]
      have hd:decide ((a.length:Int) < (a.length:Int))=false:=by simp
      have ht:(List.zipWith xor8 a b).take a.length=List.zipWith xor8 a b:=List.take_of_length_le (by simp; omega)
      rw [hd,zaA,zac (by rfl),zac (zgr _),ht]
  · have hb:(((uL a).length:Int) != ((uL b).length:Int))=true:=by simp; omega
    rw [hb,za5,if_neg hl]
    rfl
theorem zh6 (t:Tag) (a:List Int) (ha:a.length < 100000) {f:Int} (h0:0≤f) (h1:f < 256):zaD [.sl t (uL a),.int .u8 f]=some (.sl .own (uL (a.map (mul8 · f)))):=by
  rw [zpV,zdd]
  unfold zj4
  let st:Nat→(Int×List D×List D×Int×Int×PUnit)×PUnit:=fun k=>((f,uL ((a.map (mul8 · f)).take k),uL a,(a.length:Int),(k:Int),PUnit.unit),PUnit.unit)
  have hst:st 0=((f,[],uL a,((uL a).length:Int),0,PUnit.unit),PUnit.unit):=by simp [st,uL]
  rw [←hst]
  refine zb0 st a.length ha ?_ ?_
  · intro again k hk
    dsimp only [st]
    have h2:a[k]? =some a[k]:=List.getElem?_eq_getElem hk
    have hd:decide ((k:Int) < (a.length:Int))=true:=by simp; omega
    rw [hd,za5,zac (by omega),zas (by simpa using ziO h2),zbF,zDN _ _ h0 h1,zai,zbF,zac (by simp; omega),zac (by rfl),zaQ,zag (by omega) (by omega),zac (by simp)]
    have:(a.map (mul8 · f)).take (k+1)=(a.map (mul8 · f)).take k++[mul8 a[k] f]:=by rw [List.take_add_one]; simp [h2]
    rw [this,←zyQ]
    rfl
  · intro again
    dsimp only [st]
    have hd:decide ((a.length:Int) < (a.length:Int))=false:=by simp
    have ht:(a.map (mul8 · f)).take a.length=a.map (mul8 · f):=List.take_of_length_le (by simp)
    rw [hd,zaA,zac (by rfl),zac (zgr _),ht]
abbrev Part:=Tag×List Int
def pL (ps:List Part):List D:=ps.map fun x=>.sl x.1 (uL x.2)
def zb7 (t:Tag) (l:List Int):Tag:=match t,l with
  | .nil,_=>.nil
  | .nn,[]=>.nn
  | .nul,[]=>.nul
  | _,_=>.lent
theorem zCw (t:Tag) (l:List Int):D.lent (.sl t (uL l))=.sl (zb7 t l) (uL l):=by
  have h:=zdd l
  cases l with
  | nil=>cases t<;>rfl
  | cons n l=>
    have e:uL (n::l)=.int .u8 n::uL l:=rfl
    rw [e] at h ⊢
    cases t<;>simp only [D.lent,h,zb7]<;>simp [D.lentL,D.lent,zdd]
theorem zdh (ps:List Part):D.lentL (pL ps)=pL (ps.map fun x=>(zb7 x.1 x.2,x.2)):=by
  unfold pL
  rw [zpf,List.map_map,List.map_map]
  apply List.map_congr_left
  intro x _
  exact zCw x.1 x.2
@[simp] theorem zwu (ps:List Part):(pL ps).length=ps.length:=by simp [pL]
theorem zcX {ps:List Part} {k:Nat} {x:Part} (h:ps[k]? =some x):(pL ps)[k]? =some (.sl x.1 (uL x.2)):=by simp [pL,h]
theorem zzd (ps:List Part) (t:Tag) (l:List Int):pL ps++[.sl t (uL l)]=pL (ps++[(t,l)]):=by simp [pL]
theorem zus (ps:List Part) (i:Nat) (t:Tag) (l:List Int):(pL ps).set i (.sl t (uL l))=pL (ps.set i (t,l)):=by simp [pL,List.map_set]
def Part.free (x:Part):Bool:=x.1=.fresh || x.1=.full || x.1=.nil
theorem zp9 {ps:List Part} (h:∀ x∈ps,x.free=true):(pL ps).all D.free=true:=by
  unfold pL
  rw [List.all_map,List.all_eq_true]
  intro x hx
  have:=h x hx
  obtain ⟨t,l⟩:=x
  cases t<;>first | (exact zoK l) | (exact absurd this (by simp [Part.free]))
theorem zut (k:Nat) (hk:k < 255):zaR [.int .i64 k]=some (.int .u8 (pow8 k)):=by
  rw [zpW]
  unfold zoM
  have e1:Int.tmod (k:Int) 255=k:=by rw [Int.tmod_eq_emod_of_nonneg (by omega),Int.emod_eq_of_lt (by omega) (by omega)]
  have e2:Int.tmod ((k:Int)+255) 255=k:=by
    rw [Int.tmod_eq_emod_of_nonneg (by omega),Int.add_emod_right,Int.emod_eq_of_lt (by omega) (by omega)]
  rw [zaQ,e1,zaQ,zag (by omega) (by omega),zaQ,e2]
  refine zb0 (fun j=>((pow8 j,(k:Int),(j:Int),PUnit.unit),PUnit.unit)) k (by omega) ?_ ?_
  · intro again j hj
    dsimp only
    have hd:decide ((j:Int) < (k:Int))=true:=by simp; omega
    rw [hd,za5,gf_double,zai,zbF,zaQ,zag (by omega) (by omega)]
    rfl
  · intro again
    have hd:decide ((k:Int) < (k:Int))=false:=by simp
    dsimp only
    rw [hd,zaA]
theorem zBj (tg:Tag) {ps:List Part} {n:Nat} (hn:n < 100000) (h0:0 < ps.length) (h1:ps.length < 255) (h:∀ x∈ps,x.2.length=n):
    zcp [.sl tg (pL ps)]=some (.sl .own (uL (sumP n (ps.map (·.2))))):=by
  rw [zvo,zdh]
  unfold zsF
  have hsum:∀ {qs:List Part},0 < qs.length→qs.length < 255→(∀ x∈qs,x.2.length=n)→∀ tg,zbG [.sl tg (pL qs),.fn ID.synd_P_1 [] []]=some (.sl .own (uL (sumP n (qs.map (·.2))))):=by
    intro qs h0 h1 h tg
    rw [zou,zdh]
    have hl':∀ x∈(qs.map fun x=>(zb7 x.1 x.2,x.2)),x.2.length=n:=by
      intro x hx; obtain ⟨y,hy,rfl⟩:=List.mem_map.1 hx; exact h y hy
    have hm:(qs.map fun x=>(zb7 x.1 x.2,x.2)).map (·.2)=qs.map (·.2):=by rw [List.map_map]; rfl
    rw [←hm]
    have hlen:(qs.map fun x=>(zb7 x.1 x.2,x.2)).length=qs.length:=by simp
    rw [←hlen] at h0 h1
    generalize (qs.map fun x=>(zb7 x.1 x.2,x.2))=rs at*
    clear hm hlen h qs
    unfold ziF
    have hb:(((pL rs).length:Int) == 0)=false:=by simp; intro e; rw [e] at h0; simp at h0
    obtain ⟨x0,hx0⟩:∃ x,rs[0]? =some x:=⟨_,List.getElem?_eq_getElem h0⟩
    have hx0l:=hl' x0 (List.mem_of_getElem? hx0)
    rw [hb,zaA,zas (zcX hx0),ze8,zac (by rfl),zdT,hx0l,zac (by omega),zac (by omega),zac (by simp),Int.toNat_natCast,zoa]
    have hls:∀ l∈rs.map (·.2),l.length=n:=by intro l hl; obtain ⟨y,hy,rfl⟩:=List.mem_map.1 hl; exact hl' y hy
    let st:Nat→(List D×List D×Int×Int×PUnit)×PUnit:=fun k=>((uL (sumK (fun _=>1) n (rs.map (·.2)) k),pL rs,((pL rs).length:Int),(k:Int),PUnit.unit),PUnit.unit)
    have hst:st 0=((uL (List.replicate n 0),pL rs,((pL rs).length:Int),0,PUnit.unit),PUnit.unit):=rfl
    rw [←hst]
    refine zb0 st rs.length (by omega) ?_ ?_
    · intro again k hk
      dsimp only [st]
      obtain ⟨x,hx⟩:∃ x,rs[k]? =some x:=⟨_,List.getElem?_eq_getElem hk⟩
      have hxl:=hl' x (List.mem_of_getElem? hx)
      have hd:decide ((k:Int) < ((pL rs).length:Int))=true:=by simp; omega
      have hsl:=zkx (f:=fun _=>1) hls (k:=k) (by simp; omega)
      rw [hd,za5,zac (by omega),zas (by simpa using zcX hx),ze8,zac (by omega)]
      have hb2:(((uL x.2).length:Int) != ((uL (sumK (fun _=>1) n (rs.map (·.2)) k)).length:Int))=false:=by simp [hxl,hsl]
      have hone:zbu [.int .i64 (k:Int)]=some (.int .u8 1):=by rw [zsC]; rfl
      rw [hb2,zaA,hone,zai,zbF,zh6 _ _ (by omega) (by omega) (by omega),zai,zbW,zac (by omega),zac (by omega),zc0,zc0,zhb _ _ _ _ (by omega),zai,zbW,zaQ,
        zag (by omega) (by omega),zac (by rfl)]
      have he:addL (sumK (fun _=>1) n (rs.map (·.2)) k) (x.2.map (mul8 · 1))=sumK (fun _=>1) n (rs.map (·.2)) (k+1):=by
        unfold addL
        rw [if_pos (by simp [hsl,hxl])]
        have:(rs.map (·.2)).getD k []=x.2:=by simp [List.getD_eq_getElem?_getD,hx]
        simp only [sumK,this]
      rw [he]
      rfl
    · intro again
      dsimp only [st]
      have hd:decide ((rs.length:Int) < ((pL rs).length:Int))=false:=by simp
      rw [hd,zaA,zac (by rfl),zac (zgr _)]
      simp [sumP]
  rw [hsum (by simpa using h0) (by simpa using h1) (by intro x hx; obtain ⟨y,hy,rfl⟩:=List.mem_map.1 hx; exact h y hy),zai,zbW,zac (by rfl),zac (zgr _),List.map_map]
  rfl
theorem zBk (tg:Tag) {ps:List Part} {n:Nat} (hn:n < 100000) (h0:0 < ps.length) (h1:ps.length < 255) (h:∀ x∈ps,x.2.length=n):
    zcq [.sl tg (pL ps)]=some (.sl .own (uL (sumQ n (ps.map (·.2))))):=by
  rw [zvp,zdh]
  unfold zsG
  have hsum:∀ {qs:List Part},0 < qs.length→qs.length < 255→(∀ x∈qs,x.2.length=n)→∀ tg,zbG [.sl tg (pL qs),.fn ID.gf_Pow [] []]=some (.sl .own (uL (sumQ n (qs.map (·.2))))):=by
    intro qs h0 h1 h tg
    rw [zov,zdh]
    have hl':∀ x∈(qs.map fun x=>(zb7 x.1 x.2,x.2)),x.2.length=n:=by
      intro x hx; obtain ⟨y,hy,rfl⟩:=List.mem_map.1 hx; exact h y hy
    have hm:(qs.map fun x=>(zb7 x.1 x.2,x.2)).map (·.2)=qs.map (·.2):=by rw [List.map_map]; rfl
    rw [←hm]
    have hlen:(qs.map fun x=>(zb7 x.1 x.2,x.2)).length=qs.length:=by simp
    rw [←hlen] at h0 h1
    generalize (qs.map fun x=>(zb7 x.1 x.2,x.2))=rs at*
    clear hm hlen h qs
    unfold ziG
    have hb:(((pL rs).length:Int) == 0)=false:=by simp; intro e; rw [e] at h0; simp at h0
    obtain ⟨x0,hx0⟩:∃ x,rs[0]? =some x:=⟨_,List.getElem?_eq_getElem h0⟩
    have hx0l:=hl' x0 (List.mem_of_getElem? hx0)
    rw [hb,zaA,zas (zcX hx0),ze8,zac (by rfl),zdT,hx0l,zac (by omega),zac (by omega),zac (by simp),Int.toNat_natCast,zoa]
    have hls:∀ l∈rs.map (·.2),l.length=n:=by intro l hl; obtain ⟨y,hy,rfl⟩:=List.mem_map.1 hl; exact hl' y hy
    let st:Nat→(List D×List D×Int×Int×PUnit)×PUnit:=fun k=>((uL (sumK pow8 n (rs.map (·.2)) k),pL rs,((pL rs).length:Int),(k:Int),PUnit.unit),PUnit.unit)
    have hst:st 0=((uL (List.replicate n 0),pL rs,((pL rs).length:Int),0,PUnit.unit),PUnit.unit):=rfl
    rw [←hst]
    refine zb0 st rs.length (by omega) ?_ ?_
    · intro again k hk
      dsimp only [st]
      obtain ⟨x,hx⟩:∃ x,rs[k]? =some x:=⟨_,List.getElem?_eq_getElem hk⟩
      have hxl:=hl' x (List.mem_of_getElem? hx)
      have hd:decide ((k:Int) < ((pL rs).length:Int))=true:=by simp; omega
      have hsl:=zkx (f:=pow8) hls (k:=k) (by simp; omega)
      rw [hd,za5,zac (by omega),zas (by simpa using zcX hx),ze8,zac (by omega)]
      have hb2:(((uL x.2).length:Int) != ((uL (sumK pow8 n (rs.map (·.2)) k)).length:Int))=false:=by simp [hxl,hsl]
      have hone:=zut k (by omega)
      rw [hb2,zaA,hone,zai,zbF,zh6 _ _ (by omega) (zhI k).1 (zhI k).2,zai,zbW,zac (by omega),zac (by omega),zc0,zc0,zhb _ _ _ _ (by omega),zai,zbW,zaQ,
        zag (by omega) (by omega),zac (by rfl)]
      have he:addL (sumK pow8 n (rs.map (·.2)) k) (x.2.map (mul8 · (pow8 k)))=sumK pow8 n (rs.map (·.2)) (k+1):=by
        unfold addL
        rw [if_pos (by simp [hsl,hxl])]
        have:(rs.map (·.2)).getD k []=x.2:=by simp [List.getD_eq_getElem?_getD,hx]
        simp only [sumK,this]
      rw [he]
      rfl
    · intro again
      dsimp only [st]
      have hd:decide ((rs.length:Int) < ((pL rs).length:Int))=false:=by simp
      rw [hd,zaA,zac (by rfl),zac (zgr _)]
      simp [sumQ]
  rw [hsum (by simpa using h0) (by simpa using h1) (by intro x hx; obtain ⟨y,hy,rfl⟩:=List.mem_map.1 hx; exact h y hy),zai,zbW,zac (by rfl),zac (zgr _),List.map_map]
  rfl
end Wf

namespace Wf
open Go Go.RowKit Go.Proofs
set_option linter.unusedSimpArgs false
set_option linter.unusedVariables false
theorem zze (l:List Int):(intL l).all D.free=true:=by simp [intL,D.free]
theorem zzf (l:List Int) (n:Int):intL l++[.int .i64 n]=intL (l++[n]):=by simp [intL]
def zvy (ls:List (List Int)) (k:Nat):List Int:=((List.range k).filter fun i=>(ls.getD i []).isEmpty).map Int.ofNat
def miss (ls:List (List Int)):List Int:=zvy ls ls.length
theorem zxo (ls:List (List Int)) (k:Nat):zvy ls (k+1)=zvy ls k++if (ls.getD k []).isEmpty then [(k:Int)] else []:=by
  unfold zvy
  rw [List.range_succ,List.filter_append,List.map_append]
  congr 1
  by_cases h:(ls.getD k []).isEmpty=true
  · rw [if_pos h,List.filter_cons_of_pos (p:=fun i=>(ls.getD i []).isEmpty) h]; rfl
  · rw [if_neg h,List.filter_cons_of_neg (p:=fun i=>(ls.getD i []).isEmpty) h]; rfl
theorem zzg (ls:List (List Int)) (k:Nat):(zvy ls k).length≤k:=by
  unfold zvy
  rw [List.length_map]
  exact Nat.le_trans (List.length_filter_le _ _) (by simp)
theorem zm6 (tg:Tag) (ps:List Part) (hn:ps.length < 100000):zbx [.sl tg (pL ps)]=some (.sl .own (intL (miss (ps.map (·.2))))):=by
  rw [zmR,zdh]
  have hm:(ps.map fun x=>(zb7 x.1 x.2,x.2)).map (·.2)=ps.map (·.2):=by rw [List.map_map]; rfl
  have hlen:(ps.map fun x=>(zb7 x.1 x.2,x.2)).length=ps.length:=by simp
  rw [←hm]
  rw [←hlen] at hn
  generalize (ps.map fun x=>(zb7 x.1 x.2,x.2))=rs at*
  unfold zgF
  let st:Nat→(List D×List D×Int×Int×PUnit)×PUnit:=fun k=>((intL (zvy (rs.map (·.2)) k),pL rs,((pL rs).length:Int),(k:Int),PUnit.unit),PUnit.unit)
  have hst:st 0=(([],pL rs,((pL rs).length:Int),0,PUnit.unit),PUnit.unit):=rfl
  rw [←hst]
  refine zb0 st rs.length (by omega) ?_ ?_
  · intro again k hk
    dsimp only [st]
    obtain ⟨x,hx⟩:∃ x,rs[k]? =some x:=⟨_,List.getElem?_eq_getElem hk⟩
    have hd:decide ((k:Int) < ((pL rs).length:Int))=true:=by simp; omega
    have hk2:=zzg (rs.map (·.2)) k
    have hgd:(rs.map (·.2)).getD k []=x.2:=by simp [List.getD_eq_getElem?_getD,hx]
    rw [hd,za5,zac (by omega),zas (by simpa using zcX hx),ze8,zxo,hgd]
    by_cases he:x.2=[]
    · have hb:(((uL x.2).length:Int) == 0)=true:=by simp [he]
      rw [hb,za5,zac (by rw [zfl]; omega),zac (by rfl),zaQ,zag (by omega) (by omega),zac (by simp),zzf,he]
      rfl
    · have hb:(((uL x.2).length:Int) == 0)=false:=by simp; omega
      have hb2:x.2.isEmpty=false:=by simp [he]
      rw [hb,zaA,zaQ,zag (by omega) (by omega),zac (by rfl),hb2]
      simp
  · intro again
    dsimp only [st]
    have hd:decide ((rs.length:Int) < ((pL rs).length:Int))=false:=by simp
    rw [hd,zaA,zac (by rfl),zac (zze _)]
    simp [miss]
theorem zEB (t:Tag) (l:List Int) (n:Int):za3 [.sl t (uL l),.at_ (.int .i64 n)]=some (.bool (!fitS n l)):=by
  rw [znC,zdd]
  unfold zhk fitS
  cases l with
  | nil=>simp
  | cons a l=>
    have hd:decide (((uL (a::l)).length:Int) > 0)=true:=by simp
    rw [hd,za5]
    simp [bne]
    rfl
theorem zqB (tg:Tag) (ps:List Part) (hn:ps.length < 100000) (n:Int):
    ∃ r,zaG [.sl tg (pL ps),.fn ID.erase_fits_1 [] [.at_ (.int .i64 n)]]=some r∧∃ i:Int,r=.int .i64 i∧decide (i≥0)= !(ps.all fun x=>fitS n x.2):=by
  rw [zd3,zdh]
  have hm:(ps.all fun x=>fitS n x.2)=((ps.map fun x=>(zb7 x.1 x.2,x.2)).all fun x=>fitS n x.2):=by rw [List.all_map]; rfl
  have hlen:(ps.map fun x=>(zb7 x.1 x.2,x.2)).length=ps.length:=by simp
  rw [hm]
  rw [←hlen] at hn
  generalize (ps.map fun x=>(zb7 x.1 x.2,x.2))=rs at*
  unfold zb6
  refine zz7 (fun a=>(rs.length:Nat) - a.1.2.2.2.1.toNat) (fun r=>∃ i:Int,r=D.int .i64 i∧decide (i≥0)= !(rs.all fun x=>fitS n x.2))
    (fun a=>∃ k:Nat,k≤rs.length∧((rs.take k).all fun x=>fitS n x.2)=true∧a=((pL rs,n,(rs.length:Int),(k:Int),PUnit.unit),PUnit.unit)) ?_ ⟨0,by omega,by simp,by rw [zwu]; rfl⟩ (by simp; omega)
  rintro again _ ⟨k,hk,he,rfl⟩ hag
  dsimp only
  by_cases hkm:k < rs.length
  · obtain ⟨x,hx⟩:∃ x,rs[k]? =some x:=⟨_,List.getElem?_eq_getElem hkm⟩
    have hd:decide ((k:Int) < (rs.length:Int))=true:=by simp; omega
    rw [hd,za5,zac (by omega),zas (by simpa using zcX hx),ze8,zEB,zai,zdp]
    cases hf:fitS n x.2
    · refine ⟨_,rfl,_,rfl,?_⟩
      have:(rs.all fun x=>fitS n x.2)=false:=by
        rw [List.all_eq_false]
        exact ⟨x,List.mem_of_getElem? hx,by simp [hf]⟩
      rw [this]
      simp
    · simp only [Bool.not_true,zaA,zaQ]
      rw [zag (by omega) (by omega)]
      refine hag _ ⟨k+1,by omega,?_,rfl⟩ (by simp; omega)
      rw [List.take_add_one,hx,List.all_append,he]
      simp [hf]
  · have hd:decide ((k:Int) < (rs.length:Int))=false:=by simp; omega
    rw [hd,zaA]
    refine ⟨_,rfl,_,rfl,?_⟩
    rw [List.take_of_length_le (by omega)] at he
    rw [he]
    rfl
theorem erase_fits (tg:Tag) (ps:List Part) (hn:ps.length < 100000) (n:Int):zbV [.int .i64 n,.sl tg (pL ps)]=some (.bool (ps.all fun x=>fitS n x.2)):=by
  rw [zpT,zdh]
  have hm:(ps.all fun x=>fitS n x.2)=((ps.map fun x=>(zb7 x.1 x.2,x.2)).all fun x=>fitS n x.2):=by rw [List.all_map]; rfl
  have hlen:(ps.map fun x=>(zb7 x.1 x.2,x.2)).length=ps.length:=by simp
  rw [hm]
  rw [←hlen] at hn
  generalize (ps.map fun x=>(zb7 x.1 x.2,x.2))=rs at*
  unfold zj3
  have:zat [.sl .lent (pL rs),.fn ID.erase_fits_1 [] [.at_ (.int .i64 n)]]=some (.bool (!(rs.all fun x=>fitS n x.2))):=by
    rw [zdu,zdh]
    have hm:(rs.all fun x=>fitS n x.2)=((rs.map fun x=>(zb7 x.1 x.2,x.2)).all fun x=>fitS n x.2):=by rw [List.all_map]; rfl
    have hlen:(rs.map fun x=>(zb7 x.1 x.2,x.2)).length=rs.length:=by simp
    rw [hm]
    rw [←hlen] at hn
    generalize (rs.map fun x=>(zb7 x.1 x.2,x.2))=qs at*
    unfold zbT
    obtain ⟨r,h1,i,rfl,h2⟩:=zqB .lent qs hn n
    rw [h1,zai,zbF,h2]
  rw [this,zai,zdp,Bool.not_not]
theorem zCx {l:List D} {n:Nat} (h:l.length=n):cut 0 n l=l:=by subst h; exact zc0 l
theorem erase_filled (n:Nat) (hn0:n < 100000) (tg:Tag) (ps:List Part) (hn:ps.length < 100000):zbM [.int .i64 n,.sl tg (pL ps)]=some (.sl .own (pL (ps.map fun x=>(Tag.fresh,zjC n x.2)))):=by
  rw [znF,zdh]
  have hm:(ps.map fun x=>(Tag.fresh,zjC n x.2))=((ps.map fun x=>(zb7 x.1 x.2,x.2)).map fun x=>(Tag.fresh,zjC n x.2)):=by rw [List.map_map]; rfl
  have hlen:(ps.map fun x=>(zb7 x.1 x.2,x.2)).length=ps.length:=by simp
  rw [hm]
  rw [←hlen] at hn
  generalize (ps.map fun x=>(zb7 x.1 x.2,x.2))=rs at*
  unfold zhl
  let st:Nat→(Int×List D×List D×Int×Int×PUnit)×PUnit:=fun k=>(((n:Int),pL ((rs.take k).map fun x=>(Tag.fresh,zjC n x.2)),pL rs,((pL rs).length:Int),(k:Int),PUnit.unit),PUnit.unit)
  have hst:st 0=(((n:Int),[],pL rs,((pL rs).length:Int),0,PUnit.unit),PUnit.unit):=rfl
  rw [←hst]
  refine zb0 st rs.length (by omega) ?_ ?_
  · intro again k hk
    dsimp only [st]
    obtain ⟨x,hx⟩:∃ x,rs[k]? =some x:=⟨_,List.getElem?_eq_getElem hk⟩
    have hd:decide ((k:Int) < ((pL rs).length:Int))=true:=by simp; omega
    have hfill:([]++List.take (Int.toNat (n:Int)) (uL x.2)++List.drop ((0:Nat)+List.length (List.take (Int.toNat (n:Int)) (uL x.2))) (List.replicate (Int.toNat (n:Int)) (D.int IntKind.u8 (0:Int))))=uL (zjC n x.2):=by
      rw [Int.toNat_natCast,zvd,zoa,zve,Nat.zero_add,zdT,List.nil_append,←zyP]; rfl
    rw [hd,za5,zac (by omega),zas (by simpa using zcX hx),ze8,zac (by omega),zac (by rfl),zac (by omega),zac (by omega),zac (by simp),zac (zwo _),hfill,zac (by simp [zhJ]),zac (by simp; omega),zac (by rfl),
      zaQ,zag (by omega) (by omega),zac (by simp),zCx (by simp [zhJ]),zzd]
    have:(rs.take (k+1)).map (fun x=>(Tag.fresh,zjC n x.2))=(rs.take k).map (fun x=>(Tag.fresh,zjC n x.2))++[(Tag.fresh,zjC n x.2)]:=by rw [List.take_add_one,hx]; simp
    rw [this]
    rfl
  · intro again
    dsimp only [st]
    have hd:decide ((rs.length:Int) < ((pL rs).length:Int))=false:=by simp
    rw [hd,zaA,zac (by rfl),List.take_length,zac (zp9 (by intro x hx; obtain ⟨y,hy,rfl⟩:=List.mem_map.1 hx; rfl))]
def fP (ls:List (List Int)):List Part:=ls.map fun l=>(Tag.fresh,l)
@[simp] theorem zBl (ls:List (List Int)):(fP ls).length=ls.length:=by simp [fP]
theorem zwv (ls:List (List Int)):(fP ls).map (·.2)=ls:=by
  unfold fP
  rw [List.map_map]
  exact List.map_id ls
theorem zgL (ls:List (List Int)):(pL (fP ls)).all D.free=true:=zp9 (by intro x hx; obtain ⟨y,_,rfl⟩:=List.mem_map.1 hx; rfl)
theorem zDO (ls:List (List Int)) (i:Nat) (l:List Int):(fP ls).set i (Tag.fresh,l)=fP (ls.set i l):=by simp [fP,List.map_set]
theorem zww {ls:List (List Int)} {k:Nat} {l:List Int} (h:ls[k]? =some l):(fP ls)[k]? =some (Tag.fresh,l):=by simp [fP,h]
theorem zAJ (ps:List Part):(ps.map fun x=>(Tag.fresh,zjC 32 x.2))=fP (zcl (ps.map (·.2))):=by simp [fP,zcl]
theorem zAK (ls:List (List Int)):miss ls=(zcS ls).map Int.ofNat:=rfl
theorem zxp (k:Nat) (hk:k < 100000):zaR [.int .i64 k]=some (.int .u8 (pow8 (k % 255))):=by
  have h:=zut (k % 255) (Nat.mod_lt _ (by omega))
  rw [zpW] at h ⊢
  unfold zoM at h ⊢
  have e1:Int.tmod (k:Int) 255=((k % 255:Nat):Int):=by rw [Int.tmod_eq_emod_of_nonneg (by omega)]; omega
  have e2:Int.tmod ((k % 255:Nat):Int) 255=((k % 255:Nat):Int):=by rw [Int.tmod_eq_emod_of_nonneg (by omega)]; omega
  rw [e1]
  rw [e2] at h
  exact h
theorem zDP {a:Nat} (ha:a < 256):zed [.int .u8 a]=some (.int .i64 (if logN a=255 then -1 else (logN a:Int))):=by
  rw [zvr]
  unfold zsH
  refine zgc (a:=(((a:Int),(1:Int),(0:Int),PUnit.unit),PUnit.unit)) (fun x=>(255 - x.1.2.2.1).toNat) (fun x=>some (D.int .i64 (if logF a (255 - x.1.2.2.1.toNat) x.1.2.1.toNat x.1.2.2.1.toNat=255 then -1 else (logF a (255 - x.1.2.2.1.toNat) x.1.2.1.toNat x.1.2.2.1.toNat:Int))))
    (fun x=>∃ n y:Nat,n≤255∧y < 256∧x=(((a:Int),(y:Int),(n:Int),PUnit.unit),PUnit.unit)) ?_ ⟨0,1,by omega,by omega,rfl⟩ (by simp)
  rintro again _ ⟨n,y,hn,hy,rfl⟩ hag
  dsimp only
  rw [Int.toNat_natCast,Int.toNat_natCast]
  by_cases h:n < 255
  · have e:255 - n=(255 - (n+1))+1:=by omega
    have hd:decide ((n:Int) < 255)=true:=by simp; omega
    rw [hd,za5,e]
    by_cases hya:y=a
    · subst hya
      have:logF y (255 - (n+1)+1) y n=n:=by unfold logF; rw [if_pos rfl]
      rw [this,if_neg (by omega)]
      simp
    · have hb:((y:Int) == (a:Int))=false:=by simp; omega
      have:logF a (255 - (n+1)+1) y n=logF a (255 - (n+1)) (dblN y) (n+1):=by rw [logF,if_neg hya]
      have hh:=hag (((a:Int),((dblN y:Nat):Int),((n+1:Nat):Int),PUnit.unit),PUnit.unit) ⟨n+1,dblN y,by omega,zjz hy,rfl⟩ (by dsimp only; omega)
      dsimp only at hh
      rw [Int.toNat_natCast,Int.toNat_natCast] at hh
      rw [hb,zaA,gf_double,zai,zbF,zaQ,zag (by omega) (by omega),zu4 hy,this]
      exact hh
  · have:n=255:=by omega
    subst this
    simp [logF]
theorem zBm {a:Int} (ha:Byt a):zcr [.int .u8 a]=some (.int .u8 (inv8 a)):=by
  obtain ⟨m,hm,rfl⟩:=zeg ha
  rw [zvs]
  unfold zsI inv8 invN
  rw [Int.toNat_natCast]
  by_cases h0:m=0
  · subst h0; simp
  · obtain ⟨h1,h2⟩:=zCi m hm h0
    have hb:((m:Int) == 0)=false:=by simp; omega
    rw [hb,zaA,zDP hm,zai,zbF,if_neg (by omega),if_neg h0,zaQ,zag (by omega) (by omega),show (255:Int) - (logN m:Int)=((255 - logN m:Nat):Int) by omega,zxp _ (by omega),zai,zbF,zkw]
section
variable {ps:List Part} (h1:0 < ps.length) (h8:ps.length≤8) (hs:∀ x∈ps,x.2.length=32)
include h1 h8 hs
theorem by_q (tq tg:Tag) {q:List Int} (hq:q.length=32) {k:Nat} (hk:k < 8):
    zcg [.sl tq (uL q),.sl tg (pL ps),.int .i64 k]=some (.sl .own (uL (byQ q (ps.map (·.2)) k))):=by
  rw [zqx,zdd,zdh]
  have hm:(ps.map fun x=>(zb7 x.1 x.2,x.2)).map (·.2)=ps.map (·.2):=by rw [List.map_map]; rfl
  have hlen:(ps.map fun x=>(zb7 x.1 x.2,x.2)).length=ps.length:=by simp
  have hs':∀ x∈(ps.map fun x=>(zb7 x.1 x.2,x.2)),x.2.length=32:=by intro x hx; obtain ⟨y,hy,rfl⟩:=List.mem_map.1 hx; exact hs y hy
  rw [←hm]
  rw [←hlen] at h1 h8
  generalize (ps.map fun x=>(zb7 x.1 x.2,x.2))=rs at*
  unfold zlU
  have hQ:=zBk (n:=32) .lent (ps:=rs) (by omega) h1 (by omega) hs'
  have hr:Byt (inv8 (pow8 k)):=zwn _
  have ha:(addL q (sumQ 32 (rs.map (·.2)))).length < 100000:=by unfold addL; split<;>simp<;>omega
  simp (disch:=first | omega | assumption | (simp; done) | fail) [-List.all_eq_true,hQ,zhb _ _ _ _ (show q.length < 100000 by omega),zut k (by omega),zBm (zwj k),zh6 _ _ ha hr.1 hr.2]
  rfl
theorem zDQ (tp tq tg:Tag) {p q:List Int} (hp:p.length=32) (hq:q.length=32) {j k:Nat} (hj:j < 8) (hk:k < 8):
    zcv [.sl tp (uL p),.sl tq (uL q),.sl tg (pL ps),.int .i64 j,.int .i64 k]=some (.tup [.sl .own (uL (twoX p q (ps.map (·.2)) j k)),.sl .own (uL (twoY p q (ps.map (·.2)) j k))]):=by
  rw [zqv,zdd,zdd,zdh]
  have hm:(ps.map fun x=>(zb7 x.1 x.2,x.2)).map (·.2)=ps.map (·.2):=by rw [List.map_map]; rfl
  have hlen:(ps.map fun x=>(zb7 x.1 x.2,x.2)).length=ps.length:=by simp
  have hs':∀ x∈(ps.map fun x=>(zb7 x.1 x.2,x.2)),x.2.length=32:=by intro x hx; obtain ⟨y,hy,rfl⟩:=List.mem_map.1 hx; exact hs y hy
  rw [←hm]
  rw [←hlen] at h1 h8
  generalize (ps.map fun x=>(zb7 x.1 x.2,x.2))=rs at*
  unfold zlT
  have hQ:=zBk (n:=32) .lent (ps:=rs) (by omega) h1 (by omega) hs'
  have hP:=zBj (n:=32) .lent (ps:=rs) (by omega) h1 (by omega) hs'
  have hr:Byt (inv8 (xor8 (pow8 j) (pow8 k))):=zwn _
  have addl:∀ {a b:List Int},a.length≤32→(addL a b).length≤32:=by intro a b h; unfold addL; split<;>simp<;>omega
  have h2:(addL p (sumP 32 (rs.map (·.2)))).length≤32:=addl (by omega)
  have h3:(addL q (sumQ 32 (rs.map (·.2)))).length≤32:=addl (by omega)
  have h4:(addL (addL q (sumQ 32 (rs.map (·.2)))) ((addL p (sumP 32 (rs.map (·.2)))).map (mul8 · (pow8 k)))).length≤32:=addl h3
  simp (disch:=first | omega | assumption | (simp; done) | fail) [-List.all_eq_true,hQ,hP,zhb _ _ _ _ (show q.length < 100000 by omega),zhb _ _ _ _ (show p.length < 100000 by omega),zut j (by omega),zut k (by omega),zBm (zms _ _),
    zh6 _ _ (show (addL p (sumP 32 (rs.map (·.2)))).length < 100000 by omega) (zhI k).1 (zhI k).2,zhb _ _ _ _ (show (addL q (sumQ 32 (rs.map (·.2)))).length < 100000 by omega),zhb _ _ _ _ (show (addL p (sumP 32 (rs.map (·.2)))).length < 100000 by omega),
    zh6 _ _ (show (addL (addL q (sumQ 32 (rs.map (·.2)))) ((addL p (sumP 32 (rs.map (·.2)))).map (mul8 · (pow8 k)))).length < 100000 by omega) hr.1 hr.2]
  exact ⟨rfl,rfl⟩
end
end Wf

namespace Wf
open Go Go.RowKit Go.Proofs
set_option linter.unusedSimpArgs false
set_option linter.unusedVariables false
set_option maxHeartbeats 4000000
def solD:Option (List (List Int))→D
  | none=>.tup [.sl .own [],.bool false]
  | some o=>.tup [.sl .own (pL (fP o)),.bool true]
theorem pLs (ls:List (List Int)) (i:Nat) (l:List Int):(pL (fP ls)).set i (.sl .fresh (uL l))=pL (fP (ls.set i l)):=by rw [zus,zDO]
theorem zsR {ls:List (List Int)} {i:Nat} (h:i < ls.length):(pL (fP ls))[i]? =some (.sl .fresh (uL (ls.getD i []))):=by
  have e:ls[i]? =some (ls.getD i []):=by rw [List.getD_eq_getElem?_getD,List.getElem?_eq_getElem h]; rfl
  exact zcX (zww e)
theorem zAL (tp tq tg:Tag) (p q:List Int) {ps:List Part} (hn:ps.length < 100000):
    zbS [.int .i64 32,.sl tp (uL p),.sl tq (uL q),.sl tg (pL ps)]=some (solD (zmw p q (ps.map (·.2)))):=by
  rw [zox,zdd,zdd,zdh]
  have hm:(ps.map fun x=>(zb7 x.1 x.2,x.2)).map (·.2)=ps.map (·.2):=by rw [List.map_map]; rfl
  have hlen:(ps.map fun x=>(zb7 x.1 x.2,x.2)).length=ps.length:=by simp
  rw [←hm]
  rw [←hlen] at hn
  generalize (ps.map fun x=>(zb7 x.1 x.2,x.2))=rs at*
  clear hm hlen ps
  unfold ziH zmw
  have hmi:=zm6 .lent rs hn
  rw [zAK] at hmi
  have hpq:zbx [.sl .full [.sl .lent (uL p),.sl .lent (uL q)]]=some (.sl .own (intL ((zcS [p,q]).map Int.ofNat))):=zm6 .full [(Tag.lent,p),(Tag.lent,q)] (by simp)
  have hfi:=erase_fits .lent rs hn 32
  have hfa:(rs.all fun x=>fitS 32 x.2)=(rs.map (·.2)).all (fitS 32):=by rw [List.all_map]; rfl
  rw [hfa] at hfi
  have hfpq:zbV [.int .i64 32,.sl .full [.sl .lent (uL p),.sl .lent (uL q)]]=some (.bool ([p,q].all (fitS 32))):=erase_fits .full [(Tag.lent,p),(Tag.lent,q)] (by simp) 32
  have hfl:zbM [.int .i64 32,.sl .lent (pL rs)]=some (.sl .own (pL (fP (zcl (rs.map (·.2)))))):=by
    have:=erase_filled 32 (by omega) .lent rs hn
    rw [zAJ] at this
    exact this
  have hl:(rs.map (·.2)).length=rs.length:=by simp
  generalize hls:rs.map (·.2)=ls at*
  have hfill:(zcl ls).length=rs.length:=by rw [zcD,hl]
  by_cases c1:rs.length < 1
  · rw [if_pos (.inl (by omega))]
    simp (disch:=first | omega | assumption | (simp; done) | fail) [-List.all_eq_true,hmi,c1,solD]
  by_cases c2:8 < rs.length
  · rw [if_pos (.inr (.inl (by omega)))]
    simp (disch:=first | omega | assumption | (simp; done) | fail) [-List.all_eq_true,hmi,c1,c2,solD]
  cases c3:ls.all (fitS 32)
  · rw [if_pos (.inr (.inr (.inl rfl)))]
    simp (disch:=first | omega | assumption | (simp; done) | fail) [-List.all_eq_true,hmi,c1,c2,hfi,c3,solD]
  cases c4:[p,q].all (fitS 32)
  · rw [if_pos (.inr (.inr (.inr rfl)))]
    simp (disch:=first | omega | assumption | (simp; done) | fail) [-List.all_eq_true,-List.all_cons,hmi,c1,c2,hfi,c3,hfpq,c4,solD]
  rw [if_neg (by rintro (e | e | e | e)<;>first | omega | cases e)]
  have hml:(zcS ls).length≤8:=by
    have:(zcS ls).length≤ls.length:=by unfold zcS; exact Nat.le_trans (List.length_filter_le _ _) (by simp)
    omega
  have hml2:=zvc p q
  have hml3:(zcS [p,q]).length≤2:=by rw [hml2]; split<;>split<;>omega
  by_cases c5:2 < (zcS ls).length+(zcS [p,q]).length
  · rw [if_pos c5]
    simp (disch:=first | omega | assumption | (simp; done) | fail) [-List.all_eq_true,-List.all_cons,hmi,c1,c2,hfi,c3,hfpq,c4,hpq,zfl,zag,solD]
  rw [if_neg c5]
  rcases hmm:zcS ls with _ | ⟨j,_ | ⟨k,_ | ⟨m,t⟩⟩⟩
  · rw [hmm] at c5 hmi
    simp (disch:=first | omega | assumption | (simp; done) | fail) [-List.all_eq_true,-List.all_cons,hmi,c1,c2,hfi,c3,hfpq,c4,hpq,zfl,zag,solD,hfl,zgL]
  · have hj:=zdS.1 (show j∈zcS ls by rw [hmm]; simp)
    rw [hmm] at c5 hmi
    have hi1:intL [(j:Int)]=[.int .i64 j]:=rfl
    have c6:¬ 2 < 1+((zcS [p,q]).length:Int):=by simp at c5; omega
    have hg:=zsR (ls:=zcl ls) (i:=j) (by omega)
    dsimp only
    by_cases hp:0 < p.length
    · rw [if_pos hp]
      have hP:=zBj (n:=32) .lent (ps:=fP (zcl ls)) (by omega) (by simp; omega) (by simp; omega) (by intro x hx; obtain ⟨l,hl,rfl⟩:=List.mem_map.1 hx; unfold zcl at hl; obtain ⟨y,_,rfl⟩:=List.mem_map.1 hl; exact zhJ 32 y)
      rw [zwv] at hP
      have hpl:p.length=32:=by
        simp [fitS] at c4
        rcases c4.1 with e | e
        · rw [e] at hp; cases hp
        · omega
      simp (disch:=first | omega | assumption | (simp; done) | fail) [-List.all_eq_true,-List.all_cons,hmi,c1,c2,hfi,c3,hfpq,c4,hpq,zfl,hi1,zag,solD,hfl,hP,hp,zhb,zas hg,pLs,zgL,hfill,c6,D.isAgg]
    · rw [if_neg hp]
      have hq:q.length=32:=by
        have hp0:p=[]:=by cases p; rfl; simp at hp
        have hq0:¬ q=[]:=by intro e; rw [hml2,if_pos hp0,if_pos e] at c5; simp at c5
        simp [fitS] at c4
        rcases c4.2 with e | e
        · exact absurd e hq0
        · omega
      have hQ:=by_q (ps:=fP (zcl ls)) (by simp; omega) (by simp; omega) (by intro x hx; obtain ⟨l,hl,rfl⟩:=List.mem_map.1 hx; unfold zcl at hl; obtain ⟨y,_,rfl⟩:=List.mem_map.1 hl; exact zhJ 32 y) .lent .lent hq (k:=j) (by omega)
      rw [zwv] at hQ
      simp (disch:=first | omega | assumption | (simp; done) | fail) [-List.all_eq_true,-List.all_cons,hmi,c1,c2,hfi,c3,hfpq,c4,hpq,zfl,hi1,zag,solD,hfl,hQ,hp,zas hg,pLs,zgL,hfill,c6,D.isAgg]
  · have hj:=zdS.1 (show j∈zcS ls by rw [hmm]; simp)
    have hk:=zdS.1 (show k∈zcS ls by rw [hmm]; simp)
    have hjk:j < k:=by have:=zly ls; rw [hmm] at this; simpa using this
    rw [hmm] at c5 hmi
    have hi1:intL [(j:Int),(k:Int)]=[.int .i64 j,.int .i64 k]:=rfl
    have c6:¬ 2 < 2+((zcS [p,q]).length:Int):=by simp at c5; simp [c5]
    have hp0:¬ p=[]:=by intro e; rw [hml2,if_pos e] at c5; simp at c5
    have hq0:¬ q=[]:=by intro e; rw [hml2,if_pos e] at c5; simp at c5
    have hpl:p.length=32∧q.length=32:=by
      simp [fitS] at c4
      exact ⟨by rcases c4.1 with e | e; exact absurd e hp0; omega,by rcases c4.2 with e | e; exact absurd e hq0; omega⟩
    have hT:=zDQ (ps:=fP (zcl ls)) (by simp; omega) (by simp; omega) (by intro x hx; obtain ⟨l,hl,rfl⟩:=List.mem_map.1 hx; unfold zcl at hl; obtain ⟨y,_,rfl⟩:=List.mem_map.1 hl; exact zhJ 32 y) .lent .lent .lent hpl.1 hpl.2 (j:=j) (k:=k) (by omega) (by omega)
    rw [zwv] at hT
    have hg:=zsR (ls:=zcl ls) (i:=j) (by omega)
    have hg2:=zsR (ls:=(zcl ls).set j (twoX p q (zcl ls) j k)) (i:=k) (by simp; omega)
    dsimp only
    simp (disch:=first | omega | assumption | (simp; done) | fail) [-List.all_eq_true,-List.all_cons,hmi,c1,c2,hfi,c3,hfpq,c4,hpq,zfl,hi1,zag,solD,hfl,hT,zas hg,zas hg2,pLs,zgL,hfill,c6,D.isAgg]
  · rw [hmm] at c5; simp at c5; omega
end Wf

