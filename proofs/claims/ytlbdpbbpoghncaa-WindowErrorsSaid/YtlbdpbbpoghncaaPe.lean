/- A part of the proof: lemmas that the law's row leans on. -/
import Derived.Test.YtlbdpbbpoghncaaPd
set_option linter.all false
namespace Wf
open Go Go.RowKit Go.Proofs
set_option linter.unusedVariables false
set_option maxRecDepth 100000
def ze1:Ann:={ loops:=[] }
noncomputable def zaa:List D→Option D:=denP Try.prog (zav []) ze1 [0] ID.wattlekeep_Within
theorem zh1:za5 Try.prog ID.wattlekeep_Within (.pure [0] zaa):=zao (zay []) zby ⟨Try.f16,by kernel_rfl,by kernel_rfl,by kernel_rfl⟩
noncomputable def zcz:Fact Try.prog:=⟨ID.wattlekeep_Within,(.pure [0] zaa),zh1⟩
noncomputable def zdW (a0:Int) (a1:Int):Option D:=
  brK (decide (a1 < (1:Int)))
    (some (D.int IntKind.i64 (0:Int)))
    (sif (a1≠(0:Int)) <|
    letN (Int.tmod a0 a1) fun n1=>
    brK (decide (n1 < (0:Int)))
      (letN (IntKind.wrap IntKind.i64 (n1+a1)) fun n2=>
      some (D.int IntKind.i64 n2))
      (some (D.int IntKind.i64 n1)))
theorem zkY (a0:Int) (a1:Int):denP Try.prog (zav []) ze1 [0] ID.wattlekeep_Within [.int .i64 a0,.int .i64 a1]=zdW a0 a1:=by kernel_rfl
theorem ziD (a0:Int) (a1:Int):zaa [.int .i64 a0,.int .i64 a1]=zdW a0 a1:=zkY a0 a1
def ze2:Ann:={ loops:=[] }
noncomputable def zak:List D→Option D:=denP Try.prog (zav []) ze2 [0] ID.wattleref01_Check
theorem zh2:za5 Try.prog ID.wattleref01_Check (.pure [0] zak):=zao (zay []) zby ⟨Try.f53,by kernel_rfl,by kernel_rfl,by kernel_rfl⟩
noncomputable def zc9:Fact Try.prog:=⟨ID.wattleref01_Check,(.pure [0] zak),zh2⟩
noncomputable def zdX (a0_0:Int) (a0_1:Int) (a0_2:Int):Option D:=
  brK (a0_0 == (6:Int))
    (brK (a0_0 == (5:Int))
      (brK (decide (a0_1≥(4:Int)))
        (brK (decide (a0_1≤(8:Int)))
          (brK (a0_2 == (1:Int))
            (some (D.bool true))
            (brK (a0_2 == (2:Int))
              (some (D.bool true))
              (some (D.bool (a0_2 == (4:Int))))))
          (some (D.bool false)))
        (some (D.bool false)))
      (brK (a0_0 == (6:Int))
        (brK (decide (a0_1≥(4:Int)))
          (brK (decide (a0_1≤(8:Int)))
            (brK (a0_2 == (1:Int))
              (some (D.bool true))
              (brK (a0_2 == (2:Int))
                (some (D.bool true))
                (some (D.bool (a0_2 == (4:Int))))))
            (some (D.bool false)))
          (some (D.bool false)))
        (some (D.bool false))))
    (brK (a0_0 == (5:Int))
      (brK (decide (a0_1≥(3:Int)))
        (brK (decide (a0_1≤(8:Int)))
          (brK (a0_2 == (1:Int))
            (some (D.bool true))
            (brK (a0_2 == (2:Int))
              (some (D.bool true))
              (some (D.bool (a0_2 == (4:Int))))))
          (some (D.bool false)))
        (some (D.bool false)))
      (brK (a0_0 == (6:Int))
        (brK (decide (a0_1≥(3:Int)))
          (brK (decide (a0_1≤(8:Int)))
            (brK (a0_2 == (1:Int))
              (some (D.bool true))
              (brK (a0_2 == (2:Int))
                (some (D.bool true))
                (some (D.bool (a0_2 == (4:Int))))))
            (some (D.bool false)))
          (some (D.bool false)))
        (some (D.bool false))))
theorem zkZ (a0_0:Int) (a0_1:Int) (a0_2:Int):denP Try.prog (zav []) ze2 [0] ID.wattleref01_Check [.agg [.int .i64 a0_0,.int .i64 a0_1,.int .i64 a0_2]]=zdX a0_0 a0_1 a0_2:=by kernel_rfl
theorem ziE (a0_0:Int) (a0_1:Int) (a0_2:Int):zak [.agg [.int .i64 a0_0,.int .i64 a0_1,.int .i64 a0_2]]=zdX a0_0 a0_1 a0_2:=zkZ a0_0 a0_1 a0_2
def zex:Ann:={ loops:=[] }
noncomputable def za3:List D→Option D:=denP Try.prog (zav [(ID.wattleref01_Check,(.pure [0] zak))]) zex [0] ID.wattleref01_Budget
theorem zhs:za5 Try.prog ID.wattleref01_Budget (.pure [0] za3):=zao (zay [zc9]) zby ⟨Try.f76,by kernel_rfl,by kernel_rfl,by kernel_rfl⟩
noncomputable def zh3:Fact Try.prog:=⟨ID.wattleref01_Budget,(.pure [0] za3),zhs⟩
noncomputable def zdD (zak:List D→Option D) (a0_0:Int) (a0_1:Int) (a0_2:Int):Option D:=
  zan (zak [D.agg [D.int IntKind.i64 a0_0,D.int IntKind.i64 a0_1,D.int IntKind.i64 a0_2]]) fun r1=>
  asB r1 fun b2=>
  brK (!b2)
    (some (D.int IntKind.i64 (0:Int)))
    (letN (IntKind.wrap IntKind.i64 (a0_0 - (4:Int))) fun n3=>
    some (D.int IntKind.i64 n3))
theorem zj9 (zak:List D→Option D) (a0_0:Int) (a0_1:Int) (a0_2:Int):denP Try.prog (zav [(ID.wattleref01_Check,(.pure [0] zak))]) zex [0] ID.wattleref01_Budget [.agg [.int .i64 a0_0,.int .i64 a0_1,.int .i64 a0_2]]=zdD zak a0_0 a0_1 a0_2:=by kernel_rfl
theorem zh4 (a0_0:Int) (a0_1:Int) (a0_2:Int):za3 [.agg [.int .i64 a0_0,.int .i64 a0_1,.int .i64 a0_2]]=zdD zak a0_0 a0_1 a0_2:=zj9 zak a0_0 a0_1 a0_2
def ze3:Ann:={ loops:=[] }
noncomputable def zau:List D→Option D:=denP Try.prog (zav [(ID.wattleref01_Check,(.pure [0] zak)),(ID.wattleref01_Budget,(.pure [0] za3))]) ze3 [0] ID.wattleref01_Width
theorem zh5:za5 Try.prog ID.wattleref01_Width (.pure [0] zau):=zao (zay [zc9,zh3]) zby ⟨Try.f32,by kernel_rfl,by kernel_rfl,by kernel_rfl⟩
noncomputable def zey:Fact Try.prog:=⟨ID.wattleref01_Width,(.pure [0] zau),zh5⟩
noncomputable def zdY (zak:List D→Option D) (za3:List D→Option D) (a0_0:Int) (a0_1:Int) (a0_2:Int):Option D:=
  zan (zak [D.agg [D.int IntKind.i64 a0_0,D.int IntKind.i64 a0_1,D.int IntKind.i64 a0_2]]) fun r1=>
  asB r1 fun b2=>
  brK (!b2)
    (some (D.int IntKind.i64 (0:Int)))
    (zan (za3 [D.agg [D.int IntKind.i64 a0_0,D.int IntKind.i64 a0_1,D.int IntKind.i64 a0_2]]) fun r3=>
    asI IntKind.i64 r3 fun i4=>
    letN (IntKind.wrap IntKind.i64 (a0_1 - i4)) fun n5=>
    some (D.int IntKind.i64 n5))
theorem zk0 (zak:List D→Option D) (za3:List D→Option D) (a0_0:Int) (a0_1:Int) (a0_2:Int):denP Try.prog (zav [(ID.wattleref01_Check,(.pure [0] zak)),(ID.wattleref01_Budget,(.pure [0] za3))]) ze3 [0] ID.wattleref01_Width [.agg [.int .i64 a0_0,.int .i64 a0_1,.int .i64 a0_2]]=zdY zak za3 a0_0 a0_1 a0_2:=by kernel_rfl
theorem ziF (a0_0:Int) (a0_1:Int) (a0_2:Int):zau [.agg [.int .i64 a0_0,.int .i64 a0_1,.int .i64 a0_2]]=zdY zak za3 a0_0 a0_1 a0_2:=zk0 zak za3 a0_0 a0_1 a0_2
def zf2:Ann:={ loops:=[] }
noncomputable def zaf:List D→Option D:=denP Try.prog (zav [(ID.wattleref01_Check,(.pure [0] zak)),(ID.wattleref01_Width,(.pure [0] zau))]) zf2 [0] ID.wattleref01_Can
theorem zjj:za5 Try.prog ID.wattleref01_Can (.pure [0] zaf):=zao (zay [zc9,zey]) zby ⟨Try.f61,by kernel_rfl,by kernel_rfl,by kernel_rfl⟩
noncomputable def zcO:Fact Try.prog:=⟨ID.wattleref01_Can,(.pure [0] zaf),zjj⟩
noncomputable def zeG (zak:List D→Option D) (zau:List D→Option D) (a0_0:Int) (a0_1:Int) (a0_2:Int) (a1_0:Int) (a1_1:Int) (a1_2:Int):Option D:=
  zan (zak [D.agg [D.int IntKind.i64 a0_0,D.int IntKind.i64 a0_1,D.int IntKind.i64 a0_2]]) fun r1=>
  asB r1 fun b2=>
  brK b2
    (zan (zak [D.agg [D.int IntKind.i64 a1_0,D.int IntKind.i64 a1_1,D.int IntKind.i64 a1_2]]) fun r3=>
    asB r3 fun b4=>
    brK b4
      (brK (!(a0_0 == a1_0 && (a0_1 == a1_1 && (a0_2 == a1_2 && true))))
        (brK (decide (a1_1≥a0_1))
          (brK (decide (a1_0≥a0_0))
            (zan (zau [D.agg [D.int IntKind.i64 a1_0,D.int IntKind.i64 a1_1,D.int IntKind.i64 a1_2]]) fun r5=>
            asI IntKind.i64 r5 fun i6=>
            zan (zau [D.agg [D.int IntKind.i64 a0_0,D.int IntKind.i64 a0_1,D.int IntKind.i64 a0_2]]) fun r7=>
            asI IntKind.i64 r7 fun i8=>
            some (D.bool (decide (i6≥i8))))
            (some (D.bool false)))
          (some (D.bool false)))
        (some (D.bool false)))
      (some (D.bool false)))
    (some (D.bool false))
theorem zmL (zak:List D→Option D) (zau:List D→Option D) (a0_0:Int) (a0_1:Int) (a0_2:Int) (a1_0:Int) (a1_1:Int) (a1_2:Int):denP Try.prog (zav [(ID.wattleref01_Check,(.pure [0] zak)),(ID.wattleref01_Width,(.pure [0] zau))]) zf2 [0] ID.wattleref01_Can [.agg [.int .i64 a0_0,.int .i64 a0_1,.int .i64 a0_2],.agg [.int .i64 a1_0,.int .i64 a1_1,.int .i64 a1_2]]=zeG zak zau a0_0 a0_1 a0_2 a1_0 a1_1 a1_2:=by kernel_rfl
theorem zka (a0_0:Int) (a0_1:Int) (a0_2:Int) (a1_0:Int) (a1_1:Int) (a1_2:Int):zaf [.agg [.int .i64 a0_0,.int .i64 a0_1,.int .i64 a0_2],.agg [.int .i64 a1_0,.int .i64 a1_1,.int .i64 a1_2]]=zeG zak zau a0_0 a0_1 a0_2 a1_0 a1_1 a1_2:=zmL zak zau a0_0 a0_1 a0_2 a1_0 a1_1 a1_2
def zf3:Ann:={ loops:=[] }
noncomputable def zbr:List D→Option D:=denP Try.prog (zav [(ID.wattlekeep_Within,(.pure [0] zaa)),(ID.wattleref01_Can,(.pure [0] zaf))]) zf3 [0,0] ID.wattleplay_Pair
theorem zjk:za5 Try.prog ID.wattleplay_Pair (.pure [0,0] zbr):=zao (zay [zcz,zcO]) zby ⟨Try.f47,by kernel_rfl,by kernel_rfl,by kernel_rfl⟩
noncomputable def zkb:Fact Try.prog:=⟨ID.wattleplay_Pair,(.pure [0,0] zbr),zjk⟩
noncomputable def zeH (zaa:List D→Option D) (zaf:List D→Option D) (a0:Int) (a1:Int):Option D:=
  zan (zaa [D.int IntKind.i64 a0,D.int IntKind.i64 (2:Int)]) fun r1=>
  asI IntKind.i64 r1 fun i2=>
  letN (IntKind.wrap IntKind.i64 ((3:Int)+i2)) fun n3=>
  letN (IntKind.wrap IntKind.i64 (Int.tdiv a0 (2:Int))) fun n4=>
  zan (zaa [D.int IntKind.i64 n4,D.int IntKind.i64 (3:Int)]) fun r5=>
  asI IntKind.i64 r5 fun i6=>
  sif ((0:Int)≤i6) <|
  getK ([D.int IntKind.i64 (1:Int),D.int IntKind.i64 (2:Int),D.int IntKind.i64 (4:Int)]) (Int.toNat i6) fun d7=>
  asI IntKind.i64 d7 fun i8=>
  letN (IntKind.wrap IntKind.i64 (Int.tdiv a0 (6:Int))) fun n9=>
  zan (zaa [D.int IntKind.i64 n9,D.int IntKind.i64 (4:Int)]) fun r10=>
  asI IntKind.i64 r10 fun i11=>
  brK (i11 == (3:Int))
    (zan (zaa [D.int IntKind.i64 a0,D.int IntKind.i64 (2:Int)]) fun r12=>
    asI IntKind.i64 r12 fun i13=>
    letN (IntKind.wrap IntKind.i64 ((4:Int)+i13)) fun n14=>
    zan (zaa [D.int IntKind.i64 a1,D.int IntKind.i64 (3:Int)]) fun r15=>
    asI IntKind.i64 r15 fun i16=>
    letN (IntKind.wrap IntKind.i64 (n14+i16)) fun n17=>
    letN (IntKind.wrap IntKind.i64 (Int.tdiv a1 (3:Int))) fun n18=>
    zan (zaa [D.int IntKind.i64 n18,D.int IntKind.i64 (3:Int)]) fun r19=>
    asI IntKind.i64 r19 fun i20=>
    sif ((0:Int)≤i20) <|
    getK ([D.int IntKind.i64 (1:Int),D.int IntKind.i64 (2:Int),D.int IntKind.i64 (4:Int)]) (Int.toNat i20) fun d21=>
    asI IntKind.i64 d21 fun i22=>
    zan (zaf [D.agg [D.int IntKind.i64 (6:Int),D.int IntKind.i64 n14,D.int IntKind.i64 i8],D.agg [D.int IntKind.i64 (6:Int),D.int IntKind.i64 n17,D.int IntKind.i64 i22]]) fun r23=>
    asB r23 fun b24=>
    brK (!b24)
      (letN (IntKind.wrap IntKind.i64 (n17+(1:Int))) fun n25=>
      some (D.tup [D.agg [D.int IntKind.i64 (6:Int),D.int IntKind.i64 n14,D.int IntKind.i64 i8],D.agg [D.int IntKind.i64 (6:Int),D.int IntKind.i64 n25,D.int IntKind.i64 i22]]))
      (some (D.tup [D.agg [D.int IntKind.i64 (6:Int),D.int IntKind.i64 n14,D.int IntKind.i64 i8],D.agg [D.int IntKind.i64 (6:Int),D.int IntKind.i64 n17,D.int IntKind.i64 i22]])))
    (zan (zaa [D.int IntKind.i64 a1,D.int IntKind.i64 (3:Int)]) fun r26=>
    asI IntKind.i64 r26 fun i27=>
    letN (IntKind.wrap IntKind.i64 (n3+i27)) fun n28=>
    letN (IntKind.wrap IntKind.i64 (Int.tdiv a1 (3:Int))) fun n29=>
    zan (zaa [D.int IntKind.i64 n29,D.int IntKind.i64 (3:Int)]) fun r30=>
    asI IntKind.i64 r30 fun i31=>
    sif ((0:Int)≤i31) <|
    getK ([D.int IntKind.i64 (1:Int),D.int IntKind.i64 (2:Int),D.int IntKind.i64 (4:Int)]) (Int.toNat i31) fun d32=>
    asI IntKind.i64 d32 fun i33=>
    letN (IntKind.wrap IntKind.i64 (Int.tdiv a1 (9:Int))) fun n34=>
    zan (zaa [D.int IntKind.i64 n34,D.int IntKind.i64 (2:Int)]) fun r35=>
    asI IntKind.i64 r35 fun i36=>
    brK (i36 == (1:Int))
      (letN (IntKind.wrap IntKind.i64 (n3+(1:Int))) fun n37=>
      letN (max n28 n37) fun n38=>
      zan (zaf [D.agg [D.int IntKind.i64 (5:Int),D.int IntKind.i64 n3,D.int IntKind.i64 i8],D.agg [D.int IntKind.i64 (6:Int),D.int IntKind.i64 n38,D.int IntKind.i64 i33]]) fun r39=>
      asB r39 fun b40=>
      brK (!b40)
        (letN (IntKind.wrap IntKind.i64 (n38+(1:Int))) fun n41=>
        some (D.tup [D.agg [D.int IntKind.i64 (5:Int),D.int IntKind.i64 n3,D.int IntKind.i64 i8],D.agg [D.int IntKind.i64 (6:Int),D.int IntKind.i64 n41,D.int IntKind.i64 i33]]))
        (some (D.tup [D.agg [D.int IntKind.i64 (5:Int),D.int IntKind.i64 n3,D.int IntKind.i64 i8],D.agg [D.int IntKind.i64 (6:Int),D.int IntKind.i64 n38,D.int IntKind.i64 i33]])))
      (zan (zaf [D.agg [D.int IntKind.i64 (5:Int),D.int IntKind.i64 n3,D.int IntKind.i64 i8],D.agg [D.int IntKind.i64 (5:Int),D.int IntKind.i64 n28,D.int IntKind.i64 i33]]) fun r42=>
      asB r42 fun b43=>
      brK (!b43)
        (letN (IntKind.wrap IntKind.i64 (n28+(1:Int))) fun n44=>
        some (D.tup [D.agg [D.int IntKind.i64 (5:Int),D.int IntKind.i64 n3,D.int IntKind.i64 i8],D.agg [D.int IntKind.i64 (5:Int),D.int IntKind.i64 n44,D.int IntKind.i64 i33]]))
        (some (D.tup [D.agg [D.int IntKind.i64 (5:Int),D.int IntKind.i64 n3,D.int IntKind.i64 i8],D.agg [D.int IntKind.i64 (5:Int),D.int IntKind.i64 n28,D.int IntKind.i64 i33]]))))
theorem zmM (zaa:List D→Option D) (zaf:List D→Option D) (a0:Int) (a1:Int):denP Try.prog (zav [(ID.wattlekeep_Within,(.pure [0] zaa)),(ID.wattleref01_Can,(.pure [0] zaf))]) zf3 [0,0] ID.wattleplay_Pair [.int .i64 a0,.int .i64 a1]=zeH zaa zaf a0 a1:=by kernel_rfl
theorem zkc (a0:Int) (a1:Int):zbr [.int .i64 a0,.int .i64 a1]=zeH zaa zaf a0 a1:=zmM zaa zaf a0 a1
def znB:Ann:={ loops:=[],pubs:=[(1,[(0,119,7649)])],ks:=[(7649,true)] }
noncomputable def zcE:List D→List Tb→Option Ans:=denS Try.prog (zav []) znB [0] ID.disk_New
theorem zp2:za5 Try.prog ID.disk_New (.st [] [0] [(7649,true)] zcE):=zbq (zay []) zby ⟨Try.f80,by kernel_rfl,by kernel_rfl,by kernel_rfl⟩
noncomputable def zsf:Fact Try.prog:=⟨ID.disk_New,(.st [] [0] [(7649,true)] zcE),zp2⟩
noncomputable def zmN (T0:Tb):Option Ans:=
  letT (T0++[List.map D.own0 (List.reverse ([D.bool false,D.sl Tag.nil []]++List.replicate 1664 (D.int IntKind.u8 (0:Int))))]) fun U1=>
  some (Ans.mk (D.h (7649:Nat) (List.length T0) (0:Nat)) [] [U1])
theorem zw1 (T0:Tb):denS Try.prog (zav []) znB [0] ID.disk_New [] [T0]=zmN T0:=by kernel_rfl
theorem zsg (T0:Tb):zcE [] [T0]=zmN T0:=zw1 T0
def zlX:Ann:={ loops:=[(1,[.dead,.dead,.dead,.dead,.val (.cell (.hnd (3840:Nat))),.dead,.dead,.dead,.dead,.dead,.dead,.dead,.dead,.dead,.val (.cell (.int .i64)),.val (.cell (.int .i64))])],pubs:=[(3,[(4,63,3840)])],ks:=[(3840,true),(7649,true)] }
noncomputable def zbl:List D→List Tb→Option Ans:=denS Try.prog (zav [(ID.disk_New,(.st [] [0] [(7649,true)] zcE))]) zlX [0,0] ID.bench_New
theorem zpl:za5 Try.prog ID.bench_New (.st [] [0,0] [(3840,true),(7649,true)] zbl):=zbq (zay [zsf]) zby ⟨Try.f35,by kernel_rfl,by kernel_rfl,by kernel_rfl⟩
noncomputable def zkw:Fact Try.prog:=⟨ID.bench_New,(.st [] [0,0] [(3840,true),(7649,true)] zbl),zpl⟩
noncomputable def zk1 (zcE:List D→List Tb→Option Ans) (a0:Int) (T0:Tb) (T1:Tb):Option Ans:=
  brK (decide (a0 < (1:Int)))
    (some (Ans.mk (D.tup [D.nilp,D.int IntKind.i64 (1:Int)]) [] [T0,T1]))
    (brK (decide (a0 > (8:Int)))
      (some (Ans.mk (D.tup [D.nilp,D.int IntKind.i64 (1:Int)]) [] [T0,T1]))
      (letT (T0++[[D.own0 (D.int IntKind.i64 (0:Int)),D.own0 (D.int IntKind.i64 (-1:Int)),D.own0 (D.bool false),D.own0 (D.sl Tag.nil [])]]) fun U1=>
      zcs (α:=(Nat×Int×Int×PUnit)×List (List D)×List (List D)×PUnit) (fun again2 ((x3,(i4,(i5,_))),(U6,(U7,_)))=>
        brK (decide (i5 < i4))
          (getK U6 x3 fun d8=>
          getK d8 ((3:Nat)) fun d9=>
          zbk d9 fun l10=>
          zan (zcE [] [U7]) fun r11=>
          nilK r11.outs <|
          zdL r11.tbs fun c12 q13=>
          nilK q13 <|
          sif (zhl r11.r=true) <|
          sif (zdK (1:Nat) [r11.r]=true) <|
          getK U6 x3 fun d14=>
          getK d14 ((3:Nat)) fun d15=>
          zbk d15 fun l16=>
          sif (List.length l10+(1:Nat)≤(4294967296:Nat)) <|
          sif (zdK (1:Nat) [r11.r]=true) <|
          sif (List.length l10=List.length l16) <|
          letT (setT U6 x3 (3:Nat) D.undef) fun U17=>
          getK U17 x3 fun d18=>
          sif ((4:Nat)≤List.length d18) <|
          sif (List.length l10+(1:Nat)=List.length (l16++[r11.r])) <|
          sif (zc8 (l16++[r11.r])=true) <|
          sif (zfk (1:Nat) (l16++[r11.r])=true) <|
          letT (za0 U17 x3 (3:Nat) [D.sl Tag.own (l16++[r11.r])]) fun U19=>
          letN (IntKind.wrap IntKind.i64 (i5+(1:Int))) fun n20=>
          again2 (((x3,i4,n20,PUnit.unit),U19,c12,PUnit.unit)))
          (some (Ans.mk (D.tup [D.h (3840) x3 (0:Nat),D.int IntKind.i64 (0:Int)]) [] [U6,U7])))
        (((List.length T0,a0,(0:Int),PUnit.unit),U1,T1,PUnit.unit))))
theorem zu1 (zcE:List D→List Tb→Option Ans) (a0:Int) (T0:Tb) (T1:Tb):denS Try.prog (zav [(ID.disk_New,(.st [] [0] [(7649,true)] zcE))]) zlX [0,0] ID.bench_New [.int .i64 a0] [T0,T1]=zk1 zcE a0 T0 T1:=by kernel_rfl
theorem zp3 (a0:Int) (T0:Tb) (T1:Tb):zbl [.int .i64 a0] [T0,T1]=zk1 zcE a0 T0 T1:=zu1 zcE a0 T0 T1
def zf4:Ann:={ loops:=[(0,[.val (.cell (.int .i64)),.val (.cell (.int .i64)),.dead,.dead,.dead,.own 1,.dead,.dead,.dead,.dead,.val (.cell (.int .i64)),.val (.cell (.int .i64))])] }
noncomputable def zbs:List D→Option D:=denP Try.prog (zav [(ID.wattlekeep_Within,(.pure [0] zaa))]) zf4 [1] ID.wattleplay_Live
theorem zjl:za5 Try.prog ID.wattleplay_Live (.pure [1] zbs):=zao (zay [zcz]) zby ⟨Try.f18,by kernel_rfl,by kernel_rfl,by kernel_rfl⟩
noncomputable def zkd:Fact Try.prog:=⟨ID.wattleplay_Live,(.pure [1] zbs),zjl⟩
noncomputable def zeI (zaa:List D→Option D) (a0:Int) (a1:Int):Option D:=
  sif ((0:Int)≤a1) <|
  sif (a1=a1) <|
  sif (a1*(1:Int)≤(140737488355328:Int)) <|
  sif (a1≤(140737488355328:Int)) <|
  sif ((0:Nat)+Int.toNat a1≤List.length (List.replicate (Int.toNat a1) (D.bool false))) <|
  sif (Int.toNat a1=List.length (List.replicate (Int.toNat a1) (D.bool false))) <|
  zcs (α:=(Int×Int×List D×Int×Int×PUnit)×PUnit) (fun again1 ((i2,(i3,(l4,(i5,(i6,_))))),_)=>
    brK (decide (i6 < i5))
      (sif ((0:Int)≤i6) <|
      sif (Int.toNat i6 < List.length l4) <|
      getK l4 ((0:Nat)+Int.toNat i6) fun d7=>
      sif (D.isAgg d7=false) <|
      letN (IntKind.wrap IntKind.i64 (i6+(1:Int))) fun n8=>
      sif (List.length l4=List.length (List.set l4 ((0:Nat)+Int.toNat i6) (D.bool true))) <|
      again1 (((i2,i3,List.set l4 ((0:Nat)+Int.toNat i6) (D.bool true),i5,n8,PUnit.unit),PUnit.unit)))
      (brK (decide (i3 > (0:Int)))
        (zan (zaa [D.int IntKind.i64 i2,D.int IntKind.i64 (3:Int)]) fun r9=>
        asI IntKind.i64 r9 fun i10=>
        brK (decide (i10 > (0:Int)))
          (letN (IntKind.wrap IntKind.i64 (Int.tdiv i2 (3:Int))) fun n11=>
          zan (zaa [D.int IntKind.i64 n11,D.int IntKind.i64 i3]) fun r12=>
          asI IntKind.i64 r12 fun i13=>
          sif ((0:Int)≤i13) <|
          sif (Int.toNat i13 < List.length l4) <|
          getK l4 ((0:Nat)+Int.toNat i13) fun d14=>
          sif (D.isAgg d14=false) <|
          brK (decide (i3 > (0:Int)))
            (zan (zaa [D.int IntKind.i64 i2,D.int IntKind.i64 (9:Int)]) fun r15=>
            asI IntKind.i64 r15 fun i16=>
            brK (i16 == (8:Int))
              (letN (IntKind.wrap IntKind.i64 (Int.tdiv i2 (27:Int))) fun n17=>
              zan (zaa [D.int IntKind.i64 n17,D.int IntKind.i64 i3]) fun r18=>
              asI IntKind.i64 r18 fun i19=>
              sif ((0:Int)≤i19) <|
              sif (Int.toNat i19 < List.length l4) <|
              getK (List.set l4 ((0:Nat)+Int.toNat i13) (D.bool false)) ((0:Nat)+Int.toNat i19) fun d20=>
              sif (D.isAgg d20=false) <|
              sif (List.length l4=List.length (List.set (List.set l4 ((0:Nat)+Int.toNat i13) (D.bool false)) ((0:Nat)+Int.toNat i19) (D.bool false))) <|
              sif (List.all (List.set (List.set l4 ((0:Nat)+Int.toNat i13) (D.bool false)) ((0:Nat)+Int.toNat i19) (D.bool false)) D.free=true) <|
              some (D.sl Tag.own (List.set (List.set l4 ((0:Nat)+Int.toNat i13) (D.bool false)) ((0:Nat)+Int.toNat i19) (D.bool false))))
              (sif (List.length l4=List.length (List.set l4 ((0:Nat)+Int.toNat i13) (D.bool false))) <|
              sif (List.all (List.set l4 ((0:Nat)+Int.toNat i13) (D.bool false)) D.free=true) <|
              some (D.sl Tag.own (List.set l4 ((0:Nat)+Int.toNat i13) (D.bool false)))))
            (sif (List.length l4=List.length (List.set l4 ((0:Nat)+Int.toNat i13) (D.bool false))) <|
            sif (List.all (List.set l4 ((0:Nat)+Int.toNat i13) (D.bool false)) D.free=true) <|
            some (D.sl Tag.own (List.set l4 ((0:Nat)+Int.toNat i13) (D.bool false)))))
          (brK (decide (i3 > (0:Int)))
            (zan (zaa [D.int IntKind.i64 i2,D.int IntKind.i64 (9:Int)]) fun r21=>
            asI IntKind.i64 r21 fun i22=>
            brK (i22 == (8:Int))
              (letN (IntKind.wrap IntKind.i64 (Int.tdiv i2 (27:Int))) fun n23=>
              zan (zaa [D.int IntKind.i64 n23,D.int IntKind.i64 i3]) fun r24=>
              asI IntKind.i64 r24 fun i25=>
              sif ((0:Int)≤i25) <|
              sif (Int.toNat i25 < List.length l4) <|
              getK l4 ((0:Nat)+Int.toNat i25) fun d26=>
              sif (D.isAgg d26=false) <|
              sif (List.length l4=List.length (List.set l4 ((0:Nat)+Int.toNat i25) (D.bool false))) <|
              sif (List.all (List.set l4 ((0:Nat)+Int.toNat i25) (D.bool false)) D.free=true) <|
              some (D.sl Tag.own (List.set l4 ((0:Nat)+Int.toNat i25) (D.bool false))))
              (sif (List.length l4=List.length l4) <|
              sif (List.all l4 D.free=true) <|
              some (D.sl Tag.own l4)))
            (sif (List.length l4=List.length l4) <|
            sif (List.all l4 D.free=true) <|
            some (D.sl Tag.own l4))))
        (brK (decide (i3 > (0:Int)))
          (zan (zaa [D.int IntKind.i64 i2,D.int IntKind.i64 (9:Int)]) fun r27=>
          asI IntKind.i64 r27 fun i28=>
          brK (i28 == (8:Int))
            (letN (IntKind.wrap IntKind.i64 (Int.tdiv i2 (27:Int))) fun n29=>
            zan (zaa [D.int IntKind.i64 n29,D.int IntKind.i64 i3]) fun r30=>
            asI IntKind.i64 r30 fun i31=>
            sif ((0:Int)≤i31) <|
            sif (Int.toNat i31 < List.length l4) <|
            getK l4 ((0:Nat)+Int.toNat i31) fun d32=>
            sif (D.isAgg d32=false) <|
            sif (List.length l4=List.length (List.set l4 ((0:Nat)+Int.toNat i31) (D.bool false))) <|
            sif (List.all (List.set l4 ((0:Nat)+Int.toNat i31) (D.bool false)) D.free=true) <|
            some (D.sl Tag.own (List.set l4 ((0:Nat)+Int.toNat i31) (D.bool false))))
            (sif (List.length l4=List.length l4) <|
            sif (List.all l4 D.free=true) <|
            some (D.sl Tag.own l4)))
          (sif (List.length l4=List.length l4) <|
          sif (List.all l4 D.free=true) <|
          some (D.sl Tag.own l4)))))
    (((a0,a1,List.replicate (Int.toNat a1) (D.bool false),(↑(Int.toNat a1):Int),(0:Int),PUnit.unit),PUnit.unit))
theorem zmO (zaa:List D→Option D) (a0:Int) (a1:Int):denP Try.prog (zav [(ID.wattlekeep_Within,(.pure [0] zaa))]) zf4 [1] ID.wattleplay_Live [.int .i64 a0,.int .i64 a1]=zeI zaa a0 a1:=by kernel_rfl
theorem zke (a0:Int) (a1:Int):zbs [.int .i64 a0,.int .i64 a1]=zeI zaa a0 a1:=zmO zaa a0 a1
def zf5:Ann:={ loops:=[],ks:=[(3840,false)] }
noncomputable def zaG:List D→List Tb→Option Ans:=denS Try.prog (zav []) zf5 [0] ID.bench_Bench_Len
theorem zjm:za5 Try.prog ID.bench_Bench_Len (.st [] [0] [(3840,false)] zaG):=zbq (zay []) zby ⟨Try.f68,by kernel_rfl,by kernel_rfl,by kernel_rfl⟩
noncomputable def zfm:Fact Try.prog:=⟨ID.bench_Bench_Len,(.st [] [0] [(3840,false)] zaG),zjm⟩
noncomputable def zeJ (a0:Nat) (T0:Tb):Option Ans:=
  getK T0 a0 fun d1=>
  getK d1 ((3:Nat)) fun d2=>
  zbk d2 fun l3=>
  getK T0 a0 fun d4=>
  getK d4 ((3:Nat)) fun d5=>
  zbk d5 fun l6=>
  sif ((0:Nat)+List.length l3≤List.length l6) <|
  some (Ans.mk (D.int IntKind.i64 (↑(List.length l3):Int)) [] [])
theorem zmP (a0:Nat) (T0:Tb):denS Try.prog (zav []) zf5 [0] ID.bench_Bench_Len [.h 3840 a0 0] [T0]=zeJ a0 T0:=by kernel_rfl
theorem zkf (a0:Nat) (T0:Tb):zaG [.h 3840 a0 0] [T0]=zeJ a0 T0:=zmP a0 T0
def zd9:Ann:={ loops:=[(0,[.val (.cell .lent),.val (.cell (.int .i64)),.dead,.dead,.dead,.dead,.dead,.val (.cell (.int .i64)),.val (.cell (.int .i64))])] }
noncomputable def za1:List D→Option D:=denP Try.prog (zav []) zd9 [0] ID.slices_Index_int_int
theorem zgp:za5 Try.prog ID.slices_Index_int_int (.pure [0] za1):=zao (zay []) zby ⟨Try.f87,by kernel_rfl,by kernel_rfl,by kernel_rfl⟩
noncomputable def zgP:Fact Try.prog:=⟨ID.slices_Index_int_int,(.pure [0] za1),zgp⟩
noncomputable def zda (a0:List D) (a1:Int):Option D:=
  zcs (α:=(List D×Int×Int×Int×PUnit)×PUnit) (fun again1 ((l2,(i3,(i4,(i5,_)))),_)=>
    brK (decide (i5 < i4))
      (sif ((0:Int)≤i5) <|
      getK l2 (Int.toNat i5) fun d6=>
      asI IntKind.i64 d6 fun i7=>
      brK (i3 == i7)
        (some (D.int IntKind.i64 i5))
        (letN (IntKind.wrap IntKind.i64 (i5+(1:Int))) fun n8=>
        again1 (((l2,i3,i4,n8,PUnit.unit),PUnit.unit))))
      (some (D.int IntKind.i64 (-1:Int))))
    (((a0,a1,(↑(List.length a0):Int),(0:Int),PUnit.unit),PUnit.unit))
theorem ziG (tga0:Tag) (a0:List D) (a1:Int):denP Try.prog (zav []) zd9 [0] ID.slices_Index_int_int [.sl tga0 a0,.int .i64 a1]=zda (D.lentL a0) a1:=by kernel_rfl
theorem zgQ (tga0:Tag) (a0:List D) (a1:Int):za1 [.sl tga0 a0,.int .i64 a1]=zda (D.lentL a0) a1:=ziG tga0 a0 a1
def zdn:Ann:={ loops:=[] }
noncomputable def zaH:List D→Option D:=denP Try.prog (zav [(ID.slices_Index_int_int,(.pure [0] za1))]) zdn [0] ID.slices_Contains_int_int
theorem zfc:za5 Try.prog ID.slices_Contains_int_int (.pure [0] zaH):=zao (zay [zgP]) zby ⟨Try.f101,by kernel_rfl,by kernel_rfl,by kernel_rfl⟩
noncomputable def zfC:Fact Try.prog:=⟨ID.slices_Contains_int_int,(.pure [0] zaH),zfc⟩
noncomputable def zcN (za1:List D→Option D) (a0:List D) (a1:Int):Option D:=
  zan (za1 [D.sl Tag.lent a0,D.int IntKind.i64 a1]) fun r1=>
  asI IntKind.i64 r1 fun i2=>
  some (D.bool (decide (i2≥(0:Int))))
theorem zgR (za1:List D→Option D) (tga0:Tag) (a0:List D) (a1:Int):denP Try.prog (zav [(ID.slices_Index_int_int,(.pure [0] za1))]) zdn [0] ID.slices_Contains_int_int [.sl tga0 a0,.int .i64 a1]=zcN za1 (D.lentL a0) a1:=by kernel_rfl
theorem zfD (tga0:Tag) (a0:List D) (a1:Int):zaH [.sl tga0 a0,.int .i64 a1]=zcN za1 (D.lentL a0) a1:=zgR za1 tga0 a0 a1
def zkx:Ann:={ loops:=[] }
noncomputable def zai:List D→Option D:=denP Try.prog (zav [(ID.slices_Contains_int_int,(.pure [0] zaH))]) zkx [0] ID.geom_Check
theorem znQ:za5 Try.prog ID.geom_Check (.pure [0] zai):=zao (zay [zfC]) zby ⟨Try.f69,by kernel_rfl,by kernel_rfl,by kernel_rfl⟩
noncomputable def zcR:Fact Try.prog:=⟨ID.geom_Check,(.pure [0] zai),znQ⟩
noncomputable def zjn (zaH:List D→Option D) (a0_0:Int) (a0_1:Int) (a0_2:Int):Option D:=
  asI IntKind.i64 (zwO a0_0 (D.int IntKind.i64 (0:Int)) (setD (6:Int) (D.int IntKind.i64 (4:Int)) (setD (5:Int) (D.int IntKind.i64 (3:Int)) []))) fun i1=>
  brK (i1 == (0:Int))
    (some (D.int IntKind.i64 (1:Int)))
    (brK (decide (a0_1 < i1))
      (some (D.int IntKind.i64 (1:Int)))
      (brK (decide (a0_1 > (8:Int)))
        (some (D.int IntKind.i64 (1:Int)))
        (zan (zaH [D.sl Tag.full [D.int IntKind.i64 (1:Int),D.int IntKind.i64 (2:Int),D.int IntKind.i64 (4:Int)],D.int IntKind.i64 a0_2]) fun r2=>
        asB r2 fun b3=>
        brK (!b3)
          (some (D.int IntKind.i64 (1:Int)))
          (some (D.int IntKind.i64 (0:Int))))))
theorem ztW (zaH:List D→Option D) (a0_0:Int) (a0_1:Int) (a0_2:Int):denP Try.prog (zav [(ID.slices_Contains_int_int,(.pure [0] zaH))]) zkx [0] ID.geom_Check [.agg [.int .i64 a0_0,.int .i64 a0_1,.int .i64 a0_2]]=zjn zaH a0_0 a0_1 a0_2:=by kernel_rfl
theorem zpm (a0_0:Int) (a0_1:Int) (a0_2:Int):zai [.agg [.int .i64 a0_0,.int .i64 a0_1,.int .i64 a0_2]]=zjn zaH a0_0 a0_1 a0_2:=ztW zaH a0_0 a0_1 a0_2
def zgE:Ann:={ loops:=[],ks:=[(3840,false)] }
noncomputable def zat:List D→List Tb→Option Ans:=denS Try.prog (zav []) zgE [0] ID.bench_Bench_is
theorem zkg:za5 Try.prog ID.bench_Bench_is (.st [] [0] [(3840,false)] zat):=zbq (zay []) zby ⟨Try.f66,by kernel_rfl,by kernel_rfl,by kernel_rfl⟩
noncomputable def zf6:Fact Try.prog:=⟨ID.bench_Bench_is,(.st [] [0] [(3840,false)] zat),zkg⟩
noncomputable def zfd (a0:Nat) (a1:Int) (T0:Tb):Option Ans:=
  brK (decide (a1≥(0:Int)))
    (getK T0 a0 fun d1=>
    getK d1 ((3:Nat)) fun d2=>
    zbk d2 fun l3=>
    getK T0 a0 fun d4=>
    getK d4 ((3:Nat)) fun d5=>
    zbk d5 fun l6=>
    sif ((0:Nat)+List.length l3≤List.length l6) <|
    some (Ans.mk (D.bool (decide (a1 < (↑(List.length l3):Int)))) [] []))
    (some (Ans.mk (D.bool false) [] []))
theorem znR (a0:Nat) (a1:Int) (T0:Tb):denS Try.prog (zav []) zgE [0] ID.bench_Bench_is [.h 3840 a0 0,.int .i64 a1] [T0]=zfd a0 a1 T0:=by kernel_rfl
theorem zk2 (a0:Nat) (a1:Int) (T0:Tb):zat [.h 3840 a0 0,.int .i64 a1] [T0]=zfd a0 a1 T0:=znR a0 a1 T0
def zfn:Ann:={ loops:=[],ks:=[(7649,false)] }
noncomputable def zbj:List D→List Tb→Option Ans:=denS Try.prog (zav []) zfn [0] ID.disk_Disk_Failed
theorem ziH:za5 Try.prog ID.disk_Disk_Failed (.st [] [0] [(7649,false)] zbj):=zbq (zay []) zby ⟨Try.f84,by kernel_rfl,by kernel_rfl,by kernel_rfl⟩
noncomputable def zjo:Fact Try.prog:=⟨ID.disk_Disk_Failed,(.st [] [0] [(7649,false)] zbj),ziH⟩
noncomputable def zem (a0:Nat) (T0:Tb):Option Ans:=
  getK T0 a0 fun d1=>
  getK d1 ((1665:Nat)) fun d2=>
  asB d2 fun b3=>
  some (Ans.mk (D.bool b3) [] [])
theorem zlY (a0:Nat) (T0:Tb):denS Try.prog (zav []) zfn [0] ID.disk_Disk_Failed [.h 7649 a0 0] [T0]=zem a0 T0:=by kernel_rfl
theorem zjp (a0:Nat) (T0:Tb):zbj [.h 7649 a0 0] [T0]=zem a0 T0:=zlY a0 T0
def zez:Ann:={ loops:=[],ks:=[(3840,false),(7649,false)] }
noncomputable def za4:List D→List Tb→Option Ans:=denS Try.prog (zav [(ID.bench_Bench_is,(.st [] [0] [(3840,false)] zat)),(ID.disk_Disk_Failed,(.st [] [0] [(7649,false)] zbj))]) zez [0] ID.bench_Bench_Failed
theorem zht:za5 Try.prog ID.bench_Bench_Failed (.st [] [0] [(3840,false),(7649,false)] za4):=zbq (zay [zf6,zjo]) zby ⟨Try.f41,by kernel_rfl,by kernel_rfl,by kernel_rfl⟩
noncomputable def zh6:Fact Try.prog:=⟨ID.bench_Bench_Failed,(.st [] [0] [(3840,false),(7649,false)] za4),zht⟩
noncomputable def zdE (zat:List D→List Tb→Option Ans) (zbj:List D→List Tb→Option Ans) (a0:Nat) (a1:Int) (T0:Tb) (T1:Tb):Option Ans:=
  zan (zat [D.h (3840:Nat) a0 (0:Nat),D.int IntKind.i64 a1] [T0]) fun r1=>
  nilK r1.outs <|
  nilK r1.tbs <|
  asB r1.r fun b2=>
  brK b2
    (getK T0 a0 fun d3=>
    getK d3 ((3:Nat)) fun d4=>
    zbk d4 fun l5=>
    getK T0 a0 fun d6=>
    getK d6 ((3:Nat)) fun d7=>
    zbk d7 fun l8=>
    sif ((0:Int)≤a1) <|
    sif (Int.toNat a1 < List.length l5) <|
    getK T0 a0 fun d9=>
    getK d9 ((3:Nat)) fun d10=>
    zbk d10 fun l11=>
    getK l11 ((0:Nat)+Int.toNat a1) fun d12=>
    sif (D.isAgg d12=false) <|
    sif (D.width d12=(1:Nat)) <|
    sif (D.cell d12=true) <|
    zan (zbj [d12] [T1]) fun r13=>
    nilK r13.outs <|
    nilK r13.tbs <|
    asB r13.r fun b14=>
    some (Ans.mk (D.bool b14) [] []))
    (some (Ans.mk (D.bool false) [] []))
theorem zkh (zat:List D→List Tb→Option Ans) (zbj:List D→List Tb→Option Ans) (a0:Nat) (a1:Int) (T0:Tb) (T1:Tb):denS Try.prog (zav [(ID.bench_Bench_is,(.st [] [0] [(3840,false)] zat)),(ID.disk_Disk_Failed,(.st [] [0] [(7649,false)] zbj))]) zez [0] ID.bench_Bench_Failed [.h 3840 a0 0,.int .i64 a1] [T0,T1]=zdE zat zbj a0 a1 T0 T1:=by kernel_rfl
theorem zh7 (a0:Nat) (a1:Int) (T0:Tb) (T1:Tb):za4 [.h 3840 a0 0,.int .i64 a1] [T0,T1]=zdE zat zbj a0 a1 T0 T1:=zkh zat zbj a0 a1 T0 T1
def zlZ:Ann:={ loops:=[],ks:=[(3840,false),(7649,false)] }
noncomputable def zaF:List D→List Tb→Option Ans:=denS Try.prog (zav [(ID.bench_Bench_Len,(.st [] [0] [(3840,false)] zaG)),(ID.bench_Bench_Failed,(.st [] [0] [(3840,false),(7649,false)] za4))]) zlZ [0] ID.stripe_up
theorem zpn:za5 Try.prog ID.stripe_up (.st [] [0] [(3840,false),(7649,false)] zaF):=zbq (zay [zfm,zh6]) zby ⟨Try.f70,by kernel_rfl,by kernel_rfl,by kernel_rfl⟩
noncomputable def zeS:Fact Try.prog:=⟨ID.stripe_up,(.st [] [0] [(3840,false),(7649,false)] zaF),zpn⟩
noncomputable def zk3 (zaG:List D→List Tb→Option Ans) (za4:List D→List Tb→Option Ans) (a0:Nat) (a1:List D) (a2:Int) (T0:Tb) (T1:Tb):Option Ans:=
  zan (zaG [D.h (3840:Nat) a0 (0:Nat)] [T0]) fun r1=>
  nilK r1.outs <|
  nilK r1.tbs <|
  asI IntKind.i64 r1.r fun i2=>
  brK (decide (a2 < i2))
    (brK (decide (a2 < (↑(List.length a1):Int)))
      (sif ((0:Int)≤a2) <|
      getK a1 (Int.toNat a2) fun d3=>
      asB d3 fun b4=>
      brK b4
        (zan (za4 [D.h (3840:Nat) a0 (0:Nat),D.int IntKind.i64 a2] [T0,T1]) fun r5=>
        nilK r5.outs <|
        nilK r5.tbs <|
        asB r5.r fun b6=>
        some (Ans.mk (D.bool !b6) [] []))
        (some (Ans.mk (D.bool false) [] [])))
      (some (Ans.mk (D.bool false) [] [])))
    (some (Ans.mk (D.bool false) [] []))
theorem zu2 (zaG:List D→List Tb→Option Ans) (za4:List D→List Tb→Option Ans) (tga1:Tag) (a0:Nat) (a1:List D) (a2:Int) (T0:Tb) (T1:Tb):denS Try.prog (zav [(ID.bench_Bench_Len,(.st [] [0] [(3840,false)] zaG)),(ID.bench_Bench_Failed,(.st [] [0] [(3840,false),(7649,false)] za4))]) zlZ [0] ID.stripe_up [.h 3840 a0 0,.sl tga1 a1,.int .i64 a2] [T0,T1]=zk3 zaG za4 a0 (D.lentL a1) a2 T0 T1:=by kernel_rfl
theorem zp4 (tga1:Tag) (a0:Nat) (a1:List D) (a2:Int) (T0:Tb) (T1:Tb):zaF [.h 3840 a0 0,.sl tga1 a1,.int .i64 a2] [T0,T1]=zk3 zaG za4 a0 (D.lentL a1) a2 T0 T1:=zu2 zaG za4 tga1 a0 a1 a2 T0 T1
def zf7:Ann:={ loops:=[],ks:=[(3840,false)] }
noncomputable def zap:List D→List Tb→Option Ans:=denS Try.prog (zav [(ID.bench_Bench_is,(.st [] [0] [(3840,false)] zat))]) zf7 [0] ID.bench_Bench_may
theorem zjq:za5 Try.prog ID.bench_Bench_may (.st [] [0] [(3840,false)] zap):=zbq (zay [zf6]) zby ⟨Try.f85,by kernel_rfl,by kernel_rfl,by kernel_rfl⟩
noncomputable def zdF:Fact Try.prog:=⟨ID.bench_Bench_may,(.st [] [0] [(3840,false)] zap),zjq⟩
noncomputable def zeK (zat:List D→List Tb→Option Ans) (a0:Nat) (a1:Int) (T0:Tb):Option Ans:=
  zan (zat [D.h (3840:Nat) a0 (0:Nat),D.int IntKind.i64 a1] [T0]) fun r1=>
  nilK r1.outs <|
  nilK r1.tbs <|
  asB r1.r fun b2=>
  brK (!b2)
    (some (Ans.mk (D.int IntKind.i64 (1:Int)) [] []))
    (getK T0 a0 fun d3=>
    getK d3 ((2:Nat)) fun d4=>
    asB d4 fun b5=>
    brK b5
      (some (Ans.mk (D.int IntKind.i64 (6:Int)) [] []))
      (some (Ans.mk (D.int IntKind.i64 (0:Int)) [] [])))
theorem zmQ (zat:List D→List Tb→Option Ans) (a0:Nat) (a1:Int) (T0:Tb):denS Try.prog (zav [(ID.bench_Bench_is,(.st [] [0] [(3840,false)] zat))]) zf7 [0] ID.bench_Bench_may [.h 3840 a0 0,.int .i64 a1] [T0]=zeK zat a0 a1 T0:=by kernel_rfl
theorem zki (a0:Nat) (a1:Int) (T0:Tb):zap [.h 3840 a0 0,.int .i64 a1] [T0]=zeK zat a0 a1 T0:=zmQ zat a0 a1 T0
def zhu:Ann:={ loops:=[],ks:=[(7649,false)] }
noncomputable def zaP:List D→List Tb→Option Ans:=denS Try.prog (zav []) zhu [0] ID.disk_Disk_may
theorem zk4:za5 Try.prog ID.disk_Disk_may (.st [] [0] [(7649,false)] zaP):=zbq (zay []) zby ⟨Try.f118,by kernel_rfl,by kernel_rfl,by kernel_rfl⟩
noncomputable def zgF:Fact Try.prog:=⟨ID.disk_Disk_may,(.st [] [0] [(7649,false)] zaP),zk4⟩
noncomputable def zf8 (a0:Nat) (a1:Int) (T0:Tb):Option Ans:=
  getK T0 a0 fun d1=>
  getK d1 ((1665:Nat)) fun d2=>
  asB d2 fun b3=>
  brK b3
    (some (Ans.mk (D.int IntKind.i64 (5:Int)) [] []))
    (brK (decide (a1 < (0:Int)))
      (some (Ans.mk (D.int IntKind.i64 (4:Int)) [] []))
      (brK (decide (a1≥(52:Int)))
        (some (Ans.mk (D.int IntKind.i64 (4:Int)) [] []))
        (some (Ans.mk (D.int IntKind.i64 (0:Int)) [] []))))
theorem zpo (a0:Nat) (a1:Int) (T0:Tb):denS Try.prog (zav []) zhu [0] ID.disk_Disk_may [.h 7649 a0 0,.int .i64 a1] [T0]=zf8 a0 a1 T0:=by kernel_rfl
theorem zl0 (a0:Nat) (a1:Int) (T0:Tb):zaP [.h 7649 a0 0,.int .i64 a1] [T0]=zf8 a0 a1 T0:=zpo a0 a1 T0
def zdB:Ann:={ loops:=[] }
noncomputable def zaj:List D→Option D:=denE Try.prog (zav []) zdB [1] ID.slices_Clone_byte_byte
theorem zfE:za5 Try.prog ID.slices_Clone_byte_byte (.pure [1] zaj):=zq2 (zay []) zby ⟨Try.f109,by kernel_rfl,by kernel_rfl,by kernel_rfl⟩
noncomputable def zdo:Fact Try.prog:=⟨ID.slices_Clone_byte_byte,(.pure [1] zaj),zfE⟩
noncomputable def zcS (a0:D) (b0:List D):Option D:=
  sif (List.length (a0::b0)≤(4294967296:Nat)) <|
  sif (zdK (1:Nat) (a0::b0)=true) <|
  sif (List.length (a0::b0)=List.length (a0::b0)) <|
  sif (List.all (a0::b0) D.free=true) <|
  some (D.sl Tag.own (a0::b0))
theorem zhv (tga0:Tag) (a0:D) (b0:List D):denE Try.prog (zav []) zdB [1] ID.slices_Clone_byte_byte [.sl tga0 (a0::b0)]=zcS (D.lent a0) (D.lentL b0):=by kernel_rfl
theorem zf9 (tga0:Tag) (a0:D) (b0:List D):zaj [.sl tga0 (a0::b0)]=zcS (D.lent a0) (D.lentL b0):=zhv tga0 a0 b0
theorem zfF (tg:Tag):zaj [.sl tg []]=some (.sl .own []):=(znz (some (.sl .own [])))
def zgG:Ann:={ loops:=[(1,[.dead,.val (.cell (.int .i64)),.dead,.dead,.dead,.dead,.dead,.box true [(.arr 32)],.dead,.dead,.dead,.dead,.dead,.dead,.dead,.dead,.dead,.dead,.dead,.dead,.dead,.dead,.dead,.dead,.dead,.view 7649 1664,.val (.cell (.int .i64)),.val (.cell (.int .i64))])],ks:=[(7649,false)] }
noncomputable def zbA:List D→List Tb→Option Ans:=denS Try.prog (zav [(ID.disk_Disk_may,(.st [] [0] [(7649,false)] zaP)),(ID.slices_Clone_byte_byte,(.pure [1] zaj))]) zgG [1,0] ID.disk_Disk_Read
theorem zkj:za5 Try.prog ID.disk_Disk_Read (.st [] [1,0] [(7649,false)] zbA):=zbq (zay [zgF,zdo]) zby ⟨Try.f86,by kernel_rfl,by kernel_rfl,by kernel_rfl⟩
noncomputable def zk5:Fact Try.prog:=⟨ID.disk_Disk_Read,(.st [] [1,0] [(7649,false)] zbA),zkj⟩
noncomputable def zfe (zaP:List D→List Tb→Option Ans) (zaj:List D→Option D) (a0:Nat) (a1:Int) (T0:Tb):Option Ans:=
  zan (zaP [D.h (7649:Nat) a0 (0:Nat),D.int IntKind.i64 a1] [T0]) fun r1=>
  nilK r1.outs <|
  nilK r1.tbs <|
  asI IntKind.i64 r1.r fun i2=>
  brK (i2 != (0:Int))
    (some (Ans.mk (D.tup [D.sl Tag.own [],D.int IntKind.i64 i2]) [] []))
    (sif ((0:Int)≤a1) <|
    sif (Int.toNat a1 < (52:Nat)) <|
    getK T0 a0 fun d3=>
    sif ((0:Nat)+Int.toNat a1*(32:Nat)+(32:Nat)≤List.length d3) <|
    sif (zhT (List.take (32:Nat) (List.drop ((0:Nat)+Int.toNat a1*(32:Nat)) d3))=true) <|
    sif (List.length (List.take (32:Nat) (List.drop ((0:Nat)+Int.toNat a1*(32:Nat)) d3))=(32:Nat)) <|
    sif (List.length (List.take (32:Nat) (List.drop ((0:Nat)+Int.toNat a1*(32:Nat)) d3))=(32:Nat)) <|
    getK T0 a0 fun d4=>
    getK d4 ((1664:Nat)) fun d5=>
    zbk d5 fun l6=>
    getK T0 a0 fun d7=>
    getK d7 ((1664:Nat)) fun d8=>
    zbk d8 fun l9=>
    sif ((0:Nat)+List.length l6≤List.length l9) <|
    zas ([Lf.arr (32)]) (List.take (32:Nat) (List.drop ((0:Nat)+Int.toNat a1*(32:Nat)) d3)) fun c10=>
    zcs (α:=(Int×(List D×PUnit)×(Nat×Nat×Nat)×Int×Int×PUnit)×List (List D)×PUnit) (fun again11 ((i12,((l13,_),((x14,(x15,x16)),(i17,(i18,_))))),(U19,_))=>
      brK (decide (i18 < i17))
        (getK U19 x14 fun d20=>
        getK d20 ((1664:Nat)) fun d21=>
        zbk d21 fun l22=>
        sif ((0:Int)≤i18) <|
        sif (Int.toNat i18 < x16) <|
        getK U19 x14 fun d23=>
        getK d23 ((1664:Nat)) fun d24=>
        zbk d24 fun l25=>
        getK l25 (x15+Int.toNat i18) fun d26=>
        asAgg d26 fun cs27=>
        zas ([Lf.int IntKind.i64,Lf.arr (32)]) cs27 fun c28=>
        sif (D.width (D.agg ([D.int IntKind.i64 c28.fst]++(c28.snd.fst++[])))=(33:Nat)) <|
        sif (List.length ([D.int IntKind.i64 c28.fst]++(c28.snd.fst++[]))=(33:Nat)) <|
        brK (c28.fst == i12)
          (sif ((33:Nat)≤List.length ([D.int IntKind.i64 c28.fst]++(c28.snd.fst++[]))) <|
          sif (List.length (List.take (32:Nat) (List.drop (1:Nat) ([D.int IntKind.i64 c28.fst]++(c28.snd.fst++[]))))=(32:Nat)) <|
          sif (List.length (List.take (32:Nat) (List.drop (1:Nat) ([D.int IntKind.i64 c28.fst]++(c28.snd.fst++[]))))=(32:Nat)) <|
          sif ((32:Nat)≤List.length (l13++[])) <|
          letN (IntKind.wrap IntKind.i64 (i18+(1:Int))) fun n29=>
          zas ([Lf.arr (32)]) (spl (0:Nat) (32:Nat) (l13++[]) (List.take (32:Nat) (List.drop (1:Nat) ([D.int IntKind.i64 c28.fst]++(c28.snd.fst++[]))))) fun c30=>
          again11 (((i12,c30,(x14,x15,x16),i17,n29,PUnit.unit),U19,PUnit.unit)))
          (letN (IntKind.wrap IntKind.i64 (i18+(1:Int))) fun n31=>
          zas ([Lf.arr (32)]) (l13++[]) fun c32=>
          again11 (((i12,c32,(x14,x15,x16),i17,n31,PUnit.unit),U19,PUnit.unit))))
        (sif ((32:Nat)≤List.length (l13++[])) <|
        sif ((32:Nat)≤List.length (l13++[])) <|
        zan (zaj [D.sl Tag.lent (cut (0:Nat) (32:Nat) (l13++[]))]) fun r33=>
        zbk r33 fun l34=>
        sif (List.length l34=List.length l34) <|
        sif (List.all l34 D.free=true) <|
        some (Ans.mk (D.tup [D.sl Tag.own l34,D.int IntKind.i64 (0:Int)]) [] [])))
      (((a1,c10,(a0,(0:Nat),List.length l6),(↑(List.length l6):Int),(0:Int),PUnit.unit),T0,PUnit.unit)))
theorem znS (zaP:List D→List Tb→Option Ans) (zaj:List D→Option D) (a0:Nat) (a1:Int) (T0:Tb):denS Try.prog (zav [(ID.disk_Disk_may,(.st [] [0] [(7649,false)] zaP)),(ID.slices_Clone_byte_byte,(.pure [1] zaj))]) zgG [1,0] ID.disk_Disk_Read [.h 7649 a0 0,.int .i64 a1] [T0]=zfe zaP zaj a0 a1 T0:=by kernel_rfl
theorem zk6 (a0:Nat) (a1:Int) (T0:Tb):zbA [.h 7649 a0 0,.int .i64 a1] [T0]=zfe zaP zaj a0 a1 T0:=znS zaP zaj a0 a1 T0
def zfo:Ann:={ loops:=[],ks:=[(3840,false),(7649,false)] }
noncomputable def zaD:List D→List Tb→Option Ans:=denS Try.prog (zav [(ID.bench_Bench_may,(.st [] [0] [(3840,false)] zap)),(ID.disk_Disk_Read,(.st [] [1,0] [(7649,false)] zbA))]) zfo [1,0] ID.bench_Bench_Read
theorem ziI:za5 Try.prog ID.bench_Bench_Read (.st [] [1,0] [(3840,false),(7649,false)] zaD):=zbq (zay [zdF,zk5]) zby ⟨Try.f42,by kernel_rfl,by kernel_rfl,by kernel_rfl⟩
noncomputable def ze4:Fact Try.prog:=⟨ID.bench_Bench_Read,(.st [] [1,0] [(3840,false),(7649,false)] zaD),ziI⟩
noncomputable def zen (zap:List D→List Tb→Option Ans) (zbA:List D→List Tb→Option Ans) (a0:Nat) (a1:Int) (a2:Int) (T0:Tb) (T1:Tb):Option Ans:=
  zan (zap [D.h (3840:Nat) a0 (0:Nat),D.int IntKind.i64 a1] [T0]) fun r1=>
  nilK r1.outs <|
  nilK r1.tbs <|
  asI IntKind.i64 r1.r fun i2=>
  brK (i2 != (0:Int))
    (some (Ans.mk (D.tup [D.sl Tag.own [],D.int IntKind.i64 i2]) [] []))
    (getK T0 a0 fun d3=>
    getK d3 ((3:Nat)) fun d4=>
    zbk d4 fun l5=>
    getK T0 a0 fun d6=>
    getK d6 ((3:Nat)) fun d7=>
    zbk d7 fun l8=>
    sif ((0:Int)≤a1) <|
    sif (Int.toNat a1 < List.length l5) <|
    getK T0 a0 fun d9=>
    getK d9 ((3:Nat)) fun d10=>
    zbk d10 fun l11=>
    getK l11 ((0:Nat)+Int.toNat a1) fun d12=>
    sif (D.isAgg d12=false) <|
    sif (D.width d12=(1:Nat)) <|
    sif (D.cell d12=true) <|
    zan (zbA [d12,D.int IntKind.i64 a2] [T1]) fun r13=>
    nilK r13.outs <|
    nilK r13.tbs <|
    zdx r13.r fun ts14=>
    zas ([Lf.any,Lf.any]) ts14 fun c15=>
    zbk c15.fst fun l16=>
    asI IntKind.i64 c15.snd.fst fun i17=>
    sif (List.length l16=List.length l16) <|
    sif (List.all l16 D.free=true) <|
    some (Ans.mk (D.tup [D.sl Tag.own l16,D.int IntKind.i64 i17]) [] []))
theorem zl1 (zap:List D→List Tb→Option Ans) (zbA:List D→List Tb→Option Ans) (a0:Nat) (a1:Int) (a2:Int) (T0:Tb) (T1:Tb):denS Try.prog (zav [(ID.bench_Bench_may,(.st [] [0] [(3840,false)] zap)),(ID.disk_Disk_Read,(.st [] [1,0] [(7649,false)] zbA))]) zfo [1,0] ID.bench_Bench_Read [.h 3840 a0 0,.int .i64 a1,.int .i64 a2] [T0,T1]=zen zap zbA a0 a1 a2 T0 T1:=by kernel_rfl
theorem zjr (a0:Nat) (a1:Int) (a2:Int) (T0:Tb) (T1:Tb):zaD [.h 3840 a0 0,.int .i64 a1,.int .i64 a2] [T0,T1]=zen zap zbA a0 a1 a2 T0 T1:=zl1 zap zbA a0 a1 a2 T0 T1
def zrf:Ann:={ loops:=[] }
noncomputable def zcm:List D→Option D:=denP Try.prog (zav [(ID.geom_Check,(.pure [0] zai))]) zrf [0] ID.row_in
theorem ztX:za5 Try.prog ID.row_in (.pure [0] zcm):=zao (zay [zcR]) zby ⟨Try.f102,by kernel_rfl,by kernel_rfl,by kernel_rfl⟩
noncomputable def zpp:Fact Try.prog:=⟨ID.row_in,(.pure [0] zcm),ztX⟩
noncomputable def zsh (zai:List D→Option D) (a0_0:Int) (a0_1:Int) (a0_2:Int) (a1:Int):Option D:=
  zan (zai [D.agg [D.int IntKind.i64 a0_0,D.int IntKind.i64 a0_1,D.int IntKind.i64 a0_2]]) fun r1=>
  asI IntKind.i64 r1 fun i2=>
  brK (i2 == (0:Int))
    (brK (decide (a1≥(0:Int)))
      (some (D.bool (decide (a1 < (16:Int)))))
      (some (D.bool false)))
    (some (D.bool false))
theorem zAe (zai:List D→Option D) (a0_0:Int) (a0_1:Int) (a0_2:Int) (a1:Int):denP Try.prog (zav [(ID.geom_Check,(.pure [0] zai))]) zrf [0] ID.row_in [.agg [.int .i64 a0_0,.int .i64 a0_1,.int .i64 a0_2],.int .i64 a1]=zsh zai a0_0 a0_1 a0_2 a1:=by kernel_rfl
theorem zu3 (a0_0:Int) (a0_1:Int) (a0_2:Int) (a1:Int):zcm [.agg [.int .i64 a0_0,.int .i64 a0_1,.int .i64 a0_2],.int .i64 a1]=zsh zai a0_0 a0_1 a0_2 a1:=zAe zai a0_0 a0_1 a0_2 a1
def zjs:Ann:={ loops:=[] }
noncomputable def za8:List D→Option D:=denP Try.prog (zav [(ID.geom_Check,(.pure [0] zai))]) zjs [0] ID.geom_Budget
theorem zmR:za5 Try.prog ID.geom_Budget (.pure [0] za8):=zao (zay [zcR]) zby ⟨Try.f127,by kernel_rfl,by kernel_rfl,by kernel_rfl⟩
noncomputable def zir:Fact Try.prog:=⟨ID.geom_Budget,(.pure [0] za8),zmR⟩
noncomputable def zh8 (zai:List D→Option D) (a0_0:Int) (a0_1:Int) (a0_2:Int):Option D:=
  zan (zai [D.agg [D.int IntKind.i64 a0_0,D.int IntKind.i64 a0_1,D.int IntKind.i64 a0_2]]) fun r1=>
  asI IntKind.i64 r1 fun i2=>
  brK (i2 != (0:Int))
    (some (D.int IntKind.i64 (0:Int)))
    (letN (IntKind.wrap IntKind.i64 (a0_0 - (4:Int))) fun n3=>
    some (D.int IntKind.i64 n3))
theorem zsi (zai:List D→Option D) (a0_0:Int) (a0_1:Int) (a0_2:Int):denP Try.prog (zav [(ID.geom_Check,(.pure [0] zai))]) zjs [0] ID.geom_Budget [.agg [.int .i64 a0_0,.int .i64 a0_1,.int .i64 a0_2]]=zh8 zai a0_0 a0_1 a0_2:=by kernel_rfl
theorem znT (a0_0:Int) (a0_1:Int) (a0_2:Int):za8 [.agg [.int .i64 a0_0,.int .i64 a0_1,.int .i64 a0_2]]=zh8 zai a0_0 a0_1 a0_2:=zsi zai a0_0 a0_1 a0_2
def zky:Ann:={ loops:=[] }
noncomputable def zab:List D→Option D:=denP Try.prog (zav [(ID.geom_Check,(.pure [0] zai)),(ID.geom_Budget,(.pure [0] za8))]) zky [0] ID.geom_Width
theorem znU:za5 Try.prog ID.geom_Width (.pure [0] zab):=zao (zay [zcR,zir]) zby ⟨Try.f103,by kernel_rfl,by kernel_rfl,by kernel_rfl⟩
noncomputable def zb7:Fact Try.prog:=⟨ID.geom_Width,(.pure [0] zab),znU⟩
noncomputable def zjt (zai:List D→Option D) (za8:List D→Option D) (a0_0:Int) (a0_1:Int) (a0_2:Int):Option D:=
  zan (zai [D.agg [D.int IntKind.i64 a0_0,D.int IntKind.i64 a0_1,D.int IntKind.i64 a0_2]]) fun r1=>
  asI IntKind.i64 r1 fun i2=>
  brK (i2 != (0:Int))
    (some (D.int IntKind.i64 (0:Int)))
    (zan (za8 [D.agg [D.int IntKind.i64 a0_0,D.int IntKind.i64 a0_1,D.int IntKind.i64 a0_2]]) fun r3=>
    asI IntKind.i64 r3 fun i4=>
    letN (IntKind.wrap IntKind.i64 (a0_1 - i4)) fun n5=>
    some (D.int IntKind.i64 n5))
theorem ztY (zai:List D→Option D) (za8:List D→Option D) (a0_0:Int) (a0_1:Int) (a0_2:Int):denP Try.prog (zav [(ID.geom_Check,(.pure [0] zai)),(ID.geom_Budget,(.pure [0] za8))]) zky [0] ID.geom_Width [.agg [.int .i64 a0_0,.int .i64 a0_1,.int .i64 a0_2]]=zjt zai za8 a0_0 a0_1 a0_2:=by kernel_rfl
theorem zpq (a0_0:Int) (a0_1:Int) (a0_2:Int):zab [.agg [.int .i64 a0_0,.int .i64 a0_1,.int .i64 a0_2]]=zjt zai za8 a0_0 a0_1 a0_2:=ztY zai za8 a0_0 a0_1 a0_2
def znC:Ann:={ loops:=[] }
noncomputable def zbe:List D→Option D:=denP Try.prog (zav [(ID.geom_Check,(.pure [0] zai))]) znC [0] ID.place_in
theorem zp5:za5 Try.prog ID.place_in (.pure [0] zbe):=zao (zay [zcR]) zby ⟨Try.f106,by kernel_rfl,by kernel_rfl,by kernel_rfl⟩
noncomputable def zh9:Fact Try.prog:=⟨ID.place_in,(.pure [0] zbe),zp5⟩
noncomputable def zmS (zai:List D→Option D) (a0_0:Int) (a0_1:Int) (a0_2:Int) (a1:Int):Option D:=
  zan (zai [D.agg [D.int IntKind.i64 a0_0,D.int IntKind.i64 a0_1,D.int IntKind.i64 a0_2]]) fun r1=>
  asI IntKind.i64 r1 fun i2=>
  brK (i2 == (0:Int))
    (brK (decide (a1≥(0:Int)))
      (some (D.bool (decide (a1 < (16:Int)))))
      (some (D.bool false)))
    (some (D.bool false))
theorem zw2 (zai:List D→Option D) (a0_0:Int) (a0_1:Int) (a0_2:Int) (a1:Int):denP Try.prog (zav [(ID.geom_Check,(.pure [0] zai))]) znC [0] ID.place_in [.agg [.int .i64 a0_0,.int .i64 a0_1,.int .i64 a0_2],.int .i64 a1]=zmS zai a0_0 a0_1 a0_2 a1:=by kernel_rfl
theorem zsj (a0_0:Int) (a0_1:Int) (a0_2:Int) (a1:Int):zbe [.agg [.int .i64 a0_0,.int .i64 a0_1,.int .i64 a0_2],.int .i64 a1]=zmS zai a0_0 a0_1 a0_2 a1:=zw2 zai a0_0 a0_1 a0_2 a1
def zis:Ann:={ loops:=[] }
noncomputable def zaA:List D→Option D:=denP Try.prog (zav [(ID.place_in,(.pure [0] zbe))]) zis [0,0] ID.place_Parity
theorem zl2:za5 Try.prog ID.place_Parity (.pure [0,0] zaA):=zao (zay [zh9]) zby ⟨Try.f88,by kernel_rfl,by kernel_rfl,by kernel_rfl⟩
noncomputable def zeL:Fact Try.prog:=⟨ID.place_Parity,(.pure [0,0] zaA),zl2⟩
noncomputable def zgS (zbe:List D→Option D) (a0_0:Int) (a0_1:Int) (a0_2:Int) (a1:Int):Option D:=
  zan (zbe [D.agg [D.int IntKind.i64 a0_0,D.int IntKind.i64 a0_1,D.int IntKind.i64 a0_2],D.int IntKind.i64 a1]) fun r1=>
  asB r1 fun b2=>
  brK (!b2)
    (some (D.tup [D.int IntKind.i64 (-1:Int),D.int IntKind.i64 (-1:Int)]))
    (letN (IntKind.wrap IntKind.i64 (a0_1 - (1:Int))) fun n3=>
    sif (a0_2≠(0:Int)) <|
    letN (IntKind.wrap IntKind.i64 (Int.tdiv a1 a0_2)) fun n4=>
    sif (a0_1≠(0:Int)) <|
    letN (Int.tmod n4 a0_1) fun n5=>
    letN (IntKind.wrap IntKind.i64 (n3 - n5)) fun n6=>
    brK (a0_0 == (5:Int))
      (some (D.tup [D.int IntKind.i64 n6,D.int IntKind.i64 (-1:Int)]))
      (letN (IntKind.wrap IntKind.i64 (n6+(1:Int))) fun n7=>
      sif (a0_1≠(0:Int)) <|
      letN (Int.tmod n7 a0_1) fun n8=>
      some (D.tup [D.int IntKind.i64 n6,D.int IntKind.i64 n8])))
theorem zp6 (zbe:List D→Option D) (a0_0:Int) (a0_1:Int) (a0_2:Int) (a1:Int):denP Try.prog (zav [(ID.place_in,(.pure [0] zbe))]) zis [0,0] ID.place_Parity [.agg [.int .i64 a0_0,.int .i64 a0_1,.int .i64 a0_2],.int .i64 a1]=zgS zbe a0_0 a0_1 a0_2 a1:=by kernel_rfl
theorem zmT (a0_0:Int) (a0_1:Int) (a0_2:Int) (a1:Int):zaA [.agg [.int .i64 a0_0,.int .i64 a0_1,.int .i64 a0_2],.int .i64 a1]=zgS zbe a0_0 a0_1 a0_2 a1:=zp6 zbe a0_0 a0_1 a0_2 a1
def zkz:Ann:={ loops:=[] }
noncomputable def zaJ:List D→Option D:=denP Try.prog (zav [(ID.place_in,(.pure [0] zbe)),(ID.geom_Width,(.pure [0] zab)),(ID.place_Parity,(.pure [0,0] zaA)),(ID.geom_Budget,(.pure [0] za8))]) zkz [0] ID.place_Disk
theorem znV:za5 Try.prog ID.place_Disk (.pure [0] zaJ):=zao (zay [zh9,zb7,zeL,zir]) zby ⟨Try.f104,by kernel_rfl,by kernel_rfl,by kernel_rfl⟩
noncomputable def zga:Fact Try.prog:=⟨ID.place_Disk,(.pure [0] zaJ),znV⟩
noncomputable def zju (zbe:List D→Option D) (zab:List D→Option D) (zaA:List D→Option D) (za8:List D→Option D) (a0_0:Int) (a0_1:Int) (a0_2:Int) (a1:Int) (a2:Int):Option D:=
  zan (zbe [D.agg [D.int IntKind.i64 a0_0,D.int IntKind.i64 a0_1,D.int IntKind.i64 a0_2],D.int IntKind.i64 a1]) fun r1=>
  asB r1 fun b2=>
  brK (!b2)
    (some (D.int IntKind.i64 (-1:Int)))
    (brK (decide (a2 < (0:Int)))
      (some (D.int IntKind.i64 (-1:Int)))
      (zan (zab [D.agg [D.int IntKind.i64 a0_0,D.int IntKind.i64 a0_1,D.int IntKind.i64 a0_2]]) fun r3=>
      asI IntKind.i64 r3 fun i4=>
      brK (decide (a2≥i4))
        (some (D.int IntKind.i64 (-1:Int)))
        (zan (zaA [D.agg [D.int IntKind.i64 a0_0,D.int IntKind.i64 a0_1,D.int IntKind.i64 a0_2],D.int IntKind.i64 a1]) fun r5=>
        zdx r5 fun ts6=>
        zas ([Lf.any,Lf.any]) ts6 fun c7=>
        asI IntKind.i64 c7.fst fun i8=>
        asI IntKind.i64 c7.snd.fst fun i9=>
        zan (za8 [D.agg [D.int IntKind.i64 a0_0,D.int IntKind.i64 a0_1,D.int IntKind.i64 a0_2]]) fun r10=>
        asI IntKind.i64 r10 fun i11=>
        letN (IntKind.wrap IntKind.i64 (i8+i11)) fun n12=>
        letN (IntKind.wrap IntKind.i64 (n12+a2)) fun n13=>
        sif (a0_1≠(0:Int)) <|
        letN (Int.tmod n13 a0_1) fun n14=>
        some (D.int IntKind.i64 n14))))
theorem ztZ (zbe:List D→Option D) (zab:List D→Option D) (zaA:List D→Option D) (za8:List D→Option D) (a0_0:Int) (a0_1:Int) (a0_2:Int) (a1:Int) (a2:Int):denP Try.prog (zav [(ID.place_in,(.pure [0] zbe)),(ID.geom_Width,(.pure [0] zab)),(ID.place_Parity,(.pure [0,0] zaA)),(ID.geom_Budget,(.pure [0] za8))]) zkz [0] ID.place_Disk [.agg [.int .i64 a0_0,.int .i64 a0_1,.int .i64 a0_2],.int .i64 a1,.int .i64 a2]=zju zbe zab zaA za8 a0_0 a0_1 a0_2 a1 a2:=by kernel_rfl
theorem zpr (a0_0:Int) (a0_1:Int) (a0_2:Int) (a1:Int) (a2:Int):zaJ [.agg [.int .i64 a0_0,.int .i64 a0_1,.int .i64 a0_2],.int .i64 a1,.int .i64 a2]=zju zbe zab zaA za8 a0_0 a0_1 a0_2 a1 a2:=ztZ zbe zab zaA za8 a0_0 a0_1 a0_2 a1 a2
def zhw:Ann:={ loops:=[(0,[.dead,.dead,.dead,.own 1,.dead,.dead,.val (.cell .lent),.val (.cell (.int .i64)),.val (.cell (.int .i64))])] }
noncomputable def zbw:List D→Option D:=denP Try.prog (zav []) zhw [1] ID.erase_Missing
theorem zk7:za5 Try.prog ID.erase_Missing (.pure [1] zbw):=zao (zay []) zby ⟨Try.f128,by kernel_rfl,by kernel_rfl,by kernel_rfl⟩
noncomputable def zl3:Fact Try.prog:=⟨ID.erase_Missing,(.pure [1] zbw),zk7⟩
noncomputable def zgb (a0:List D):Option D:=
  zcs (α:=(List D×List D×Int×Int×PUnit)×PUnit) (fun again1 ((l2,(l3,(i4,(i5,_)))),_)=>
    brK (decide (i5 < i4))
      (sif ((0:Int)≤i5) <|
      getK l3 (Int.toNat i5) fun d6=>
      asSl d6 fun t7 l8=>
      brK ((↑(List.length l8):Int) == (0:Int))
        (sif (List.length l2+(1:Nat)≤(4294967296:Nat)) <|
        sif (List.length l2=List.length l2) <|
        letN (IntKind.wrap IntKind.i64 (i5+(1:Int))) fun n9=>
        sif (List.length l2+(1:Nat)=List.length (l2++[D.int IntKind.i64 i5])) <|
        again1 (((l2++[D.int IntKind.i64 i5],l3,i4,n9,PUnit.unit),PUnit.unit)))
        (letN (IntKind.wrap IntKind.i64 (i5+(1:Int))) fun n10=>
        sif (List.length l2=List.length l2) <|
        again1 (((l2,l3,i4,n10,PUnit.unit),PUnit.unit))))
      (sif (List.length l2=List.length l2) <|
      sif (List.all l2 D.free=true) <|
      some (D.sl Tag.own l2)))
    ((([],a0,(↑(List.length a0):Int),(0:Int),PUnit.unit),PUnit.unit))
theorem zps (tga0:Tag) (a0:List D):denP Try.prog (zav []) zhw [1] ID.erase_Missing [.sl tga0 a0]=zgb (D.lentL a0):=by kernel_rfl
theorem zl4 (tga0:Tag) (a0:List D):zbw [.sl tga0 a0]=zgb (D.lentL a0):=zps tga0 a0
def zit:Ann:={ loops:=[],hints:=[(1,.at1 (.int .i64))] }
noncomputable def zax:List D→Option D:=denP Try.prog (zav []) zit [0] ID.erase_fits_1
theorem zl5:za5 Try.prog ID.erase_fits_1 (.pure [0] zax):=zao (zay []) zby ⟨Try.f140,by kernel_rfl,by kernel_rfl,by kernel_rfl⟩
noncomputable def zhx:Fact Try.prog:=⟨ID.erase_fits_1,(.pure [0] zax),zl5⟩
noncomputable def zgT (a0:List D) (c0:Int):Option D:=
  brK (decide ((↑(List.length a0):Int) > (0:Int)))
    (some (D.bool ((↑(List.length a0):Int) != c0)))
    (some (D.bool false))
theorem zp7 (tga0:Tag) (a0:List D) (c0:Int):denP Try.prog (zav []) zit [0] ID.erase_fits_1 [.sl tga0 a0,.at_ (.int .i64 c0)]=zgT (D.lentL a0) c0:=by kernel_rfl
theorem zmU (tga0:Tag) (a0:List D) (c0:Int):zax [.sl tga0 a0,.at_ (.int .i64 c0)]=zgT (D.lentL a0) c0:=zp7 tga0 a0 c0
def zhy:Ann:={ loops:=[] }
noncomputable def zal:List D→Option D:=denP Try.prog (zav []) zhy [0] ID.row_sectors_1
theorem zk8:za5 Try.prog ID.row_sectors_1 (.pure [0] zal):=zao (zay []) zby ⟨Try.f135,by kernel_rfl,by kernel_rfl,by kernel_rfl⟩
noncomputable def zeo:Fact Try.prog:=⟨ID.row_sectors_1,(.pure [0] zal),zk8⟩
noncomputable def zgc (a0:List D):Option D:=
  some (D.bool ((↑(List.length a0):Int) != (32:Int)))
theorem zpt (tga0:Tag) (a0:List D):denP Try.prog (zav []) zhy [0] ID.row_sectors_1 [.sl tga0 a0]=zgc (D.lentL a0):=by kernel_rfl
theorem zl6 (tga0:Tag) (a0:List D):zal [.sl tga0 a0]=zgc (D.lentL a0):=zpt tga0 a0
def zci:List (Nat×Ann):=[(140,{ loops:=[(0,[.val (.cell .lent),.val (.fn1 (140:FuncId) (.int .i64)),.dead,.dead,.dead,.dead,.dead,.val (.cell (.int .i64)),.val (.cell (.int .i64))])] }),(135,{ loops:=[(0,[.val (.cell .lent),.fnc 135,.dead,.dead,.dead,.dead,.dead,.val (.cell (.int .i64)),.val (.cell (.int .i64))])] })]
noncomputable def zag:List D→Option D:=denA Try.prog (zav [(ID.erase_fits_1,(.pure [0] zax)),(ID.row_sectors_1,(.pure [0] zal))]) zci [0] ID.slices_IndexFunc_byte_byte
theorem zew:za5 Try.prog ID.slices_IndexFunc_byte_byte (.pure [0] zag):=zq3 (zay [zhx,zeo]) zby ⟨Try.f143,by kernel_rfl,by kernel_rfl,by kernel_rfl⟩
noncomputable def zeM:Fact Try.prog:=⟨ID.slices_IndexFunc_byte_byte,(.pure [0] zag),zew⟩
noncomputable def zb4 (zax:List D→Option D) (zal:List D→Option D) (a0:List D) (c0:Int):Option D:=
  zcs (α:=(List D×Int×Int×Int×PUnit)×PUnit) (fun again1 ((l2,(i3,(i4,(i5,_)))),_)=>
    brK (decide (i5 < i4))
      (sif ((0:Int)≤i5) <|
      getK l2 (Int.toNat i5) fun d6=>
      asSl d6 fun t7 l8=>
      zan (zax [D.sl t7 l8,D.at_ (D.int IntKind.i64 i3)]) fun r9=>
      asB r9 fun b10=>
      brK b10
        (some (D.int IntKind.i64 i5))
        (letN (IntKind.wrap IntKind.i64 (i5+(1:Int))) fun n11=>
        again1 (((l2,i3,i4,n11,PUnit.unit),PUnit.unit))))
      (some (D.int IntKind.i64 (-1:Int))))
    (((a0,c0,(↑(List.length a0):Int),(0:Int),PUnit.unit),PUnit.unit))
theorem zee (zax:List D→Option D) (zal:List D→Option D) (tga0:Tag) (a0:List D) (c0:Int):denA Try.prog (zav [(ID.erase_fits_1,(.pure [0] zax)),(ID.row_sectors_1,(.pure [0] zal))]) zci [0] ID.slices_IndexFunc_byte_byte [.sl tga0 a0,.fn 140 [] [.at_ (.int .i64 c0)]]=zb4 zax zal (D.lentL a0) c0:=by kernel_rfl
theorem zdG (tga0:Tag) (a0:List D) (c0:Int):zag [.sl tga0 a0,.fn 140 [] [.at_ (.int .i64 c0)]]=zb4 zax zal (D.lentL a0) c0:=zee zax zal tga0 a0 c0
noncomputable def zbS (zax:List D→Option D) (zal:List D→Option D) (a0:List D):Option D:=
  zcs (α:=(List D×Int×Int×PUnit)×PUnit) (fun again1 ((l2,(i3,(i4,_))),_)=>
    brK (decide (i4 < i3))
      (sif ((0:Int)≤i4) <|
      getK l2 (Int.toNat i4) fun d5=>
      asSl d5 fun t6 l7=>
      zan (zal [D.sl t6 l7]) fun r8=>
      asB r8 fun b9=>
      brK b9
        (some (D.int IntKind.i64 i4))
        (letN (IntKind.wrap IntKind.i64 (i4+(1:Int))) fun n10=>
        again1 (((l2,i3,n10,PUnit.unit),PUnit.unit))))
      (some (D.int IntKind.i64 (-1:Int))))
    (((a0,(↑(List.length a0):Int),(0:Int),PUnit.unit),PUnit.unit))
theorem zdH (zax:List D→Option D) (zal:List D→Option D) (tga0:Tag) (a0:List D):denA Try.prog (zav [(ID.erase_fits_1,(.pure [0] zax)),(ID.row_sectors_1,(.pure [0] zal))]) zci [0] ID.slices_IndexFunc_byte_byte [.sl tga0 a0,.fn 135 [] []]=zbS zax zal (D.lentL a0):=by kernel_rfl
theorem zde (tga0:Tag) (a0:List D):zag [.sl tga0 a0,.fn 135 [] []]=zbS zax zal (D.lentL a0):=zdH zax zal tga0 a0
def zb8:Ann:={ loops:=[] }
noncomputable def zac:List D→Option D:=denP Try.prog (zav [(ID.slices_IndexFunc_byte_byte,(.pure [0] zag)),(ID.erase_fits_1,(.pure [0] zax)),(ID.row_sectors_1,(.pure [0] zal))]) zb8 [0] ID.slices_ContainsFunc_byte_byte
theorem zdZ:za5 Try.prog ID.slices_ContainsFunc_byte_byte (.pure [0] zac):=zao (zay [zeM,zhx,zeo]) zby ⟨Try.f134,by kernel_rfl,by kernel_rfl,by kernel_rfl⟩
noncomputable def zcB:Fact Try.prog:=⟨ID.slices_ContainsFunc_byte_byte,(.pure [0] zac),zdZ⟩
noncomputable def zbT (zag:List D→Option D) (zax:List D→Option D) (zal:List D→Option D) (a0:List D) (c0:Int):Option D:=
  zan (zag [D.sl Tag.lent a0,D.fn (140:FuncId) [] [D.at_ (D.int IntKind.i64 c0)]]) fun r1=>
  asI IntKind.i64 r1 fun i2=>
  some (D.bool (decide (i2≥(0:Int))))
theorem zdI (zag:List D→Option D) (zax:List D→Option D) (zal:List D→Option D) (tga0:Tag) (a0:List D) (c0:Int):denP Try.prog (zav [(ID.slices_IndexFunc_byte_byte,(.pure [0] zag)),(ID.erase_fits_1,(.pure [0] zax)),(ID.row_sectors_1,(.pure [0] zal))]) zb8 [0] ID.slices_ContainsFunc_byte_byte [.sl tga0 a0,.fn 140 [] [.at_ (.int .i64 c0)]]=zbT zag zax zal (D.lentL a0) c0:=by kernel_rfl
theorem zdf (tga0:Tag) (a0:List D) (c0:Int):zac [.sl tga0 a0,.fn 140 [] [.at_ (.int .i64 c0)]]=zbT zag zax zal (D.lentL a0) c0:=zdI zag zax zal tga0 a0 c0
noncomputable def zbJ (zag:List D→Option D) (zax:List D→Option D) (zal:List D→Option D) (a0:List D):Option D:=
  zan (zag [D.sl Tag.lent a0,D.fn (135:FuncId) [] []]) fun r1=>
  asI IntKind.i64 r1 fun i2=>
  some (D.bool (decide (i2≥(0:Int))))
theorem zdg (zag:List D→Option D) (zax:List D→Option D) (zal:List D→Option D) (tga0:Tag) (a0:List D):denP Try.prog (zav [(ID.slices_IndexFunc_byte_byte,(.pure [0] zag)),(ID.erase_fits_1,(.pure [0] zax)),(ID.row_sectors_1,(.pure [0] zal))]) zb8 [0] ID.slices_ContainsFunc_byte_byte [.sl tga0 a0,.fn 135 [] []]=zbJ zag zax zal (D.lentL a0):=by kernel_rfl
theorem zcY (tga0:Tag) (a0:List D):zac [.sl tga0 a0,.fn 135 [] []]=zbJ zag zax zal (D.lentL a0):=zdg zag zax zal tga0 a0
def zkA:Ann:={ loops:=[] }
noncomputable def zbW:List D→Option D:=denP Try.prog (zav [(ID.slices_ContainsFunc_byte_byte,(.pure [0] zac))]) zkA [0] ID.erase_fits
theorem znW:za5 Try.prog ID.erase_fits (.pure [0] zbW):=zao (zay [zcB]) zby ⟨Try.f129,by kernel_rfl,by kernel_rfl,by kernel_rfl⟩
noncomputable def zpu:Fact Try.prog:=⟨ID.erase_fits,(.pure [0] zbW),znW⟩
noncomputable def zjv (zac:List D→Option D) (a0:Int) (a1:List D):Option D:=
  zan (zac [D.sl Tag.lent a1,D.fn (140:Nat) [] [D.at_ (D.int IntKind.i64 a0)]]) fun r1=>
  asB r1 fun b2=>
  some (D.bool !b2)
theorem zt0 (zac:List D→Option D) (tga1:Tag) (a0:Int) (a1:List D):denP Try.prog (zav [(ID.slices_ContainsFunc_byte_byte,(.pure [0] zac))]) zkA [0] ID.erase_fits [.int .i64 a0,.sl tga1 a1]=zjv zac a0 (D.lentL a1):=by kernel_rfl
theorem zpv (tga1:Tag) (a0:Int) (a1:List D):zbW [.int .i64 a0,.sl tga1 a1]=zjv zac a0 (D.lentL a1):=zt0 zac tga1 a0 a1
def ziu:Ann:={ loops:=[(0,[.val (.cell (.int .i64)),.dead,.dead,.dead,.dead,.own 1,.dead,.dead,.dead,.val (.cell .lent),.val (.cell (.int .i64)),.val (.cell (.int .i64))])] }
noncomputable def zbD:List D→Option D:=denP Try.prog (zav []) ziu [1] ID.erase_filled
theorem zl7:za5 Try.prog ID.erase_filled (.pure [1] zbD):=zao (zay []) zby ⟨Try.f130,by kernel_rfl,by kernel_rfl,by kernel_rfl⟩
noncomputable def zmV:Fact Try.prog:=⟨ID.erase_filled,(.pure [1] zbD),zl7⟩
noncomputable def zgU (a0:Int) (a1:List D):Option D:=
  zcs (α:=(Int×List D×List D×Int×Int×PUnit)×PUnit) (fun again1 ((i2,(l3,(l4,(i5,(i6,_))))),_)=>
    brK (decide (i6 < i5))
      (sif ((0:Int)≤i6) <|
      getK l4 (Int.toNat i6) fun d7=>
      asSl d7 fun t8 l9=>
      sif ((0:Int)≤i2) <|
      sif (i2=i2) <|
      sif (i2*(1:Int)≤(140737488355328:Int)) <|
      sif (i2≤(140737488355328:Int)) <|
      sif ((0:Nat)+Int.toNat i2≤List.length (List.replicate (Int.toNat i2) (D.int IntKind.u8 (0:Int)))) <|
      sif (cells l9=true) <|
      sif ((0:Nat)+Int.toNat i2≤List.length ([]++List.take (Int.toNat i2) l9++List.drop ((0:Nat)+List.length (List.take (Int.toNat i2) l9)) (List.replicate (Int.toNat i2) (D.int IntKind.u8 (0:Int))))) <|
      sif (List.length l3+(1:Nat)≤(4294967296:Nat)) <|
      sif (List.length l3=List.length l3) <|
      letN (IntKind.wrap IntKind.i64 (i6+(1:Int))) fun n10=>
      sif (List.length l3+(1:Nat)=List.length (l3++[D.sl Tag.fresh (cut (0:Nat) (Int.toNat i2) ([]++List.take (Int.toNat i2) l9++List.drop ((0:Nat)+List.length (List.take (Int.toNat i2) l9)) (List.replicate (Int.toNat i2) (D.int IntKind.u8 (0:Int)))))])) <|
      again1 (((i2,l3++[D.sl Tag.fresh (cut (0:Nat) (Int.toNat i2) ([]++List.take (Int.toNat i2) l9++List.drop ((0:Nat)+List.length (List.take (Int.toNat i2) l9)) (List.replicate (Int.toNat i2) (D.int IntKind.u8 (0:Int)))))],l4,i5,n10,PUnit.unit),PUnit.unit)))
      (sif (List.length l3=List.length l3) <|
      sif (List.all l3 D.free=true) <|
      some (D.sl Tag.own l3)))
    (((a0,[],a1,(↑(List.length a1):Int),(0:Int),PUnit.unit),PUnit.unit))
theorem zp8 (tga1:Tag) (a0:Int) (a1:List D):denP Try.prog (zav []) ziu [1] ID.erase_filled [.int .i64 a0,.sl tga1 a1]=zgU a0 (D.lentL a1):=by kernel_rfl
theorem zmW (tga1:Tag) (a0:Int) (a1:List D):zbD [.int .i64 a0,.sl tga1 a1]=zgU a0 (D.lentL a1):=zp8 tga1 a0 a1
def zl8:Ann:={ loops:=[] }
noncomputable def zaW:List D→Option D:=denP Try.prog (zav []) zl8 [0] ID.gf_double
theorem zpw:za5 Try.prog ID.gf_double (.pure [0] zaW):=zao (zay []) zby ⟨Try.f144,by kernel_rfl,by kernel_rfl,by kernel_rfl⟩
noncomputable def zgV:Fact Try.prog:=⟨ID.gf_double,(.pure [0] zaW),zpw⟩
noncomputable def zk9 (a0:Int):Option D:=
  brK (decide (a0≥(128:Int)))
    (letN (IntKind.wrap IntKind.u8 (a0*(2:Int))) fun n1=>
    letN (bits BinOp.xor IntKind.u8 n1 (29:Int)) fun n2=>
    some (D.int IntKind.u8 n2))
    (letN (IntKind.wrap IntKind.u8 (a0*(2:Int))) fun n3=>
    some (D.int IntKind.u8 n3))
theorem zu4 (a0:Int):denP Try.prog (zav []) zl8 [0] ID.gf_double [.int .u8 a0]=zk9 a0:=by kernel_rfl
theorem zp9 (a0:Int):zaW [.int .u8 a0]=zk9 a0:=zu4 a0
def zrg:Ann:={ loops:=[(0,[.val (.cell (.int .u8)),.val (.cell (.int .u8)),.dead,.dead,.dead,.val (.cell (.int .u8))])] }
noncomputable def zdR:List D→Option D:=denP Try.prog (zav [(ID.gf_double,(.pure [0] zaW))]) zrg [0] ID.gf_Mul
theorem zt1:za5 Try.prog ID.gf_Mul (.pure [0] zdR):=zao (zay [zgV]) zby ⟨Try.f146,by kernel_rfl,by kernel_rfl,by kernel_rfl⟩
noncomputable def zu5:Fact Try.prog:=⟨ID.gf_Mul,(.pure [0] zdR),zt1⟩
noncomputable def zsk (zaW:List D→Option D) (a0:Int) (a1:Int):Option D:=
  zcs (α:=(Int×Int×Int×PUnit)×PUnit) (fun again1 ((i2,(i3,(i4,_))),_)=>
    brK (decide (i3 > (0:Int)))
      (letN (bits BinOp.and IntKind.u8 i3 (1:Int)) fun n5=>
      brK (n5 == (1:Int))
        (letN (bits BinOp.xor IntKind.u8 i4 i2) fun n6=>
        zan (zaW [D.int IntKind.u8 i2]) fun r7=>
        asI IntKind.u8 r7 fun i8=>
        letN (Int.fdiv i3 (2:Int)) fun n9=>
        again1 (((i8,n9,n6,PUnit.unit),PUnit.unit)))
        (zan (zaW [D.int IntKind.u8 i2]) fun r10=>
        asI IntKind.u8 r10 fun i11=>
        letN (Int.fdiv i3 (2:Int)) fun n12=>
        again1 (((i11,n12,i4,PUnit.unit),PUnit.unit))))
      (some (D.int IntKind.u8 i4)))
    (((a0,a1,(0:Int),PUnit.unit),PUnit.unit))
theorem zAf (zaW:List D→Option D) (a0:Int) (a1:Int):denP Try.prog (zav [(ID.gf_double,(.pure [0] zaW))]) zrg [0] ID.gf_Mul [.int .u8 a0,.int .u8 a1]=zsk zaW a0 a1:=by kernel_rfl
theorem zu6 (a0:Int) (a1:Int):zdR [.int .u8 a0,.int .u8 a1]=zsk zaW a0 a1:=zAf zaW a0 a1
def zkB:Ann:={ loops:=[(0,[.dead,.val (.cell (.int .u8)),.dead,.dead,.dead,.own 1,.dead,.dead,.val (.cell .lent),.val (.cell (.int .i64)),.val (.cell (.int .i64))])] }
noncomputable def zaz:List D→Option D:=denP Try.prog (zav [(ID.gf_Mul,(.pure [0] zdR))]) zkB [1] ID.synd_Scale
theorem znX:za5 Try.prog ID.synd_Scale (.pure [1] zaz):=zao (zay [zu5]) zby ⟨Try.f142,by kernel_rfl,by kernel_rfl,by kernel_rfl⟩
noncomputable def zgd:Fact Try.prog:=⟨ID.synd_Scale,(.pure [1] zaz),znX⟩
noncomputable def zjw (zdR:List D→Option D) (a0:List D) (a1:Int):Option D:=
  zcs (α:=(Int×List D×List D×Int×Int×PUnit)×PUnit) (fun again1 ((i2,(l3,(l4,(i5,(i6,_))))),_)=>
    brK (decide (i6 < i5))
      (sif ((0:Int)≤i6) <|
      getK l4 (Int.toNat i6) fun d7=>
      asI IntKind.u8 d7 fun i8=>
      zan (zdR [D.int IntKind.u8 i8,D.int IntKind.u8 i2]) fun r9=>
      asI IntKind.u8 r9 fun i10=>
      sif (List.length l3+(1:Nat)≤(4294967296:Nat)) <|
      sif (List.length l3=List.length l3) <|
      letN (IntKind.wrap IntKind.i64 (i6+(1:Int))) fun n11=>
      sif (List.length l3+(1:Nat)=List.length (l3++[D.int IntKind.u8 i10])) <|
      again1 (((i2,l3++[D.int IntKind.u8 i10],l4,i5,n11,PUnit.unit),PUnit.unit)))
      (sif (List.length l3=List.length l3) <|
      sif (List.all l3 D.free=true) <|
      some (D.sl Tag.own l3)))
    (((a1,[],a0,(↑(List.length a0):Int),(0:Int),PUnit.unit),PUnit.unit))
theorem zt2 (zdR:List D→Option D) (tga0:Tag) (a0:List D) (a1:Int):denP Try.prog (zav [(ID.gf_Mul,(.pure [0] zdR))]) zkB [1] ID.synd_Scale [.sl tga0 a0,.int .u8 a1]=zjw zdR (D.lentL a0) a1:=by kernel_rfl
theorem zpx (tga0:Tag) (a0:List D) (a1:Int):zaz [.sl tga0 a0,.int .u8 a1]=zjw zdR (D.lentL a0) a1:=zt2 zdR tga0 a0 a1
def znD:Ann:={ loops:=[(1,[.dead,.val (.cell .lent),.dead,.dead,.dead,.own 1,.dead,.dead,.dead,.dead,.dead,.dead,.dead,.val (.cell .lent),.val (.cell (.int .i64)),.val (.cell (.int .i64))])] }
noncomputable def zaB:List D→Option D:=denP Try.prog (zav []) znD [1] ID.synd_Add
theorem zqa:za5 Try.prog ID.synd_Add (.pure [1] zaB):=zao (zay []) zby ⟨Try.f132,by kernel_rfl,by kernel_rfl,by kernel_rfl⟩
noncomputable def zfG:Fact Try.prog:=⟨ID.synd_Add,(.pure [1] zaB),zqa⟩
noncomputable def zmX (a0:List D) (a1:List D):Option D:=
  brK ((↑(List.length a0):Int) != (↑(List.length a1):Int))
    (some (D.sl Tag.own []))
    (zcs (α:=(List D×List D×List D×Int×Int×PUnit)×PUnit) (fun again1 ((l2,(l3,(l4,(i5,(i6,_))))),_)=>
      brK (decide (i6 < i5))
        (sif ((0:Int)≤i6) <|
        getK l4 (Int.toNat i6) fun d7=>
        asI IntKind.u8 d7 fun i8=>
        sif ((0:Int)≤i6) <|
        getK l2 (Int.toNat i6) fun d9=>
        asI IntKind.u8 d9 fun i10=>
        letN (bits BinOp.xor IntKind.u8 i8 i10) fun n11=>
        sif (List.length l3+(1:Nat)≤(4294967296:Nat)) <|
        sif (List.length l3=List.length l3) <|
        letN (IntKind.wrap IntKind.i64 (i6+(1:Int))) fun n12=>
        sif (List.length l3+(1:Nat)=List.length (l3++[D.int IntKind.u8 n11])) <|
        again1 (((l2,l3++[D.int IntKind.u8 n11],l4,i5,n12,PUnit.unit),PUnit.unit)))
        (sif (List.length l3=List.length l3) <|
        sif (List.all l3 D.free=true) <|
        some (D.sl Tag.own l3)))
      (((a1,[],a0,(↑(List.length a0):Int),(0:Int),PUnit.unit),PUnit.unit)))
theorem zw3 (tga0:Tag) (tga1:Tag) (a0:List D) (a1:List D):denP Try.prog (zav []) znD [1] ID.synd_Add [.sl tga0 a0,.sl tga1 a1]=zmX (D.lentL a0) (D.lentL a1):=by kernel_rfl
theorem zsl (tga0:Tag) (tga1:Tag) (a0:List D) (a1:List D):zaB [.sl tga0 a0,.sl tga1 a1]=zmX (D.lentL a0) (D.lentL a1):=zw3 tga0 tga1 a0 a1
def zrh:Ann:={ loops:=[(0,[.dead,.dead,.dead,.val (.cell (.int .u8)),.dead,.dead,.dead,.val (.cell (.int .i64)),.val (.cell (.int .i64))])] }
noncomputable def zaL:List D→Option D:=denP Try.prog (zav [(ID.gf_double,(.pure [0] zaW))]) zrh [0] ID.gf_Pow
theorem zt3:za5 Try.prog ID.gf_Pow (.pure [0] zaL):=zao (zay [zgV]) zby ⟨Try.f138,by kernel_rfl,by kernel_rfl,by kernel_rfl⟩
noncomputable def zge:Fact Try.prog:=⟨ID.gf_Pow,(.pure [0] zaL),zt3⟩
noncomputable def zoi (zaW:List D→Option D) (a0:Int):Option D:=
  letN (Int.tmod a0 (255:Int)) fun n1=>
  letN (IntKind.wrap IntKind.i64 (n1+(255:Int))) fun n2=>
  letN (Int.tmod n2 (255:Int)) fun n3=>
  zcs (α:=(Int×Int×Int×PUnit)×PUnit) (fun again4 ((i5,(i6,(i7,_))),_)=>
    brK (decide (i7 < i6))
      (zan (zaW [D.int IntKind.u8 i5]) fun r8=>
      asI IntKind.u8 r8 fun i9=>
      letN (IntKind.wrap IntKind.i64 (i7+(1:Int))) fun n10=>
      again4 (((i9,i6,n10,PUnit.unit),PUnit.unit)))
      (some (D.int IntKind.u8 i5)))
    ((((1:Int),n3,(0:Int),PUnit.unit),PUnit.unit))
theorem zAg (zaW:List D→Option D) (a0:Int):denP Try.prog (zav [(ID.gf_double,(.pure [0] zaW))]) zrh [0] ID.gf_Pow [.int .i64 a0]=zoi zaW a0:=by kernel_rfl
theorem zpy (a0:Int):zaL [.int .i64 a0]=zoi zaW a0:=zAg zaW a0
def znE:Ann:={ loops:=[] }
noncomputable def zbt:List D→Option D:=denP Try.prog (zav []) znE [0] ID.synd_P_1
theorem zqb:za5 Try.prog ID.synd_P_1 (.pure [0] zbt):=zao (zay []) zby ⟨Try.f137,by kernel_rfl,by kernel_rfl,by kernel_rfl⟩
noncomputable def zl9:Fact Try.prog:=⟨ID.synd_P_1,(.pure [0] zbt),zqb⟩
noncomputable def zri (a0:Int):Option D:=
  some (D.int IntKind.u8 (1:Int))
theorem zw4 (a0:Int):denP Try.prog (zav []) znE [0] ID.synd_P_1 [.int .i64 a0]=zri a0:=by kernel_rfl
theorem zsm (a0:Int):zbt [.int .i64 a0]=zri a0:=zw4 a0
def zjx:List (Nat×Ann):=[(137,{ loops:=[(1,[.dead,.fnc 137,.dead,.dead,.dead,.own 1,.dead,.dead,.dead,.dead,.dead,.dead,.dead,.dead,.dead,.dead,.val (.cell .lent),.val (.cell (.int .i64)),.val (.cell (.int .i64))])] }),(138,{ loops:=[(1,[.dead,.fnc 138,.dead,.dead,.dead,.own 1,.dead,.dead,.dead,.dead,.dead,.dead,.dead,.dead,.dead,.dead,.val (.cell .lent),.val (.cell (.int .i64)),.val (.cell (.int .i64))])] })]
noncomputable def zbB:List D→Option D:=denA Try.prog (zav [(ID.synd_Scale,(.pure [1] zaz)),(ID.synd_Add,(.pure [1] zaB)),(ID.gf_Pow,(.pure [0] zaL)),(ID.synd_P_1,(.pure [0] zbt))]) zjx [1] ID.synd_sum
theorem zqc:za5 Try.prog ID.synd_sum (.pure [1] zbB):=zq3 (zay [zgd,zfG,zge,zl9]) zby ⟨Try.f136,by kernel_rfl,by kernel_rfl,by kernel_rfl⟩
noncomputable def zma:Fact Try.prog:=⟨ID.synd_sum,(.pure [1] zbB),zqc⟩
noncomputable def zia (zaz:List D→Option D) (zaB:List D→Option D) (zaL:List D→Option D) (zbt:List D→Option D) (a0:List D):Option D:=
  brK ((↑(List.length a0):Int) == (0:Int))
    (some (D.sl Tag.own []))
    (getK a0 ((0:Nat)) fun d1=>
    asSl d1 fun t2 l3=>
    sif ((↑(List.length l3):Int)=(↑(List.length l3):Int)) <|
    sif ((↑(List.length l3):Int)*(1:Int)≤(140737488355328:Int)) <|
    sif ((↑(List.length l3):Int)≤(140737488355328:Int)) <|
    sif (Int.toNat (↑(List.length l3):Int)=List.length (List.replicate (Int.toNat (↑(List.length l3):Int)) (D.int IntKind.u8 (0:Int)))) <|
    zcs (α:=(List D×List D×Int×Int×PUnit)×PUnit) (fun again4 ((l5,(l6,(i7,(i8,_)))),_)=>
      brK (decide (i8 < i7))
        (sif ((0:Int)≤i8) <|
        getK l6 (Int.toNat i8) fun d9=>
        asSl d9 fun t10 l11=>
        sif ((0:Nat)+List.length l5≤List.length l5) <|
        brK ((↑(List.length l11):Int) != (↑(List.length l5):Int))
          (some (D.sl Tag.own []))
          (zan (zbt [D.int IntKind.i64 i8]) fun r12=>
          asI IntKind.u8 r12 fun i13=>
          zan (zaz [D.sl t10 l11,D.int IntKind.u8 i13]) fun r14=>
          zbk r14 fun l15=>
          sif ((0:Nat)+List.length l5≤List.length l5) <|
          sif ((0:Nat)+List.length l15≤List.length l15) <|
          zan (zaB [D.sl Tag.lent (cut (0:Nat) (List.length l5) l5),D.sl Tag.lent (cut (0:Nat) (List.length l15) l15)]) fun r16=>
          zbk r16 fun l17=>
          letN (IntKind.wrap IntKind.i64 (i8+(1:Int))) fun n18=>
          sif (List.length l17=List.length l17) <|
          again4 (((l17,l6,i7,n18,PUnit.unit),PUnit.unit))))
        (sif (List.length l5=List.length l5) <|
        sif (List.all l5 D.free=true) <|
        some (D.sl Tag.own l5)))
      (((List.replicate (Int.toNat (↑(List.length l3):Int)) (D.int IntKind.u8 (0:Int)),a0,(↑(List.length a0):Int),(0:Int),PUnit.unit),PUnit.unit)))
theorem zsn (zaz:List D→Option D) (zaB:List D→Option D) (zaL:List D→Option D) (zbt:List D→Option D) (tga0:Tag) (a0:List D):denA Try.prog (zav [(ID.synd_Scale,(.pure [1] zaz)),(ID.synd_Add,(.pure [1] zaB)),(ID.gf_Pow,(.pure [0] zaL)),(ID.synd_P_1,(.pure [0] zbt))]) zjx [1] ID.synd_sum [.sl tga0 a0,.fn 137 [] []]=zia zaz zaB zaL zbt (D.lentL a0):=by kernel_rfl
theorem znY (tga0:Tag) (a0:List D):zbB [.sl tga0 a0,.fn 137 [] []]=zia zaz zaB zaL zbt (D.lentL a0):=zsn zaz zaB zaL zbt tga0 a0
noncomputable def zib (zaz:List D→Option D) (zaB:List D→Option D) (zaL:List D→Option D) (zbt:List D→Option D) (a0:List D):Option D:=
  brK ((↑(List.length a0):Int) == (0:Int))
    (some (D.sl Tag.own []))
    (getK a0 ((0:Nat)) fun d1=>
    asSl d1 fun t2 l3=>
    sif ((↑(List.length l3):Int)=(↑(List.length l3):Int)) <|
    sif ((↑(List.length l3):Int)*(1:Int)≤(140737488355328:Int)) <|
    sif ((↑(List.length l3):Int)≤(140737488355328:Int)) <|
    sif (Int.toNat (↑(List.length l3):Int)=List.length (List.replicate (Int.toNat (↑(List.length l3):Int)) (D.int IntKind.u8 (0:Int)))) <|
    zcs (α:=(List D×List D×Int×Int×PUnit)×PUnit) (fun again4 ((l5,(l6,(i7,(i8,_)))),_)=>
      brK (decide (i8 < i7))
        (sif ((0:Int)≤i8) <|
        getK l6 (Int.toNat i8) fun d9=>
        asSl d9 fun t10 l11=>
        sif ((0:Nat)+List.length l5≤List.length l5) <|
        brK ((↑(List.length l11):Int) != (↑(List.length l5):Int))
          (some (D.sl Tag.own []))
          (zan (zaL [D.int IntKind.i64 i8]) fun r12=>
          asI IntKind.u8 r12 fun i13=>
          zan (zaz [D.sl t10 l11,D.int IntKind.u8 i13]) fun r14=>
          zbk r14 fun l15=>
          sif ((0:Nat)+List.length l5≤List.length l5) <|
          sif ((0:Nat)+List.length l15≤List.length l15) <|
          zan (zaB [D.sl Tag.lent (cut (0:Nat) (List.length l5) l5),D.sl Tag.lent (cut (0:Nat) (List.length l15) l15)]) fun r16=>
          zbk r16 fun l17=>
          letN (IntKind.wrap IntKind.i64 (i8+(1:Int))) fun n18=>
          sif (List.length l17=List.length l17) <|
          again4 (((l17,l6,i7,n18,PUnit.unit),PUnit.unit))))
        (sif (List.length l5=List.length l5) <|
        sif (List.all l5 D.free=true) <|
        some (D.sl Tag.own l5)))
      (((List.replicate (Int.toNat (↑(List.length l3):Int)) (D.int IntKind.u8 (0:Int)),a0,(↑(List.length a0):Int),(0:Int),PUnit.unit),PUnit.unit)))
theorem zso (zaz:List D→Option D) (zaB:List D→Option D) (zaL:List D→Option D) (zbt:List D→Option D) (tga0:Tag) (a0:List D):denA Try.prog (zav [(ID.synd_Scale,(.pure [1] zaz)),(ID.synd_Add,(.pure [1] zaB)),(ID.gf_Pow,(.pure [0] zaL)),(ID.synd_P_1,(.pure [0] zbt))]) zjx [1] ID.synd_sum [.sl tga0 a0,.fn 138 [] []]=zib zaz zaB zaL zbt (D.lentL a0):=by kernel_rfl
theorem znZ (tga0:Tag) (a0:List D):zbB [.sl tga0 a0,.fn 138 [] []]=zib zaz zaB zaL zbt (D.lentL a0):=zso zaz zaB zaL zbt tga0 a0
def zrj:Ann:={ loops:=[] }
noncomputable def zbK:List D→Option D:=denP Try.prog (zav [(ID.synd_sum,(.pure [1] zbB)),(ID.synd_P_1,(.pure [0] zbt))]) zrj [1] ID.synd_P
theorem zt4:za5 Try.prog ID.synd_P (.pure [1] zbK):=zao (zay [zma,zl9]) zby ⟨Try.f110,by kernel_rfl,by kernel_rfl,by kernel_rfl⟩
noncomputable def zla:Fact Try.prog:=⟨ID.synd_P,(.pure [1] zbK),zt4⟩
noncomputable def zsp (zbB:List D→Option D) (zbt:List D→Option D) (a0:List D):Option D:=
  zan (zbB [D.sl Tag.lent a0,D.fn (137:Nat) [] []]) fun r1=>
  zbk r1 fun l2=>
  sif (List.length l2=List.length l2) <|
  sif (List.all l2 D.free=true) <|
  some (D.sl Tag.own l2)
theorem zAh (zbB:List D→Option D) (zbt:List D→Option D) (tga0:Tag) (a0:List D):denP Try.prog (zav [(ID.synd_sum,(.pure [1] zbB)),(ID.synd_P_1,(.pure [0] zbt))]) zrj [1] ID.synd_P [.sl tga0 a0]=zsp zbB zbt (D.lentL a0):=by kernel_rfl
theorem zu7 (tga0:Tag) (a0:List D):zbK [.sl tga0 a0]=zsp zbB zbt (D.lentL a0):=zAh zbB zbt tga0 a0
def zrk:Ann:={ loops:=[] }
noncomputable def zbL:List D→Option D:=denP Try.prog (zav [(ID.synd_sum,(.pure [1] zbB)),(ID.gf_Pow,(.pure [0] zaL))]) zrk [1] ID.synd_Q
theorem zt5:za5 Try.prog ID.synd_Q (.pure [1] zbL):=zao (zay [zma,zge]) zby ⟨Try.f111,by kernel_rfl,by kernel_rfl,by kernel_rfl⟩
noncomputable def zlb:Fact Try.prog:=⟨ID.synd_Q,(.pure [1] zbL),zt5⟩
noncomputable def zsq (zbB:List D→Option D) (zaL:List D→Option D) (a0:List D):Option D:=
  zan (zbB [D.sl Tag.lent a0,D.fn (138:Nat) [] []]) fun r1=>
  zbk r1 fun l2=>
  sif (List.length l2=List.length l2) <|
  sif (List.all l2 D.free=true) <|
  some (D.sl Tag.own l2)
theorem zAi (zbB:List D→Option D) (zaL:List D→Option D) (tga0:Tag) (a0:List D):denP Try.prog (zav [(ID.synd_sum,(.pure [1] zbB)),(ID.gf_Pow,(.pure [0] zaL))]) zrk [1] ID.synd_Q [.sl tga0 a0]=zsq zbB zaL (D.lentL a0):=by kernel_rfl
theorem zu8 (tga0:Tag) (a0:List D):zbL [.sl tga0 a0]=zsq zbB zaL (D.lentL a0):=zAi zbB zaL tga0 a0
def zrl:Ann:={ loops:=[(0,[.val (.cell (.int .u8)),.dead,.dead,.val (.cell (.int .u8)),.dead,.val (.cell (.int .i64))])] }
noncomputable def zdS:List D→Option D:=denP Try.prog (zav [(ID.gf_double,(.pure [0] zaW))]) zrl [0] ID.gf_Log
theorem zt6:za5 Try.prog ID.gf_Log (.pure [0] zdS):=zao (zay [zgV]) zby ⟨Try.f145,by kernel_rfl,by kernel_rfl,by kernel_rfl⟩
noncomputable def zu9:Fact Try.prog:=⟨ID.gf_Log,(.pure [0] zdS),zt6⟩
noncomputable def zsr (zaW:List D→Option D) (a0:Int):Option D:=
  zcs (α:=(Int×Int×Int×PUnit)×PUnit) (fun again1 ((i2,(i3,(i4,_))),_)=>
    brK (decide (i4 < (255:Int)))
      (brK (i3 == i2)
        (some (D.int IntKind.i64 i4))
        (zan (zaW [D.int IntKind.u8 i3]) fun r5=>
        asI IntKind.u8 r5 fun i6=>
        letN (IntKind.wrap IntKind.i64 (i4+(1:Int))) fun n7=>
        again1 (((i2,i6,n7,PUnit.unit),PUnit.unit))))
      (some (D.int IntKind.i64 (-1:Int))))
    (((a0,(1:Int),(0:Int),PUnit.unit),PUnit.unit))
theorem zAj (zaW:List D→Option D) (a0:Int):denP Try.prog (zav [(ID.gf_double,(.pure [0] zaW))]) zrl [0] ID.gf_Log [.int .u8 a0]=zsr zaW a0:=by kernel_rfl
theorem zva (a0:Int):zdS [.int .u8 a0]=zsr zaW a0:=zAj zaW a0
def zrm:Ann:={ loops:=[] }
noncomputable def zcn:List D→Option D:=denP Try.prog (zav [(ID.gf_Log,(.pure [0] zdS)),(ID.gf_Pow,(.pure [0] zaL))]) zrm [0] ID.gf_Inv
theorem zt7:za5 Try.prog ID.gf_Inv (.pure [0] zcn):=zao (zay [zu9,zge]) zby ⟨Try.f141,by kernel_rfl,by kernel_rfl,by kernel_rfl⟩
noncomputable def zpz:Fact Try.prog:=⟨ID.gf_Inv,(.pure [0] zcn),zt7⟩
noncomputable def zss (zdS:List D→Option D) (zaL:List D→Option D) (a0:Int):Option D:=
  brK (a0 == (0:Int))
    (some (D.int IntKind.u8 (0:Int)))
    (zan (zdS [D.int IntKind.u8 a0]) fun r1=>
    asI IntKind.i64 r1 fun i2=>
    letN (IntKind.wrap IntKind.i64 ((255:Int) - i2)) fun n3=>
    zan (zaL [D.int IntKind.i64 n3]) fun r4=>
    asI IntKind.u8 r4 fun i5=>
    some (D.int IntKind.u8 i5))
theorem zAk (zdS:List D→Option D) (zaL:List D→Option D) (a0:Int):denP Try.prog (zav [(ID.gf_Log,(.pure [0] zdS)),(ID.gf_Pow,(.pure [0] zaL))]) zrm [0] ID.gf_Inv [.int .u8 a0]=zss zdS zaL a0:=by kernel_rfl
theorem zvb (a0:Int):zcn [.int .u8 a0]=zss zdS zaL a0:=zAk zdS zaL a0
def zmb:Ann:={ loops:=[] }
noncomputable def zcr:List D→Option D:=denP Try.prog (zav [(ID.synd_P,(.pure [1] zbK)),(ID.synd_Add,(.pure [1] zaB)),(ID.synd_Q,(.pure [1] zbL)),(ID.gf_Pow,(.pure [0] zaL)),(ID.gf_Inv,(.pure [0] zcn)),(ID.synd_Scale,(.pure [1] zaz))]) zmb [1,1] ID.erase_two
theorem zpA:za5 Try.prog ID.erase_two (.pure [1,1] zcr):=zao (zay [zla,zfG,zlb,zge,zpz,zgd]) zby ⟨Try.f131,by kernel_rfl,by kernel_rfl,by kernel_rfl⟩
noncomputable def zqd:Fact Try.prog:=⟨ID.erase_two,(.pure [1,1] zcr),zpA⟩
noncomputable def zlc (zbK:List D→Option D) (zaB:List D→Option D) (zbL:List D→Option D) (zaL:List D→Option D) (zcn:List D→Option D) (zaz:List D→Option D) (a0:List D) (a1:List D) (a2:List D) (a3:Int) (a4:Int):Option D:=
  zan (zbK [D.sl Tag.lent a2]) fun r1=>
  zbk r1 fun l2=>
  sif ((0:Nat)+List.length l2≤List.length l2) <|
  zan (zaB [D.sl Tag.lent a0,D.sl Tag.lent (cut (0:Nat) (List.length l2) l2)]) fun r3=>
  zbk r3 fun l4=>
  zan (zbL [D.sl Tag.lent a2]) fun r5=>
  zbk r5 fun l6=>
  sif ((0:Nat)+List.length l6≤List.length l6) <|
  zan (zaB [D.sl Tag.lent a1,D.sl Tag.lent (cut (0:Nat) (List.length l6) l6)]) fun r7=>
  zbk r7 fun l8=>
  zan (zaL [D.int IntKind.i64 a3]) fun r9=>
  asI IntKind.u8 r9 fun i10=>
  zan (zaL [D.int IntKind.i64 a4]) fun r11=>
  asI IntKind.u8 r11 fun i12=>
  letN (bits BinOp.xor IntKind.u8 i10 i12) fun n13=>
  zan (zcn [D.int IntKind.u8 n13]) fun r14=>
  asI IntKind.u8 r14 fun i15=>
  zan (zaL [D.int IntKind.i64 a4]) fun r16=>
  asI IntKind.u8 r16 fun i17=>
  sif ((0:Nat)+List.length l4≤List.length l4) <|
  zan (zaz [D.sl Tag.lent (cut (0:Nat) (List.length l4) l4),D.int IntKind.u8 i17]) fun r18=>
  zbk r18 fun l19=>
  sif ((0:Nat)+List.length l8≤List.length l8) <|
  sif ((0:Nat)+List.length l19≤List.length l19) <|
  zan (zaB [D.sl Tag.lent (cut (0:Nat) (List.length l8) l8),D.sl Tag.lent (cut (0:Nat) (List.length l19) l19)]) fun r20=>
  zbk r20 fun l21=>
  sif ((0:Nat)+List.length l21≤List.length l21) <|
  zan (zaz [D.sl Tag.lent (cut (0:Nat) (List.length l21) l21),D.int IntKind.u8 i15]) fun r22=>
  zbk r22 fun l23=>
  sif ((0:Nat)+List.length l4≤List.length l4) <|
  sif ((0:Nat)+List.length l23≤List.length l23) <|
  zan (zaB [D.sl Tag.lent (cut (0:Nat) (List.length l4) l4),D.sl Tag.lent (cut (0:Nat) (List.length l23) l23)]) fun r24=>
  zbk r24 fun l25=>
  sif (List.length l23=List.length l23) <|
  sif (List.all l23 D.free=true) <|
  sif (List.length l25=List.length l25) <|
  sif (List.all l25 D.free=true) <|
  some (D.tup [D.sl Tag.own l23,D.sl Tag.own l25])
theorem zvc (zbK:List D→Option D) (zaB:List D→Option D) (zbL:List D→Option D) (zaL:List D→Option D) (zcn:List D→Option D) (zaz:List D→Option D) (tga0:Tag) (tga1:Tag) (tga2:Tag) (a0:List D) (a1:List D) (a2:List D) (a3:Int) (a4:Int):denP Try.prog (zav [(ID.synd_P,(.pure [1] zbK)),(ID.synd_Add,(.pure [1] zaB)),(ID.synd_Q,(.pure [1] zbL)),(ID.gf_Pow,(.pure [0] zaL)),(ID.gf_Inv,(.pure [0] zcn)),(ID.synd_Scale,(.pure [1] zaz))]) zmb [1,1] ID.erase_two [.sl tga0 a0,.sl tga1 a1,.sl tga2 a2,.int .i64 a3,.int .i64 a4]=zlc zbK zaB zbL zaL zcn zaz (D.lentL a0) (D.lentL a1) (D.lentL a2) a3 a4:=by kernel_rfl
theorem zqe (tga0:Tag) (tga1:Tag) (tga2:Tag) (a0:List D) (a1:List D) (a2:List D) (a3:Int) (a4:Int):zcr [.sl tga0 a0,.sl tga1 a1,.sl tga2 a2,.int .i64 a3,.int .i64 a4]=zlc zbK zaB zbL zaL zcn zaz (D.lentL a0) (D.lentL a1) (D.lentL a2) a3 a4:=zvc zbK zaB zbL zaL zcn zaz tga0 tga1 tga2 a0 a1 a2 a3 a4
def zmc:Ann:={ loops:=[] }
noncomputable def zcd:List D→Option D:=denP Try.prog (zav [(ID.synd_Q,(.pure [1] zbL)),(ID.synd_Add,(.pure [1] zaB)),(ID.gf_Pow,(.pure [0] zaL)),(ID.gf_Inv,(.pure [0] zcn)),(ID.synd_Scale,(.pure [1] zaz))]) zmc [1] ID.erase_byQ
theorem zpB:za5 Try.prog ID.erase_byQ (.pure [1] zcd):=zao (zay [zlb,zfG,zge,zpz,zgd]) zby ⟨Try.f133,by kernel_rfl,by kernel_rfl,by kernel_rfl⟩
noncomputable def zqf:Fact Try.prog:=⟨ID.erase_byQ,(.pure [1] zcd),zpB⟩
noncomputable def zld (zbL:List D→Option D) (zaB:List D→Option D) (zaL:List D→Option D) (zcn:List D→Option D) (zaz:List D→Option D) (a0:List D) (a1:List D) (a2:Int):Option D:=
  zan (zbL [D.sl Tag.lent a1]) fun r1=>
  zbk r1 fun l2=>
  sif ((0:Nat)+List.length l2≤List.length l2) <|
  zan (zaB [D.sl Tag.lent a0,D.sl Tag.lent (cut (0:Nat) (List.length l2) l2)]) fun r3=>
  zbk r3 fun l4=>
  zan (zaL [D.int IntKind.i64 a2]) fun r5=>
  asI IntKind.u8 r5 fun i6=>
  zan (zcn [D.int IntKind.u8 i6]) fun r7=>
  asI IntKind.u8 r7 fun i8=>
  sif ((0:Nat)+List.length l4≤List.length l4) <|
  zan (zaz [D.sl Tag.lent (cut (0:Nat) (List.length l4) l4),D.int IntKind.u8 i8]) fun r9=>
  zbk r9 fun l10=>
  sif (List.length l10=List.length l10) <|
  sif (List.all l10 D.free=true) <|
  some (D.sl Tag.own l10)
theorem zvd (zbL:List D→Option D) (zaB:List D→Option D) (zaL:List D→Option D) (zcn:List D→Option D) (zaz:List D→Option D) (tga0:Tag) (tga1:Tag) (a0:List D) (a1:List D) (a2:Int):denP Try.prog (zav [(ID.synd_Q,(.pure [1] zbL)),(ID.synd_Add,(.pure [1] zaB)),(ID.gf_Pow,(.pure [0] zaL)),(ID.gf_Inv,(.pure [0] zcn)),(ID.synd_Scale,(.pure [1] zaz))]) zmc [1] ID.erase_byQ [.sl tga0 a0,.sl tga1 a1,.int .i64 a2]=zld zbL zaB zaL zcn zaz (D.lentL a0) (D.lentL a1) a2:=by kernel_rfl
theorem zqg (tga0:Tag) (tga1:Tag) (a0:List D) (a1:List D) (a2:Int):zcd [.sl tga0 a0,.sl tga1 a1,.int .i64 a2]=zld zbL zaB zaL zcn zaz (D.lentL a0) (D.lentL a1) a2:=zvd zbL zaB zaL zcn zaz tga0 tga1 a0 a1 a2
def zjy:Ann:={ loops:=[] }
noncomputable def zbP:List D→Option D:=denP Try.prog (zav [(ID.erase_Missing,(.pure [1] zbw)),(ID.erase_fits,(.pure [0] zbW)),(ID.erase_filled,(.pure [1] zbD)),(ID.erase_two,(.pure [1,1] zcr)),(ID.synd_P,(.pure [1] zbK)),(ID.synd_Add,(.pure [1] zaB)),(ID.erase_byQ,(.pure [1] zcd))]) zjy [1,0] ID.erase_Solve
theorem zmY:za5 Try.prog ID.erase_Solve (.pure [1,0] zbP):=zao (zay [zl3,zpu,zmV,zqd,zla,zfG,zqf]) zby ⟨Try.f105,by kernel_rfl,by kernel_rfl,by kernel_rfl⟩
noncomputable def zn0:Fact Try.prog:=⟨ID.erase_Solve,(.pure [1,0] zbP),zmY⟩
noncomputable def zic (zbw:List D→Option D) (zbW:List D→Option D) (zbD:List D→Option D) (zcr:List D→Option D) (zbK:List D→Option D) (zaB:List D→Option D) (zcd:List D→Option D) (a0:Int) (a1:List D) (a2:List D) (a3:List D):Option D:=
  zan (zbw [D.sl Tag.lent a3]) fun r1=>
  zbk r1 fun l2=>
  brK (decide (a0 < (1:Int)))
    (some (D.tup [D.sl Tag.own [],D.bool false]))
    (brK (decide ((↑(List.length a3):Int) < (1:Int)))
      (some (D.tup [D.sl Tag.own [],D.bool false]))
      (brK (decide ((↑(List.length a3):Int) > (8:Int)))
        (some (D.tup [D.sl Tag.own [],D.bool false]))
        (zan (zbW [D.int IntKind.i64 a0,D.sl Tag.lent a3]) fun r3=>
        asB r3 fun b4=>
        brK (!b4)
          (some (D.tup [D.sl Tag.own [],D.bool false]))
          (zan (zbW [D.int IntKind.i64 a0,D.sl Tag.full [D.sl Tag.lent a1,D.sl Tag.lent a2]]) fun r5=>
          asB r5 fun b6=>
          brK (!b6)
            (some (D.tup [D.sl Tag.own [],D.bool false]))
            (sif ((0:Nat)+List.length l2≤List.length l2) <|
            zan (zbw [D.sl Tag.full [D.sl Tag.lent a1,D.sl Tag.lent a2]]) fun r7=>
            zbk r7 fun l8=>
            sif ((0:Nat)+List.length l8≤List.length l8) <|
            letN (IntKind.wrap IntKind.i64 ((↑(List.length l2):Int)+(↑(List.length l8):Int))) fun n9=>
            brK (decide (n9 > (2:Int)))
              (some (D.tup [D.sl Tag.own [],D.bool false]))
              (zan (zbD [D.int IntKind.i64 a0,D.sl Tag.lent a3]) fun r10=>
              zbk r10 fun l11=>
              sif ((0:Nat)+List.length l2≤List.length l2) <|
              brK ((↑(List.length l2):Int) == (2:Int))
                (sif ((0:Nat) < List.length l2) <|
                getK l2 ((0:Nat)) fun d12=>
                asI IntKind.i64 d12 fun i13=>
                sif ((1:Nat) < List.length l2) <|
                getK l2 ((1:Nat)) fun d14=>
                asI IntKind.i64 d14 fun i15=>
                sif ((0:Nat) < List.length l2) <|
                getK l2 ((0:Nat)) fun d16=>
                asI IntKind.i64 d16 fun i17=>
                sif ((1:Nat) < List.length l2) <|
                getK l2 ((1:Nat)) fun d18=>
                asI IntKind.i64 d18 fun i19=>
                sif ((0:Nat)+List.length l11≤List.length l11) <|
                zan (zcr [D.sl Tag.lent a1,D.sl Tag.lent a2,D.sl Tag.lent (cut (0:Nat) (List.length l11) l11),D.int IntKind.i64 i17,D.int IntKind.i64 i19]) fun r20=>
                zdx r20 fun ts21=>
                zas ([Lf.any,Lf.any]) ts21 fun c22=>
                zbk c22.fst fun l23=>
                zbk c22.snd.fst fun l24=>
                sif ((0:Int)≤i13) <|
                sif (Int.toNat i13 < List.length l11) <|
                sif ((0:Nat)+List.length l23≤List.length l23) <|
                getK l11 ((0:Nat)+Int.toNat i13) fun d25=>
                sif ((0:Nat)+List.length l23≤List.length l23) <|
                sif (D.isAgg d25=false) <|
                sif ((0:Int)≤i15) <|
                sif (Int.toNat i15 < List.length l11) <|
                sif ((0:Nat)+List.length l24≤List.length l24) <|
                getK (List.set l11 ((0:Nat)+Int.toNat i13) (D.sl Tag.fresh (cut (0:Nat) (List.length l23) l23))) ((0:Nat)+Int.toNat i15) fun d26=>
                sif ((0:Nat)+List.length l24≤List.length l24) <|
                sif (D.isAgg d26=false) <|
                sif (List.length l11=List.length (List.set (List.set l11 ((0:Nat)+Int.toNat i13) (D.sl Tag.fresh (cut (0:Nat) (List.length l23) l23))) ((0:Nat)+Int.toNat i15) (D.sl Tag.fresh (cut (0:Nat) (List.length l24) l24)))) <|
                sif (List.all (List.set (List.set l11 ((0:Nat)+Int.toNat i13) (D.sl Tag.fresh (cut (0:Nat) (List.length l23) l23))) ((0:Nat)+Int.toNat i15) (D.sl Tag.fresh (cut (0:Nat) (List.length l24) l24))) D.free=true) <|
                some (D.tup [D.sl Tag.own (List.set (List.set l11 ((0:Nat)+Int.toNat i13) (D.sl Tag.fresh (cut (0:Nat) (List.length l23) l23))) ((0:Nat)+Int.toNat i15) (D.sl Tag.fresh (cut (0:Nat) (List.length l24) l24))),D.bool true]))
                (sif ((0:Nat)+List.length l2≤List.length l2) <|
                brK ((↑(List.length l2):Int) == (1:Int))
                  (brK (decide ((↑(List.length a1):Int) > (0:Int)))
                    (sif ((0:Nat) < List.length l2) <|
                    getK l2 ((0:Nat)) fun d27=>
                    asI IntKind.i64 d27 fun i28=>
                    sif ((0:Nat)+List.length l11≤List.length l11) <|
                    zan (zbK [D.sl Tag.lent (cut (0:Nat) (List.length l11) l11)]) fun r29=>
                    zbk r29 fun l30=>
                    sif ((0:Nat)+List.length l30≤List.length l30) <|
                    zan (zaB [D.sl Tag.lent a1,D.sl Tag.lent (cut (0:Nat) (List.length l30) l30)]) fun r31=>
                    zbk r31 fun l32=>
                    sif ((0:Int)≤i28) <|
                    sif (Int.toNat i28 < List.length l11) <|
                    sif ((0:Nat)+List.length l32≤List.length l32) <|
                    getK l11 ((0:Nat)+Int.toNat i28) fun d33=>
                    sif ((0:Nat)+List.length l32≤List.length l32) <|
                    sif (D.isAgg d33=false) <|
                    sif (List.length l11=List.length (List.set l11 ((0:Nat)+Int.toNat i28) (D.sl Tag.fresh (cut (0:Nat) (List.length l32) l32)))) <|
                    sif (List.all (List.set l11 ((0:Nat)+Int.toNat i28) (D.sl Tag.fresh (cut (0:Nat) (List.length l32) l32))) D.free=true) <|
                    some (D.tup [D.sl Tag.own (List.set l11 ((0:Nat)+Int.toNat i28) (D.sl Tag.fresh (cut (0:Nat) (List.length l32) l32))),D.bool true]))
                    (sif ((0:Nat)+List.length l2≤List.length l2) <|
                    brK ((↑(List.length l2):Int) == (1:Int))
                      (sif ((0:Nat) < List.length l2) <|
                      getK l2 ((0:Nat)) fun d34=>
                      asI IntKind.i64 d34 fun i35=>
                      sif ((0:Nat) < List.length l2) <|
                      getK l2 ((0:Nat)) fun d36=>
                      asI IntKind.i64 d36 fun i37=>
                      sif ((0:Nat)+List.length l11≤List.length l11) <|
                      zan (zcd [D.sl Tag.lent a2,D.sl Tag.lent (cut (0:Nat) (List.length l11) l11),D.int IntKind.i64 i37]) fun r38=>
                      zbk r38 fun l39=>
                      sif ((0:Int)≤i35) <|
                      sif (Int.toNat i35 < List.length l11) <|
                      sif ((0:Nat)+List.length l39≤List.length l39) <|
                      getK l11 ((0:Nat)+Int.toNat i35) fun d40=>
                      sif ((0:Nat)+List.length l39≤List.length l39) <|
                      sif (D.isAgg d40=false) <|
                      sif (List.length l11=List.length (List.set l11 ((0:Nat)+Int.toNat i35) (D.sl Tag.fresh (cut (0:Nat) (List.length l39) l39)))) <|
                      sif (List.all (List.set l11 ((0:Nat)+Int.toNat i35) (D.sl Tag.fresh (cut (0:Nat) (List.length l39) l39))) D.free=true) <|
                      some (D.tup [D.sl Tag.own (List.set l11 ((0:Nat)+Int.toNat i35) (D.sl Tag.fresh (cut (0:Nat) (List.length l39) l39))),D.bool true]))
                      (sif (List.length l11=List.length l11) <|
                      sif (List.all l11 D.free=true) <|
                      some (D.tup [D.sl Tag.own l11,D.bool true]))))
                  (sif ((0:Nat)+List.length l2≤List.length l2) <|
                  brK ((↑(List.length l2):Int) == (1:Int))
                    (sif ((0:Nat) < List.length l2) <|
                    getK l2 ((0:Nat)) fun d41=>
                    asI IntKind.i64 d41 fun i42=>
                    sif ((0:Nat) < List.length l2) <|
                    getK l2 ((0:Nat)) fun d43=>
                    asI IntKind.i64 d43 fun i44=>
                    sif ((0:Nat)+List.length l11≤List.length l11) <|
                    zan (zcd [D.sl Tag.lent a2,D.sl Tag.lent (cut (0:Nat) (List.length l11) l11),D.int IntKind.i64 i44]) fun r45=>
                    zbk r45 fun l46=>
                    sif ((0:Int)≤i42) <|
                    sif (Int.toNat i42 < List.length l11) <|
                    sif ((0:Nat)+List.length l46≤List.length l46) <|
                    getK l11 ((0:Nat)+Int.toNat i42) fun d47=>
                    sif ((0:Nat)+List.length l46≤List.length l46) <|
                    sif (D.isAgg d47=false) <|
                    sif (List.length l11=List.length (List.set l11 ((0:Nat)+Int.toNat i42) (D.sl Tag.fresh (cut (0:Nat) (List.length l46) l46)))) <|
                    sif (List.all (List.set l11 ((0:Nat)+Int.toNat i42) (D.sl Tag.fresh (cut (0:Nat) (List.length l46) l46))) D.free=true) <|
                    some (D.tup [D.sl Tag.own (List.set l11 ((0:Nat)+Int.toNat i42) (D.sl Tag.fresh (cut (0:Nat) (List.length l46) l46))),D.bool true]))
                    (sif (List.length l11=List.length l11) <|
                    sif (List.all l11 D.free=true) <|
                    some (D.tup [D.sl Tag.own l11,D.bool true]))))))))))
theorem zst (zbw:List D→Option D) (zbW:List D→Option D) (zbD:List D→Option D) (zcr:List D→Option D) (zbK:List D→Option D) (zaB:List D→Option D) (zcd:List D→Option D) (tga1:Tag) (tga2:Tag) (tga3:Tag) (a0:Int) (a1:List D) (a2:List D) (a3:List D):denP Try.prog (zav [(ID.erase_Missing,(.pure [1] zbw)),(ID.erase_fits,(.pure [0] zbW)),(ID.erase_filled,(.pure [1] zbD)),(ID.erase_two,(.pure [1,1] zcr)),(ID.synd_P,(.pure [1] zbK)),(ID.synd_Add,(.pure [1] zaB)),(ID.erase_byQ,(.pure [1] zcd))]) zjy [1,0] ID.erase_Solve [.int .i64 a0,.sl tga1 a1,.sl tga2 a2,.sl tga3 a3]=zic zbw zbW zbD zcr zbK zaB zcd a0 (D.lentL a1) (D.lentL a2) (D.lentL a3):=by kernel_rfl
theorem zn1 (tga1:Tag) (tga2:Tag) (tga3:Tag) (a0:Int) (a1:List D) (a2:List D) (a3:List D):zbP [.int .i64 a0,.sl tga1 a1,.sl tga2 a2,.sl tga3 a3]=zic zbw zbW zbD zcr zbK zaB zcd a0 (D.lentL a1) (D.lentL a2) (D.lentL a3):=zst zbw zbW zbD zcr zbK zaB zcd tga1 tga2 tga3 a0 a1 a2 a3
def znF:Ann:={ loops:=[(1,[.dead,.val (.cell (.int .i64)),.val (.cell .lent),.box true [(.int .i64),(.int .i64),(.int .i64)],.dead,.dead,.dead,.dead,.own 1,.dead,.dead,.dead,.dead,.dead,.dead,.dead,.dead,.dead,.dead,.dead,.dead,.dead,.dead,.dead,.val (.cell (.int .i64)),.val (.cell (.int .i64))])] }
noncomputable def zcF:List D→Option D:=denP Try.prog (zav [(ID.row_in,(.pure [0] zcm)),(ID.geom_Width,(.pure [0] zab)),(ID.place_Disk,(.pure [0] zaJ)),(ID.place_Parity,(.pure [0,0] zaA)),(ID.erase_Solve,(.pure [1,0] zbP))]) znF [1,0] ID.row_Take
theorem zqh:za5 Try.prog ID.row_Take (.pure [1,0] zcF):=zao (zay [zpp,zb7,zga,zeL,zn0]) zby ⟨Try.f71,by kernel_rfl,by kernel_rfl,by kernel_rfl⟩
noncomputable def zsu:Fact Try.prog:=⟨ID.row_Take,(.pure [1,0] zcF),zqh⟩
noncomputable def zmZ (zcm:List D→Option D) (zab:List D→Option D) (zaJ:List D→Option D) (zaA:List D→Option D) (zbP:List D→Option D) (a0_0:Int) (a0_1:Int) (a0_2:Int) (a1:Int) (a2:List D):Option D:=
  zan (zcm [D.agg [D.int IntKind.i64 a0_0,D.int IntKind.i64 a0_1,D.int IntKind.i64 a0_2],D.int IntKind.i64 a1]) fun r1=>
  asB r1 fun b2=>
  brK (!b2)
    (some (D.tup [D.sl Tag.own [],D.bool false]))
    (brK ((↑(List.length a2):Int) != a0_1)
      (some (D.tup [D.sl Tag.own [],D.bool false]))
      (zan (zab [D.agg [D.int IntKind.i64 a0_0,D.int IntKind.i64 a0_1,D.int IntKind.i64 a0_2]]) fun r3=>
      asI IntKind.i64 r3 fun i4=>
      zcs (α:=(Int×List D×(Int×Int×Int×PUnit)×List D×Int×Int×PUnit)×PUnit) (fun again5 ((i6,(l7,((i8,(i9,(i10,_))),(l11,(i12,(i13,_)))))),_)=>
        brK (decide (i13 < i12))
          (zan (zaJ [D.agg [D.int IntKind.i64 i8,D.int IntKind.i64 i9,D.int IntKind.i64 i10],D.int IntKind.i64 i6,D.int IntKind.i64 i13]) fun r14=>
          asI IntKind.i64 r14 fun i15=>
          sif ((0:Int)≤i15) <|
          getK l7 (Int.toNat i15) fun d16=>
          asSl d16 fun t17 l18=>
          sif (List.length l11+(1:Nat)≤(4294967296:Nat)) <|
          sif (List.length l11=List.length l11) <|
          letN (IntKind.wrap IntKind.i64 (i13+(1:Int))) fun n19=>
          sif (List.length l11+(1:Nat)=List.length (l11++[D.sl t17 l18])) <|
          again5 (((i6,l7,(i8,i9,i10,PUnit.unit),l11++[D.sl t17 l18],i12,n19,PUnit.unit),PUnit.unit)))
          (zan (zaA [D.agg [D.int IntKind.i64 i8,D.int IntKind.i64 i9,D.int IntKind.i64 i10],D.int IntKind.i64 i6]) fun r20=>
          zdx r20 fun ts21=>
          zas ([Lf.any,Lf.any]) ts21 fun c22=>
          asI IntKind.i64 c22.fst fun i23=>
          asI IntKind.i64 c22.snd.fst fun i24=>
          brK (decide (i24 < (0:Int)))
            (sif ((0:Int)≤i23) <|
            getK l7 (Int.toNat i23) fun d25=>
            asSl d25 fun t26 l27=>
            sif ((0:Nat)+List.length l11≤List.length l11) <|
            zan (zbP [D.int IntKind.i64 (32:Int),D.sl t26 l27,D.sl Tag.nil [],D.sl Tag.lent (cut (0:Nat) (List.length l11) l11)]) fun r28=>
            zdx r28 fun ts29=>
            zas ([Lf.any,Lf.any]) ts29 fun c30=>
            zbk c30.fst fun l31=>
            asB c30.snd.fst fun b32=>
            sif (List.length l31=List.length l31) <|
            sif (List.all l31 D.free=true) <|
            some (D.tup [D.sl Tag.own l31,D.bool b32]))
            (sif ((0:Int)≤i23) <|
            getK l7 (Int.toNat i23) fun d33=>
            asSl d33 fun t34 l35=>
            sif ((0:Int)≤i24) <|
            getK l7 (Int.toNat i24) fun d36=>
            asSl d36 fun t37 l38=>
            sif ((0:Nat)+List.length l11≤List.length l11) <|
            zan (zbP [D.int IntKind.i64 (32:Int),D.sl t34 l35,D.sl t37 l38,D.sl Tag.lent (cut (0:Nat) (List.length l11) l11)]) fun r39=>
            zdx r39 fun ts40=>
            zas ([Lf.any,Lf.any]) ts40 fun c41=>
            zbk c41.fst fun l42=>
            asB c41.snd.fst fun b43=>
            sif (List.length l42=List.length l42) <|
            sif (List.all l42 D.free=true) <|
            some (D.tup [D.sl Tag.own l42,D.bool b43]))))
        (((a1,a2,(a0_0,a0_1,a0_2,PUnit.unit),[],i4,(0:Int),PUnit.unit),PUnit.unit))))
theorem zw5 (zcm:List D→Option D) (zab:List D→Option D) (zaJ:List D→Option D) (zaA:List D→Option D) (zbP:List D→Option D) (tga2:Tag) (a0_0:Int) (a0_1:Int) (a0_2:Int) (a1:Int) (a2:List D):denP Try.prog (zav [(ID.row_in,(.pure [0] zcm)),(ID.geom_Width,(.pure [0] zab)),(ID.place_Disk,(.pure [0] zaJ)),(ID.place_Parity,(.pure [0,0] zaA)),(ID.erase_Solve,(.pure [1,0] zbP))]) znF [1,0] ID.row_Take [.agg [.int .i64 a0_0,.int .i64 a0_1,.int .i64 a0_2],.int .i64 a1,.sl tga2 a2]=zmZ zcm zab zaJ zaA zbP a0_0 a0_1 a0_2 a1 (D.lentL a2):=by kernel_rfl
theorem zsv (tga2:Tag) (a0_0:Int) (a0_1:Int) (a0_2:Int) (a1:Int) (a2:List D):zcF [.agg [.int .i64 a0_0,.int .i64 a0_1,.int .i64 a0_2],.int .i64 a1,.sl tga2 a2]=zmZ zcm zab zaJ zaA zbP a0_0 a0_1 a0_2 a1 (D.lentL a2):=zw5 zcm zab zaJ zaA zbP tga2 a0_0 a0_1 a0_2 a1 a2
def zjz:Ann:={ loops:=[(1,[.val (.cell (.hnd (3840:Nat))),.val (.cell .lent),.dead,.val (.cell (.int .i64)),.dead,.dead,.box true [(.int .i64),(.int .i64),(.int .i64)],.dead,.dead,.dead,.own 1,.dead,.dead,.dead,.dead,.dead,.dead,.dead,.dead,.dead,.dead,.dead,.dead,.dead,.dead,.dead,.dead,.dead,.dead,.dead,.dead,.val (.cell (.int .i64)),.val (.cell (.int .i64))])],ks:=[(3840,false),(7649,false)] }
noncomputable def zbY:List D→List Tb→Option Ans:=denS Try.prog (zav [(ID.geom_Check,(.pure [0] zai)),(ID.stripe_up,(.st [] [0] [(3840,false),(7649,false)] zaF)),(ID.bench_Bench_Read,(.st [] [1,0] [(3840,false),(7649,false)] zaD)),(ID.row_Take,(.pure [1,0] zcF))]) zjz [1,0] ID.stripe_Read
theorem zm0:za5 Try.prog ID.stripe_Read (.st [] [1,0] [(3840,false),(7649,false)] zbY):=zbq (zay [zcR,zeS,ze4,zsu]) zby ⟨Try.f21,by kernel_rfl,by kernel_rfl,by kernel_rfl⟩
noncomputable def zn2:Fact Try.prog:=⟨ID.stripe_Read,(.st [] [1,0] [(3840,false),(7649,false)] zbY),zm0⟩
noncomputable def zid (zai:List D→Option D) (zaF:List D→List Tb→Option Ans) (zaD:List D→List Tb→Option Ans) (zcF:List D→Option D) (a0:Nat) (a1:List D) (a2_0:Int) (a2_1:Int) (a2_2:Int) (a3:Int) (T0:Tb) (T1:Tb):Option Ans:=
  zan (zai [D.agg [D.int IntKind.i64 a2_0,D.int IntKind.i64 a2_1,D.int IntKind.i64 a2_2]]) fun r1=>
  asI IntKind.i64 r1 fun i2=>
  brK (i2 != (0:Int))
    (some (Ans.mk (D.tup [D.sl Tag.own [],D.int IntKind.i64 (1:Int)]) [] []))
    (brK (decide (a3 < (0:Int)))
      (some (Ans.mk (D.tup [D.sl Tag.own [],D.int IntKind.i64 (1:Int)]) [] []))
      (brK (decide (a3≥(16:Int)))
        (some (Ans.mk (D.tup [D.sl Tag.own [],D.int IntKind.i64 (1:Int)]) [] []))
        (sif ((0:Int)≤a2_1) <|
        sif (a2_1=a2_1) <|
        sif (a2_1*(24:Int)≤(140737488355328:Int)) <|
        sif (a2_1≤(140737488355328:Int)) <|
        sif ((0:Nat)+Int.toNat a2_1≤List.length (List.replicate (Int.toNat a2_1) (D.sl Tag.nil []))) <|
        sif (Int.toNat a2_1=List.length (List.replicate (Int.toNat a2_1) (D.sl Tag.nil []))) <|
        zcs (α:=(Nat×List D×Int×(Int×Int×Int×PUnit)×List D×Int×Int×PUnit)×List (List D)×List (List D)×PUnit) (fun again3 ((x4,(l5,(i6,((i7,(i8,(i9,_))),(l10,(i11,(i12,_))))))),(U13,(U14,_)))=>
          brK (decide (i12 < i11))
            (zan (zaF [D.h (3840) x4 (0:Nat),D.sl Tag.lent l5,D.int IntKind.i64 i12] [U13,U14]) fun r15=>
            nilK r15.outs <|
            nilK r15.tbs <|
            asB r15.r fun b16=>
            brK (!b16)
              (letN (IntKind.wrap IntKind.i64 (i12+(1:Int))) fun n17=>
              sif (List.length l10=List.length l10) <|
              again3 (((x4,l5,i6,(i7,i8,i9,PUnit.unit),l10,i11,n17,PUnit.unit),U13,U14,PUnit.unit)))
              (letN (IntKind.wrap IntKind.i64 ((36:Int)+i6)) fun n18=>
              zan (zaD [D.h (3840) x4 (0:Nat),D.int IntKind.i64 i12,D.int IntKind.i64 n18] [U13,U14]) fun r19=>
              nilK r19.outs <|
              nilK r19.tbs <|
              zdx r19.r fun ts20=>
              zas ([Lf.any,Lf.any]) ts20 fun c21=>
              zbk c21.fst fun l22=>
              asI IntKind.i64 c21.snd.fst fun i23=>
              brK (i23 != (0:Int))
                (some (Ans.mk (D.tup [D.sl Tag.own [],D.int IntKind.i64 i23]) [] []))
                (sif ((0:Int)≤i12) <|
                sif (Int.toNat i12 < List.length l10) <|
                sif ((0:Nat)+List.length l22≤List.length l22) <|
                getK l10 ((0:Nat)+Int.toNat i12) fun d24=>
                sif ((0:Nat)+List.length l22≤List.length l22) <|
                sif (D.isAgg d24=false) <|
                letN (IntKind.wrap IntKind.i64 (i12+(1:Int))) fun n25=>
                sif (List.length l10=List.length (List.set l10 ((0:Nat)+Int.toNat i12) (D.sl Tag.fresh (cut (0:Nat) (List.length l22) l22)))) <|
                again3 (((x4,l5,i6,(i7,i8,i9,PUnit.unit),List.set l10 ((0:Nat)+Int.toNat i12) (D.sl Tag.fresh (cut (0:Nat) (List.length l22) l22)),i11,n25,PUnit.unit),U13,U14,PUnit.unit)))))
            (sif ((0:Nat)+List.length l10≤List.length l10) <|
            zan (zcF [D.agg [D.int IntKind.i64 i7,D.int IntKind.i64 i8,D.int IntKind.i64 i9],D.int IntKind.i64 i6,D.sl Tag.lent (cut (0:Nat) (List.length l10) l10)]) fun r26=>
            zdx r26 fun ts27=>
            zas ([Lf.any,Lf.any]) ts27 fun c28=>
            zbk c28.fst fun l29=>
            asB c28.snd.fst fun b30=>
            brK (!b30)
              (some (Ans.mk (D.tup [D.sl Tag.own [],D.int IntKind.i64 (7:Int)]) [] []))
              (sif (List.length l29=List.length l29) <|
              sif (List.all l29 D.free=true) <|
              some (Ans.mk (D.tup [D.sl Tag.own l29,D.int IntKind.i64 (0:Int)]) [] []))))
          (((a0,a1,a3,(a2_0,a2_1,a2_2,PUnit.unit),List.replicate (Int.toNat a2_1) (D.sl Tag.nil []),(↑(Int.toNat a2_1):Int),(0:Int),PUnit.unit),T0,T1,PUnit.unit)))))
theorem zsw (zai:List D→Option D) (zaF:List D→List Tb→Option Ans) (zaD:List D→List Tb→Option Ans) (zcF:List D→Option D) (tga1:Tag) (a0:Nat) (a1:List D) (a2_0:Int) (a2_1:Int) (a2_2:Int) (a3:Int) (T0:Tb) (T1:Tb):denS Try.prog (zav [(ID.geom_Check,(.pure [0] zai)),(ID.stripe_up,(.st [] [0] [(3840,false),(7649,false)] zaF)),(ID.bench_Bench_Read,(.st [] [1,0] [(3840,false),(7649,false)] zaD)),(ID.row_Take,(.pure [1,0] zcF))]) zjz [1,0] ID.stripe_Read [.h 3840 a0 0,.sl tga1 a1,.agg [.int .i64 a2_0,.int .i64 a2_1,.int .i64 a2_2],.int .i64 a3] [T0,T1]=zid zai zaF zaD zcF a0 (D.lentL a1) a2_0 a2_1 a2_2 a3 T0 T1:=by kernel_rfl
theorem zn3 (tga1:Tag) (a0:Nat) (a1:List D) (a2_0:Int) (a2_1:Int) (a2_2:Int) (a3:Int) (T0:Tb) (T1:Tb):zbY [.h 3840 a0 0,.sl tga1 a1,.agg [.int .i64 a2_0,.int .i64 a2_1,.int .i64 a2_2],.int .i64 a3] [T0,T1]=zid zai zaF zaD zcF a0 (D.lentL a1) a2_0 a2_1 a2_2 a3 T0 T1:=zsw zai zaF zaD zcF tga1 a0 a1 a2_0 a2_1 a2_2 a3 T0 T1
def zjA:Ann:={ loops:=[] }
noncomputable def zbZ:List D→Option D:=denP Try.prog (zav [(ID.slices_ContainsFunc_byte_byte,(.pure [0] zac)),(ID.row_sectors_1,(.pure [0] zal))]) zjA [0] ID.row_sectors
theorem zm1:za5 Try.prog ID.row_sectors (.pure [0] zbZ):=zao (zay [zcB,zeo]) zby ⟨Try.f108,by kernel_rfl,by kernel_rfl,by kernel_rfl⟩
noncomputable def zn4:Fact Try.prog:=⟨ID.row_sectors,(.pure [0] zbZ),zm1⟩
noncomputable def zie (zac:List D→Option D) (zal:List D→Option D) (a0:List D):Option D:=
  zan (zac [D.sl Tag.lent a0,D.fn (135:Nat) [] []]) fun r1=>
  asB r1 fun b2=>
  some (D.bool !b2)
theorem zsx (zac:List D→Option D) (zal:List D→Option D) (tga0:Tag) (a0:List D):denP Try.prog (zav [(ID.slices_ContainsFunc_byte_byte,(.pure [0] zac)),(ID.row_sectors_1,(.pure [0] zal))]) zjA [0] ID.row_sectors [.sl tga0 a0]=zie zac zal (D.lentL a0):=by kernel_rfl
theorem zn5 (tga0:Tag) (a0:List D):zbZ [.sl tga0 a0]=zie zac zal (D.lentL a0):=zsx zac zal tga0 a0
def znG:Ann:={ loops:=[(1,[.dead,.val (.cell (.int .i64)),.val (.cell .lent),.box true [(.int .i64),(.int .i64),(.int .i64)],.dead,.dead,.dead,.dead,.own 1,.dead,.dead,.dead,.dead,.dead,.dead,.dead,.dead,.dead,.dead,.dead,.dead,.dead,.dead,.dead,.dead,.dead,.dead,.dead,.dead,.dead,.dead,.dead,.val (.cell .lent),.val (.cell (.int .i64)),.val (.cell (.int .i64))])] }
noncomputable def zcG:List D→Option D:=denP Try.prog (zav [(ID.row_in,(.pure [0] zcm)),(ID.geom_Width,(.pure [0] zab)),(ID.row_sectors,(.pure [0] zbZ)),(ID.place_Disk,(.pure [0] zaJ)),(ID.slices_Clone_byte_byte,(.pure [1] zaj)),(ID.place_Parity,(.pure [0,0] zaA)),(ID.synd_P,(.pure [1] zbK)),(ID.synd_Q,(.pure [1] zbL))]) znG [1,0] ID.row_Fill
theorem zqi:za5 Try.prog ID.row_Fill (.pure [1,0] zcG):=zao (zay [zpp,zb7,zn4,zga,zdo,zeL,zla,zlb]) zby ⟨Try.f77,by kernel_rfl,by kernel_rfl,by kernel_rfl⟩
noncomputable def zsy:Fact Try.prog:=⟨ID.row_Fill,(.pure [1,0] zcG),zqi⟩
noncomputable def zm2 (zcm:List D→Option D) (zab:List D→Option D) (zbZ:List D→Option D) (zaJ:List D→Option D) (zaj:List D→Option D) (zaA:List D→Option D) (zbK:List D→Option D) (zbL:List D→Option D) (a0_0:Int) (a0_1:Int) (a0_2:Int) (a1:Int) (a2:List D):Option D:=
  zan (zcm [D.agg [D.int IntKind.i64 a0_0,D.int IntKind.i64 a0_1,D.int IntKind.i64 a0_2],D.int IntKind.i64 a1]) fun r1=>
  asB r1 fun b2=>
  brK (!b2)
    (some (D.tup [D.sl Tag.own [],D.bool false]))
    (zan (zab [D.agg [D.int IntKind.i64 a0_0,D.int IntKind.i64 a0_1,D.int IntKind.i64 a0_2]]) fun r3=>
    asI IntKind.i64 r3 fun i4=>
    brK ((↑(List.length a2):Int) != i4)
      (some (D.tup [D.sl Tag.own [],D.bool false]))
      (zan (zbZ [D.sl Tag.lent a2]) fun r5=>
      asB r5 fun b6=>
      brK (!b6)
        (some (D.tup [D.sl Tag.own [],D.bool false]))
        (sif ((0:Int)≤a0_1) <|
        sif (a0_1=a0_1) <|
        sif (a0_1*(24:Int)≤(140737488355328:Int)) <|
        sif (a0_1≤(140737488355328:Int)) <|
        sif (Int.toNat a0_1=List.length (List.replicate (Int.toNat a0_1) (D.sl Tag.nil []))) <|
        zcs (α:=(Int×List D×(Int×Int×Int×PUnit)×List D×List D×Int×Int×PUnit)×PUnit) (fun again7 ((i8,(l9,((i10,(i11,(i12,_))),(l13,(l14,(i15,(i16,_))))))),_)=>
          brK (decide (i16 < i15))
            (sif ((0:Int)≤i16) <|
            getK l14 (Int.toNat i16) fun d17=>
            asSl d17 fun t18 l19=>
            zan (zaJ [D.agg [D.int IntKind.i64 i10,D.int IntKind.i64 i11,D.int IntKind.i64 i12],D.int IntKind.i64 i8,D.int IntKind.i64 i16]) fun r20=>
            asI IntKind.i64 r20 fun i21=>
            zan (zaj [D.sl t18 l19]) fun r22=>
            zbk r22 fun l23=>
            sif ((0:Int)≤i21) <|
            sif (Int.toNat i21 < List.length l13) <|
            sif ((0:Nat)+List.length l23≤List.length l23) <|
            getK l13 ((0:Nat)+Int.toNat i21) fun d24=>
            sif ((0:Nat)+List.length l23≤List.length l23) <|
            sif (D.isAgg d24=false) <|
            letN (IntKind.wrap IntKind.i64 (i16+(1:Int))) fun n25=>
            sif (List.length l13=List.length (List.set l13 ((0:Nat)+Int.toNat i21) (D.sl Tag.fresh (cut (0:Nat) (List.length l23) l23)))) <|
            again7 (((i8,l9,(i10,i11,i12,PUnit.unit),List.set l13 ((0:Nat)+Int.toNat i21) (D.sl Tag.fresh (cut (0:Nat) (List.length l23) l23)),l14,i15,n25,PUnit.unit),PUnit.unit)))
            (zan (zaA [D.agg [D.int IntKind.i64 i10,D.int IntKind.i64 i11,D.int IntKind.i64 i12],D.int IntKind.i64 i8]) fun r26=>
            zdx r26 fun ts27=>
            zas ([Lf.any,Lf.any]) ts27 fun c28=>
            asI IntKind.i64 c28.fst fun i29=>
            asI IntKind.i64 c28.snd.fst fun i30=>
            zan (zbK [D.sl Tag.lent l9]) fun r31=>
            zbk r31 fun l32=>
            sif ((0:Int)≤i29) <|
            sif (Int.toNat i29 < List.length l13) <|
            sif ((0:Nat)+List.length l32≤List.length l32) <|
            getK l13 ((0:Nat)+Int.toNat i29) fun d33=>
            sif ((0:Nat)+List.length l32≤List.length l32) <|
            sif (D.isAgg d33=false) <|
            brK (decide (i30≥(0:Int)))
              (zan (zbL [D.sl Tag.lent l9]) fun r34=>
              zbk r34 fun l35=>
              sif ((0:Int)≤i30) <|
              sif (Int.toNat i30 < List.length l13) <|
              sif ((0:Nat)+List.length l35≤List.length l35) <|
              getK (List.set l13 ((0:Nat)+Int.toNat i29) (D.sl Tag.fresh (cut (0:Nat) (List.length l32) l32))) ((0:Nat)+Int.toNat i30) fun d36=>
              sif ((0:Nat)+List.length l35≤List.length l35) <|
              sif (D.isAgg d36=false) <|
              sif (List.length l13=List.length (List.set (List.set l13 ((0:Nat)+Int.toNat i29) (D.sl Tag.fresh (cut (0:Nat) (List.length l32) l32))) ((0:Nat)+Int.toNat i30) (D.sl Tag.fresh (cut (0:Nat) (List.length l35) l35)))) <|
              sif (List.all (List.set (List.set l13 ((0:Nat)+Int.toNat i29) (D.sl Tag.fresh (cut (0:Nat) (List.length l32) l32))) ((0:Nat)+Int.toNat i30) (D.sl Tag.fresh (cut (0:Nat) (List.length l35) l35))) D.free=true) <|
              some (D.tup [D.sl Tag.own (List.set (List.set l13 ((0:Nat)+Int.toNat i29) (D.sl Tag.fresh (cut (0:Nat) (List.length l32) l32))) ((0:Nat)+Int.toNat i30) (D.sl Tag.fresh (cut (0:Nat) (List.length l35) l35))),D.bool true]))
              (sif (List.length l13=List.length (List.set l13 ((0:Nat)+Int.toNat i29) (D.sl Tag.fresh (cut (0:Nat) (List.length l32) l32)))) <|
              sif (List.all (List.set l13 ((0:Nat)+Int.toNat i29) (D.sl Tag.fresh (cut (0:Nat) (List.length l32) l32))) D.free=true) <|
              some (D.tup [D.sl Tag.own (List.set l13 ((0:Nat)+Int.toNat i29) (D.sl Tag.fresh (cut (0:Nat) (List.length l32) l32))),D.bool true]))))
          (((a1,a2,(a0_0,a0_1,a0_2,PUnit.unit),List.replicate (Int.toNat a0_1) (D.sl Tag.nil []),a2,(↑(List.length a2):Int),(0:Int),PUnit.unit),PUnit.unit)))))
theorem zw6 (zcm:List D→Option D) (zab:List D→Option D) (zbZ:List D→Option D) (zaJ:List D→Option D) (zaj:List D→Option D) (zaA:List D→Option D) (zbK:List D→Option D) (zbL:List D→Option D) (tga2:Tag) (a0_0:Int) (a0_1:Int) (a0_2:Int) (a1:Int) (a2:List D):denP Try.prog (zav [(ID.row_in,(.pure [0] zcm)),(ID.geom_Width,(.pure [0] zab)),(ID.row_sectors,(.pure [0] zbZ)),(ID.place_Disk,(.pure [0] zaJ)),(ID.slices_Clone_byte_byte,(.pure [1] zaj)),(ID.place_Parity,(.pure [0,0] zaA)),(ID.synd_P,(.pure [1] zbK)),(ID.synd_Q,(.pure [1] zbL))]) znG [1,0] ID.row_Fill [.agg [.int .i64 a0_0,.int .i64 a0_1,.int .i64 a0_2],.int .i64 a1,.sl tga2 a2]=zm2 zcm zab zbZ zaJ zaj zaA zbK zbL a0_0 a0_1 a0_2 a1 (D.lentL a2):=by kernel_rfl
theorem zsz (tga2:Tag) (a0_0:Int) (a0_1:Int) (a0_2:Int) (a1:Int) (a2:List D):zcG [.agg [.int .i64 a0_0,.int .i64 a0_1,.int .i64 a0_2],.int .i64 a1,.sl tga2 a2]=zm2 zcm zab zbZ zaJ zaj zaA zbK zbL a0_0 a0_1 a0_2 a1 (D.lentL a2):=zw6 zcm zab zbZ zaJ zaj zaA zbK zbL tga2 a0_0 a0_1 a0_2 a1 a2
def zco:Ann:={ loops:=[] }
noncomputable def zam:List D→Option D:=denE Try.prog (zav []) zco [33] ID.slices_Clone_disk_write_disk_write
theorem zdh:za5 Try.prog ID.slices_Clone_disk_write_disk_write (.pure [33] zam):=zq2 (zay []) zby ⟨Try.f121,by kernel_rfl,by kernel_rfl,by kernel_rfl⟩
noncomputable def zdp:Fact Try.prog:=⟨ID.slices_Clone_disk_write_disk_write,(.pure [33] zam),zdh⟩
noncomputable def zbX (a0:D) (b0:List D):Option D:=
  sif (List.length (a0::b0)≤(4294967296:Nat)) <|
  sif (zdK (33:Nat) (a0::b0)=true) <|
  sif (List.length (a0::b0)=List.length (a0::b0)) <|
  sif (List.all (a0::b0) D.free=true) <|
  some (D.sl Tag.own (a0::b0))
theorem zdP (tga0:Tag) (a0:D) (b0:List D):denE Try.prog (zav []) zco [33] ID.slices_Clone_disk_write_disk_write [.sl tga0 (a0::b0)]=zbX (D.lent a0) (D.lentL b0):=by kernel_rfl
theorem zdq (tga0:Tag) (a0:D) (b0:List D):zam [.sl tga0 (a0::b0)]=zbX (D.lent a0) (D.lentL b0):=zdP tga0 a0 b0
theorem zdi (tg:Tag):zam [.sl tg []]=some (.sl .own []):=(znz (some (.sl .own [])))
def zgf:Ann:={ loops:=[],pubs:=[(2,[(3,119,7649)])],ks:=[(7649,true)] }
noncomputable def zbu:List D→List Tb→Option Ans:=denS Try.prog (zav [(ID.slices_Clone_disk_write_disk_write,(.pure [33] zam))]) zgf [0] ID.disk_Disk_Clone
theorem zjB:za5 Try.prog ID.disk_Disk_Clone (.st [] [0] [(7649,true)] zbu):=zbq (zay [zdp]) zby ⟨Try.f93,by kernel_rfl,by kernel_rfl,by kernel_rfl⟩
noncomputable def zkk:Fact Try.prog:=⟨ID.disk_Disk_Clone,(.st [] [0] [(7649,true)] zbu),zjB⟩
noncomputable def zeN (zam:List D→Option D) (a0:Nat) (T0:Tb):Option Ans:=
  getK T0 a0 fun d1=>
  sif ((1666:Nat)≤List.length d1) <|
  sif (List.length (List.map D.hide (List.take (1666:Nat) (List.drop (0:Nat) d1)))=(1666:Nat)) <|
  getK T0 a0 fun d2=>
  getK d2 ((1664:Nat)) fun d3=>
  zbk d3 fun l4=>
  getK T0 a0 fun d5=>
  getK d5 ((1664:Nat)) fun d6=>
  zbk d6 fun l7=>
  sif ((0:Nat)+List.length l4≤List.length l7) <|
  zan (zam [D.sl Tag.lent (cut (0:Nat) (List.length l4) l7)]) fun r8=>
  zbk r8 fun l9=>
  sif ((0:Nat)+List.length l9≤List.length l9) <|
  sif ((1664:Nat) < List.length (spl (0:Nat) (1666:Nat) (List.reverse ([D.bool false,D.sl Tag.nil []]++List.replicate 1664 (D.int IntKind.u8 (0:Int)))) (List.map D.hide (List.take (1666:Nat) (List.drop (0:Nat) d1))))) <|
  sif (some (1666:Nat)=some (List.length (spl (0:Nat) (1666:Nat) (List.reverse ([D.bool false,D.sl Tag.nil []]++List.replicate 1664 (D.int IntKind.u8 (0:Int)))) (List.map D.hide (List.take (1666:Nat) (List.drop (0:Nat) d1)))))) <|
  sif (List.length l9=List.length l9) <|
  sif (zc8 l9=true) <|
  sif (zfk (33:Nat) l9=true) <|
  sif (List.all (List.set (spl (0:Nat) (1666:Nat) (List.reverse ([D.bool false,D.sl Tag.nil []]++List.replicate 1664 (D.int IntKind.u8 (0:Int)))) (List.map D.hide (List.take (1666:Nat) (List.drop (0:Nat) d1)))) (1664:Nat) D.nilp) D.own0ok=true) <|
  sif ((true && decide ((1:Nat)=(1:Nat)) && List.all [(1664:Nat)] fun k=>decide (k < List.length (spl (0:Nat) (1666:Nat) (List.reverse ([D.bool false,D.sl Tag.nil []]++List.replicate 1664 (D.int IntKind.u8 (0:Int)))) (List.map D.hide (List.take (1666:Nat) (List.drop (0:Nat) d1))))))=true) <|
  letT (T0++[List.set (List.map D.own0 (spl (0:Nat) (1666:Nat) (List.reverse ([D.bool false,D.sl Tag.nil []]++List.replicate 1664 (D.int IntKind.u8 (0:Int)))) (List.map D.hide (List.take (1666:Nat) (List.drop (0:Nat) d1))))) (1664:Nat) (D.sl Tag.own l9)]) fun U10=>
  some (Ans.mk (D.h (7649:Nat) (List.length T0) (0:Nat)) [] [U10])
theorem zm3 (zam:List D→Option D) (a0:Nat) (T0:Tb):denS Try.prog (zav [(ID.slices_Clone_disk_write_disk_write,(.pure [33] zam))]) zgf [0] ID.disk_Disk_Clone [.h 7649 a0 0] [T0]=zeN zam a0 T0:=by kernel_rfl
theorem zkl (a0:Nat) (T0:Tb):zbu [.h 7649 a0 0] [T0]=zeN zam a0 T0:=zm3 zam a0 T0
def zhz:Ann:={ loops:=[],ks:=[(7649,false)] }
noncomputable def zbC:List D→List Tb→Option Ans:=denS Try.prog (zav [(ID.disk_Disk_may,(.st [] [0] [(7649,false)] zaP))]) zhz [0,0] ID.disk_Disk_put
theorem zle:za5 Try.prog ID.disk_Disk_put (.st [] [0,0] [(7649,false)] zbC):=zbq (zay [zgF]) zby ⟨Try.f124,by kernel_rfl,by kernel_rfl,by kernel_rfl⟩
noncomputable def zmd:Fact Try.prog:=⟨ID.disk_Disk_put,(.st [] [0,0] [(7649,false)] zbC),zle⟩
noncomputable def zgg (zaP:List D→List Tb→Option Ans) (a0:Nat) (a1:Int) (a2:List D) (T0:Tb):Option Ans:=
  zan (zaP [D.h (7649:Nat) a0 (0:Nat),D.int IntKind.i64 a1] [T0]) fun r1=>
  nilK r1.outs <|
  nilK r1.tbs <|
  asI IntKind.i64 r1.r fun i2=>
  brK (i2 != (0:Int))
    (some (Ans.mk (D.tup [D.agg [D.int IntKind.i64 (0:Int),D.int IntKind.u8 (0:Int),D.int IntKind.u8 (0:Int),D.int IntKind.u8 (0:Int),D.int IntKind.u8 (0:Int),D.int IntKind.u8 (0:Int),D.int IntKind.u8 (0:Int),D.int IntKind.u8 (0:Int),D.int IntKind.u8 (0:Int),D.int IntKind.u8 (0:Int),D.int IntKind.u8 (0:Int),D.int IntKind.u8 (0:Int),D.int IntKind.u8 (0:Int),D.int IntKind.u8 (0:Int),D.int IntKind.u8 (0:Int),D.int IntKind.u8 (0:Int),D.int IntKind.u8 (0:Int),D.int IntKind.u8 (0:Int),D.int IntKind.u8 (0:Int),D.int IntKind.u8 (0:Int),D.int IntKind.u8 (0:Int),D.int IntKind.u8 (0:Int),D.int IntKind.u8 (0:Int),D.int IntKind.u8 (0:Int),D.int IntKind.u8 (0:Int),D.int IntKind.u8 (0:Int),D.int IntKind.u8 (0:Int),D.int IntKind.u8 (0:Int),D.int IntKind.u8 (0:Int),D.int IntKind.u8 (0:Int),D.int IntKind.u8 (0:Int),D.int IntKind.u8 (0:Int),D.int IntKind.u8 (0:Int)],D.int IntKind.i64 i2]) [] []))
    (brK ((↑(List.length a2):Int) != (32:Int))
      (some (Ans.mk (D.tup [D.agg [D.int IntKind.i64 (0:Int),D.int IntKind.u8 (0:Int),D.int IntKind.u8 (0:Int),D.int IntKind.u8 (0:Int),D.int IntKind.u8 (0:Int),D.int IntKind.u8 (0:Int),D.int IntKind.u8 (0:Int),D.int IntKind.u8 (0:Int),D.int IntKind.u8 (0:Int),D.int IntKind.u8 (0:Int),D.int IntKind.u8 (0:Int),D.int IntKind.u8 (0:Int),D.int IntKind.u8 (0:Int),D.int IntKind.u8 (0:Int),D.int IntKind.u8 (0:Int),D.int IntKind.u8 (0:Int),D.int IntKind.u8 (0:Int),D.int IntKind.u8 (0:Int),D.int IntKind.u8 (0:Int),D.int IntKind.u8 (0:Int),D.int IntKind.u8 (0:Int),D.int IntKind.u8 (0:Int),D.int IntKind.u8 (0:Int),D.int IntKind.u8 (0:Int),D.int IntKind.u8 (0:Int),D.int IntKind.u8 (0:Int),D.int IntKind.u8 (0:Int),D.int IntKind.u8 (0:Int),D.int IntKind.u8 (0:Int),D.int IntKind.u8 (0:Int),D.int IntKind.u8 (0:Int),D.int IntKind.u8 (0:Int),D.int IntKind.u8 (0:Int)],D.int IntKind.i64 (1:Int)]) [] []))
      (sif (cells a2=true) <|
      sif (List.length a2=(32:Nat)) <|
      sif ((33:Nat)≤List.length ([D.int IntKind.i64 a1]++(a2++[]))) <|
      zas ([Lf.int IntKind.i64,Lf.arr (32)]) (List.take (33:Nat) (List.drop (0:Nat) ([D.int IntKind.i64 a1]++(a2++[])))) fun c3=>
      sif (List.length ([D.int IntKind.i64 c3.fst]++(c3.snd.fst++[]))=(33:Nat)) <|
      sif ((33:Nat)≤List.length ([D.int IntKind.i64 c3.fst]++(c3.snd.fst++[]))) <|
      zas ([Lf.int IntKind.i64,Lf.arr (32)]) (List.take (33:Nat) (List.drop (0:Nat) ([D.int IntKind.i64 c3.fst]++(c3.snd.fst++[])))) fun c4=>
      sif (D.free (D.agg ([D.int IntKind.i64 c4.fst]++(c4.snd.fst++[])))=true) <|
      some (Ans.mk (D.tup [D.agg ([D.int IntKind.i64 c4.fst]++(c4.snd.fst++[])),D.int IntKind.i64 (0:Int)]) [] [])))
theorem zpC (zaP:List D→List Tb→Option Ans) (tga2:Tag) (a0:Nat) (a1:Int) (a2:List D) (T0:Tb):denS Try.prog (zav [(ID.disk_Disk_may,(.st [] [0] [(7649,false)] zaP))]) zhz [0,0] ID.disk_Disk_put [.h 7649 a0 0,.int .i64 a1,.sl tga2 a2] [T0]=zgg zaP a0 a1 (D.lentL a2) T0:=by kernel_rfl
theorem zme (tga2:Tag) (a0:Nat) (a1:Int) (a2:List D) (T0:Tb):zbC [.h 7649 a0 0,.int .i64 a1,.sl tga2 a2] [T0]=zgg zaP a0 a1 (D.lentL a2) T0:=zpC zaP tga2 a0 a1 a2 T0
def zgh:Ann:={ loops:=[],ks:=[(7649,true)] }
noncomputable def zbi:List D→List Tb→Option Ans:=denS Try.prog (zav [(ID.disk_Disk_put,(.st [] [0,0] [(7649,false)] zbC))]) zgh [0] ID.disk_Disk_Write
theorem zjC:za5 Try.prog ID.disk_Disk_Write (.st [] [0] [(7649,true)] zbi):=zbq (zay [zmd]) zby ⟨Try.f112,by kernel_rfl,by kernel_rfl,by kernel_rfl⟩
noncomputable def zkm:Fact Try.prog:=⟨ID.disk_Disk_Write,(.st [] [0] [(7649,true)] zbi),zjC⟩
noncomputable def zeO (zbC:List D→List Tb→Option Ans) (a0:Nat) (a1:Int) (a2:List D) (T0:Tb):Option Ans:=
  zan (zbC [D.h (7649:Nat) a0 (0:Nat),D.int IntKind.i64 a1,D.sl Tag.lent a2] [T0]) fun r1=>
  nilK r1.outs <|
  nilK r1.tbs <|
  zdx r1.r fun ts2=>
  zas ([Lf.any,Lf.any]) ts2 fun c3=>
  asAgg c3.fst fun cs4=>
  zas ([Lf.int IntKind.i64,Lf.arr (32)]) cs4 fun c5=>
  asI IntKind.i64 c3.snd.fst fun i6=>
  sif (List.length ([D.int IntKind.i64 c5.fst]++(c5.snd.fst++[]))=(33:Nat)) <|
  brK (i6 == (0:Int))
    (getK T0 a0 fun d7=>
    getK d7 ((1664:Nat)) fun d8=>
    zbk d8 fun l9=>
    sif ((33:Nat)≤List.length ([D.int IntKind.i64 c5.fst]++(c5.snd.fst++[]))) <|
    zas ([Lf.int IntKind.i64,Lf.arr (32)]) (List.take (33:Nat) (List.drop (0:Nat) ([D.int IntKind.i64 c5.fst]++(c5.snd.fst++[])))) fun c10=>
    sif (zdK (33:Nat) [D.agg ([D.int IntKind.i64 c10.fst]++(c10.snd.fst++[]))]=true) <|
    getK T0 a0 fun d11=>
    getK d11 ((1664:Nat)) fun d12=>
    zbk d12 fun l13=>
    sif (List.length l9+(1:Nat)≤(4294967296:Nat)) <|
    sif (zdK (33:Nat) [D.agg ([D.int IntKind.i64 c10.fst]++(c10.snd.fst++[]))]=true) <|
    sif (List.length l9=List.length l13) <|
    letT (setT T0 a0 (1664:Nat) D.undef) fun U14=>
    getK U14 a0 fun d15=>
    sif ((1665:Nat)≤List.length d15) <|
    sif (List.length l9+(1:Nat)=List.length (l13++[D.agg ([D.int IntKind.i64 c10.fst]++(c10.snd.fst++[]))])) <|
    sif (zc8 (l13++[D.agg ([D.int IntKind.i64 c10.fst]++(c10.snd.fst++[]))])=true) <|
    sif (zfk (33:Nat) (l13++[D.agg ([D.int IntKind.i64 c10.fst]++(c10.snd.fst++[]))])=true) <|
    letT (za0 U14 a0 (1664:Nat) [D.sl Tag.own (l13++[D.agg ([D.int IntKind.i64 c10.fst]++(c10.snd.fst++[]))])]) fun U16=>
    some (Ans.mk (D.int IntKind.i64 i6) [] [U16]))
    (some (Ans.mk (D.int IntKind.i64 i6) [] [T0]))
theorem zm4 (zbC:List D→List Tb→Option Ans) (tga2:Tag) (a0:Nat) (a1:Int) (a2:List D) (T0:Tb):denS Try.prog (zav [(ID.disk_Disk_put,(.st [] [0,0] [(7649,false)] zbC))]) zgh [0] ID.disk_Disk_Write [.h 7649 a0 0,.int .i64 a1,.sl tga2 a2] [T0]=zeO zbC a0 a1 (D.lentL a2) T0:=by kernel_rfl
theorem zkn (tga2:Tag) (a0:Nat) (a1:Int) (a2:List D) (T0:Tb):zbi [.h 7649 a0 0,.int .i64 a1,.sl tga2 a2] [T0]=zeO zbC a0 a1 (D.lentL a2) T0:=zm4 zbC tga2 a0 a1 a2 T0
def zep:Ann:={ loops:=[],ks:=[(3840,true)] }
noncomputable def zaY:List D→List Tb→Option Ans:=denS Try.prog (zav []) zep [0] ID.bench_counter_count
theorem zgW:za5 Try.prog ID.bench_counter_count (.st [] [0] [(3840,true)] zaY):=zbq (zay []) zby ⟨Try.f113,by kernel_rfl,by kernel_rfl,by kernel_rfl⟩
noncomputable def zhA:Fact Try.prog:=⟨ID.bench_counter_count,(.st [] [0] [(3840,true)] zaY),zgW⟩
noncomputable def zdr (a0:Nat) (T0:Tb):Option Ans:=
  getK T0 a0 fun d1=>
  getK d1 ((1:Nat)) fun d2=>
  asI IntKind.i64 d2 fun i3=>
  brK (i3 == (0:Int))
    (getK T0 a0 fun d4=>
    sif ((3:Nat)≤List.length d4) <|
    sif (zhT (List.take (1:Nat) (List.drop (2:Nat) d4))=true) <|
    letT (za0 T0 a0 (2:Nat) [D.bool true]) fun U5=>
    some (Ans.mk (D.bool false) [] [U5]))
    (getK T0 a0 fun d6=>
    getK d6 ((1:Nat)) fun d7=>
    asI IntKind.i64 d7 fun i8=>
    brK (decide (i8 > (0:Int)))
      (getK T0 a0 fun d9=>
      getK d9 ((1:Nat)) fun d10=>
      asI IntKind.i64 d10 fun i11=>
      letN (IntKind.wrap IntKind.i64 (i11 - (1:Int))) fun n12=>
      getK T0 a0 fun d13=>
      sif ((2:Nat)≤List.length d13) <|
      sif (zhT (List.take (1:Nat) (List.drop (1:Nat) d13))=true) <|
      letT (za0 T0 a0 (1:Nat) [D.int IntKind.i64 n12]) fun U14=>
      getK U14 a0 fun d15=>
      getK d15 ((0:Nat)) fun d16=>
      asI IntKind.i64 d16 fun i17=>
      letN (IntKind.wrap IntKind.i64 (i17+(1:Int))) fun n18=>
      getK U14 a0 fun d19=>
      sif ((1:Nat)≤List.length d19) <|
      sif (zhT (List.take (1:Nat) (List.drop (0:Nat) d19))=true) <|
      letT (za0 U14 a0 (0:Nat) [D.int IntKind.i64 n18]) fun U20=>
      some (Ans.mk (D.bool true) [] [U20]))
      (getK T0 a0 fun d21=>
      getK d21 ((0:Nat)) fun d22=>
      asI IntKind.i64 d22 fun i23=>
      letN (IntKind.wrap IntKind.i64 (i23+(1:Int))) fun n24=>
      getK T0 a0 fun d25=>
      sif ((1:Nat)≤List.length d25) <|
      sif (zhT (List.take (1:Nat) (List.drop (0:Nat) d25))=true) <|
      letT (za0 T0 a0 (0:Nat) [D.int IntKind.i64 n24]) fun U26=>
      some (Ans.mk (D.bool true) [] [U26])))
theorem zjD (a0:Nat) (T0:Tb):denS Try.prog (zav []) zep [0] ID.bench_counter_count [.h 3840 a0 0] [T0]=zdr a0 T0:=by kernel_rfl
theorem zhB (a0:Nat) (T0:Tb):zaY [.h 3840 a0 0] [T0]=zdr a0 T0:=zjD a0 T0
def ze5:Ann:={ loops:=[],ks:=[(3840,true),(7649,true)] }
noncomputable def zba:List D→List Tb→Option Ans:=denS Try.prog (zav [(ID.bench_Bench_may,(.st [] [0] [(3840,false)] zap)),(ID.disk_Disk_Clone,(.st [] [0] [(7649,true)] zbu)),(ID.disk_Disk_Write,(.st [] [0] [(7649,true)] zbi)),(ID.bench_counter_count,(.st [] [0] [(3840,true)] zaY))]) ze5 [0] ID.bench_Bench_Write
theorem zif:za5 Try.prog ID.bench_Bench_Write (.st [] [0] [(3840,true),(7649,true)] zba):=zbq (zay [zdF,zkk,zkm,zhA]) zby ⟨Try.f78,by kernel_rfl,by kernel_rfl,by kernel_rfl⟩
noncomputable def ziJ:Fact Try.prog:=⟨ID.bench_Bench_Write,(.st [] [0] [(3840,true),(7649,true)] zba),zif⟩
noncomputable def zd0 (zap:List D→List Tb→Option Ans) (zbu:List D→List Tb→Option Ans) (zbi:List D→List Tb→Option Ans) (zaY:List D→List Tb→Option Ans) (a0:Nat) (a1:Int) (a2:Int) (a3:List D) (T0:Tb) (T1:Tb):Option Ans:=
  zan (zap [D.h (3840:Nat) a0 (0:Nat),D.int IntKind.i64 a1] [T0]) fun r1=>
  nilK r1.outs <|
  nilK r1.tbs <|
  asI IntKind.i64 r1.r fun i2=>
  brK (i2 != (0:Int))
    (some (Ans.mk (D.int IntKind.i64 i2) [] [T0,T1]))
    (getK T0 a0 fun d3=>
    getK d3 ((3:Nat)) fun d4=>
    zbk d4 fun l5=>
    getK T0 a0 fun d6=>
    getK d6 ((3:Nat)) fun d7=>
    zbk d7 fun l8=>
    sif ((0:Int)≤a1) <|
    sif (Int.toNat a1 < List.length l5) <|
    getK T0 a0 fun d9=>
    getK d9 ((3:Nat)) fun d10=>
    zbk d10 fun l11=>
    getK l11 ((0:Nat)+Int.toNat a1) fun d12=>
    sif (D.isAgg d12=false) <|
    sif (D.width d12=(1:Nat)) <|
    sif (D.cell d12=true) <|
    zan (zbu [d12] [T1]) fun r13=>
    nilK r13.outs <|
    zdL r13.tbs fun c14 q15=>
    nilK q15 <|
    sif (zhl r13.r=true) <|
    zan (zbi [r13.r,D.int IntKind.i64 a2,D.sl Tag.lent a3] [c14]) fun r16=>
    nilK r16.outs <|
    zdL r16.tbs fun c17 q18=>
    nilK q18 <|
    asI IntKind.i64 r16.r fun i19=>
    brK (i19 != (0:Int))
      (some (Ans.mk (D.int IntKind.i64 i19) [] [T0,c17]))
      (zan (zaY [D.h (3840:Nat) a0 (0:Nat)] [T0]) fun r20=>
      nilK r20.outs <|
      zdL r20.tbs fun c21 q22=>
      nilK q22 <|
      asB r20.r fun b23=>
      brK (!b23)
        (some (Ans.mk (D.int IntKind.i64 (6:Int)) [] [c21,c17]))
        (getK c21 a0 fun d24=>
        getK d24 ((3:Nat)) fun d25=>
        zbk d25 fun l26=>
        getK c21 a0 fun d27=>
        getK d27 ((3:Nat)) fun d28=>
        zbk d28 fun l29=>
        sif ((0:Int)≤a1) <|
        sif (Int.toNat a1 < List.length l26) <|
        getK c21 a0 fun d30=>
        getK d30 ((3:Nat)) fun d31=>
        zbk d31 fun l32=>
        getK l32 ((0:Nat)+Int.toNat a1) fun d33=>
        sif (D.isAgg d33=false) <|
        sif (D.width d33=(1:Nat)) <|
        sif (D.cell d33=true) <|
        zan (zbi [d33,D.int IntKind.i64 a2,D.sl Tag.lent a3] [c17]) fun r34=>
        nilK r34.outs <|
        zdL r34.tbs fun c35 q36=>
        nilK q36 <|
        asI IntKind.i64 r34.r fun i37=>
        some (Ans.mk (D.int IntKind.i64 i37) [] [c21,c35]))))
theorem zlf (zap:List D→List Tb→Option Ans) (zbu:List D→List Tb→Option Ans) (zbi:List D→List Tb→Option Ans) (zaY:List D→List Tb→Option Ans) (tga3:Tag) (a0:Nat) (a1:Int) (a2:Int) (a3:List D) (T0:Tb) (T1:Tb):denS Try.prog (zav [(ID.bench_Bench_may,(.st [] [0] [(3840,false)] zap)),(ID.disk_Disk_Clone,(.st [] [0] [(7649,true)] zbu)),(ID.disk_Disk_Write,(.st [] [0] [(7649,true)] zbi)),(ID.bench_counter_count,(.st [] [0] [(3840,true)] zaY))]) ze5 [0] ID.bench_Bench_Write [.h 3840 a0 0,.int .i64 a1,.int .i64 a2,.sl tga3 a3] [T0,T1]=zd0 zap zbu zbi zaY a0 a1 a2 (D.lentL a3) T0 T1:=by kernel_rfl
theorem ziK (tga3:Tag) (a0:Nat) (a1:Int) (a2:Int) (a3:List D) (T0:Tb) (T1:Tb):zba [.h 3840 a0 0,.int .i64 a1,.int .i64 a2,.sl tga3 a3] [T0,T1]=zd0 zap zbu zbi zaY a0 a1 a2 (D.lentL a3) T0 T1:=zlf zap zbu zbi zaY tga3 a0 a1 a2 a3 T0 T1
def zgi:Ann:={ loops:=[(1,[.val (.cell (.hnd (7649:Nat))),.dead,.dead,.dead,.dead,.dead,.dead,.dead,.dead,.dead,.dead,.dead,.view 7649 1664,.val (.cell (.int .i64)),.val (.cell (.int .i64))])],ks:=[(7649,true)] }
noncomputable def zbv:List D→List Tb→Option Ans:=denS Try.prog (zav []) zgi [0] ID.disk_Disk_Flush
theorem zjE:za5 Try.prog ID.disk_Disk_Flush (.st [] [0] [(7649,true)] zbv):=zbq (zay []) zby ⟨Try.f114,by kernel_rfl,by kernel_rfl,by kernel_rfl⟩
noncomputable def zko:Fact Try.prog:=⟨ID.disk_Disk_Flush,(.st [] [0] [(7649,true)] zbv),zjE⟩
noncomputable def zeP (a0:Nat) (T0:Tb):Option Ans:=
  getK T0 a0 fun d1=>
  getK d1 ((1665:Nat)) fun d2=>
  asB d2 fun b3=>
  brK b3
    (some (Ans.mk (D.int IntKind.i64 (5:Int)) [] [T0]))
    (getK T0 a0 fun d4=>
    getK d4 ((1664:Nat)) fun d5=>
    zbk d5 fun l6=>
    getK T0 a0 fun d7=>
    getK d7 ((1664:Nat)) fun d8=>
    zbk d8 fun l9=>
    sif ((0:Nat)+List.length l6≤List.length l9) <|
    zcs (α:=(Nat×(Nat×Nat×Nat)×Int×Int×PUnit)×List (List D)×PUnit) (fun again10 ((x11,((x12,(x13,x14)),(i15,(i16,_)))),(U17,_))=>
      brK (decide (i16 < i15))
        (getK U17 x12 fun d18=>
        getK d18 ((1664:Nat)) fun d19=>
        zbk d19 fun l20=>
        sif ((0:Int)≤i16) <|
        sif (Int.toNat i16 < x14) <|
        getK U17 x12 fun d21=>
        getK d21 ((1664:Nat)) fun d22=>
        zbk d22 fun l23=>
        getK l23 (x13+Int.toNat i16) fun d24=>
        asAgg d24 fun cs25=>
        zas ([Lf.int IntKind.i64,Lf.arr (32)]) cs25 fun c26=>
        sif (D.width (D.agg ([D.int IntKind.i64 c26.fst]++(c26.snd.fst++[])))=(33:Nat)) <|
        sif (List.length ([D.int IntKind.i64 c26.fst]++(c26.snd.fst++[]))=(33:Nat)) <|
        sif ((33:Nat)≤List.length ([D.int IntKind.i64 c26.fst]++(c26.snd.fst++[]))) <|
        sif (List.length (List.take (32:Nat) (List.drop (1:Nat) ([D.int IntKind.i64 c26.fst]++(c26.snd.fst++[]))))=(32:Nat)) <|
        sif ((0:Int)≤c26.fst) <|
        sif (Int.toNat c26.fst < (52:Nat)) <|
        getK U17 x11 fun d27=>
        sif ((0:Nat)+Int.toNat c26.fst*(32:Nat)+(32:Nat)≤List.length d27) <|
        sif (List.length (List.take (32:Nat) (List.drop (1:Nat) ([D.int IntKind.i64 c26.fst]++(c26.snd.fst++[]))))=(32:Nat)) <|
        sif (zhT (List.take (32:Nat) (List.drop (1:Nat) ([D.int IntKind.i64 c26.fst]++(c26.snd.fst++[]))))=true) <|
        sif (zhT (List.take (32:Nat) (List.drop ((0:Nat)+Int.toNat c26.fst*(32:Nat)) d27))=true) <|
        letT (za0 U17 x11 ((0:Nat)+Int.toNat c26.fst*(32:Nat)) (List.take (32:Nat) (List.drop (1:Nat) ([D.int IntKind.i64 c26.fst]++(c26.snd.fst++[]))))) fun U28=>
        letN (IntKind.wrap IntKind.i64 (i16+(1:Int))) fun n29=>
        again10 (((x11,(x12,x13,x14),i15,n29,PUnit.unit),U28,PUnit.unit)))
        (getK U17 x11 fun d30=>
        sif ((1665:Nat)≤List.length d30) <|
        letT (za0 U17 x11 (1664:Nat) [D.sl Tag.own []]) fun U31=>
        some (Ans.mk (D.int IntKind.i64 (0:Int)) [] [U31])))
      (((a0,(a0,(0:Nat),List.length l6),(↑(List.length l6):Int),(0:Int),PUnit.unit),T0,PUnit.unit)))
theorem zm5 (a0:Nat) (T0:Tb):denS Try.prog (zav []) zgi [0] ID.disk_Disk_Flush [.h 7649 a0 0] [T0]=zeP a0 T0:=by kernel_rfl
theorem zkp (a0:Nat) (T0:Tb):zbv [.h 7649 a0 0] [T0]=zeP a0 T0:=zm5 a0 T0
def ze6:Ann:={ loops:=[],ks:=[(3840,false),(7649,true)] }
noncomputable def zbb:List D→List Tb→Option Ans:=denS Try.prog (zav [(ID.bench_Bench_may,(.st [] [0] [(3840,false)] zap)),(ID.disk_Disk_Flush,(.st [] [0] [(7649,true)] zbv))]) ze6 [0] ID.bench_Bench_Flush
theorem zih:za5 Try.prog ID.bench_Bench_Flush (.st [] [0] [(3840,false),(7649,true)] zbb):=zbq (zay [zdF,zko]) zby ⟨Try.f79,by kernel_rfl,by kernel_rfl,by kernel_rfl⟩
noncomputable def ziL:Fact Try.prog:=⟨ID.bench_Bench_Flush,(.st [] [0] [(3840,false),(7649,true)] zbb),zih⟩
noncomputable def zd1 (zap:List D→List Tb→Option Ans) (zbv:List D→List Tb→Option Ans) (a0:Nat) (a1:Int) (T0:Tb) (T1:Tb):Option Ans:=
  zan (zap [D.h (3840:Nat) a0 (0:Nat),D.int IntKind.i64 a1] [T0]) fun r1=>
  nilK r1.outs <|
  nilK r1.tbs <|
  asI IntKind.i64 r1.r fun i2=>
  brK (i2 != (0:Int))
    (some (Ans.mk (D.int IntKind.i64 i2) [] [T1]))
    (getK T0 a0 fun d3=>
    getK d3 ((3:Nat)) fun d4=>
    zbk d4 fun l5=>
    getK T0 a0 fun d6=>
    getK d6 ((3:Nat)) fun d7=>
    zbk d7 fun l8=>
    sif ((0:Int)≤a1) <|
    sif (Int.toNat a1 < List.length l5) <|
    getK T0 a0 fun d9=>
    getK d9 ((3:Nat)) fun d10=>
    zbk d10 fun l11=>
    getK l11 ((0:Nat)+Int.toNat a1) fun d12=>
    sif (D.isAgg d12=false) <|
    sif (D.width d12=(1:Nat)) <|
    sif (D.cell d12=true) <|
    zan (zbv [d12] [T1]) fun r13=>
    nilK r13.outs <|
    zdL r13.tbs fun c14 q15=>
    nilK q15 <|
    asI IntKind.i64 r13.r fun i16=>
    some (Ans.mk (D.int IntKind.i64 i16) [] [c14]))
theorem zlg (zap:List D→List Tb→Option Ans) (zbv:List D→List Tb→Option Ans) (a0:Nat) (a1:Int) (T0:Tb) (T1:Tb):denS Try.prog (zav [(ID.bench_Bench_may,(.st [] [0] [(3840,false)] zap)),(ID.disk_Disk_Flush,(.st [] [0] [(7649,true)] zbv))]) ze6 [0] ID.bench_Bench_Flush [.h 3840 a0 0,.int .i64 a1] [T0,T1]=zd1 zap zbv a0 a1 T0 T1:=by kernel_rfl
theorem ziM (a0:Nat) (a1:Int) (T0:Tb) (T1:Tb):zbb [.h 3840 a0 0,.int .i64 a1] [T0,T1]=zd1 zap zbv a0 a1 T0 T1:=zlg zap zbv a0 a1 T0 T1
def zgH:Ann:={ loops:=[],ks:=[(7649,true)] }
noncomputable def zbN:List D→List Tb→Option Ans:=denS Try.prog (zav []) zgH [] ID.disk_Disk_Fail
noncomputable def zff (a0:Nat) (T0:Tb):Option Ans:=
  getK T0 a0 fun d1=>
  sif ((1666:Nat)≤List.length d1) <|
  letT (za0 T0 a0 (0:Nat) (List.map D.own0 (List.set (List.reverse ([D.bool false,D.sl Tag.nil []]++List.replicate 1664 (D.int IntKind.u8 (0:Int)))) (1665:Nat) (D.bool true)))) fun U2=>
  some (Ans.mk (D.tup []) [] [U2])
theorem zn6 (a0:Nat) (T0:Tb):denS Try.prog (zav []) zgH [] ID.disk_Disk_Fail [.h 7649 a0 0] [T0]=zff a0 T0:=by kernel_rfl
theorem zlh (a0:Nat) (T0:Tb):zbN [.h 7649 a0 0] [T0]=zff a0 T0:=zn6 a0 T0
def zfp:Ann:={ loops:=[],ks:=[(3840,false),(7649,true)] }
noncomputable def zeq:List D→List Tb→Option Ans:=denS Try.prog (zav [(ID.bench_Bench_is,(.st [] [0] [(3840,false)] zat)),(ID.disk_Disk_Fail,(.st [] [] [(7649,true)] zbN))]) zfp [0] ID.bench_Bench_Fail
noncomputable def zer (zat:List D→List Tb→Option Ans) (zbN:List D→List Tb→Option Ans) (a0:Nat) (a1:Int) (T0:Tb) (T1:Tb):Option Ans:=
  zan (zat [D.h (3840:Nat) a0 (0:Nat),D.int IntKind.i64 a1] [T0]) fun r1=>
  nilK r1.outs <|
  nilK r1.tbs <|
  asB r1.r fun b2=>
  brK (!b2)
    (some (Ans.mk (D.int IntKind.i64 (1:Int)) [] [T1]))
    (getK T0 a0 fun d3=>
    getK d3 ((3:Nat)) fun d4=>
    zbk d4 fun l5=>
    getK T0 a0 fun d6=>
    getK d6 ((3:Nat)) fun d7=>
    zbk d7 fun l8=>
    sif ((0:Int)≤a1) <|
    sif (Int.toNat a1 < List.length l5) <|
    getK T0 a0 fun d9=>
    getK d9 ((3:Nat)) fun d10=>
    zbk d10 fun l11=>
    getK l11 ((0:Nat)+Int.toNat a1) fun d12=>
    sif (D.isAgg d12=false) <|
    sif (D.width d12=(1:Nat)) <|
    sif (D.cell d12=true) <|
    zan (zbN [d12] [T1]) fun r13=>
    nilK r13.outs <|
    zdL r13.tbs fun c14 q15=>
    nilK q15 <|
    zdx r13.r fun ts16=>
    nilK ts16 <|
    some (Ans.mk (D.int IntKind.i64 (0:Int)) [] [c14]))
theorem zmf (zat:List D→List Tb→Option Ans) (zbN:List D→List Tb→Option Ans) (a0:Nat) (a1:Int) (T0:Tb) (T1:Tb):denS Try.prog (zav [(ID.bench_Bench_is,(.st [] [0] [(3840,false)] zat)),(ID.disk_Disk_Fail,(.st [] [] [(7649,true)] zbN))]) zfp [0] ID.bench_Bench_Fail [.h 3840 a0 0,.int .i64 a1] [T0,T1]=zer zat zbN a0 a1 T0 T1:=by kernel_rfl
theorem zjF (a0:Nat) (a1:Int) (T0:Tb) (T1:Tb):zeq [.h 3840 a0 0,.int .i64 a1] [T0,T1]=zer zat zbN a0 a1 T0 T1:=zmf zat zbN a0 a1 T0 T1
def ze7:Ann:={ loops:=[(1,[.val (.cell (.int .i64)),.dead,.dead,.own 1,.dead,.dead,.dead,.dead,.dead,.dead,.dead,.val (.cell (.int .i64)),.val (.cell (.int .i64))])] }
noncomputable def za2:List D→Option D:=denP Try.prog (zav [(ID.wattlekeep_Within,(.pure [0] zaa))]) ze7 [1] ID.wattleplay_Sector
theorem zii:za5 Try.prog ID.wattleplay_Sector (.pure [1] za2):=zao (zay [zcz]) zby ⟨Try.f36,by kernel_rfl,by kernel_rfl,by kernel_rfl⟩
noncomputable def ziN:Fact Try.prog:=⟨ID.wattleplay_Sector,(.pure [1] za2),zii⟩
noncomputable def zd2 (zaa:List D→Option D) (a0:Int):Option D:=
  zan (zaa [D.int IntKind.i64 a0,D.int IntKind.i64 (11:Int)]) fun r1=>
  asI IntKind.i64 r1 fun i2=>
  brK (i2 == (10:Int))
    (some (D.sl Tag.own [D.int IntKind.u8 (0:Int),D.int IntKind.u8 (0:Int),D.int IntKind.u8 (0:Int),D.int IntKind.u8 (0:Int),D.int IntKind.u8 (0:Int),D.int IntKind.u8 (0:Int),D.int IntKind.u8 (0:Int),D.int IntKind.u8 (0:Int),D.int IntKind.u8 (0:Int),D.int IntKind.u8 (0:Int),D.int IntKind.u8 (0:Int),D.int IntKind.u8 (0:Int),D.int IntKind.u8 (0:Int),D.int IntKind.u8 (0:Int),D.int IntKind.u8 (0:Int),D.int IntKind.u8 (0:Int),D.int IntKind.u8 (0:Int),D.int IntKind.u8 (0:Int),D.int IntKind.u8 (0:Int),D.int IntKind.u8 (0:Int),D.int IntKind.u8 (0:Int),D.int IntKind.u8 (0:Int),D.int IntKind.u8 (0:Int),D.int IntKind.u8 (0:Int),D.int IntKind.u8 (0:Int),D.int IntKind.u8 (0:Int),D.int IntKind.u8 (0:Int),D.int IntKind.u8 (0:Int),D.int IntKind.u8 (0:Int),D.int IntKind.u8 (0:Int),D.int IntKind.u8 (0:Int),D.int IntKind.u8 (0:Int)]))
    (zcs (α:=(Int×List D×Int×Int×PUnit)×PUnit) (fun again3 ((i4,(l5,(i6,(i7,_)))),_)=>
      brK (decide (i7 < i6))
        (letN (IntKind.wrap IntKind.i64 (Int.tdiv i4 (7:Int))) fun n8=>
        letN (bits BinOp.or IntKind.i64 n8 (1:Int)) fun n9=>
        letN (IntKind.wrap IntKind.i64 (i7*n9)) fun n10=>
        letN (IntKind.wrap IntKind.i64 (i4+n10)) fun n11=>
        letN (IntKind.wrap IntKind.u8 n11) fun n12=>
        sif ((0:Int)≤i7) <|
        sif (Int.toNat i7 < List.length l5) <|
        getK l5 ((0:Nat)+Int.toNat i7) fun d13=>
        sif (D.isAgg d13=false) <|
        letN (IntKind.wrap IntKind.i64 (i7+(1:Int))) fun n14=>
        sif (List.length l5=List.length (List.set l5 ((0:Nat)+Int.toNat i7) (D.int IntKind.u8 n12))) <|
        again3 (((i4,List.set l5 ((0:Nat)+Int.toNat i7) (D.int IntKind.u8 n12),i6,n14,PUnit.unit),PUnit.unit)))
        (sif (List.length l5=List.length l5) <|
        sif (List.all l5 D.free=true) <|
        some (D.sl Tag.own l5)))
      (((a0,[D.int IntKind.u8 (0:Int),D.int IntKind.u8 (0:Int),D.int IntKind.u8 (0:Int),D.int IntKind.u8 (0:Int),D.int IntKind.u8 (0:Int),D.int IntKind.u8 (0:Int),D.int IntKind.u8 (0:Int),D.int IntKind.u8 (0:Int),D.int IntKind.u8 (0:Int),D.int IntKind.u8 (0:Int),D.int IntKind.u8 (0:Int),D.int IntKind.u8 (0:Int),D.int IntKind.u8 (0:Int),D.int IntKind.u8 (0:Int),D.int IntKind.u8 (0:Int),D.int IntKind.u8 (0:Int),D.int IntKind.u8 (0:Int),D.int IntKind.u8 (0:Int),D.int IntKind.u8 (0:Int),D.int IntKind.u8 (0:Int),D.int IntKind.u8 (0:Int),D.int IntKind.u8 (0:Int),D.int IntKind.u8 (0:Int),D.int IntKind.u8 (0:Int),D.int IntKind.u8 (0:Int),D.int IntKind.u8 (0:Int),D.int IntKind.u8 (0:Int),D.int IntKind.u8 (0:Int),D.int IntKind.u8 (0:Int),D.int IntKind.u8 (0:Int),D.int IntKind.u8 (0:Int),D.int IntKind.u8 (0:Int)],(32:Int),(0:Int),PUnit.unit),PUnit.unit)))
theorem zli (zaa:List D→Option D) (a0:Int):denP Try.prog (zav [(ID.wattlekeep_Within,(.pure [0] zaa))]) ze7 [1] ID.wattleplay_Sector [.int .i64 a0]=zd2 zaa a0:=by kernel_rfl
theorem ziO (a0:Int):za2 [.int .i64 a0]=zd2 zaa a0:=zli zaa a0
def zeA:Ann:={ loops:=[(0,[.val (.cell .lent),.val (.cell (.int .i64)),.dead,.dead,.dead,.own 1,.val (.cell (.int .i64))])] }
noncomputable def zaO:List D→Option D:=denP Try.prog (zav [(ID.wattleplay_Sector,(.pure [1] za2))]) zeA [1] ID.wattleplay_Sectors
theorem zhC:za5 Try.prog ID.wattleplay_Sectors (.pure [1] zaO):=zao (zay [ziN]) zby ⟨Try.f31,by kernel_rfl,by kernel_rfl,by kernel_rfl⟩
noncomputable def zij:Fact Try.prog:=⟨ID.wattleplay_Sectors,(.pure [1] zaO),zhC⟩
noncomputable def zdJ (za2:List D→Option D) (a0:List D) (a1:Int):Option D:=
  zcs (α:=(List D×Int×List D×Int×PUnit)×PUnit) (fun again1 ((l2,(i3,(l4,(i5,_)))),_)=>
    brK (decide (i5 < i3))
      (letN (IntKind.wrap IntKind.i64 ((3:Int)*i5)) fun n6=>
      brK (decide (i5 < (↑(List.length l2):Int)))
        (sif ((0:Int)≤i5) <|
        getK l2 (Int.toNat i5) fun d7=>
        asI IntKind.i64 d7 fun i8=>
        zan (za2 [D.int IntKind.i64 i8]) fun r9=>
        zbk r9 fun l10=>
        sif ((0:Nat)+List.length l10≤List.length l10) <|
        sif (List.length l4+(1:Nat)≤(4294967296:Nat)) <|
        sif (List.length l4=List.length l4) <|
        letN (IntKind.wrap IntKind.i64 (i5+(1:Int))) fun n11=>
        sif (List.length l4+(1:Nat)=List.length (l4++[D.sl Tag.fresh (cut (0:Nat) (List.length l10) l10)])) <|
        again1 (((l2,i3,l4++[D.sl Tag.fresh (cut (0:Nat) (List.length l10) l10)],n11,PUnit.unit),PUnit.unit)))
        (zan (za2 [D.int IntKind.i64 n6]) fun r12=>
        zbk r12 fun l13=>
        sif ((0:Nat)+List.length l13≤List.length l13) <|
        sif (List.length l4+(1:Nat)≤(4294967296:Nat)) <|
        sif (List.length l4=List.length l4) <|
        letN (IntKind.wrap IntKind.i64 (i5+(1:Int))) fun n14=>
        sif (List.length l4+(1:Nat)=List.length (l4++[D.sl Tag.fresh (cut (0:Nat) (List.length l13) l13)])) <|
        again1 (((l2,i3,l4++[D.sl Tag.fresh (cut (0:Nat) (List.length l13) l13)],n14,PUnit.unit),PUnit.unit))))
      (sif (List.length l4=List.length l4) <|
      sif (List.all l4 D.free=true) <|
      some (D.sl Tag.own l4)))
    (((a0,a1,[],(0:Int),PUnit.unit),PUnit.unit))
theorem zkq (za2:List D→Option D) (tga0:Tag) (a0:List D) (a1:Int):denP Try.prog (zav [(ID.wattleplay_Sector,(.pure [1] za2))]) zeA [1] ID.wattleplay_Sectors [.sl tga0 a0,.int .i64 a1]=zdJ za2 (D.lentL a0) a1:=by kernel_rfl
theorem zik (tga0:Tag) (a0:List D) (a1:Int):zaO [.sl tga0 a0,.int .i64 a1]=zdJ za2 (D.lentL a0) a1:=zkq za2 tga0 a0 a1
def ze8:Ann:={ loops:=[(0,[.val (.cell (.int .i64)),.val (.cell (.int .i64)),.dead,.dead,.dead,.val (.cell (.int .i64))])] }
noncomputable def zbc:List D→Option D:=denP Try.prog (zav []) ze8 [0] ID.wattleref01_least
theorem zil:za5 Try.prog ID.wattleref01_least (.pure [0] zbc):=zao (zay []) zby ⟨Try.f99,by kernel_rfl,by kernel_rfl,by kernel_rfl⟩
noncomputable def ziP:Fact Try.prog:=⟨ID.wattleref01_least,(.pure [0] zbc),zil⟩
noncomputable def zd3 (a0:Int) (a1:Int):Option D:=
  zcs (α:=(Int×Int×Int×PUnit)×PUnit) (fun again1 ((i2,(i3,(i4,_))),_)=>
    sif (i3≠(0:Int)) <|
    letN (Int.tmod i4 i3) fun n5=>
    brK (n5 != (0:Int))
      (letN (IntKind.wrap IntKind.i64 (i4+i2)) fun n6=>
      again1 (((i2,i3,n6,PUnit.unit),PUnit.unit)))
      (some (D.int IntKind.i64 i4)))
    (((a0,a1,a0,PUnit.unit),PUnit.unit))
theorem zlj (a0:Int) (a1:Int):denP Try.prog (zav []) ze8 [0] ID.wattleref01_least [.int .i64 a0,.int .i64 a1]=zd3 a0 a1:=by kernel_rfl
theorem ziQ (a0:Int) (a1:Int):zbc [.int .i64 a0,.int .i64 a1]=zd3 a0 a1:=zlj a0 a1
def zfq:Ann:={ loops:=[] }
noncomputable def zaE:List D→Option D:=denP Try.prog (zav [(ID.wattleref01_Can,(.pure [0] zaf)),(ID.wattleref01_least,(.pure [0] zbc))]) zfq [0] ID.wattleref01_Rows
theorem ziR:za5 Try.prog ID.wattleref01_Rows (.pure [0] zaE):=zao (zay [zcO,ziP]) zby ⟨Try.f62,by kernel_rfl,by kernel_rfl,by kernel_rfl⟩
noncomputable def ze9:Fact Try.prog:=⟨ID.wattleref01_Rows,(.pure [0] zaE),ziR⟩
noncomputable def zes (zaf:List D→Option D) (zbc:List D→Option D) (a0_0:Int) (a0_1:Int) (a0_2:Int) (a1_0:Int) (a1_1:Int) (a1_2:Int):Option D:=
  zan (zaf [D.agg [D.int IntKind.i64 a0_0,D.int IntKind.i64 a0_1,D.int IntKind.i64 a0_2],D.agg [D.int IntKind.i64 a1_0,D.int IntKind.i64 a1_1,D.int IntKind.i64 a1_2]]) fun r1=>
  asB r1 fun b2=>
  brK (!b2)
    (some (D.int IntKind.i64 (0:Int)))
    (zan (zbc [D.int IntKind.i64 a0_2,D.int IntKind.i64 a1_2]) fun r3=>
    asI IntKind.i64 r3 fun i4=>
    some (D.int IntKind.i64 i4))
theorem zmg (zaf:List D→Option D) (zbc:List D→Option D) (a0_0:Int) (a0_1:Int) (a0_2:Int) (a1_0:Int) (a1_1:Int) (a1_2:Int):denP Try.prog (zav [(ID.wattleref01_Can,(.pure [0] zaf)),(ID.wattleref01_least,(.pure [0] zbc))]) zfq [0] ID.wattleref01_Rows [.agg [.int .i64 a0_0,.int .i64 a0_1,.int .i64 a0_2],.agg [.int .i64 a1_0,.int .i64 a1_1,.int .i64 a1_2]]=zes zaf zbc a0_0 a0_1 a0_2 a1_0 a1_1 a1_2:=by kernel_rfl
theorem zjG (a0_0:Int) (a0_1:Int) (a0_2:Int) (a1_0:Int) (a1_1:Int) (a1_2:Int):zaE [.agg [.int .i64 a0_0,.int .i64 a0_1,.int .i64 a0_2],.agg [.int .i64 a1_0,.int .i64 a1_1,.int .i64 a1_2]]=zes zaf zbc a0_0 a0_1 a0_2 a1_0 a1_1 a1_2:=zmg zaf zbc a0_0 a0_1 a0_2 a1_0 a1_1 a1_2
def zet:Ann:={ loops:=[] }
noncomputable def zar:List D→Option D:=denP Try.prog (zav [(ID.wattleref01_Can,(.pure [0] zaf)),(ID.wattleref01_Rows,(.pure [0] zaE))]) zet [0] ID.wattleref01_Windows
theorem zgX:za5 Try.prog ID.wattleref01_Windows (.pure [0] zar):=zao (zay [zcO,ze9]) zby ⟨Try.f56,by kernel_rfl,by kernel_rfl,by kernel_rfl⟩
noncomputable def zea:Fact Try.prog:=⟨ID.wattleref01_Windows,(.pure [0] zar),zgX⟩
noncomputable def zds (zaf:List D→Option D) (zaE:List D→Option D) (a0_0:Int) (a0_1:Int) (a0_2:Int) (a1_0:Int) (a1_1:Int) (a1_2:Int):Option D:=
  zan (zaf [D.agg [D.int IntKind.i64 a0_0,D.int IntKind.i64 a0_1,D.int IntKind.i64 a0_2],D.agg [D.int IntKind.i64 a1_0,D.int IntKind.i64 a1_1,D.int IntKind.i64 a1_2]]) fun r1=>
  asB r1 fun b2=>
  brK (!b2)
    (some (D.int IntKind.i64 (0:Int)))
    (zan (zaE [D.agg [D.int IntKind.i64 a0_0,D.int IntKind.i64 a0_1,D.int IntKind.i64 a0_2],D.agg [D.int IntKind.i64 a1_0,D.int IntKind.i64 a1_1,D.int IntKind.i64 a1_2]]) fun r3=>
    asI IntKind.i64 r3 fun i4=>
    sif (i4≠(0:Int)) <|
    letN (IntKind.wrap IntKind.i64 (Int.tdiv (16:Int) i4)) fun n5=>
    some (D.int IntKind.i64 n5))
theorem zjH (zaf:List D→Option D) (zaE:List D→Option D) (a0_0:Int) (a0_1:Int) (a0_2:Int) (a1_0:Int) (a1_1:Int) (a1_2:Int):denP Try.prog (zav [(ID.wattleref01_Can,(.pure [0] zaf)),(ID.wattleref01_Rows,(.pure [0] zaE))]) zet [0] ID.wattleref01_Windows [.agg [.int .i64 a0_0,.int .i64 a0_1,.int .i64 a0_2],.agg [.int .i64 a1_0,.int .i64 a1_1,.int .i64 a1_2]]=zds zaf zaE a0_0 a0_1 a0_2 a1_0 a1_1 a1_2:=by kernel_rfl
theorem zhD (a0_0:Int) (a0_1:Int) (a0_2:Int) (a1_0:Int) (a1_1:Int) (a1_2:Int):zar [.agg [.int .i64 a0_0,.int .i64 a0_1,.int .i64 a0_2],.agg [.int .i64 a1_0,.int .i64 a1_1,.int .i64 a1_2]]=zds zaf zaE a0_0 a0_1 a0_2 a1_0 a1_1 a1_2:=zjH zaf zaE a0_0 a0_1 a0_2 a1_0 a1_1 a1_2
def zfr:Ann:={ loops:=[] }
noncomputable def za9:List D→Option D:=denP Try.prog (zav [(ID.wattleref01_Windows,(.pure [0] zar)),(ID.wattleref01_Rows,(.pure [0] zaE)),(ID.wattleref01_Width,(.pure [0] zau))]) zfr [0,0] ID.wattleref01_Span
theorem ziS:za5 Try.prog ID.wattleref01_Span (.pure [0,0] za9):=zao (zay [zea,ze9,zey]) zby ⟨Try.f57,by kernel_rfl,by kernel_rfl,by kernel_rfl⟩
noncomputable def zjI:Fact Try.prog:=⟨ID.wattleref01_Span,(.pure [0,0] za9),ziS⟩
noncomputable def zeu (zar:List D→Option D) (zaE:List D→Option D) (zau:List D→Option D) (a0_0:Int) (a0_1:Int) (a0_2:Int) (a1_0:Int) (a1_1:Int) (a1_2:Int) (a2:Int):Option D:=
  brK (decide (a2 < (0:Int)))
    (some (D.tup [D.int IntKind.i64 (0:Int),D.int IntKind.i64 (0:Int)]))
    (zan (zar [D.agg [D.int IntKind.i64 a0_0,D.int IntKind.i64 a0_1,D.int IntKind.i64 a0_2],D.agg [D.int IntKind.i64 a1_0,D.int IntKind.i64 a1_1,D.int IntKind.i64 a1_2]]) fun r1=>
    asI IntKind.i64 r1 fun i2=>
    brK (decide (a2≥i2))
      (some (D.tup [D.int IntKind.i64 (0:Int),D.int IntKind.i64 (0:Int)]))
      (zan (zaE [D.agg [D.int IntKind.i64 a0_0,D.int IntKind.i64 a0_1,D.int IntKind.i64 a0_2],D.agg [D.int IntKind.i64 a1_0,D.int IntKind.i64 a1_1,D.int IntKind.i64 a1_2]]) fun r3=>
      asI IntKind.i64 r3 fun i4=>
      zan (zau [D.agg [D.int IntKind.i64 a1_0,D.int IntKind.i64 a1_1,D.int IntKind.i64 a1_2]]) fun r5=>
      asI IntKind.i64 r5 fun i6=>
      letN (IntKind.wrap IntKind.i64 (i4*i6)) fun n7=>
      letN (IntKind.wrap IntKind.i64 (a2*n7)) fun n8=>
      letN (IntKind.wrap IntKind.i64 (a2+(1:Int))) fun n9=>
      letN (IntKind.wrap IntKind.i64 (n9*n7)) fun n10=>
      some (D.tup [D.int IntKind.i64 n8,D.int IntKind.i64 n10])))
theorem zmh (zar:List D→Option D) (zaE:List D→Option D) (zau:List D→Option D) (a0_0:Int) (a0_1:Int) (a0_2:Int) (a1_0:Int) (a1_1:Int) (a1_2:Int) (a2:Int):denP Try.prog (zav [(ID.wattleref01_Windows,(.pure [0] zar)),(ID.wattleref01_Rows,(.pure [0] zaE)),(ID.wattleref01_Width,(.pure [0] zau))]) zfr [0,0] ID.wattleref01_Span [.agg [.int .i64 a0_0,.int .i64 a0_1,.int .i64 a0_2],.agg [.int .i64 a1_0,.int .i64 a1_1,.int .i64 a1_2],.int .i64 a2]=zeu zar zaE zau a0_0 a0_1 a0_2 a1_0 a1_1 a1_2 a2:=by kernel_rfl
theorem zjJ (a0_0:Int) (a0_1:Int) (a0_2:Int) (a1_0:Int) (a1_1:Int) (a1_2:Int) (a2:Int):za9 [.agg [.int .i64 a0_0,.int .i64 a0_1,.int .i64 a0_2],.agg [.int .i64 a1_0,.int .i64 a1_1,.int .i64 a1_2],.int .i64 a2]=zeu zar zaE zau a0_0 a0_1 a0_2 a1_0 a1_1 a1_2 a2:=zmh zar zaE zau a0_0 a0_1 a0_2 a1_0 a1_1 a1_2 a2
def znH:Ann:={ loops:=[] }
noncomputable def zcH:List D→Option D:=denP Try.prog (zav [(ID.geom_Check,(.pure [0] zai)),(ID.geom_Width,(.pure [0] zab))]) znH [0] ID.geom_Can
theorem zqj:za5 Try.prog ID.geom_Can (.pure [0] zcH):=zao (zay [zcR,zb7]) zby ⟨Try.f123,by kernel_rfl,by kernel_rfl,by kernel_rfl⟩
noncomputable def zsA:Fact Try.prog:=⟨ID.geom_Can,(.pure [0] zcH),zqj⟩
noncomputable def zm6 (zai:List D→Option D) (zab:List D→Option D) (a0_0:Int) (a0_1:Int) (a0_2:Int) (a1_0:Int) (a1_1:Int) (a1_2:Int):Option D:=
  zan (zai [D.agg [D.int IntKind.i64 a0_0,D.int IntKind.i64 a0_1,D.int IntKind.i64 a0_2]]) fun r1=>
  asI IntKind.i64 r1 fun i2=>
  brK (i2 == (0:Int))
    (zan (zai [D.agg [D.int IntKind.i64 a1_0,D.int IntKind.i64 a1_1,D.int IntKind.i64 a1_2]]) fun r3=>
    asI IntKind.i64 r3 fun i4=>
    brK (i4 == (0:Int))
      (brK (!(a0_0 == a1_0 && (a0_1 == a1_1 && (a0_2 == a1_2 && true))))
        (brK (decide (a1_1≥a0_1))
          (brK (decide (a1_0≥a0_0))
            (zan (zab [D.agg [D.int IntKind.i64 a1_0,D.int IntKind.i64 a1_1,D.int IntKind.i64 a1_2]]) fun r5=>
            asI IntKind.i64 r5 fun i6=>
            zan (zab [D.agg [D.int IntKind.i64 a0_0,D.int IntKind.i64 a0_1,D.int IntKind.i64 a0_2]]) fun r7=>
            asI IntKind.i64 r7 fun i8=>
            some (D.bool (decide (i6≥i8))))
            (some (D.bool false)))
          (some (D.bool false)))
        (some (D.bool false)))
      (some (D.bool false)))
    (some (D.bool false))
theorem zw7 (zai:List D→Option D) (zab:List D→Option D) (a0_0:Int) (a0_1:Int) (a0_2:Int) (a1_0:Int) (a1_1:Int) (a1_2:Int):denP Try.prog (zav [(ID.geom_Check,(.pure [0] zai)),(ID.geom_Width,(.pure [0] zab))]) znH [0] ID.geom_Can [.agg [.int .i64 a0_0,.int .i64 a0_1,.int .i64 a0_2],.agg [.int .i64 a1_0,.int .i64 a1_1,.int .i64 a1_2]]=zm6 zai zab a0_0 a0_1 a0_2 a1_0 a1_1 a1_2:=by kernel_rfl
theorem zsB (a0_0:Int) (a0_1:Int) (a0_2:Int) (a1_0:Int) (a1_1:Int) (a1_2:Int):zcH [.agg [.int .i64 a0_0,.int .i64 a0_1,.int .i64 a0_2],.agg [.int .i64 a1_0,.int .i64 a1_1,.int .i64 a1_2]]=zm6 zai zab a0_0 a0_1 a0_2 a1_0 a1_1 a1_2:=zw7 zai zab a0_0 a0_1 a0_2 a1_0 a1_1 a1_2
def zmi:Ann:={ loops:=[] }
noncomputable def zaX:List D→Option D:=denP Try.prog (zav [(ID.geom_Can,(.pure [0] zcH))]) zmi [0] ID.plan_Rows
theorem zpD:za5 Try.prog ID.plan_Rows (.pure [0] zaX):=zao (zay [zsA]) zby ⟨Try.f98,by kernel_rfl,by kernel_rfl,by kernel_rfl⟩
noncomputable def zgY:Fact Try.prog:=⟨ID.plan_Rows,(.pure [0] zaX),zpD⟩
noncomputable def zlk (zcH:List D→Option D) (a0_0:Int) (a0_1:Int) (a0_2:Int) (a1_0:Int) (a1_1:Int) (a1_2:Int):Option D:=
  zan (zcH [D.agg [D.int IntKind.i64 a0_0,D.int IntKind.i64 a0_1,D.int IntKind.i64 a0_2],D.agg [D.int IntKind.i64 a1_0,D.int IntKind.i64 a1_1,D.int IntKind.i64 a1_2]]) fun r1=>
  asB r1 fun b2=>
  brK (!b2)
    (some (D.int IntKind.i64 (0:Int)))
    (letN (max a0_2 a1_2) fun n3=>
    some (D.int IntKind.i64 n3))
theorem zve (zcH:List D→Option D) (a0_0:Int) (a0_1:Int) (a0_2:Int) (a1_0:Int) (a1_1:Int) (a1_2:Int):denP Try.prog (zav [(ID.geom_Can,(.pure [0] zcH))]) zmi [0] ID.plan_Rows [.agg [.int .i64 a0_0,.int .i64 a0_1,.int .i64 a0_2],.agg [.int .i64 a1_0,.int .i64 a1_1,.int .i64 a1_2]]=zlk zcH a0_0 a0_1 a0_2 a1_0 a1_1 a1_2:=by kernel_rfl
theorem zqk (a0_0:Int) (a0_1:Int) (a0_2:Int) (a1_0:Int) (a1_1:Int) (a1_2:Int):zaX [.agg [.int .i64 a0_0,.int .i64 a0_1,.int .i64 a0_2],.agg [.int .i64 a1_0,.int .i64 a1_1,.int .i64 a1_2]]=zlk zcH a0_0 a0_1 a0_2 a1_0 a1_1 a1_2:=zve zcH a0_0 a0_1 a0_2 a1_0 a1_1 a1_2
def ziv:Ann:={ loops:=[] }
noncomputable def zaV:List D→Option D:=denP Try.prog (zav [(ID.plan_Rows,(.pure [0] zaX))]) ziv [0] ID.plan_Windows
theorem zmj:za5 Try.prog ID.plan_Windows (.pure [0] zaV):=zao (zay [zgY]) zby ⟨Try.f122,by kernel_rfl,by kernel_rfl,by kernel_rfl⟩
noncomputable def zhE:Fact Try.prog:=⟨ID.plan_Windows,(.pure [0] zaV),zmj⟩
noncomputable def zgZ (zaX:List D→Option D) (a0_0:Int) (a0_1:Int) (a0_2:Int) (a1_0:Int) (a1_1:Int) (a1_2:Int):Option D:=
  zan (zaX [D.agg [D.int IntKind.i64 a0_0,D.int IntKind.i64 a0_1,D.int IntKind.i64 a0_2],D.agg [D.int IntKind.i64 a1_0,D.int IntKind.i64 a1_1,D.int IntKind.i64 a1_2]]) fun r1=>
  asI IntKind.i64 r1 fun i2=>
  brK (i2 == (0:Int))
    (some (D.int IntKind.i64 (0:Int)))
    (sif (i2≠(0:Int)) <|
    letN (IntKind.wrap IntKind.i64 (Int.tdiv (16:Int) i2)) fun n3=>
    some (D.int IntKind.i64 n3))
theorem zql (zaX:List D→Option D) (a0_0:Int) (a0_1:Int) (a0_2:Int) (a1_0:Int) (a1_1:Int) (a1_2:Int):denP Try.prog (zav [(ID.plan_Rows,(.pure [0] zaX))]) ziv [0] ID.plan_Windows [.agg [.int .i64 a0_0,.int .i64 a0_1,.int .i64 a0_2],.agg [.int .i64 a1_0,.int .i64 a1_1,.int .i64 a1_2]]=zgZ zaX a0_0 a0_1 a0_2 a1_0 a1_1 a1_2:=by kernel_rfl
theorem zm7 (a0_0:Int) (a0_1:Int) (a0_2:Int) (a1_0:Int) (a1_1:Int) (a1_2:Int):zaV [.agg [.int .i64 a0_0,.int .i64 a0_1,.int .i64 a0_2],.agg [.int .i64 a1_0,.int .i64 a1_1,.int .i64 a1_2]]=zgZ zaX a0_0 a0_1 a0_2 a1_0 a1_1 a1_2:=zql zaX a0_0 a0_1 a0_2 a1_0 a1_1 a1_2
def zkC:Ann:={ loops:=[] }
noncomputable def zbo:List D→Option D:=denP Try.prog (zav [(ID.plan_Windows,(.pure [0] zaV))]) zkC [0] ID.window_may
theorem zn7:za5 Try.prog ID.window_may (.pure [0] zbo):=zao (zay [zhE]) zby ⟨Try.f95,by kernel_rfl,by kernel_rfl,by kernel_rfl⟩
noncomputable def zjK:Fact Try.prog:=⟨ID.window_may,(.pure [0] zbo),zn7⟩
noncomputable def zjL (zaV:List D→Option D) (a0_0:Int) (a0_1:Int) (a0_2:Int) (a1_0:Int) (a1_1:Int) (a1_2:Int) (a2:Int):Option D:=
  brK (decide (a2≥(0:Int)))
    (zan (zaV [D.agg [D.int IntKind.i64 a0_0,D.int IntKind.i64 a0_1,D.int IntKind.i64 a0_2],D.agg [D.int IntKind.i64 a1_0,D.int IntKind.i64 a1_1,D.int IntKind.i64 a1_2]]) fun r1=>
    asI IntKind.i64 r1 fun i2=>
    some (D.bool (decide (a2 < i2))))
    (some (D.bool false))
theorem zt8 (zaV:List D→Option D) (a0_0:Int) (a0_1:Int) (a0_2:Int) (a1_0:Int) (a1_1:Int) (a1_2:Int) (a2:Int):denP Try.prog (zav [(ID.plan_Windows,(.pure [0] zaV))]) zkC [0] ID.window_may [.agg [.int .i64 a0_0,.int .i64 a0_1,.int .i64 a0_2],.agg [.int .i64 a1_0,.int .i64 a1_1,.int .i64 a1_2],.int .i64 a2]=zjL zaV a0_0 a0_1 a0_2 a1_0 a1_1 a1_2 a2:=by kernel_rfl
theorem zpE (a0_0:Int) (a0_1:Int) (a0_2:Int) (a1_0:Int) (a1_1:Int) (a1_2:Int) (a2:Int):zbo [.agg [.int .i64 a0_0,.int .i64 a0_1,.int .i64 a0_2],.agg [.int .i64 a1_0,.int .i64 a1_1,.int .i64 a1_2],.int .i64 a2]=zjL zaV a0_0 a0_1 a0_2 a1_0 a1_1 a1_2 a2:=zt8 zaV a0_0 a0_1 a0_2 a1_0 a1_1 a1_2 a2
def zmk:Ann:={ loops:=[] }
noncomputable def zbx:List D→Option D:=denP Try.prog (zav [(ID.plan_Windows,(.pure [0] zaV)),(ID.plan_Rows,(.pure [0] zaX)),(ID.geom_Width,(.pure [0] zab))]) zmk [0,0] ID.plan_Span
theorem zpF:za5 Try.prog ID.plan_Span (.pure [0,0] zbx):=zao (zay [zhE,zgY,zb7]) zby ⟨Try.f96,by kernel_rfl,by kernel_rfl,by kernel_rfl⟩
noncomputable def zkD:Fact Try.prog:=⟨ID.plan_Span,(.pure [0,0] zbx),zpF⟩
noncomputable def zll (zaV:List D→Option D) (zaX:List D→Option D) (zab:List D→Option D) (a0_0:Int) (a0_1:Int) (a0_2:Int) (a1_0:Int) (a1_1:Int) (a1_2:Int) (a2:Int):Option D:=
  brK (decide (a2 < (0:Int)))
    (some (D.tup [D.int IntKind.i64 (0:Int),D.int IntKind.i64 (0:Int)]))
    (zan (zaV [D.agg [D.int IntKind.i64 a0_0,D.int IntKind.i64 a0_1,D.int IntKind.i64 a0_2],D.agg [D.int IntKind.i64 a1_0,D.int IntKind.i64 a1_1,D.int IntKind.i64 a1_2]]) fun r1=>
    asI IntKind.i64 r1 fun i2=>
    brK (decide (a2≥i2))
      (some (D.tup [D.int IntKind.i64 (0:Int),D.int IntKind.i64 (0:Int)]))
      (zan (zaX [D.agg [D.int IntKind.i64 a0_0,D.int IntKind.i64 a0_1,D.int IntKind.i64 a0_2],D.agg [D.int IntKind.i64 a1_0,D.int IntKind.i64 a1_1,D.int IntKind.i64 a1_2]]) fun r3=>
      asI IntKind.i64 r3 fun i4=>
      zan (zab [D.agg [D.int IntKind.i64 a1_0,D.int IntKind.i64 a1_1,D.int IntKind.i64 a1_2]]) fun r5=>
      asI IntKind.i64 r5 fun i6=>
      letN (IntKind.wrap IntKind.i64 (i4*i6)) fun n7=>
      letN (IntKind.wrap IntKind.i64 (a2*n7)) fun n8=>
      letN (IntKind.wrap IntKind.i64 (a2+(1:Int))) fun n9=>
      letN (IntKind.wrap IntKind.i64 (n9*n7)) fun n10=>
      some (D.tup [D.int IntKind.i64 n8,D.int IntKind.i64 n10])))
theorem zvf (zaV:List D→Option D) (zaX:List D→Option D) (zab:List D→Option D) (a0_0:Int) (a0_1:Int) (a0_2:Int) (a1_0:Int) (a1_1:Int) (a1_2:Int) (a2:Int):denP Try.prog (zav [(ID.plan_Windows,(.pure [0] zaV)),(ID.plan_Rows,(.pure [0] zaX)),(ID.geom_Width,(.pure [0] zab))]) zmk [0,0] ID.plan_Span [.agg [.int .i64 a0_0,.int .i64 a0_1,.int .i64 a0_2],.agg [.int .i64 a1_0,.int .i64 a1_1,.int .i64 a1_2],.int .i64 a2]=zll zaV zaX zab a0_0 a0_1 a0_2 a1_0 a1_1 a1_2 a2:=by kernel_rfl
theorem zqm (a0_0:Int) (a0_1:Int) (a0_2:Int) (a1_0:Int) (a1_1:Int) (a1_2:Int) (a2:Int):zbx [.agg [.int .i64 a0_0,.int .i64 a0_1,.int .i64 a0_2],.agg [.int .i64 a1_0,.int .i64 a1_1,.int .i64 a1_2],.int .i64 a2]=zll zaV zaX zab a0_0 a0_1 a0_2 a1_0 a1_1 a1_2 a2:=zvf zaV zaX zab a0_0 a0_1 a0_2 a1_0 a1_1 a1_2 a2
def zhF:Ann:={ loops:=[] }
noncomputable def zaI:List D→Option D:=denP Try.prog (zav [(ID.geom_Width,(.pure [0] zab))]) zhF [0] ID.geom_Capacity
theorem zlm:za5 Try.prog ID.geom_Capacity (.pure [0] zaI):=zao (zay [zb7]) zby ⟨Try.f97,by kernel_rfl,by kernel_rfl,by kernel_rfl⟩
noncomputable def zgI:Fact Try.prog:=⟨ID.geom_Capacity,(.pure [0] zaI),zlm⟩
noncomputable def zgj (zab:List D→Option D) (a0_0:Int) (a0_1:Int) (a0_2:Int):Option D:=
  zan (zab [D.agg [D.int IntKind.i64 a0_0,D.int IntKind.i64 a0_1,D.int IntKind.i64 a0_2]]) fun r1=>
  asI IntKind.i64 r1 fun i2=>
  letN (IntKind.wrap IntKind.i64 (i2*(16:Int))) fun n3=>
  some (D.int IntKind.i64 n3)
theorem zpG (zab:List D→Option D) (a0_0:Int) (a0_1:Int) (a0_2:Int):denP Try.prog (zav [(ID.geom_Width,(.pure [0] zab))]) zhF [0] ID.geom_Capacity [.agg [.int .i64 a0_0,.int .i64 a0_1,.int .i64 a0_2]]=zgj zab a0_0 a0_1 a0_2:=by kernel_rfl
theorem zml (a0_0:Int) (a0_1:Int) (a0_2:Int):zaI [.agg [.int .i64 a0_0,.int .i64 a0_1,.int .i64 a0_2]]=zgj zab a0_0 a0_1 a0_2:=zpG zab a0_0 a0_1 a0_2
def znI:Ann:={ loops:=[] }
noncomputable def zcw:List D→Option D:=denP Try.prog (zav [(ID.geom_Capacity,(.pure [0] zaI)),(ID.geom_Width,(.pure [0] zab)),(ID.place_Disk,(.pure [0] zaJ))]) znI [0,0,0] ID.place_Of
theorem zqn:za5 Try.prog ID.place_Of (.pure [0,0,0] zcw):=zao (zay [zgI,zb7,zga]) zby ⟨Try.f72,by kernel_rfl,by kernel_rfl,by kernel_rfl⟩
noncomputable def zsC:Fact Try.prog:=⟨ID.place_Of,(.pure [0,0,0] zcw),zqn⟩
noncomputable def zm8 (zaI:List D→Option D) (zab:List D→Option D) (zaJ:List D→Option D) (a0_0:Int) (a0_1:Int) (a0_2:Int) (a1:Int):Option D:=
  brK (decide (a1 < (0:Int)))
    (some (D.tup [D.int IntKind.i64 (0:Int),D.int IntKind.i64 (0:Int),D.bool false]))
    (zan (zaI [D.agg [D.int IntKind.i64 a0_0,D.int IntKind.i64 a0_1,D.int IntKind.i64 a0_2]]) fun r1=>
    asI IntKind.i64 r1 fun i2=>
    brK (decide (a1≥i2))
      (some (D.tup [D.int IntKind.i64 (0:Int),D.int IntKind.i64 (0:Int),D.bool false]))
      (sif (a0_2≠(0:Int)) <|
      letN (IntKind.wrap IntKind.i64 (Int.tdiv a1 a0_2)) fun n3=>
      zan (zab [D.agg [D.int IntKind.i64 a0_0,D.int IntKind.i64 a0_1,D.int IntKind.i64 a0_2]]) fun r4=>
      asI IntKind.i64 r4 fun i5=>
      sif (i5≠(0:Int)) <|
      letN (IntKind.wrap IntKind.i64 (Int.tdiv n3 i5)) fun n6=>
      letN (IntKind.wrap IntKind.i64 (n6*a0_2)) fun n7=>
      sif (a0_2≠(0:Int)) <|
      letN (Int.tmod a1 a0_2) fun n8=>
      letN (IntKind.wrap IntKind.i64 (n7+n8)) fun n9=>
      zan (zab [D.agg [D.int IntKind.i64 a0_0,D.int IntKind.i64 a0_1,D.int IntKind.i64 a0_2]]) fun r10=>
      asI IntKind.i64 r10 fun i11=>
      sif (i11≠(0:Int)) <|
      letN (Int.tmod n3 i11) fun n12=>
      zan (zaJ [D.agg [D.int IntKind.i64 a0_0,D.int IntKind.i64 a0_1,D.int IntKind.i64 a0_2],D.int IntKind.i64 n9,D.int IntKind.i64 n12]) fun r13=>
      asI IntKind.i64 r13 fun i14=>
      some (D.tup [D.int IntKind.i64 i14,D.int IntKind.i64 n9,D.bool true])))
theorem zw8 (zaI:List D→Option D) (zab:List D→Option D) (zaJ:List D→Option D) (a0_0:Int) (a0_1:Int) (a0_2:Int) (a1:Int):denP Try.prog (zav [(ID.geom_Capacity,(.pure [0] zaI)),(ID.geom_Width,(.pure [0] zab)),(ID.place_Disk,(.pure [0] zaJ))]) znI [0,0,0] ID.place_Of [.agg [.int .i64 a0_0,.int .i64 a0_1,.int .i64 a0_2],.int .i64 a1]=zm8 zaI zab zaJ a0_0 a0_1 a0_2 a1:=by kernel_rfl
theorem zsD (a0_0:Int) (a0_1:Int) (a0_2:Int) (a1:Int):zcw [.agg [.int .i64 a0_0,.int .i64 a0_1,.int .i64 a0_2],.int .i64 a1]=zm8 zaI zab zaJ a0_0 a0_1 a0_2 a1:=zw8 zaI zab zaJ a0_0 a0_1 a0_2 a1
def ziw:Ann:={ loops:=[] }
noncomputable def zbO:List D→Option D:=denP Try.prog (zav [(ID.geom_Width,(.pure [0] zab))]) ziw [0] ID.place_number
theorem zmm:za5 Try.prog ID.place_number (.pure [0] zbO):=zao (zay [zb7]) zby ⟨Try.f107,by kernel_rfl,by kernel_rfl,by kernel_rfl⟩
noncomputable def zm9:Fact Try.prog:=⟨ID.place_number,(.pure [0] zbO),zmm⟩
noncomputable def zg0 (zab:List D→Option D) (a0_0:Int) (a0_1:Int) (a0_2:Int) (a1:Int) (a2:Int):Option D:=
  sif (a0_2≠(0:Int)) <|
  letN (IntKind.wrap IntKind.i64 (Int.tdiv a1 a0_2)) fun n1=>
  zan (zab [D.agg [D.int IntKind.i64 a0_0,D.int IntKind.i64 a0_1,D.int IntKind.i64 a0_2]]) fun r2=>
  asI IntKind.i64 r2 fun i3=>
  letN (IntKind.wrap IntKind.i64 (n1*i3)) fun n4=>
  letN (IntKind.wrap IntKind.i64 (n4+a2)) fun n5=>
  letN (IntKind.wrap IntKind.i64 (n5*a0_2)) fun n6=>
  sif (a0_2≠(0:Int)) <|
  letN (Int.tmod a1 a0_2) fun n7=>
  letN (IntKind.wrap IntKind.i64 (n6+n7)) fun n8=>
  some (D.int IntKind.i64 n8)
theorem zqo (zab:List D→Option D) (a0_0:Int) (a0_1:Int) (a0_2:Int) (a1:Int) (a2:Int):denP Try.prog (zav [(ID.geom_Width,(.pure [0] zab))]) ziw [0] ID.place_number [.agg [.int .i64 a0_0,.int .i64 a0_1,.int .i64 a0_2],.int .i64 a1,.int .i64 a2]=zg0 zab a0_0 a0_1 a0_2 a1 a2:=by kernel_rfl
theorem zna (a0_0:Int) (a0_1:Int) (a0_2:Int) (a1:Int) (a2:Int):zbO [.agg [.int .i64 a0_0,.int .i64 a0_1,.int .i64 a0_2],.int .i64 a1,.int .i64 a2]=zg0 zab a0_0 a0_1 a0_2 a1 a2:=zqo zab a0_0 a0_1 a0_2 a1 a2
def zhG:Ann:={ loops:=[(1,[.dead,.val (.cell (.int .i64)),.box true [(.int .i64),(.int .i64),(.int .i64)],.dead,.dead,.own 1,.dead,.dead,.dead,.dead,.dead,.dead,.val (.cell (.int .i64)),.val (.cell (.int .i64))])] }
noncomputable def zaM:List D→Option D:=denP Try.prog (zav [(ID.place_in,(.pure [0] zbe)),(ID.geom_Width,(.pure [0] zab)),(ID.place_number,(.pure [0] zbO))]) zhG [1] ID.place_Numbers
theorem zln:za5 Try.prog ID.place_Numbers (.pure [1] zaM):=zao (zay [zh9,zb7,zm9]) zby ⟨Try.f73,by kernel_rfl,by kernel_rfl,by kernel_rfl⟩
noncomputable def zgJ:Fact Try.prog:=⟨ID.place_Numbers,(.pure [1] zaM),zln⟩
noncomputable def zgk (zbe:List D→Option D) (zab:List D→Option D) (zbO:List D→Option D) (a0_0:Int) (a0_1:Int) (a0_2:Int) (a1:Int):Option D:=
  zan (zbe [D.agg [D.int IntKind.i64 a0_0,D.int IntKind.i64 a0_1,D.int IntKind.i64 a0_2],D.int IntKind.i64 a1]) fun r1=>
  asB r1 fun b2=>
  brK (!b2)
    (some (D.sl Tag.own []))
    (zan (zab [D.agg [D.int IntKind.i64 a0_0,D.int IntKind.i64 a0_1,D.int IntKind.i64 a0_2]]) fun r3=>
    asI IntKind.i64 r3 fun i4=>
    zcs (α:=(Int×(Int×Int×Int×PUnit)×List D×Int×Int×PUnit)×PUnit) (fun again5 ((i6,((i7,(i8,(i9,_))),(l10,(i11,(i12,_))))),_)=>
      brK (decide (i12 < i11))
        (zan (zbO [D.agg [D.int IntKind.i64 i7,D.int IntKind.i64 i8,D.int IntKind.i64 i9],D.int IntKind.i64 i6,D.int IntKind.i64 i12]) fun r13=>
        asI IntKind.i64 r13 fun i14=>
        sif (List.length l10+(1:Nat)≤(4294967296:Nat)) <|
        sif (List.length l10=List.length l10) <|
        letN (IntKind.wrap IntKind.i64 (i12+(1:Int))) fun n15=>
        sif (List.length l10+(1:Nat)=List.length (l10++[D.int IntKind.i64 i14])) <|
        again5 (((i6,(i7,i8,i9,PUnit.unit),l10++[D.int IntKind.i64 i14],i11,n15,PUnit.unit),PUnit.unit)))
        (sif (List.length l10=List.length l10) <|
        sif (List.all l10 D.free=true) <|
        some (D.sl Tag.own l10)))
      (((a1,(a0_0,a0_1,a0_2,PUnit.unit),[],i4,(0:Int),PUnit.unit),PUnit.unit)))
theorem zpH (zbe:List D→Option D) (zab:List D→Option D) (zbO:List D→Option D) (a0_0:Int) (a0_1:Int) (a0_2:Int) (a1:Int):denP Try.prog (zav [(ID.place_in,(.pure [0] zbe)),(ID.geom_Width,(.pure [0] zab)),(ID.place_number,(.pure [0] zbO))]) zhG [1] ID.place_Numbers [.agg [.int .i64 a0_0,.int .i64 a0_1,.int .i64 a0_2],.int .i64 a1]=zgk zbe zab zbO a0_0 a0_1 a0_2 a1:=by kernel_rfl
theorem zmn (a0_0:Int) (a0_1:Int) (a0_2:Int) (a1:Int):zaM [.agg [.int .i64 a0_0,.int .i64 a0_1,.int .i64 a0_2],.int .i64 a1]=zgk zbe zab zbO a0_0 a0_1 a0_2 a1:=zpH zbe zab zbO a0_0 a0_1 a0_2 a1
def zkE:Ann:={ loops:=[(3,[.dead,.dead,.dead,.val (.cell (.int .i64)),.dead,.dead,.dead,.dead,.dead,.dead,.dead,.dead,.dead,.own 1,.dead,.dead,.dead,.dead,.dead,.dead,.dead,.dead,.dead,.dead,.dead,.dead,.dead,.dead,.dead,.dead,.dead,.dead,.dead,.dead,.dead,.dead,.dead,.dead,.dead,.dead,.dead,.dead,.dead,.dead,.dead,.dead,.dead,.dead,.dead,.dead,.own 1,.val (.cell (.int .i64)),.val (.cell (.int .i64))])],ks:=[(3840,false),(7649,false)] }
noncomputable def zb9:List D→List Tb→Option Ans:=denS Try.prog (zav [(ID.place_Of,(.pure [0,0,0] zcw)),(ID.stripe_up,(.st [] [0] [(3840,false),(7649,false)] zaF)),(ID.bench_Bench_Read,(.st [] [1,0] [(3840,false),(7649,false)] zaD)),(ID.stripe_Read,(.st [] [1,0] [(3840,false),(7649,false)] zbY)),(ID.place_Numbers,(.pure [1] zaM))]) zkE [0,0] ID.stripe_One
theorem zn8:za5 Try.prog ID.stripe_One (.st [] [0,0] [(3840,false),(7649,false)] zb9):=zbq (zay [zsC,zeS,ze4,zn2,zgJ]) zby ⟨Try.f26,by kernel_rfl,by kernel_rfl,by kernel_rfl⟩
noncomputable def zpI:Fact Try.prog:=⟨ID.stripe_One,(.st [] [0,0] [(3840,false),(7649,false)] zb9),zn8⟩
noncomputable def zjM (zcw:List D→Option D) (zaF:List D→List Tb→Option Ans) (zaD:List D→List Tb→Option Ans) (zbY:List D→List Tb→Option Ans) (zaM:List D→Option D) (a0:Nat) (a1:List D) (a2_0:Int) (a2_1:Int) (a2_2:Int) (a3:Int) (T0:Tb) (T1:Tb):Option Ans:=
  zan (zcw [D.agg [D.int IntKind.i64 a2_0,D.int IntKind.i64 a2_1,D.int IntKind.i64 a2_2],D.int IntKind.i64 a3]) fun r1=>
  zdx r1 fun ts2=>
  zas ([Lf.any,Lf.any,Lf.any]) ts2 fun c3=>
  asI IntKind.i64 c3.fst fun i4=>
  asI IntKind.i64 c3.snd.fst fun i5=>
  asB c3.snd.snd.fst fun b6=>
  brK (!b6)
    (some (Ans.mk (D.tup [D.sl Tag.nil [],D.int IntKind.i64 (4:Int)]) [] []))
    (zan (zaF [D.h (3840:Nat) a0 (0:Nat),D.sl Tag.lent a1,D.int IntKind.i64 i4] [T0,T1]) fun r7=>
    nilK r7.outs <|
    nilK r7.tbs <|
    asB r7.r fun b8=>
    brK b8
      (letN (IntKind.wrap IntKind.i64 ((36:Int)+i5)) fun n9=>
      zan (zaD [D.h (3840:Nat) a0 (0:Nat),D.int IntKind.i64 i4,D.int IntKind.i64 n9] [T0,T1]) fun r10=>
      nilK r10.outs <|
      nilK r10.tbs <|
      zdx r10.r fun ts11=>
      zas ([Lf.any,Lf.any]) ts11 fun c12=>
      zbk c12.fst fun l13=>
      asI IntKind.i64 c12.snd.fst fun i14=>
      sif ((0:Nat)+List.length l13≤List.length l13) <|
      sif (D.free (D.sl Tag.fresh (cut (0:Nat) (List.length l13) l13))=true) <|
      some (Ans.mk (D.tup [D.sl Tag.fresh (cut (0:Nat) (List.length l13) l13),D.int IntKind.i64 i14]) [] []))
      (zan (zbY [D.h (3840:Nat) a0 (0:Nat),D.sl Tag.lent a1,D.agg [D.int IntKind.i64 a2_0,D.int IntKind.i64 a2_1,D.int IntKind.i64 a2_2],D.int IntKind.i64 i5] [T0,T1]) fun r15=>
      nilK r15.outs <|
      nilK r15.tbs <|
      zdx r15.r fun ts16=>
      zas ([Lf.any,Lf.any]) ts16 fun c17=>
      zbk c17.fst fun l18=>
      asI IntKind.i64 c17.snd.fst fun i19=>
      brK (i19 != (0:Int))
        (some (Ans.mk (D.tup [D.sl Tag.nil [],D.int IntKind.i64 i19]) [] []))
        (zan (zaM [D.agg [D.int IntKind.i64 a2_0,D.int IntKind.i64 a2_1,D.int IntKind.i64 a2_2],D.int IntKind.i64 i5]) fun r20=>
        zbk r20 fun l21=>
        sif ((0:Nat)+List.length l21≤List.length l21) <|
        sif (List.length l18=List.length l18) <|
        sif (List.length l21=List.length l21) <|
        zcs (α:=(Int×List D×List D×Int×Int×PUnit)×List (List D)×List (List D)×PUnit) (fun again22 ((i23,(l24,(l25,(i26,(i27,_))))),(U28,(U29,_)))=>
          brK (decide (i27 < i26))
            (sif ((0:Int)≤i27) <|
            sif (Int.toNat i27 < List.length l25) <|
            getK l25 ((0:Nat)+Int.toNat i27) fun d30=>
            asI IntKind.i64 d30 fun i31=>
            brK (i31 == i23)
              (sif ((0:Int)≤i27) <|
              sif (Int.toNat i27 < List.length l24) <|
              getK l24 ((0:Nat)+Int.toNat i27) fun d32=>
              asSl d32 fun t33 l34=>
              sif (D.free (D.sl t33 l34)=true) <|
              some (Ans.mk (D.tup [D.sl t33 l34,D.int IntKind.i64 (0:Int)]) [] []))
              (letN (IntKind.wrap IntKind.i64 (i27+(1:Int))) fun n35=>
              sif (List.length l24=List.length l24) <|
              sif (List.length l25=List.length l25) <|
              again22 (((i23,l24,l25,i26,n35,PUnit.unit),U28,U29,PUnit.unit))))
            (some (Ans.mk (D.tup [D.sl Tag.nil [],D.int IntKind.i64 (4:Int)]) [] [])))
          (((a3,l18,l21,(↑(List.length l21):Int),(0:Int),PUnit.unit),T0,T1,PUnit.unit)))))
theorem zt9 (zcw:List D→Option D) (zaF:List D→List Tb→Option Ans) (zaD:List D→List Tb→Option Ans) (zbY:List D→List Tb→Option Ans) (zaM:List D→Option D) (tga1:Tag) (a0:Nat) (a1:List D) (a2_0:Int) (a2_1:Int) (a2_2:Int) (a3:Int) (T0:Tb) (T1:Tb):denS Try.prog (zav [(ID.place_Of,(.pure [0,0,0] zcw)),(ID.stripe_up,(.st [] [0] [(3840,false),(7649,false)] zaF)),(ID.bench_Bench_Read,(.st [] [1,0] [(3840,false),(7649,false)] zaD)),(ID.stripe_Read,(.st [] [1,0] [(3840,false),(7649,false)] zbY)),(ID.place_Numbers,(.pure [1] zaM))]) zkE [0,0] ID.stripe_One [.h 3840 a0 0,.sl tga1 a1,.agg [.int .i64 a2_0,.int .i64 a2_1,.int .i64 a2_2],.int .i64 a3] [T0,T1]=zjM zcw zaF zaD zbY zaM a0 (D.lentL a1) a2_0 a2_1 a2_2 a3 T0 T1:=by kernel_rfl
theorem zpJ (tga1:Tag) (a0:Nat) (a1:List D) (a2_0:Int) (a2_1:Int) (a2_2:Int) (a3:Int) (T0:Tb) (T1:Tb):zb9 [.h 3840 a0 0,.sl tga1 a1,.agg [.int .i64 a2_0,.int .i64 a2_1,.int .i64 a2_2],.int .i64 a3] [T0,T1]=zjM zcw zaF zaD zbY zaM a0 (D.lentL a1) a2_0 a2_1 a2_2 a3 T0 T1:=zt9 zcw zaF zaD zbY zaM tga1 a0 a1 a2_0 a2_1 a2_2 a3 T0 T1
def zjN:Ann:={ loops:=[(1,[.val (.cell (.hnd (3840:Nat))),.val (.cell .lent),.dead,.dead,.dead,.dead,.dead,.box true [(.int .i64),(.int .i64),(.int .i64)],.dead,.dead,.dead,.dead,.own 1,.dead,.val (.cell (.int .i64)),.val (.cell (.int .i64))])],ks:=[(3840,false),(7649,false)] }
noncomputable def zaR:List D→List Tb→Option Ans:=denS Try.prog (zav [(ID.window_may,(.pure [0] zbo)),(ID.plan_Span,(.pure [0,0] zbx)),(ID.geom_Capacity,(.pure [0] zaI)),(ID.stripe_One,(.st [] [0,0] [(3840,false),(7649,false)] zb9))]) zjN [1,0] ID.window_Read
theorem znb:za5 Try.prog ID.window_Read (.st [] [1,0] [(3840,false),(7649,false)] zaR):=zbq (zay [zjK,zkD,zgI,zpI]) zby ⟨Try.f58,by kernel_rfl,by kernel_rfl,by kernel_rfl⟩
noncomputable def zix:Fact Try.prog:=⟨ID.window_Read,(.st [] [1,0] [(3840,false),(7649,false)] zaR),znb⟩
noncomputable def zim (zbo:List D→Option D) (zbx:List D→Option D) (zaI:List D→Option D) (zb9:List D→List Tb→Option Ans) (a0:Nat) (a1:List D) (a2_0:Int) (a2_1:Int) (a2_2:Int) (a3_0:Int) (a3_1:Int) (a3_2:Int) (a4:Int) (T0:Tb) (T1:Tb):Option Ans:=
  zan (zbo [D.agg [D.int IntKind.i64 a2_0,D.int IntKind.i64 a2_1,D.int IntKind.i64 a2_2],D.agg [D.int IntKind.i64 a3_0,D.int IntKind.i64 a3_1,D.int IntKind.i64 a3_2],D.int IntKind.i64 a4]) fun r1=>
  asB r1 fun b2=>
  brK (!b2)
    (some (Ans.mk (D.tup [D.sl Tag.own [],D.int IntKind.i64 (1:Int)]) [] []))
    (zan (zbx [D.agg [D.int IntKind.i64 a2_0,D.int IntKind.i64 a2_1,D.int IntKind.i64 a2_2],D.agg [D.int IntKind.i64 a3_0,D.int IntKind.i64 a3_1,D.int IntKind.i64 a3_2],D.int IntKind.i64 a4]) fun r3=>
    zdx r3 fun ts4=>
    zas ([Lf.any,Lf.any]) ts4 fun c5=>
    asI IntKind.i64 c5.fst fun i6=>
    asI IntKind.i64 c5.snd.fst fun i7=>
    zcs (α:=(Nat×List D×(Int×Int×Int×PUnit)×List D×Int×Int×PUnit)×List (List D)×List (List D)×PUnit) (fun again8 ((x9,(l10,((i11,(i12,(i13,_))),(l14,(i15,(i16,_)))))),(U17,(U18,_)))=>
      brK (decide (i16 < i15))
        (zan (zaI [D.agg [D.int IntKind.i64 i11,D.int IntKind.i64 i12,D.int IntKind.i64 i13]]) fun r19=>
        asI IntKind.i64 r19 fun i20=>
        brK (decide (i16≥i20))
          (sif (List.length l14+(1:Nat)≤(4294967296:Nat)) <|
          sif (List.length l14=List.length l14) <|
          letN (IntKind.wrap IntKind.i64 (i16+(1:Int))) fun n21=>
          sif (List.length l14+(1:Nat)=List.length (l14++[D.sl Tag.fresh [D.int IntKind.u8 (0:Int),D.int IntKind.u8 (0:Int),D.int IntKind.u8 (0:Int),D.int IntKind.u8 (0:Int),D.int IntKind.u8 (0:Int),D.int IntKind.u8 (0:Int),D.int IntKind.u8 (0:Int),D.int IntKind.u8 (0:Int),D.int IntKind.u8 (0:Int),D.int IntKind.u8 (0:Int),D.int IntKind.u8 (0:Int),D.int IntKind.u8 (0:Int),D.int IntKind.u8 (0:Int),D.int IntKind.u8 (0:Int),D.int IntKind.u8 (0:Int),D.int IntKind.u8 (0:Int),D.int IntKind.u8 (0:Int),D.int IntKind.u8 (0:Int),D.int IntKind.u8 (0:Int),D.int IntKind.u8 (0:Int),D.int IntKind.u8 (0:Int),D.int IntKind.u8 (0:Int),D.int IntKind.u8 (0:Int),D.int IntKind.u8 (0:Int),D.int IntKind.u8 (0:Int),D.int IntKind.u8 (0:Int),D.int IntKind.u8 (0:Int),D.int IntKind.u8 (0:Int),D.int IntKind.u8 (0:Int),D.int IntKind.u8 (0:Int),D.int IntKind.u8 (0:Int),D.int IntKind.u8 (0:Int)]])) <|
          again8 (((x9,l10,(i11,i12,i13,PUnit.unit),l14++[D.sl Tag.fresh [D.int IntKind.u8 (0:Int),D.int IntKind.u8 (0:Int),D.int IntKind.u8 (0:Int),D.int IntKind.u8 (0:Int),D.int IntKind.u8 (0:Int),D.int IntKind.u8 (0:Int),D.int IntKind.u8 (0:Int),D.int IntKind.u8 (0:Int),D.int IntKind.u8 (0:Int),D.int IntKind.u8 (0:Int),D.int IntKind.u8 (0:Int),D.int IntKind.u8 (0:Int),D.int IntKind.u8 (0:Int),D.int IntKind.u8 (0:Int),D.int IntKind.u8 (0:Int),D.int IntKind.u8 (0:Int),D.int IntKind.u8 (0:Int),D.int IntKind.u8 (0:Int),D.int IntKind.u8 (0:Int),D.int IntKind.u8 (0:Int),D.int IntKind.u8 (0:Int),D.int IntKind.u8 (0:Int),D.int IntKind.u8 (0:Int),D.int IntKind.u8 (0:Int),D.int IntKind.u8 (0:Int),D.int IntKind.u8 (0:Int),D.int IntKind.u8 (0:Int),D.int IntKind.u8 (0:Int),D.int IntKind.u8 (0:Int),D.int IntKind.u8 (0:Int),D.int IntKind.u8 (0:Int),D.int IntKind.u8 (0:Int)]],i15,n21,PUnit.unit),U17,U18,PUnit.unit)))
          (zan (zb9 [D.h (3840) x9 (0:Nat),D.sl Tag.lent l10,D.agg [D.int IntKind.i64 i11,D.int IntKind.i64 i12,D.int IntKind.i64 i13],D.int IntKind.i64 i16] [U17,U18]) fun r22=>
          nilK r22.outs <|
          nilK r22.tbs <|
          zdx r22.r fun ts23=>
          zas ([Lf.any,Lf.any]) ts23 fun c24=>
          asSl c24.fst fun t25 l26=>
          sif (zhl (D.sl t25 l26)=true) <|
          asI IntKind.i64 c24.snd.fst fun i27=>
          brK (i27 != (0:Int))
            (some (Ans.mk (D.tup [D.sl Tag.own [],D.int IntKind.i64 i27]) [] []))
            (sif (List.length l14+(1:Nat)≤(4294967296:Nat)) <|
            sif (List.length l14=List.length l14) <|
            letN (IntKind.wrap IntKind.i64 (i16+(1:Int))) fun n28=>
            sif (List.length l14+(1:Nat)=List.length (l14++[D.sl t25 l26])) <|
            again8 (((x9,l10,(i11,i12,i13,PUnit.unit),l14++[D.sl t25 l26],i15,n28,PUnit.unit),U17,U18,PUnit.unit)))))
        (sif (List.length l14=List.length l14) <|
        sif (List.all l14 D.free=true) <|
        some (Ans.mk (D.tup [D.sl Tag.own l14,D.int IntKind.i64 (0:Int)]) [] [])))
      (((a0,a1,(a2_0,a2_1,a2_2,PUnit.unit),[],i7,i6,PUnit.unit),T0,T1,PUnit.unit)))
theorem zsE (zbo:List D→Option D) (zbx:List D→Option D) (zaI:List D→Option D) (zb9:List D→List Tb→Option Ans) (tga1:Tag) (a0:Nat) (a1:List D) (a2_0:Int) (a2_1:Int) (a2_2:Int) (a3_0:Int) (a3_1:Int) (a3_2:Int) (a4:Int) (T0:Tb) (T1:Tb):denS Try.prog (zav [(ID.window_may,(.pure [0] zbo)),(ID.plan_Span,(.pure [0,0] zbx)),(ID.geom_Capacity,(.pure [0] zaI)),(ID.stripe_One,(.st [] [0,0] [(3840,false),(7649,false)] zb9))]) zjN [1,0] ID.window_Read [.h 3840 a0 0,.sl tga1 a1,.agg [.int .i64 a2_0,.int .i64 a2_1,.int .i64 a2_2],.agg [.int .i64 a3_0,.int .i64 a3_1,.int .i64 a3_2],.int .i64 a4] [T0,T1]=zim zbo zbx zaI zb9 a0 (D.lentL a1) a2_0 a2_1 a2_2 a3_0 a3_1 a3_2 a4 T0 T1:=by kernel_rfl
theorem zn9 (tga1:Tag) (a0:Nat) (a1:List D) (a2_0:Int) (a2_1:Int) (a2_2:Int) (a3_0:Int) (a3_1:Int) (a3_2:Int) (a4:Int) (T0:Tb) (T1:Tb):zaR [.h 3840 a0 0,.sl tga1 a1,.agg [.int .i64 a2_0,.int .i64 a2_1,.int .i64 a2_2],.agg [.int .i64 a3_0,.int .i64 a3_1,.int .i64 a3_2],.int .i64 a4] [T0,T1]=zim zbo zbx zaI zb9 a0 (D.lentL a1) a2_0 a2_1 a2_2 a3_0 a3_1 a3_2 a4 T0 T1:=zsE zbo zbx zaI zb9 tga1 a0 a1 a2_0 a2_1 a2_2 a3_0 a3_1 a3_2 a4 T0 T1
def zeb:Ann:={ loops:=[(1,[.val (.cell .lent),.val (.cell .lent),.dead,.dead,.dead,.val (.cell (.int .i64))])] }
noncomputable def zaS:List D→Option D:=denP Try.prog (zav []) zeb [0] ID.wattlekeep_Same_byte
theorem zgq:za5 Try.prog ID.wattlekeep_Same_byte (.pure [0] zaS):=zao (zay []) zby ⟨Try.f30,by kernel_rfl,by kernel_rfl,by kernel_rfl⟩
noncomputable def zg1:Fact Try.prog:=⟨ID.wattlekeep_Same_byte,(.pure [0] zaS),zgq⟩
noncomputable def zdb (a0:List D) (a1:List D):Option D:=
  brK ((↑(List.length a0):Int) != (↑(List.length a1):Int))
    (some (D.bool false))
    (zcs (α:=(List D×List D×Int×PUnit)×PUnit) (fun again1 ((l2,(l3,(i4,_))),_)=>
      brK (decide (i4 < (↑(List.length l2):Int)))
        (sif ((0:Int)≤i4) <|
        getK l2 (Int.toNat i4) fun d5=>
        asI IntKind.u8 d5 fun i6=>
        sif ((0:Int)≤i4) <|
        getK l3 (Int.toNat i4) fun d7=>
        asI IntKind.u8 d7 fun i8=>
        brK (i6 != i8)
          (some (D.bool false))
          (letN (IntKind.wrap IntKind.i64 (i4+(1:Int))) fun n9=>
          again1 (((l2,l3,n9,PUnit.unit),PUnit.unit))))
        (some (D.bool true)))
      (((a0,a1,(0:Int),PUnit.unit),PUnit.unit)))
theorem ziT (tga0:Tag) (tga1:Tag) (a0:List D) (a1:List D):denP Try.prog (zav []) zeb [0] ID.wattlekeep_Same_byte [.sl tga0 a0,.sl tga1 a1]=zdb (D.lentL a0) (D.lentL a1):=by kernel_rfl
theorem zg2 (tga0:Tag) (tga1:Tag) (a0:List D) (a1:List D):zaS [.sl tga0 a0,.sl tga1 a1]=zdb (D.lentL a0) (D.lentL a1):=ziT tga0 tga1 a0 a1
def zfa:Ann:={ loops:=[],ks:=[(3840,true),(7649,true)] }
noncomputable def zaN:List D→Option D:=denT Try.prog (zav [(ID.bench_New,(.st [] [0,0] [(3840,true),(7649,true)] zbl)),(ID.window_Read,(.st [] [1,0] [(3840,false),(7649,false)] zaR)),(ID.wattlekeep_Same_byte,(.pure [0] zaS))]) zfa [0] ID.wattlelaw20_wakes
theorem zin:za5 Try.prog ID.wattlelaw20_wakes (.pure [0] zaN):=zq4 (zay [zkw,zix,zg1]) zby ⟨Try.f59,by kernel_rfl,by kernel_rfl,by kernel_rfl⟩
noncomputable def ziU:Fact Try.prog:=⟨ID.wattlelaw20_wakes,(.pure [0] zaN),zin⟩
noncomputable def zd4 (zbl:List D→List Tb→Option Ans) (zaR:List D→List Tb→Option Ans) (zaS:List D→Option D):Option D:=
  zan (zbl [D.int IntKind.i64 (4:Int)] [[],[]]) fun r1=>
  nilK r1.outs <|
  zdL r1.tbs fun c2 q3=>
  zdL q3 fun c4 q5=>
  nilK q5 <|
  zdx r1.r fun ts6=>
  zas ([Lf.any,Lf.any]) ts6 fun c7=>
  sif (zhl c7.fst=true) <|
  asI IntKind.i64 c7.snd.fst fun i8=>
  brK (i8 != (0:Int))
    (some (D.bool false))
    (znO c7.fst fun b9=>
    brK b9
      (some (D.bool false))
      (zan (zaR [c7.fst,D.sl Tag.full [D.bool true,D.bool true,D.bool true,D.bool true],D.agg [D.int IntKind.i64 (5:Int),D.int IntKind.i64 (3:Int),D.int IntKind.i64 (1:Int)],D.agg [D.int IntKind.i64 (5:Int),D.int IntKind.i64 (4:Int),D.int IntKind.i64 (1:Int)],D.int IntKind.i64 (15:Int)] [c2,c4]) fun r10=>
      nilK r10.outs <|
      nilK r10.tbs <|
      zdx r10.r fun ts11=>
      zas ([Lf.any,Lf.any]) ts11 fun c12=>
      zbk c12.fst fun l13=>
      asI IntKind.i64 c12.snd.fst fun i14=>
      brK (i14 == (0:Int))
        (sif ((0:Nat)+List.length l13≤List.length l13) <|
        brK ((↑(List.length l13):Int) == (3:Int))
          (sif ((2:Nat) < List.length l13) <|
          getK l13 ((2:Nat)) fun d15=>
          asSl d15 fun t16 l17=>
          zan (zaS [D.sl t16 l17,D.sl Tag.lent [D.int IntKind.u8 (0:Int),D.int IntKind.u8 (0:Int),D.int IntKind.u8 (0:Int),D.int IntKind.u8 (0:Int),D.int IntKind.u8 (0:Int),D.int IntKind.u8 (0:Int),D.int IntKind.u8 (0:Int),D.int IntKind.u8 (0:Int),D.int IntKind.u8 (0:Int),D.int IntKind.u8 (0:Int),D.int IntKind.u8 (0:Int),D.int IntKind.u8 (0:Int),D.int IntKind.u8 (0:Int),D.int IntKind.u8 (0:Int),D.int IntKind.u8 (0:Int),D.int IntKind.u8 (0:Int),D.int IntKind.u8 (0:Int),D.int IntKind.u8 (0:Int),D.int IntKind.u8 (0:Int),D.int IntKind.u8 (0:Int),D.int IntKind.u8 (0:Int),D.int IntKind.u8 (0:Int),D.int IntKind.u8 (0:Int),D.int IntKind.u8 (0:Int),D.int IntKind.u8 (0:Int),D.int IntKind.u8 (0:Int),D.int IntKind.u8 (0:Int),D.int IntKind.u8 (0:Int),D.int IntKind.u8 (0:Int),D.int IntKind.u8 (0:Int),D.int IntKind.u8 (0:Int),D.int IntKind.u8 (0:Int)]]) fun r18=>
          asB r18 fun b19=>
          some (D.bool b19))
          (some (D.bool false)))
        (some (D.bool false))))
theorem zlo (zbl:List D→List Tb→Option Ans) (zaR:List D→List Tb→Option Ans) (zaS:List D→Option D):denT Try.prog (zav [(ID.bench_New,(.st [] [0,0] [(3840,true),(7649,true)] zbl)),(ID.window_Read,(.st [] [1,0] [(3840,false),(7649,false)] zaR)),(ID.wattlekeep_Same_byte,(.pure [0] zaS))]) zfa [0] ID.wattlelaw20_wakes []=sif (D.nohL []=true) (zd4 zbl zaR zaS ):=by kernel_rfl
theorem ziV:zaN []=sif (D.nohL []=true) (zd4 zbl zaR zaS ):=zlo zbl zaR zaS
def ziy:Ann:={ loops:=[(1,[.val (.cell (.hnd (3840:Nat))),.val (.cell .lent),.dead,.val (.cell (.int .i64)),.dead,.dead,.dead,.dead,.dead,.dead,.dead,.dead,.dead,.dead,.dead,.dead,.dead,.dead,.dead,.dead,.dead,.dead,.dead,.dead,.dead,.own 1,.val (.cell (.int .i64)),.val (.cell (.int .i64))])],ks:=[(3840,true),(7649,true)] }
noncomputable def zbE:List D→List Tb→Option Ans:=denS Try.prog (zav [(ID.row_Fill,(.pure [1,0] zcG)),(ID.stripe_up,(.st [] [0] [(3840,false),(7649,false)] zaF)),(ID.bench_Bench_Write,(.st [] [0] [(3840,true),(7649,true)] zba))]) ziy [0] ID.stripe_Write
theorem zmo:za5 Try.prog ID.stripe_Write (.st [] [0] [(3840,true),(7649,true)] zbE):=zbq (zay [zsy,zeS,ziJ]) zby ⟨Try.f33,by kernel_rfl,by kernel_rfl,by kernel_rfl⟩
noncomputable def znc:Fact Try.prog:=⟨ID.stripe_Write,(.st [] [0] [(3840,true),(7649,true)] zbE),zmo⟩
noncomputable def zg3 (zcG:List D→Option D) (zaF:List D→List Tb→Option Ans) (zba:List D→List Tb→Option Ans) (a0:Nat) (a1:List D) (a2_0:Int) (a2_1:Int) (a2_2:Int) (a3:Int) (a4:List D) (T0:Tb) (T1:Tb):Option Ans:=
  zan (zcG [D.agg [D.int IntKind.i64 a2_0,D.int IntKind.i64 a2_1,D.int IntKind.i64 a2_2],D.int IntKind.i64 a3,D.sl Tag.lent a4]) fun r1=>
  zdx r1 fun ts2=>
  zas ([Lf.any,Lf.any]) ts2 fun c3=>
  zbk c3.fst fun l4=>
  asB c3.snd.fst fun b5=>
  brK (!b5)
    (some (Ans.mk (D.int IntKind.i64 (1:Int)) [] [T0,T1]))
    (sif ((0:Nat)+List.length l4≤List.length l4) <|
    sif (List.length l4=List.length l4) <|
    zcs (α:=(Nat×List D×Int×List D×Int×Int×PUnit)×List (List D)×List (List D)×PUnit) (fun again6 ((x7,(l8,(i9,(l10,(i11,(i12,_)))))),(U13,(U14,_)))=>
      brK (decide (i12 < i11))
        (sif ((0:Int)≤i12) <|
        sif (Int.toNat i12 < List.length l10) <|
        getK l10 ((0:Nat)+Int.toNat i12) fun d15=>
        asSl d15 fun t16 l17=>
        zan (zaF [D.h (3840) x7 (0:Nat),D.sl Tag.lent l8,D.int IntKind.i64 i12] [U13,U14]) fun r18=>
        nilK r18.outs <|
        nilK r18.tbs <|
        asB r18.r fun b19=>
        brK (!b19)
          (letN (IntKind.wrap IntKind.i64 (i12+(1:Int))) fun n20=>
          sif (List.length l10=List.length l10) <|
          again6 (((x7,l8,i9,l10,i11,n20,PUnit.unit),U13,U14,PUnit.unit)))
          (letN (IntKind.wrap IntKind.i64 ((36:Int)+i9)) fun n21=>
          zan (zba [D.h (3840) x7 (0:Nat),D.int IntKind.i64 i12,D.int IntKind.i64 n21,D.sl t16 l17] [U13,U14]) fun r22=>
          nilK r22.outs <|
          zdL r22.tbs fun c23 q24=>
          zdL q24 fun c25 q26=>
          nilK q26 <|
          asI IntKind.i64 r22.r fun i27=>
          brK (i27 != (0:Int))
            (some (Ans.mk (D.int IntKind.i64 i27) [] [c23,c25]))
            (letN (IntKind.wrap IntKind.i64 (i12+(1:Int))) fun n28=>
            sif (List.length l10=List.length l10) <|
            again6 (((x7,l8,i9,l10,i11,n28,PUnit.unit),c23,c25,PUnit.unit)))))
        (some (Ans.mk (D.int IntKind.i64 (0:Int)) [] [U13,U14])))
      (((a0,a1,a3,l4,(↑(List.length l4):Int),(0:Int),PUnit.unit),T0,T1,PUnit.unit)))
theorem zqp (zcG:List D→Option D) (zaF:List D→List Tb→Option Ans) (zba:List D→List Tb→Option Ans) (tga1:Tag) (tga4:Tag) (a0:Nat) (a1:List D) (a2_0:Int) (a2_1:Int) (a2_2:Int) (a3:Int) (a4:List D) (T0:Tb) (T1:Tb):denS Try.prog (zav [(ID.row_Fill,(.pure [1,0] zcG)),(ID.stripe_up,(.st [] [0] [(3840,false),(7649,false)] zaF)),(ID.bench_Bench_Write,(.st [] [0] [(3840,true),(7649,true)] zba))]) ziy [0] ID.stripe_Write [.h 3840 a0 0,.sl tga1 a1,.agg [.int .i64 a2_0,.int .i64 a2_1,.int .i64 a2_2],.int .i64 a3,.sl tga4 a4] [T0,T1]=zg3 zcG zaF zba a0 (D.lentL a1) a2_0 a2_1 a2_2 a3 (D.lentL a4) T0 T1:=by kernel_rfl
theorem znd (tga1:Tag) (tga4:Tag) (a0:Nat) (a1:List D) (a2_0:Int) (a2_1:Int) (a2_2:Int) (a3:Int) (a4:List D) (T0:Tb) (T1:Tb):zbE [.h 3840 a0 0,.sl tga1 a1,.agg [.int .i64 a2_0,.int .i64 a2_1,.int .i64 a2_2],.int .i64 a3,.sl tga4 a4] [T0,T1]=zg3 zcG zaF zba a0 (D.lentL a1) a2_0 a2_1 a2_2 a3 (D.lentL a4) T0 T1:=zqp zcG zaF zba tga1 tga4 a0 a1 a2_0 a2_1 a2_2 a3 a4 T0 T1
def ziz:Ann:={ loops:=[(0,[.val (.cell (.hnd (3840:Nat))),.val (.cell .lent),.dead,.dead,.dead,.dead,.dead,.dead,.val (.cell (.int .i64)),.val (.cell (.int .i64))])],ks:=[(3840,false),(7649,true)] }
noncomputable def zbF:List D→List Tb→Option Ans:=denS Try.prog (zav [(ID.bench_Bench_Len,(.st [] [0] [(3840,false)] zaG)),(ID.stripe_up,(.st [] [0] [(3840,false),(7649,false)] zaF)),(ID.bench_Bench_Flush,(.st [] [0] [(3840,false),(7649,true)] zbb))]) ziz [0] ID.stripe_Flush
theorem zmp:za5 Try.prog ID.stripe_Flush (.st [] [0] [(3840,false),(7649,true)] zbF):=zbq (zay [zfm,zeS,ziL]) zby ⟨Try.f34,by kernel_rfl,by kernel_rfl,by kernel_rfl⟩
noncomputable def zne:Fact Try.prog:=⟨ID.stripe_Flush,(.st [] [0] [(3840,false),(7649,true)] zbF),zmp⟩
noncomputable def zg4 (zaG:List D→List Tb→Option Ans) (zaF:List D→List Tb→Option Ans) (zbb:List D→List Tb→Option Ans) (a0:Nat) (a1:List D) (T0:Tb) (T1:Tb):Option Ans:=
  zan (zaG [D.h (3840:Nat) a0 (0:Nat)] [T0]) fun r1=>
  nilK r1.outs <|
  nilK r1.tbs <|
  asI IntKind.i64 r1.r fun i2=>
  zcs (α:=(Nat×List D×Int×Int×PUnit)×List (List D)×List (List D)×PUnit) (fun again3 ((x4,(l5,(i6,(i7,_)))),(U8,(U9,_)))=>
    brK (decide (i7 < i6))
      (zan (zaF [D.h (3840) x4 (0:Nat),D.sl Tag.lent l5,D.int IntKind.i64 i7] [U8,U9]) fun r10=>
      nilK r10.outs <|
      nilK r10.tbs <|
      asB r10.r fun b11=>
      brK (!b11)
        (letN (IntKind.wrap IntKind.i64 (i7+(1:Int))) fun n12=>
        again3 (((x4,l5,i6,n12,PUnit.unit),U8,U9,PUnit.unit)))
        (zan (zbb [D.h (3840) x4 (0:Nat),D.int IntKind.i64 i7] [U8,U9]) fun r13=>
        nilK r13.outs <|
        zdL r13.tbs fun c14 q15=>
        nilK q15 <|
        asI IntKind.i64 r13.r fun i16=>
        brK (i16 != (0:Int))
          (some (Ans.mk (D.int IntKind.i64 i16) [] [c14]))
          (letN (IntKind.wrap IntKind.i64 (i7+(1:Int))) fun n17=>
          again3 (((x4,l5,i6,n17,PUnit.unit),U8,c14,PUnit.unit)))))
      (some (Ans.mk (D.int IntKind.i64 (0:Int)) [] [U9])))
    (((a0,a1,i2,(0:Int),PUnit.unit),T0,T1,PUnit.unit))
theorem zqq (zaG:List D→List Tb→Option Ans) (zaF:List D→List Tb→Option Ans) (zbb:List D→List Tb→Option Ans) (tga1:Tag) (a0:Nat) (a1:List D) (T0:Tb) (T1:Tb):denS Try.prog (zav [(ID.bench_Bench_Len,(.st [] [0] [(3840,false)] zaG)),(ID.stripe_up,(.st [] [0] [(3840,false),(7649,false)] zaF)),(ID.bench_Bench_Flush,(.st [] [0] [(3840,false),(7649,true)] zbb))]) ziz [0] ID.stripe_Flush [.h 3840 a0 0,.sl tga1 a1] [T0,T1]=zg4 zaG zaF zbb a0 (D.lentL a1) T0 T1:=by kernel_rfl
theorem znf (tga1:Tag) (a0:Nat) (a1:List D) (T0:Tb) (T1:Tb):zbF [.h 3840 a0 0,.sl tga1 a1] [T0,T1]=zg4 zaG zaF zbb a0 (D.lentL a1) T0 T1:=zqq zaG zaF zbb tga1 a0 a1 T0 T1
def ziA:Ann:={ loops:=[(1,[.val (.cell (.hnd (3840:Nat))),.val (.cell .lent),.dead,.dead,.val (.cell (.int .i64)),.val (.cell .lent),.dead,.dead,.box true [(.int .i64),(.int .i64),(.int .i64)],.box true [(.int .i64),(.int .i64),(.int .i64)],.dead,.dead,.dead,.val (.cell (.int .i64)),.dead,.dead,.dead,.dead,.dead,.dead,.dead,.dead,.dead,.dead,.dead,.dead,.dead,.dead,.dead,.dead,.dead,.dead,.dead,.dead,.dead,.dead,.dead,.dead,.dead,.dead,.dead,.dead,.dead,.val (.cell .lent),.val (.cell (.int .i64)),.val (.cell (.int .i64))]),(4,[.val (.cell (.hnd 3840)),.val (.cell .lent),.dead,.dead,.val (.cell (.int .i64)),.val (.cell .lent),.dead,.dead,.dead,.box true [(.int .i64),(.int .i64),(.int .i64)],.dead,.dead,.dead,.val (.cell (.int .i64)),.dead,.dead,.dead,.val (.cell (.int .i64)),.val (.cell (.int .i64))]),(6,[.val (.cell (.hnd 3840)),.val (.cell .lent),.dead,.dead,.val (.cell (.int .i64)),.val (.cell .lent),.dead,.dead,.dead,.box true [(.int .i64),(.int .i64),(.int .i64)],.dead,.dead,.dead,.val (.cell (.int .i64)),.dead,.dead,.dead,.val (.cell (.int .i64)),.val (.cell (.int .i64)),.own 1,.dead,.dead,.dead,.dead,.dead,.dead,.dead,.dead,.dead,.dead,.dead,.dead,.dead,.dead,.dead,.dead,.dead,.dead,.dead,.dead,.dead,.dead,.dead,.dead,.dead,.dead,.dead,.dead,.dead,.dead,.dead,.dead,.dead,.dead,.dead,.dead,.dead,.dead,.dead,.dead,.dead,.dead,.dead,.dead,.dead,.dead,.dead,.dead,.dead,.own 1,.val (.cell (.int .i64)),.val (.cell (.int .i64))])],ks:=[(3840,true),(7649,true)] }
noncomputable def zbg:List D→List Tb→Option Ans:=denS Try.prog (zav [(ID.plan_Span,(.pure [0,0] zbx)),(ID.window_may,(.pure [0] zbo)),(ID.plan_Rows,(.pure [0] zaX)),(ID.place_Numbers,(.pure [1] zaM)),(ID.stripe_Write,(.st [] [0] [(3840,true),(7649,true)] zbE)),(ID.stripe_Flush,(.st [] [0] [(3840,false),(7649,true)] zbF))]) ziA [0] ID.window_Write
theorem zmq:za5 Try.prog ID.window_Write (.st [] [0] [(3840,true),(7649,true)] zbg):=zbq (zay [zkD,zjK,zgY,zgJ,znc,zne]) zby ⟨Try.f60,by kernel_rfl,by kernel_rfl,by kernel_rfl⟩
noncomputable def zng:Fact Try.prog:=⟨ID.window_Write,(.st [] [0] [(3840,true),(7649,true)] zbg),zmq⟩
noncomputable def zg5 (zbx:List D→Option D) (zbo:List D→Option D) (zaX:List D→Option D) (zaM:List D→Option D) (zbE:List D→List Tb→Option Ans) (zbF:List D→List Tb→Option Ans) (a0:Nat) (a1:List D) (a2_0:Int) (a2_1:Int) (a2_2:Int) (a3_0:Int) (a3_1:Int) (a3_2:Int) (a4:Int) (a5:List D) (T0:Tb) (T1:Tb):Option Ans:=
  zan (zbx [D.agg [D.int IntKind.i64 a2_0,D.int IntKind.i64 a2_1,D.int IntKind.i64 a2_2],D.agg [D.int IntKind.i64 a3_0,D.int IntKind.i64 a3_1,D.int IntKind.i64 a3_2],D.int IntKind.i64 a4]) fun r1=>
  zdx r1 fun ts2=>
  zas ([Lf.any,Lf.any]) ts2 fun c3=>
  asI IntKind.i64 c3.fst fun i4=>
  asI IntKind.i64 c3.snd.fst fun i5=>
  zan (zbo [D.agg [D.int IntKind.i64 a2_0,D.int IntKind.i64 a2_1,D.int IntKind.i64 a2_2],D.agg [D.int IntKind.i64 a3_0,D.int IntKind.i64 a3_1,D.int IntKind.i64 a3_2],D.int IntKind.i64 a4]) fun r6=>
  asB r6 fun b7=>
  brK (!b7)
    (some (Ans.mk (D.int IntKind.i64 (1:Int)) [] [T0,T1]))
    (letN (IntKind.wrap IntKind.i64 (i5 - i4)) fun n8=>
    brK ((↑(List.length a5):Int) != n8)
      (some (Ans.mk (D.int IntKind.i64 (1:Int)) [] [T0,T1]))
      (zcs (α:=(Nat×List D×Int×List D×(Int×Int×Int×PUnit)×(Int×Int×Int×PUnit)×Int×List D×Int×Int×PUnit)×List (List D)×List (List D)×PUnit) (fun again9 ((x10,(l11,(i12,(l13,((i14,(i15,(i16,_))),((i17,(i18,(i19,_))),(i20,(l21,(i22,(i23,_)))))))))),(U24,(U25,_)))=>
        brK (decide (i23 < i22))
          (sif ((0:Int)≤i23) <|
          getK l21 (Int.toNat i23) fun d26=>
          asSl d26 fun t27 l28=>
          brK ((↑(List.length l28):Int) != (32:Int))
            (some (Ans.mk (D.int IntKind.i64 (1:Int)) [] [U24,U25]))
            (letN (IntKind.wrap IntKind.i64 (i23+(1:Int))) fun n29=>
            again9 (((x10,l11,i12,l13,(i14,i15,i16,PUnit.unit),(i17,i18,i19,PUnit.unit),i20,l21,i22,n29,PUnit.unit),U24,U25,PUnit.unit))))
          (zan (zaX [D.agg [D.int IntKind.i64 i14,D.int IntKind.i64 i15,D.int IntKind.i64 i16],D.agg [D.int IntKind.i64 i17,D.int IntKind.i64 i18,D.int IntKind.i64 i19]]) fun r30=>
          asI IntKind.i64 r30 fun i31=>
          letN (IntKind.wrap IntKind.i64 (i12*i31)) fun n32=>
          zcs (α:=(Nat×List D×Int×List D×(Int×Int×Int×PUnit)×Int×Int×Int×PUnit)×List (List D)×List (List D)×PUnit) (fun again33 ((x34,(l35,(i36,(l37,((i38,(i39,(i40,_))),(i41,(i42,(i43,_)))))))),(U44,(U45,_)))=>
            letN (IntKind.wrap IntKind.i64 (i36+(1:Int))) fun n46=>
            letN (IntKind.wrap IntKind.i64 (n46*i42)) fun n47=>
            brK (decide (i43 < n47))
              (zan (zaM [D.agg [D.int IntKind.i64 i38,D.int IntKind.i64 i39,D.int IntKind.i64 i40],D.int IntKind.i64 i43]) fun r48=>
              zbk r48 fun l49=>
              sif ((0:Nat)+List.length l49≤List.length l49) <|
              sif (List.length l49=List.length l49) <|
              zcs (α:=(Nat×List D×Int×List D×(Int×Int×Int×PUnit)×Int×Int×Int×List D×List D×Int×Int×PUnit)×List (List D)×List (List D)×PUnit) (fun again50 ((x51,(l52,(i53,(l54,((i55,(i56,(i57,_))),(i58,(i59,(i60,(l61,(l62,(i63,(i64,_)))))))))))),(U65,(U66,_)))=>
                brK (decide (i64 < i63))
                  (sif ((0:Int)≤i64) <|
                  sif (Int.toNat i64 < List.length l62) <|
                  getK l62 ((0:Nat)+Int.toNat i64) fun d67=>
                  asI IntKind.i64 d67 fun i68=>
                  letN (IntKind.wrap IntKind.i64 (i68 - i58)) fun n69=>
                  sif ((0:Int)≤n69) <|
                  getK l54 (Int.toNat n69) fun d70=>
                  asSl d70 fun t71 l72=>
                  sif (List.length l61+(1:Nat)≤(4294967296:Nat)) <|
                  sif (List.length l61=List.length l61) <|
                  letN (IntKind.wrap IntKind.i64 (i64+(1:Int))) fun n73=>
                  sif (List.length l61+(1:Nat)=List.length (l61++[D.sl t71 l72])) <|
                  sif (List.length l62=List.length l62) <|
                  again50 (((x51,l52,i53,l54,(i55,i56,i57,PUnit.unit),i58,i59,i60,l61++[D.sl t71 l72],l62,i63,n73,PUnit.unit),U65,U66,PUnit.unit)))
                  (sif ((0:Nat)+List.length l61≤List.length l61) <|
                  zan (zbE [D.h (3840) x51 (0:Nat),D.sl Tag.lent l52,D.agg [D.int IntKind.i64 i55,D.int IntKind.i64 i56,D.int IntKind.i64 i57],D.int IntKind.i64 i60,D.sl Tag.lent (cut (0:Nat) (List.length l61) l61)] [U65,U66]) fun r74=>
                  nilK r74.outs <|
                  zdL r74.tbs fun c75 q76=>
                  zdL q76 fun c77 q78=>
                  nilK q78 <|
                  asI IntKind.i64 r74.r fun i79=>
                  brK (i79 != (0:Int))
                    (some (Ans.mk (D.int IntKind.i64 i79) [] [c75,c77]))
                    (letN (IntKind.wrap IntKind.i64 (i60+(1:Int))) fun n80=>
                    again33 (((x51,l52,i53,l54,(i55,i56,i57,PUnit.unit),i58,i59,n80,PUnit.unit),c75,c77,PUnit.unit)))))
                (((x34,l35,i36,l37,(i38,i39,i40,PUnit.unit),i41,i42,i43,[],l49,(↑(List.length l49):Int),(0:Int),PUnit.unit),U44,U45,PUnit.unit)))
              (zan (zbF [D.h (3840) x34 (0:Nat),D.sl Tag.lent l35] [U44,U45]) fun r81=>
              nilK r81.outs <|
              zdL r81.tbs fun c82 q83=>
              nilK q83 <|
              asI IntKind.i64 r81.r fun i84=>
              some (Ans.mk (D.int IntKind.i64 i84) [] [U44,c82])))
            (((x10,l11,i12,l13,(i17,i18,i19,PUnit.unit),i20,i31,n32,PUnit.unit),U24,U25,PUnit.unit))))
        (((a0,a1,a4,a5,(a2_0,a2_1,a2_2,PUnit.unit),(a3_0,a3_1,a3_2,PUnit.unit),i4,a5,(↑(List.length a5):Int),(0:Int),PUnit.unit),T0,T1,PUnit.unit))))
theorem zqr (zbx:List D→Option D) (zbo:List D→Option D) (zaX:List D→Option D) (zaM:List D→Option D) (zbE:List D→List Tb→Option Ans) (zbF:List D→List Tb→Option Ans) (tga1:Tag) (tga5:Tag) (a0:Nat) (a1:List D) (a2_0:Int) (a2_1:Int) (a2_2:Int) (a3_0:Int) (a3_1:Int) (a3_2:Int) (a4:Int) (a5:List D) (T0:Tb) (T1:Tb):denS Try.prog (zav [(ID.plan_Span,(.pure [0,0] zbx)),(ID.window_may,(.pure [0] zbo)),(ID.plan_Rows,(.pure [0] zaX)),(ID.place_Numbers,(.pure [1] zaM)),(ID.stripe_Write,(.st [] [0] [(3840,true),(7649,true)] zbE)),(ID.stripe_Flush,(.st [] [0] [(3840,false),(7649,true)] zbF))]) ziA [0] ID.window_Write [.h 3840 a0 0,.sl tga1 a1,.agg [.int .i64 a2_0,.int .i64 a2_1,.int .i64 a2_2],.agg [.int .i64 a3_0,.int .i64 a3_1,.int .i64 a3_2],.int .i64 a4,.sl tga5 a5] [T0,T1]=zg5 zbx zbo zaX zaM zbE zbF a0 (D.lentL a1) a2_0 a2_1 a2_2 a3_0 a3_1 a3_2 a4 (D.lentL a5) T0 T1:=by kernel_rfl
theorem znh (tga1:Tag) (tga5:Tag) (a0:Nat) (a1:List D) (a2_0:Int) (a2_1:Int) (a2_2:Int) (a3_0:Int) (a3_1:Int) (a3_2:Int) (a4:Int) (a5:List D) (T0:Tb) (T1:Tb):zbg [.h 3840 a0 0,.sl tga1 a1,.agg [.int .i64 a2_0,.int .i64 a2_1,.int .i64 a2_2],.agg [.int .i64 a3_0,.int .i64 a3_1,.int .i64 a3_2],.int .i64 a4,.sl tga5 a5] [T0,T1]=zg5 zbx zbo zaX zaM zbE zbF a0 (D.lentL a1) a2_0 a2_1 a2_2 a3_0 a3_1 a3_2 a4 (D.lentL a5) T0 T1:=zqr zbx zbo zaX zaM zbE zbF tga1 tga5 a0 a1 a2_0 a2_1 a2_2 a3_0 a3_1 a3_2 a4 a5 T0 T1
def zec:Ann:={ loops:=[],ks:=[(3840,false)] }
noncomputable def zaK:List D→List Tb→Option Ans:=denS Try.prog (zav []) zec [0] ID.bench_counter_Writes
theorem zgr:za5 Try.prog ID.bench_counter_Writes (.st [] [0] [(3840,false)] zaK):=zbq (zay []) zby ⟨Try.f37,by kernel_rfl,by kernel_rfl,by kernel_rfl⟩
noncomputable def zg6:Fact Try.prog:=⟨ID.bench_counter_Writes,(.st [] [0] [(3840,false)] zaK),zgr⟩
noncomputable def zdc (a0:Nat) (T0:Tb):Option Ans:=
  getK T0 a0 fun d1=>
  getK d1 ((0:Nat)) fun d2=>
  asI IntKind.i64 d2 fun i3=>
  some (Ans.mk (D.int IntKind.i64 i3) [] [])
theorem ziW (a0:Nat) (T0:Tb):denS Try.prog (zav []) zec [0] ID.bench_counter_Writes [.h 3840 a0 0] [T0]=zdc a0 T0:=by kernel_rfl
theorem zg7 (a0:Nat) (T0:Tb):zaK [.h 3840 a0 0] [T0]=zdc a0 T0:=ziW a0 T0
end Wf

namespace Wf
open Go Go.RowKit Go.Proofs
set_option linter.unusedSimpArgs false
set_option linter.unusedVariables false
theorem zua (c:Int):zaH [.sl .full [.int .i64 1,.int .i64 2,.int .i64 4],.int .i64 c]=some (.bool (c == 1 || c == 2 || c == 4)):=by
  rw [zfD]
  unfold zcN
  rw [zgQ]
  unfold zda
  obtain ⟨m,hm⟩:=ztS
  by_cases h1:c=1<;>by_cases h2:c=2<;>by_cases h4:c=4<;>
    simp [zcs,hm,fixN,zbQ,h1,h2,h4,zah]<;>omega
theorem zeQ (l d c:Int):zai [gD l d c]=some (iD (if zc4 l d c then 0 else 1)):=by
  rw [zpm]
  unfold zjn
  have hc:=zua c
  unfold zc4
  obtain ⟨q,hq⟩:∃ q,(c == 1 || c == 2 || c == 4)=q:=⟨_,rfl⟩
  rw [hq] at hc ⊢
  by_cases h5:l=5
  · subst h5
    by_cases h3:d < 3<;>by_cases h8:8 < d<;>cases q<;>simp [zwO,zhd,setD,hc,zbQ,h3,h8]<;>omega
  · by_cases h6:l=6
    · subst h6
      by_cases h3:d < 4<;>by_cases h8:8 < d<;>cases q<;>simp [zwO,zhd,setD,hc,zbQ,h3,h8]<;>omega
    · simp [zwO,zhd,setD,hc,zbQ,h5,h6]
theorem zpK (l d c:Int):za8 [gD l d c]=some (iD (zkV l d c)):=by
  rw [znT]
  unfold zh8 zkV
  rw [zeQ]
  cases h:zc4 l d c
  · simp [zbQ]
  · have:=zel.1 h
    simp [zbQ]
    exact zah (by omega) (by omega)
theorem zj3 (l d c:Int):zab [gD l d c]=some (iD (zf1 l d c)):=by
  rw [zpq]
  unfold zjt zf1
  rw [zeQ,zpK]
  unfold zkV
  cases h:zc4 l d c
  · simp [zbQ]
  · have:=zel.1 h
    simp [zbQ]
    exact zah (by omega) (by omega)
theorem zsF (l d c:Int):zaI [gD l d c]=some (iD (capG l d c)):=by
  rw [zml]
  unfold zgj capG
  rw [zj3]
  have:=zAb l d c
  simp
  exact zah (by omega) (by omega)
theorem zmr (l d c:Int):zak [gD l d c]=some (.bool (zc4 l d c)):=by
  rw [ziE]
  unfold zdX zc4
  by_cases h5:l=5
  · subst h5
    by_cases h3:3≤d<;>by_cases h8:d≤8<;>simp [zbQ,h3,h8]<;>by_cases h1:c=1<;>by_cases h2:c=2<;>simp [h1,h2]<;>omega
  · by_cases h6:l=6
    · subst h6
      by_cases h3:4≤d<;>by_cases h8:d≤8<;>simp [zbQ,h3,h8]<;>by_cases h1:c=1<;>by_cases h2:c=2<;>simp [h1,h2]<;>omega
    · simp [zbQ,h5,h6]
theorem zw9 (l d c:Int):za3 [gD l d c]=some (iD (zkV l d c)):=by
  rw [zh4]
  unfold zdD zkV
  rw [zmr]
  cases h:zc4 l d c
  · simp [zbQ]
  · have:=zel.1 h
    simp [zbQ]
    exact zah (by omega) (by omega)
theorem zpL (l d c:Int):zau [gD l d c]=some (iD (zf1 l d c)):=by
  rw [ziF]
  unfold zdY zf1
  rw [zmr,zw9]
  unfold zkV
  cases h:zc4 l d c
  · simp [zbQ]
  · have:=zel.1 h
    simp [zbQ]
    exact zah (by omega) (by omega)
theorem zwk (a n:Int) (h:1≤n) (h9:n < 1000000000):zaa [.int .i64 a,.int .i64 n]=some (iD (a % n)):=by
  rw [ziD]
  unfold zdW
  have hm:=zw0 a n h
  have hlt:=Int.lt_tmod_of_pos a (show 0 < n by omega)
  have h1:¬ n < 1:=by omega
  have h0:n≠0:=by omega
  rcases hm with ⟨k1,k2⟩ | ⟨k1,k2⟩
  · simp [zbQ,h1,h0,Int.not_lt.2 k1,k2]
  · simp [zbQ,h1,h0,k1,k2]
    exact zah (by omega) (by omega)
theorem zhH (g:Geo):zab [gD g.l g.d g.c]=some (iD g.width):=zj3 ..
theorem zyQ (g:Geo):zaI [gD g.l g.d g.c]=some (iD g.cap):=zsF ..
theorem zxa (g:Geo):zau [gD g.l g.d g.c]=some (iD g.width):=zpL ..
section
variable (a b c x y z k:Int)
end
section
variable (g:Geo) (a row k:Int)
theorem zsG:zbe [g.D,.int .i64 row]=some (.bool (zcM g row)):=by
  unfold Geo.D
  rw [zsj]
  unfold zmS
  rw [zeQ]
  unfold zcM Geo.ok
  cases zc4 g.l g.d g.c<;>simp [zbQ]<;>(by_cases h:0≤row<;>simp [h])
theorem zub:zaA [g.D,.int .i64 row]=some (.tup [iD (parP g row).1,iD (parP g row).2]):=by
  have hi:=zsG g row
  unfold Geo.D at*
  rw [zmT]
  unfold zgS
  rw [hi]
  unfold parP
  cases h:zcM g row
  · simp [zbQ]
  · obtain ⟨hk,h0,h1⟩:=zb2.1 h
    have hd:=ok_d hk
    have hv:=zDq hk h0
    have hp:=zrc hk row
    have w1:IntKind.i64.wrap (g.d - 1)=g.d - 1:=zah (by omega) (by omega)
    have w2:IntKind.i64.wrap (row.tdiv g.c)=row / g.c:=by rw [zyM hk h0]; exact zah (by omega) (by omega)
    have w3:IntKind.i64.wrap (g.d - 1 - (row / g.c).tmod g.d)=parA g row:=by rw [zrb hv.1]; exact zah (by unfold parA at hp; omega) (by unfold parA at hp; omega)
    have w4:IntKind.i64.wrap (parA g row+1)=parA g row+1:=zah (by omega) (by omega)
    have t4:(parA g row+1).tmod g.d=(parA g row+1) % g.d:=zrb (by omega)
    by_cases h5:g.l=5
    · simp [zbQ,show g.c≠0 by omega,show g.d≠0 by omega,w1,w2,w3,h5]
    · simp [zbQ,show g.c≠0 by omega,show g.d≠0 by omega,w1,w2,w3,h5,w4,t4]
theorem zrn:zaJ [g.D,.int .i64 row,.int .i64 k]=some (iD (zeF g row k)):=by
  have hi:=zsG g row
  have hp:=zub g row
  unfold Geo.D at*
  rw [zpr]
  unfold zju
  rw [hi,hp,zhH,zpK]
  unfold zeF
  cases h:zcM g row
  · simp [zbQ]
  · obtain ⟨hk,h0,h1⟩:=zb2.1 h
    have hd:=ok_d hk
    have hw:=zce hk
    have hb:=zyL hk
    have hl:=zd8.1 hk
    have hpa:=zrc hk row
    by_cases k0:k < 0
    · simp [zbQ,k0,show ¬ 0≤k by omega]
    · by_cases k1:g.width≤k
      · simp [zbQ,k0,k1,show ¬ k < g.width by omega]
      · have w1:IntKind.i64.wrap (parA g row+(g.l - 4))=parA g row+(g.l - 4):=zah (by omega) (by omega)
        have w2:IntKind.i64.wrap (parA g row+(g.l - 4)+k)=parA g row+(g.l - 4)+k:=zah (by omega) (by omega)
        have t2:(parA g row+(g.l - 4)+k).tmod g.d=(parA g row+(g.l - 4)+k) % g.d:=zrb (by omega)
        have hp1:(parP g row).1=parA g row:=by unfold parP; simp [h]
        simp [zbQ,k0,k1,show 0≤k by omega,show k < g.width by omega,hb,hp1,w1,w2,t2,show g.d≠0 by omega]
theorem zAl:zcw [g.D,.int .i64 a]=some (ofD (ofP g a)):=by
  have hdk:=fun row k=>zrn g row k
  unfold Geo.D at*
  rw [zsD]
  unfold zm8
  rw [zhH,zyQ]
  unfold ofP ofD
  by_cases h0:a < 0
  · simp [zbQ,h0,show ¬ 0≤a by omega]
  · by_cases h1:g.cap≤a
    · simp [zbQ,h0,h1,show ¬ a < g.cap by omega]
    · have h0:0≤a:=by omega
      have h1:a < g.cap:=by omega
      have hk:=zwg h0 h1
      have hd:=ok_d hk
      have hw:=zce hk
      have hv:=zDq hk h0
      have hr:=zwh h0 h1
      have hca:g.cap=g.width*16:=rfl
      have hvw:a / g.c / g.width≤a / g.c:=Int.ediv_le_self _ hv.1
      have w1:IntKind.i64.wrap (a.tdiv g.c)=a / g.c:=by rw [zyM hk h0]; exact zah (by omega) (by omega)
      have w2:IntKind.i64.wrap ((a / g.c).tdiv g.width)=a / g.c / g.width:=by rw [Int.tdiv_eq_ediv_of_nonneg hv.1]; exact zah (by omega) (by omega)
      have hm:0≤a / g.c / g.width*g.c:=Int.mul_nonneg hr.2.2.1 (by omega)
      have w3:IntKind.i64.wrap (a / g.c / g.width*g.c)=a / g.c / g.width*g.c:=zah (by omega) (by omega)
      have w4:IntKind.i64.wrap (a / g.c / g.width*g.c+a.tmod g.c)=rowG g a:=by rw [zrb h0]; exact zah (by omega) (by omega)
      have t5:(a / g.c).tmod g.width=ze0 g a:=zrb hv.1
      simp [zbQ,h0,h1,show ¬ a < 0 by omega,show ¬ g.cap≤a by omega,w1,w2,w3,w4,t5,show g.c≠0 by omega,show g.width≠0 by omega,hdk]
end
section
variable (l d c a row k:Int)
end
section
variable (g:Geo) (row k:Int)
theorem zuc (h:zcM g row=true) (k0:0≤k) (k1:k≤8):zbO [gD g.l g.d g.c,.int .i64 row,.int .i64 k]=some (iD (numP g row k)):=by
  obtain ⟨hk,h0,h1⟩:=zb2.1 h
  obtain ⟨w1,w2,w3,w4,w5⟩:=zCd hk h0 h1 k0 k1
  have hd:=ok_d hk
  rw [zna]
  unfold zg0
  rw [zhH]
  simp [show g.c≠0 by omega,w1,w2,w3,w4,w5]
theorem zxb:zaM [g.D,.int .i64 row]=some (.sl .own (zuW g row)):=by
  have hi:=zsG g row
  unfold Geo.D at*
  rw [zmn]
  unfold zgk
  rw [hi,zhH]
  unfold zuW
  cases h:zcM g row
  · simp [zbQ]
  · obtain ⟨hk,h0,h1⟩:=zb2.1 h
    have hw:=zce hk
    simp only [zad,zcl,zbQ,iD,zbp,Bool.not_true,Bool.false_eq_true,if_false,if_true]
    refine zfK (fun a=>(g.width - a.1.2.2.2.2.1).toNat) (fun _=>some (D.sl Tag.own (numD g row g.width.toNat))) (fun a=>∃ n:Nat,n≤g.width∧
      a=((row,(g.l,g.d,g.c,PUnit.unit),numD g row n,g.width,(n:Int),PUnit.unit),PUnit.unit)) ?_ ⟨0,by omega,rfl⟩ ?_
    rotate_left
    · simp; omega
    rintro again _ ⟨n,hn,rfl⟩ ih
    dsimp only
    by_cases hl:(n:Int) < g.width
    · have:=ih _ ⟨n+1,by omega,rfl⟩ (by dsimp only; omega)
      have wn:IntKind.i64.wrap ((n:Int)+1)=(n:Int)+1:=zah (by omega) (by omega)
      rw [zyN] at this
      simp [hl,zuc g row n h (by omega) (by omega),zh0,wn,show n+1≤4294967296 by omega]
      simpa using this
    · have hnw:g.width.toNat=n:=by omega
      simp only [hl,decide_false,hnw,Bool.false_eq_true,if_false]
      simp [zh0,zyO]
end
section
variable (l d c row k:Int)
end
end Wf

namespace Wf
open Go Go.RowKit Go.Proofs
set_option linter.unusedSimpArgs false
set_option linter.unusedVariables false
theorem zAm (l d c x y z:Int):zcH [gD l d c,gD x y z]=some (.bool (canG l d c x y z)):=by
  rw [zsB]
  unfold zm6 canG
  rw [zeQ,zeQ,zj3,zj3]
  cases h:zc4 l d c<;>cases k:zc4 x y z<;>simp [zbQ]
  by_cases h1:l=x<;>by_cases h2:d=y<;>by_cases h3:c=z<;>by_cases h4:d≤y<;>by_cases h5:l≤x<;>simp [h1,h2,h3,h4,h5]<;>omega
theorem zsH (l d c x y z:Int):zaf [gD l d c,gD x y z]=some (.bool (canG l d c x y z)):=by
  rw [zka]
  unfold zeG canG
  rw [zmr,zmr,zpL,zpL]
  cases h:zc4 l d c<;>cases k:zc4 x y z<;>simp [zbQ]
  by_cases h1:l=x<;>by_cases h2:d=y<;>by_cases h3:c=z<;>by_cases h4:d≤y<;>by_cases h5:l≤x<;>simp [h1,h2,h3,h4,h5]<;>omega
theorem zyR (m n:Int):∃ x y:Geo,zbr [.int .i64 m,.int .i64 n]=some (.tup [x.D,y.D])∧x.can y=true∧x.d≤5∧y.d≤8:=by
  rw [zkc]
  unfold zeH
  have e2:IntKind.i64.wrap (m.tdiv 2)=qn m 2:=rfl
  have e6:IntKind.i64.wrap (m.tdiv 6)=qn m 6:=rfl
  have e3:IntKind.i64.wrap (n.tdiv 3)=qn n 3:=rfl
  have e9:IntKind.i64.wrap (n.tdiv 9)=qn n 9:=rfl
  have w3:IntKind.i64.wrap (3+m % 2)=3+m % 2:=zah (by omega) (by omega)
  have w4:IntKind.i64.wrap (4+m % 2)=4+m % 2:=zah (by omega) (by omega)
  have w31:IntKind.i64.wrap (3+m % 2+1)=3+m % 2+1:=zah (by omega) (by omega)
  have w3n:IntKind.i64.wrap (3+m % 2+n % 3)=3+m % 2+n % 3:=zah (by omega) (by omega)
  have w4n:IntKind.i64.wrap (4+m % 2+n % 3)=4+m % 2+n % 3:=zah (by omega) (by omega)
  have w3n1:IntKind.i64.wrap (3+m % 2+n % 3+1)=3+m % 2+n % 3+1:=zah (by omega) (by omega)
  have w4n1:IntKind.i64.wrap (4+m % 2+n % 3+1)=4+m % 2+n % 3+1:=zah (by omega) (by omega)
  have wmx:IntKind.i64.wrap (max (3+m % 2+n % 3) (3+m % 2+1)+1)=max (3+m % 2+n % 3) (3+m % 2+1)+1:=zah (by omega) (by omega)
  have h0:0≤qn m 2 % 3:=by omega
  have h3:qn m 2 % 3 < 3:=by omega
  have k0:0≤qn n 3 % 3:=by omega
  have k3:qn n 3 % 3 < 3:=by omega
  simp only [zwk _ _ (show (1:Int)≤2 by decide) (show (2:Int) < 1000000000 by decide),zwk _ _ (show (1:Int)≤3 by decide) (show (3:Int) < 1000000000 by decide),zwk _ _ (show (1:Int)≤4 by decide) (show (4:Int) < 1000000000 by decide),
    zad,iD,zbp,zaZ,e2,e6,e3,e9,w3,w4,w31,w3n,w4n,w3n1,w4n1,wmx,zae h0,zae k0,zwe _ h0 h3,zwe _ k0 k3,zsH,zcl]
  obtain ⟨a,ha⟩:∃ a,(if qn m 2 % 3=0 then (1:Int) else if qn m 2 % 3=1 then 2 else 4)=a:=⟨_,rfl⟩
  obtain ⟨b,hb⟩:∃ a,(if qn n 3 % 3=0 then (1:Int) else if qn n 3 % 3=1 then 2 else 4)=a:=⟨_,rfl⟩
  have ha':a=1∨a=2∨a=4:=by rw [←ha]; (repeat' split)<;>simp
  have hb':b=1∨b=2∨b=4:=by rw [←hb]; (repeat' split)<;>simp
  rw [ha,hb]
  have hm:m % 2=0∨m % 2=1:=by omega
  have hn:n % 3=0∨n % 3=1∨n % 3=2:=by omega
  clear e2 e6 e3 e9 w3 w4 w31 w3n w4n w3n1 w4n1 wmx h0 h3 k0 k3 ha hb
  generalize m % 2=p at*
  generalize n % 3=q at*
  generalize qn m 6 % 4=s1 at*
  generalize qn n 9 % 2=s2 at*
  have key:∀ (l l' d d':Int),3≤d→d≤5→d≤d'→d'≤7→(l=5∨l=6∧4≤d)→(l'=l∨l=5∧l'=6∧d < d')→
      ∃ x y:Geo,brK (!canG l d a l' d' b) (some (D.tup [gD l d a,gD l' (d'+1) b])) (some (D.tup [gD l d a,gD l' d' b]))=some (.tup [x.D,y.D])∧x.can y=true∧x.d≤5∧y.d≤8:=by
    intro l l' d d' h1 h2 h3 h4 h5 h6
    have v1:zc4 l d a=true:=by rw [zel]; omega
    have v2:zc4 l' d' b=true:=by rw [zel]; omega
    have v3:zc4 l' (d'+1) b=true:=by rw [zel]; omega
    cases hc:canG l d a l' d' b
    · refine ⟨⟨l,d,a⟩,⟨l',d'+1,b⟩,rfl,zhZ.2 ⟨v1,v3,?_,?_,?_,?_⟩,h2,by dsimp only; omega⟩
      · simp only [ne_eq,Geo.mk.injEq]; omega
      · dsimp only; omega
      · dsimp only; omega
      · simp only [zf1,v1,v3,if_true]; omega
    · exact ⟨⟨l,d,a⟩,⟨l',d',b⟩,rfl,hc,h2,by dsimp only; omega⟩
  by_cases q1:s1=3
  · rw [show (s1 == 3)=true from by simp [q1],za6]
    have:=key 6 6 (4+p) (4+p+q) (by omega) (by omega) (by omega) (by omega) (by omega) (by omega)
    exact this
  · rw [show (s1 == 3)=false from by simpa using q1,zaw]
    by_cases q2:s2=1
    · rw [show (s2 == 1)=true from by simp [q2],za6]
      have:=key 5 6 (3+p) (max (3+p+q) (3+p+1)) (by omega) (by omega) (by omega) (by omega) (by omega) (by omega)
      exact this
    · rw [show (s2 == 1)=false from by simpa using q2,zaw]
      have:=key 5 5 (3+p) (3+p+q) (by omega) (by omega) (by omega) (by omega) (by omega) (by omega)
      exact this
theorem zpM (x y:Geo):zaX [x.D,y.D]=some (iD (zaQ x y)):=by
  unfold Geo.D
  rw [zqk]
  unfold zlk
  rw [zAm]
  show zan (some (D.bool (x.can y))) _=_
  cases h:x.can y
  · simp [zbQ,zkX h]
  · simp [zbQ,zkW h]
theorem znJ (x y:Geo):zaV [x.D,y.D]=some (iD (winP x y)):=by
  have hr:=zpM x y
  unfold Geo.D at*
  rw [zm7]
  unfold zgZ
  rw [hr]
  cases h:x.can y
  · simp [zbQ,zkX h]
  · obtain ⟨h1,h2⟩:=zkW h
    obtain ⟨h3,h4,h5⟩:=ztT h
    rw [h3]
    rcases h2 with e | e | e<;>rw [e]<;>simp [zbQ]<;>rfl
theorem zyS (x y:Geo) (k:Int):zbx [x.D,y.D,.int .i64 k]=some (.tup [iD (zbf x y k).1,iD (zbf x y k).2]):=by
  have hr:=zpM x y
  have hw:=znJ x y
  unfold Geo.D at*
  rw [zqm]
  unfold zll zbf
  rw [hr,hw,zhH]
  by_cases h0:k < 0
  · simp [h0]
  · by_cases h1:winP x y≤k
    · simp [h0,h1]
    · have hc:x.can y=true:=by
        cases h:x.can y
        · have:=(zkX h).2; omega
        · rfl
      obtain ⟨w1,w2,w3,w4,_,_⟩:=zwf hc (by omega) (show k≤winP x y by omega)
      simp [h0,h1,w1,w2,w3,w4]
theorem zyT (a b:Int) (ha:a=1∨a=2∨a=4) (hb:b=1∨b=2∨b=4):zbc [.int .i64 a,.int .i64 b]=some (iD (max a b)):=by
  rw [ziQ]
  unfold zd3
  obtain ⟨m,hm⟩:=ztS
  rcases ha with rfl | rfl | rfl<;>rcases hb with rfl | rfl | rfl<;>simp [zcs,hm,fixN,zbQ,zah]<;>rfl
theorem zwl (x y:Geo):zaE [x.D,y.D]=some (iD (zaQ x y)):=by
  unfold Geo.D
  rw [zjG]
  unfold zes
  rw [zsH]
  show zan (some (D.bool (x.can y))) _=_
  cases h:x.can y
  · simp [zbQ,zkX h]
  · rw [zyT _ _ (zd8.1 (zhZ.1 h).1).2.2 (zd8.1 (zhZ.1 h).2.1).2.2]
    simp [zbQ,zkW h]
theorem zpN (x y:Geo):zar [x.D,y.D]=some (iD (winP x y)):=by
  have hr:=zwl x y
  unfold Geo.D at*
  rw [zhD]
  unfold zds
  rw [hr,zsH]
  show zan (some (D.bool (x.can y))) _=_
  cases h:x.can y
  · simp [zbQ,zkX h]
  · obtain ⟨h1,h2⟩:=zkW h
    obtain ⟨h3,h4,h5⟩:=ztT h
    rw [h3]
    rcases h2 with e | e | e<;>rw [e]<;>simp [zbQ]<;>rfl
theorem zAn (x y:Geo) (k:Int):za9 [x.D,y.D,.int .i64 k]=some (.tup [iD (zbf x y k).1,iD (zbf x y k).2]):=by
  have hr:=zwl x y
  have hw:=zpN x y
  unfold Geo.D at*
  rw [zjJ]
  unfold zeu zbf
  rw [hr,hw,zxa]
  by_cases h0:k < 0
  · simp [h0]
  · by_cases h1:winP x y≤k
    · simp [h0,h1]
    · have hc:x.can y=true:=by
        cases h:x.can y
        · have:=(zkX h).2; omega
        · rfl
      obtain ⟨w1,w2,w3,w4,_,_⟩:=zwf hc (by omega) (show k≤winP x y by omega)
      simp [h0,h1,w1,w2,w3,w4]
end Wf

namespace Wf
open Go Go.RowKit Go.Proofs
set_option linter.unusedSimpArgs false
set_option linter.unusedVariables false
theorem zpO (a n:Int) (h:1≤n) (h9:n < 1000000000):zaa [.int .i64 a,.int .i64 n]=some (.int .i64 (a % n)):=zwk a n h h9
theorem zyU (t t':Tag) (l m:List Int) (hl:l.length < 1000000000):zaS [.sl t (uL l),.sl t' (uL m)]=some (.bool (decide (l=m))):=by
  rw [zg2,zcX,zcX]
  unfold zdb
  by_cases hlen:l.length=m.length
  · simp only [zfl,hlen,bne_self_eq_false,zaw]
    refine zfK (fun a=>(m.length:Int).toNat - a.1.2.2.1.toNat) (fun _=>some (D.bool (decide (l=m))))
      (fun a=>∃ k:Nat,k≤m.length∧l.take k=m.take k∧a=((uL l,uL m,(k:Int),PUnit.unit),PUnit.unit)) ?_ ⟨0,by omega,by simp,rfl⟩ (by simp; omega)
    rintro again _ ⟨k,hk,he,rfl⟩ hag
    dsimp only
    rw [zfl,hlen]
    by_cases hkm:k < m.length
    · have h1:l[k]? =some l[k]:=List.getElem?_eq_getElem (by omega)
      have h2:m[k]? =some m[k]:=List.getElem?_eq_getElem hkm
      have hd:decide ((k:Int) < (m.length:Int))=true:=by simp; omega
      rw [hd,za6,zae (by omega),zaq (by simpa using zq6 h1),zbp,zae (by omega),zaq (by simpa using zq6 h2),zbp]
      by_cases hx:l[k]=m[k]
      · have hb:(l[k] != m[k])=false:=by simp [hx]
        rw [hb,zaw,zaZ,zah (by omega) (by omega)]
        exact hag _ ⟨k+1,by omega,by rw [List.take_add_one,List.take_add_one,he,h1,h2,hx],rfl⟩ (by simp; omega)
      · have hb:(l[k] != m[k])=true:=by simp [hx]
        rw [hb,za6]
        congr 2
        symm
        simp
        intro e
        subst e
        exact hx rfl
    · have hd:decide ((k:Int) < (m.length:Int))=false:=by simp; omega
      rw [hd,zaw]
      have:l=m:=by
        have e1:l.take k=l:=List.take_of_length_le (by omega)
        have e2:m.take k=m:=List.take_of_length_le (by omega)
        rw [←e1,←e2,he]
      simp [this]
  · have hb:((l.length:Int) != (m.length:Int))=true:=by simp; omega
    simp only [zfl,hb,za6]
    congr 2
    symm
    simp
    intro e; subst e; exact hlen rfl
theorem zfL {R:Type} (a:Int) {b:List Int} (h:b.length=32) (f:LfT [.int .i64,.arr 32]→Option R):zas [.int .i64,.arr 32] (.int .i64 a::uL b) f=f (a,uL b,()):=by
  have e1:(uL b).take 32=uL b:=List.take_of_length_le (by simp [h])
  have e2:(uL b).drop 32=[]:=List.drop_of_length_le (by simp [h])
  simp [zas,zc2,Lf.get,h,e1,e2]
theorem zni {R:Type} {b:List Int} (h:b.length=32) (f:LfT [.arr 32]→Option R):zas [.arr 32] (uL b) f=f (uL b,()):=by
  have e1:(uL b).take 32=uL b:=List.take_of_length_le (by simp [h])
  have e2:(uL b).drop 32=[]:=List.drop_of_length_le (by simp [h])
  simp [zas,zc2,Lf.get,h,e1,e2]
theorem zDs {T:Tb} {i:Nat} {s:DS} (h:T[i]? =some s.cells) (hs:s.Ok) (a:Int):zaP [.h kD i 0,.int .i64 a] [T]=some (Ans.mk (.int .i64 (s.may a)) [] []):=by
  rw [zl0]
  unfold zf8 DS.may
  rw [zaq h,zaq (zlS hs.len),zcl]
  cases hf:s.failed
  · by_cases h0:a < 0
    · simp [zbQ,h0]
    · by_cases h1:52≤a
      · simp [zbQ,h0,h1]
      · simp [zbQ,h0,h1]
  · simp [zbQ]
theorem zAo {T:Tb} {i:Nat} {s:DS} (h:T[i]? =some s.cells) (hs:s.Ok):zbj [.h kD i 0] [T]=some (Ans.mk (.bool s.failed) [] []):=by
  rw [zjp]
  unfold zem
  rw [zaq h,zaq (zlS hs.len),zcl]
theorem zpP {b:List Int} (h:b.length≤4294967296) (tg:Tag):zaj [.sl tg (uL b)]=some (.sl .own (uL b)):=by
  cases b with
  | nil=>exact zfF tg
  | cons n b=>
    show zaj [.sl tg (.int .u8 n::uL b)]=some (.sl .own (.int .u8 n::uL b))
    rw [zf9,zcX]
    unfold zcS
    have h1:(D.lent (.int .u8 n)::uL b)=uL (n::b):=by simp [uL]
    rw [h1]
    simp only [zfl,zz6,zhX,zae,h]
    simp [uL]
theorem zDt (w:Int×List Int):(wD w).free=true:=by
  simp only [wD,D.free,D.freeL,zof,Bool.and_self]
theorem zA5 (w:Int×List Int):(wD w).lent=wD w:=by
  simp only [wD,D.lent,D.lentL,zcX]
theorem zCe (p:List (Int×List Int)):D.lentL (p.map wD)=p.map wD:=by
  induction p with
  | nil=>rfl
  | cons w p ih=>simp [ih,zA5]
theorem zCf {p:List (Int×List Int)} (h:∀ w∈p,Sec w.2):zdK 33 (p.map wD)=true:=by
  simp only [zdK,List.all_map,List.all_eq_true]
  intro w hw
  have:=(h w hw).len
  simp [wD,D.width,D.isAgg,D.cell,this]
theorem zCg {p:List (Int×List Int)} (hp:∀ w∈p,Sec w.2) (h:p.length≤4294967296) (tg:Tag):zam [.sl tg (p.map wD)]=some (.sl .own (p.map wD)):=by
  cases p with
  | nil=>exact zdi tg
  | cons w p=>
    have hok:=zCf hp
    rw [List.map_cons] at hok ⊢
    rw [zdq,zCe,zA5]
    unfold zbX
    have hf:(wD w::p.map wD).all D.free=true:=by
      rw [←List.map_cons (f:=wD),List.all_map,List.all_eq_true]; intro w _; exact zDt w
    have hl:(wD w::p.map wD).length≤4294967296:=by simpa using h
    simp only [zae,hl,hok,hf]
theorem zA6 {p:List (Int×List Int)} {k:Nat} {w:Int×List Int} (h:p[k]? =some w):(p.map wD)[k]? =some (.agg (.int .i64 w.1::uL w.2)):=by simp [h,wD]
theorem zud (l:List D):D.width (.agg l)=l.length:=rfl
theorem zDu {T:Tb} {i:Nat} {s:DS} (h:T[i]? =some s.cells) (hs:s.Ok) (hn:s.pend.length≤1000000) (a:Int):
    zbA [.h kD i 0,.int .i64 a] [T]=some (Ans.mk (.tup [.sl .own (uL (s.read a).1),.int .i64 (s.read a).2]) [] []):=by
  rw [zk6]
  unfold zfe DS.read
  rw [zDs h hs a,zad,zcy,zcy,zbp]
  by_cases hm:s.may a=0
  · rw [hm]
    have hb:((0:Int) != 0)=false:=rfl
    rw [hb,zaw,if_neg (by simp)]
    have ha:0≤a∧a < 52:=by
      unfold DS.may at hm
      split at hm
      · omega
      · split at hm<;>omega
    have hp:=zpf (s:=s) hs.len
    have hbase:=zyC (s:=s) hs.len (a:=a.toNat) (by omega)
    have hsec:=zz7 hs (a:=a.toNat) (by omega)
    rw [zae ha.1,zae (by omega),zaq h,zae (by rw [zku hs.len]; omega),Nat.zero_add,hbase]
    rw [zae (zz5 _),zae (by simp [hsec.len]),zae (by simp [hsec.len]),zaq h,zaq hp,zbH,zaq h,zaq hp,zbH,zae (by simp)]
    rw [zni hsec.len,List.length_map]
    refine zdV (R:=Ans) (α:=(Int×(List D×PUnit)×(Nat×Nat×Nat)×Int×Int×PUnit)×List (List D)×PUnit)
      (fun k=>((a,(uL (look (s.pend.take k) a (s.base a.toNat)),PUnit.unit),(i,0,s.pend.length),(s.pend.length:Int),(k:Int),PUnit.unit),T,PUnit.unit)) s.pend.length (by omega) ?_ ?_
    · intro again k hk
      dsimp only
      obtain ⟨w,hw⟩:∃ w,s.pend[k]? =some w:=⟨_,List.getElem?_eq_getElem hk⟩
      have hws:=hs.ps w (List.mem_of_getElem? hw)
      have hd:decide ((k:Int) < (s.pend.length:Int))=true:=by simp; omega
      have hlk:(look (s.pend.take k) a (s.base a.toNat)).length=32:=zv8 (fun w hw=>(hs.ps w (List.mem_of_mem_take hw)).len) hsec.len
      rw [hd,za6,zaq h,zaq hp,zbH,zae (by omega),zae (by simpa using hk),zaq h,zaq hp,zbH,zaq (by simpa using zA6 hw),zpa,zfL _ hws.len]
      dsimp only
      simp only [List.append_nil,List.cons_append,List.nil_append,zud,List.length_cons,zfl,hws.len,hlk,zae]
      by_cases hwa:w.1=a
      · have hb:(w.1 == a)=true:=by simp [hwa]
        rw [hb,za6,List.drop_succ_cons,List.drop_zero]
        have et:(uL w.2).take 32=uL w.2:=List.take_of_length_le (by simp [hws.len])
        rw [et,zae (by omega),zae (by simp [hws.len]),zae (by simp [hws.len]),zae (by omega),zaZ,zah (by omega) (by omega),zAR (by simp [hws.len])]
        have e3:(uL (look (s.pend.take k) a (s.base a.toNat))).take 0++uL w.2++(uL (look (s.pend.take k) a (s.base a.toNat))).drop (0+32)=uL w.2:=by
          rw [List.drop_of_length_le (by simp [hlk])]; simp
        rw [e3,zni hws.len,ztP hw,if_pos hwa]
        rfl
      · have hb:(w.1 == a)=false:=by simp [hwa]
        rw [hb,zaw,zaZ,zah (by omega) (by omega),zni hlk,ztP hw,if_neg hwa]
        rfl
    · intro again
      have hlk:=zv8 (p:=s.pend) (a:=a) (fun w hw=>(hs.ps w hw).len) hsec.len
      have hd:decide ((s.pend.length:Int) < (s.pend.length:Int))=false:=by simp
      dsimp only
      rw [hd,zaw,List.take_length]
      simp only [List.append_nil,zfl,hlk,Nat.le_refl,zae]
      have ec:cut 0 32 (uL (look s.pend a (s.base a.toNat)))=uL (look s.pend a (s.base a.toNat)):=by
        have:=zdO (uL (look s.pend a (s.base a.toNat)))
        rw [zfl,hlk] at this; exact this
      rw [ec,zpP (by rw [hlk]; omega),zad,zbH]
      simp
      rfl
  · have hb:(s.may a != 0)=true:=by simp [hm]
    rw [hb,za6,if_pos hm]
    rfl
theorem zDv {T:Tb} {i:Nat} {s:DS} (h:T[i]? =some s.cells) (hs:s.Ok) (a:Int) (tg:Tag) (b:List Int):
    zbC [.h kD i 0,.int .i64 a,.sl tg (uL b)] [T]=some (Ans.mk (.tup [wD (putR s a b).1,.int .i64 (putR s a b).2]) [] []):=by
  rw [zme,zcX]
  unfold zgg putR
  rw [zDs h hs a,zad,zcy,zcy,zbp]
  by_cases hm:s.may a=0
  · rw [hm]
    have hb:((0:Int) != 0)=false:=rfl
    rw [hb,zaw,if_neg (by simp)]
    by_cases hl:b.length=32
    · have hb2:(((uL b).length:Int) != 32)=false:=by simp [hl]
      rw [hb2,zaw,if_neg (by simp [hl]),zae (zv7 _),zae (by simp [hl])]
      have et:(D.int .i64 a::uL b).take 33=.int .i64 a::uL b:=List.take_of_length_le (by simp [hl])
      simp only [List.append_nil,List.cons_append,List.nil_append,List.length_cons,zfl,hl,List.drop_zero,et]
      rw [zae (by omega),zfL _ hl]
      dsimp only
      simp only [zfl,hl,Nat.le_refl,zae,List.take_of_length_le,et]
      rw [zfL _ hl]
      dsimp only
      rw [zae (by simp only [D.free,D.freeL,zof,Bool.and_self])]
      rfl
    · have hb2:(((uL b).length:Int) != 32)=true:=by simp; omega
      rw [hb2,za6,if_pos hl]
      rfl
  · have hb:(s.may a != 0)=true:=by simp [hm]
    rw [hb,za6,if_pos hm]
    rfl
theorem zue (p:List (Int×List Int)):zc8 (p.map wD)=true:=by
  simp only [zc8,List.all_map,List.all_eq_true]
  intro w _
  simp [wD,D.flatEl,D.flat,uL]
theorem zwm {p:List (Int×List Int)} (h:∀ w∈p,Sec w.2):zfk 33 (p.map wD)=true:=by
  simp only [zfk,List.all_map,List.all_eq_true]
  intro w hw
  have:=(h w hw).len
  simp [wD,D.width,this]
theorem zAp (T:Tb):zmN T=some (Ans.mk (.h kD T.length 0) [] [T++[List.replicate 1664 (D.int .u8 0)++[.sl .own [],.bool false]]]):=by kernel_rfl
theorem zEj (T:Tb):zcE [] [T]=some (Ans.mk (.h kD T.length 0) [] [T++[DS.new.cells]]):=by
  rw [zsg]
  have e:DS.new.cells=List.replicate 1664 (D.int .u8 0)++[.sl .own [],.bool false]:=by
    show uL (List.replicate 1664 0)++[.sl .own [],.bool false]=_
    rw [←ztN]
  rw [e]
  exact zAp T
theorem zvg {R:Type} {n:Nat} {b:List Int} (h:b.length=n) (f:LfT [.arr n]→Option R):zas [.arr n] (uL b) f=f (uL b,()):=by
  subst h
  have e1:(uL b).take b.length=uL b:=List.take_of_length_le (by simp)
  have e2:(uL b).drop b.length=[]:=List.drop_of_length_le (by simp)
  simp [zas,zc2,Lf.get,e1,e2]
theorem zro {n:Nat} {b:List Int} (h:b.length=n):(uL b).take n=uL b:=List.take_of_length_le (by simp [h])
theorem zAq {a:Int} {b:List Int} (h:b.length=32):zdK 33 [D.agg (D.int .i64 a::uL b)]=true:=by simp [zdK,D.width,D.isAgg,D.cell,h]
theorem zyV {a:Int} {b:List Int} (h:b.length=32):zfk 33 [D.agg (D.int .i64 a::uL b)]=true:=by simp [zfk,D.width,h]
theorem zxc (a:Int) (b:List Int):zc8 [D.agg (D.int .i64 a::uL b)]=true:=by
  have h:(uL b).all D.flat=true:=zB6 b
  show ((D.agg (D.int .i64 a::uL b)).flatEl && true)=true
  show ((true && (uL b).all D.flat) && true)=true
  rw [h]; rfl
section
variable {T:Tb} {i:Nat} {s:DS}
theorem zAr (h:T[i]? =some s.cells) (hl:s.l.length=1664) (p:List (Int×List Int)) (l:List D) (e:l=p.map wD):za0 (setT T i 1664 .undef) i 1664 [.sl .own l]=T.set i ({ s with pend:=p }:DS).cells:=by
  subst e
  rw [zr5 h (by rw [zku hl]; omega),zq7 hl]
theorem zuf (h:T[i]? =some s.cells) (hl:s.l.length=1664) (p:List (Int×List Int)):za0 T i 1664 [.sl .own (p.map wD)]=T.set i ({ s with pend:=p }:DS).cells:=by
  rw [zeE h]
  exact congrArg _ (zq7 hl p)
theorem zsI (h:T[i]? =some s.cells) (hs:s.Ok) (hn:s.pend.length≤1000000) (a:Int) (tg:Tag) (b:List Int):
    zbi [.h kD i 0,.int .i64 a,.sl tg (uL b)] [T]=some (Ans.mk (.int .i64 (s.write a b).1) [] [T.set i (s.write a b).2.cells]):=by
  rw [zkn,zcX]
  unfold zeO DS.write
  have hpl:=zz9 s a b
  by_cases he:(putR s a b).2=0
  · obtain ⟨h1,h2,h3,h4,h5⟩:=zyE he
    simp (disch:=first | omega | assumption | (simp; done) | fail) [zDv h hs,wD,zfL _ hpl,he,h3,zaq h,zaq (zpf hs.len),hpl,h2,zvg h2,zro h2,zAq h2,zyV h2,zyr h,zku hs.len,zue,zxc,zwm hs.ps]
    exact zAr h hs.len (s.pend++[(a,b)]) _ (by simp [wD])
  · simp (disch:=first | omega | assumption | (simp; done) | fail) [zDv h hs,wD,zfL _ hpl,he,hpl,set_same h]
theorem znj {β:Type} {l:List β} {n:Nat} (h:l.length=n):cut 0 n l=l:=by subst h; exact zdO l
theorem zDw (l:List Int):(uL l).map D.hide=uL l:=by
  unfold uL; rw [List.map_map]; apply List.map_congr_left; intro n _; rfl
theorem zA7 (l:List Int):(uL l).map D.own0=uL l:=by
  unfold uL; rw [List.map_map]; apply List.map_congr_left; intro n _; rfl
theorem zvh (h:T[i]? =some s.cells) (hs:s.Ok) (hn:s.pend.length≤1000000):zbu [.h kD i 0] [T]=some (Ans.mk (.h kD T.length 0) [] [T++[s.cells]]):=by
  rw [zkl]
  unfold zeN
  have e1:List.map D.hide (List.take 1666 (List.drop 0 s.cells))=uL s.l++[D.undef,D.bool s.failed]:=by
    rw [List.drop_zero,List.take_of_length_le (by rw [zku hs.len]; omega)]
    unfold DS.cells
    rw [List.map_append,zDw]; rfl
  have e2:∀ (x:List D),x.length=1666→spl 0 1666 x (uL s.l++[D.undef,D.bool s.failed])=uL s.l++[D.undef,D.bool s.failed]:=by
    intro x hx; unfold spl; rw [if_pos ⟨rfl,hx.symm⟩]
  have e3:((uL s.l++[D.undef,D.bool s.failed]).set 1664 .nilp).all D.own0ok=true:=by
    rw [List.set_append_right _ _ (by simp [hs.len]),List.all_append,znA (fun _=>rfl)]
    simp [hs.len,D.own0ok,D.flat]
  have e4:((uL s.l++[D.undef,D.bool s.failed]).map D.own0).set 1664 (.sl .own (s.pend.map wD))=s.cells:=by
    rw [List.map_append,zA7,List.set_append_right _ _ (by simp [hs.len])]
    simp [hs.len,DS.cells,D.own0]
  have e5:(uL s.l++[D.undef,D.bool s.failed]).length=1666:=by simp [hs.len]
  have e6:(List.reverse ([D.bool false,D.sl Tag.nil []]++List.replicate 1664 (D.int IntKind.u8 (0:Int)))).length=1666:=by rw [List.length_reverse,List.length_append,List.length_replicate]; rfl
  have e7:((true && decide ((1:Nat)=(1:Nat)) && List.all [(1664:Nat)] fun k=>decide (k < 1666))=true):=by decide
  rw [zaq h,e1,e2 _ e6]
  generalize (uL s.l++[D.undef,D.bool s.failed])=X at*
  simp (disch:=first | omega | assumption | (simp; done) | fail) [e3,e4,e5,e7,znj,zaq h,zaq (zpf hs.len),zku hs.len,zCg hs.ps,zue,zwm hs.ps]
theorem zCh (h:T[i]? =some s.cells) (hs:s.Ok) (hn:s.pend.length≤1000000):zbv [.h kD i 0] [T]=some (Ans.mk (.int .i64 s.flush.1) [] [T.set i s.flush.2.cells]):=by
  rw [zkp]
  unfold zeP DS.flush
  cases hf:s.failed
  · have hlp:(s.pend.map wD).length=s.pend.length:=by simp
    simp (disch:=first | omega | assumption | (simp; done) | fail) only [zaq h,zaq (zlS hs.len),zaq (zpf hs.len),hf,zcl,zaw,zbH,zae,Nat.zero_add,Nat.le_refl,hlp]
    let st:Nat→(Nat×(Nat×Nat×Nat)×Int×Int×PUnit)×List (List D)×PUnit:=fun k=>((i,(i,0,s.pend.length),(s.pend.length:Int),(k:Int),PUnit.unit),T.set i (s.puts (s.pend.take k)).cells,PUnit.unit)
    have hst:st 0=((i,(i,0,s.pend.length),(s.pend.length:Int),0,PUnit.unit),T,PUnit.unit):=by
      show ((i,(i,0,s.pend.length),(s.pend.length:Int),0,PUnit.unit),T.set i (s.puts []).cells,PUnit.unit)=_
      rw [show s.puts []=s from rfl,set_same h]
    rw [←hst]
    refine zdV st s.pend.length (by omega) ?_ ?_
    · intro again k hk
      dsimp only [st]
      obtain ⟨w,hw⟩:∃ w,s.pend[k]? =some w:=⟨_,List.getElem?_eq_getElem hk⟩
      obtain ⟨hws,hw0,hw1⟩:=hs.pend w (List.mem_of_getElem? hw)
      obtain ⟨pk,pf,pp⟩:=zpg hs (s.pend.take k) fun w hw=>hs.pend w (List.mem_of_mem_take hw)
      have hU:=zlP h (s.puts (s.pend.take k)).cells
      have hpd:=zpf (s:=s.puts (s.pend.take k)) pk.len
      rw [pp] at hpd
      have hnx:za0 (T.set i (s.puts (s.pend.take k)).cells) i (w.1.toNat*32) (uL w.2)=T.set i (s.puts (s.pend.take (k+1))).cells:=by
        rw [zeE hU,zfl,hws.len,zDi pk.len (by omega),List.set_set,List.take_add_one,hw]
        show _=T.set i (s.puts (s.pend.take k++[w])).cells
        unfold DS.puts
        rw [List.foldl_append]; rfl
      simp (disch:=first | omega | assumption | (simp; done) | fail) [zaq hU,zaq hpd,zaq (zA6 hw),zfL _ hws.len,hws.len,zro hws.len,zku pk.len,hk,zud,zyC pk.len,hw0,hw1,zah,hnx]
    · intro again
      dsimp only [st]
      rw [List.take_length]
      obtain ⟨pk,pf,pp⟩:=zpg hs s.pend hs.pend
      have hU:=zlP h (s.puts s.pend).cells
      have hz:=zuf hU pk.len []
      have hz':za0 (T.set i (s.puts s.pend).cells) i 1664 [D.sl Tag.own []]=T.set i s.flushed.cells:=by
        have:=zuf hU pk.len []
        rw [List.set_set] at this; exact this
      simp (disch:=first | omega | assumption | (simp; done) | fail) [zaq hU,zku pk.len,hz']
  · simp (disch:=first | omega | assumption | (simp; done) | fail) [zaq h,zaq (zlS hs.len),hf,set_same h]
theorem zDx (h:T[i]? =some s.cells) (hs:s.Ok):zbN [.h kD i 0] [T]=some (Ans.mk (.tup []) [] [T.set i DS.dead.cells]):=by
  rw [zlh]
  unfold zff
  have e:List.map D.own0 (List.set (List.reverse ([D.bool false,D.sl Tag.nil []]++List.replicate 1664 (D.int IntKind.u8 (0:Int)))) 1665 (D.bool true))=DS.dead.cells:=by
    rw [List.reverse_append,List.reverse_replicate]
    show List.map D.own0 (List.set (List.replicate 1664 (D.int IntKind.u8 (0:Int))++[D.sl Tag.nil [],D.bool false]) 1665 (D.bool true))=uL (List.replicate 1664 0)++[.sl .own [],.bool true]
    rw [List.set_append_right _ _ (by rw [List.length_replicate]; omega),List.length_replicate,List.map_append,ztN,zA7]
    rfl
  have hl:DS.dead.cells.length=1666:=zku (s:=DS.dead) (List.length_replicate ..)
  have hset:za0 T i 0 DS.dead.cells=T.set i DS.dead.cells:=by
    rw [zeE h,hl]
    rw [List.take_zero,List.nil_append,List.drop_of_length_le (by rw [zku hs.len]; omega),List.append_nil]
  rw [e,hset,zaq h,zku hs.len]
  simp
end
end Wf

namespace Wf
open Go Go.RowKit Go.Proofs
set_option linter.unusedSimpArgs false
set_option linter.unusedVariables false
section
variable {T0 T1:Tb} {b:Nat} {idx:List Nat} {B:Ben}
theorem At.ds (h:At T0 T1 b idx B) (hw:B.w≤1000000) (d:Int):(B.dk d).Ok∧(B.dk d).pend.length≤1000000:=by
  have:=zp1 h.ok d
  exact ⟨this.1,by have:=this.2; omega⟩
theorem zyW (h:At T0 T1 b idx B):zaG [.h kB b 0] [P0 T0 b idx B]=some (Ans.mk (.int .i64 B.n) [] []):=by
  rw [zkf]
  unfold zeJ
  simp [zaq h.get0,bRow,h.len,Ben.n]
theorem b_is (h:At T0 T1 b idx B) (d:Int):zat [.h kB b 0,.int .i64 d] [P0 T0 b idx B]=some (Ans.mk (.bool (B.is d)) [] []):=by
  rw [zk2]
  unfold zfd Ben.is Ben.n
  by_cases h0:0≤d
  · simp [zaq h.get0,bRow,h0,h.len]
  · simp [h0]
theorem zAs (h:At T0 T1 b idx B) (d:Int):za4 [.h kB b 0,.int .i64 d] [P0 T0 b idx B,P1 T1 idx B]=some (Ans.mk (.bool (B.failed d)) [] []):=by
  rw [zh7]
  unfold zdE Ben.failed
  cases hd:B.is d
  · simp [b_is h d,hd]
  · obtain ⟨h0,h1⟩:=zgD.1 hd
    have h1':d.toNat < idx.length:=by have:=h.len; unfold Ben.n at h1; omega
    simp (disch:=first | omega | assumption | (simp; done) | fail) [b_is h d,hd,zaq h.get0,bRow,h0,h1',zaq (h.hd hd),D.isAgg,D.width,D.cell,zAo (h.get1 hd) (zp1 h.ok d).1]
theorem zug (h:At T0 T1 b idx B) (d:Int):zap [.h kB b 0,.int .i64 d] [P0 T0 b idx B]=some (Ans.mk (.int .i64 (B.may d)) [] []):=by
  rw [zki]
  unfold zeK Ben.may
  cases hd:B.is d
  · simp [b_is h d,hd]
  · cases hw:B.down<;>simp [b_is h d,hd,zaq h.get0,bRow,hw]
theorem zyX (h:At T0 T1 b idx B) (hw:B.w≤1000000) (d a:Int):zaD [.h kB b 0,.int .i64 d,.int .i64 a] [P0 T0 b idx B,P1 T1 idx B]=some (Ans.mk (.tup [.sl .own (uL (B.read d a).1),.int .i64 (B.read d a).2]) [] []):=by
  rw [zjr]
  unfold zen Ben.read
  by_cases hm:B.may d=0
  · obtain ⟨hd,hdn⟩:=may0.1 hm
    obtain ⟨h0,h1⟩:=zgD.1 hd
    have h1':d.toNat < idx.length:=by have:=h.len; unfold Ben.n at h1; omega
    have hu:=zhX ((B.dk d).read a).1
    simp only [List.all_eq_true] at hu
    simp (disch:=first | omega | assumption | (simp; done) | fail) [zug h d,hm,zaq h.get0,bRow,h0,h1',zaq (h.hd hd),D.isAgg,D.width,D.cell,zDu (h.get1 hd) (h.ds hw d).1 (h.ds hw d).2]
  · simp [zug h d,hm]; rfl
theorem zAt (h:At T0 T1 b idx B) (tg:Tag) (live:List Bool) {d:Int} (h0:0≤d):zaF [.h kB b 0,.sl tg (live.map D.bool),.int .i64 d] [P0 T0 b idx B,P1 T1 idx B]=some (Ans.mk (.bool (B.up live d)) [] []):=by
  have hl:D.lentL (live.map D.bool)=live.map D.bool:=by
    induction live with
    | nil=>rfl
    | cons x l ih=>simp [ih]
  rw [zp4,hl]
  unfold zk3 Ben.up
  by_cases h1:d < B.n
  · by_cases h2:d < live.length
    · have e:live[d.toNat]? =some (live[d.toNat]'(by omega)):=List.getElem?_eq_getElem (by omega)
      have e':(live.map D.bool)[d.toNat]? =some (.bool (live[d.toNat]'(by omega))):=by simp [e]
      cases hv:live[d.toNat]'(by omega)
      · rw [hv] at e e'
        simp [zyW h,h1,h2,h0,zaq e',e,hv]
      · rw [hv] at e e'
        simp [zyW h,h1,h2,h0,zaq e',e,zAs h d,hv]
    · have e:live[d.toNat]? =none:=List.getElem?_eq_none (by omega)
      simp [zyW h,h1,h2,e]
  · simp [zyW h,h1]
theorem zyY (h:At T0 T1 b idx B) (hw:B.w≤1000000):zaY [.h kB b 0] [P0 T0 b idx B]=some (Ans.mk (.bool (decide (B.left≠0))) [] [P0 T0 b idx (if B.left=0 then B.off else B.less)]):=by
  rw [zhB]
  unfold zdr
  have hw0:=h.ok.w0
  have hlf:=h.ok.lf
  have hg:=h.get0
  have hset:∀ (B':Ben) (T:Tb) (cs:List D) (o:Nat) (x:D),T=P0 T0 b idx B'→cs=bRow B' idx→∀ B'':Ben,cs.take o++[x]++cs.drop (o+1)=bRow B'' idx→za0 T b o [x]=P0 T0 b idx B'':=by
    rintro B' _ _ o x rfl rfl B'' e
    have hg':(P0 T0 b idx B')[b]? =some (bRow B' idx):=by unfold P0; rw [List.getElem?_set,if_pos rfl,if_pos h.b]
    rw [zeE hg']
    show (P0 T0 b idx B').set b ((bRow B' idx).take o++[x]++(bRow B' idx).drop (o+1))=_
    rw [e,zDp]
  by_cases hl:B.left=0
  · have e1:=hset B _ _ 2 (.bool true) rfl rfl B.off rfl
    simp (disch:=first | omega | assumption | (simp; done) | fail) [zaq hg,bRow,hl,e1,zhT,D.flat]
  · by_cases hp:0 < B.left
    · let B1:Ben:={ B with left:=B.left - 1 }
      have e1:=hset B _ _ 1 (.int .i64 (B.left - 1)) rfl rfl B1 rfl
      have hg1:(P0 T0 b idx B1)[b]? =some (bRow B1 idx):=by unfold P0; rw [List.getElem?_set,if_pos rfl,if_pos h.b]
      have e2:=hset B1 _ _ 0 (.int .i64 (B.w+1)) rfl rfl B.less (by unfold Ben.less; rw [if_pos hp]; rfl)
      have e3:bRow B1 idx=[.int .i64 B.w,.int .i64 (B.left - 1),.bool B.down,.sl .own (idx.map hD)]:=rfl
      rw [e3] at hg1
      simp (disch:=first | omega | assumption | (simp; done) | fail) [zaq hg,zaq hg1,bRow,hl,hp,e1,e2,zhT,D.flat,zah]
    · have e1:=hset B _ _ 0 (.int .i64 (B.w+1)) rfl rfl B.less (by unfold Ben.less; rw [if_neg hp]; rfl)
      simp (disch:=first | omega | assumption | (simp; done) | fail) [zaq hg,bRow,hl,hp,e1,zhT,D.flat,zah]
theorem zCi (h:At T0 T1 b idx B) (hw:B.w≤1000000) (d a:Int) (tg:Tag) (x:List Int):
    zba [.h kB b 0,.int .i64 d,.int .i64 a,.sl tg (uL x)] [P0 T0 b idx B,P1 T1 idx B]=some (Ans.mk (.int .i64 (B.write d a x).1) [] [P0 T0 b idx (B.write d a x).2,P1 T1 idx (B.write d a x).2]):=by
  rw [ziK,zcX]
  unfold zd0 Ben.write
  by_cases hm:B.may d=0
  · obtain ⟨hd,hdn⟩:=may0.1 hm
    obtain ⟨h0,h1⟩:=zgD.1 hd
    obtain ⟨ho,hp⟩:=h.ds hw d
    have h1':d.toNat < idx.length:=by have:=h.len; unfold Ben.n at h1; omega
    have hT:(P1 T1 idx B++[(B.dk d).cells])[(P1 T1 idx B).length]? =some (B.dk d).cells:=by simp
    have hj:(P1 T1 idx B++[(B.dk d).cells]).set (P1 T1 idx B).length ((B.dk d).write a x).2.cells=P1 T1 idx (B.junk ((B.dk d).write a x).2):=by
      rw [List.set_append_right _ _ (Nat.le_refl _),Nat.sub_self,←zCa]; rfl
    have hJ:At T0 T1 b idx (B.junk ((B.dk d).write a x).2):=h.nx (K:=0) ⟨zpi h.ok _,rfl,by simp,by simp⟩
    have hd':(B.junk ((B.dk d).write a x).2).is d=true:=hd
    have hg1:=hJ.get1 hd'
    have hset:=hJ.set1 hd' ((B.dk d).write a x).2
    have hw1:=zsI (T:=P1 T1 idx (B.junk ((B.dk d).write a x).2)) (i:=ix idx d) (s:=B.dk d) hg1 ho hp a .lent x
    have hgr:∀ B':Ben,(P0 T0 b idx B')[b]? =some [.int .i64 B'.w,.int .i64 B'.left,.bool B'.down,.sl .own (idx.map hD)]:=by
      intro B'; unfold P0; rw [List.getElem?_set,if_pos rfl,if_pos h.b]; rfl
    by_cases he:(B.dk d).mayW a x=0
    · have e1:((B.dk d).write a x).1=0:=he
      have e2:((B.dk d).write a x).2=(B.dk d).add a x:=by unfold DS.write; rw [if_pos he]
      by_cases hl:B.left=0
      · simp (disch:=first | omega | assumption | (simp; done) | fail) [zug h d,hm,zaq (hgr _),h0,h1',zaq (h.hd hd),D.isAgg,D.width,D.cell,zvh (h.get1 hd) ho hp,zhl,zsI hT ho hp,hj,he,e1,zyY h hw,hl]
        exact ⟨rfl,rfl⟩
      · simp (disch:=first | omega | assumption | (simp; done) | fail) [zug h d,hm,zaq (hgr _),h0,h1',zaq (h.hd hd),D.isAgg,D.width,D.cell,zvh (h.get1 hd) ho hp,zhl,zsI hT ho hp,hj,he,e1,zyY h hw,hl,hw1,hset]
        rw [e2]; exact ⟨rfl,rfl⟩
    · have e1:¬ ((B.dk d).write a x).1=0:=he
      simp (disch:=first | omega | assumption | (simp; done) | fail) [zug h d,hm,zaq (hgr _),h0,h1',zaq (h.hd hd),D.isAgg,D.width,D.cell,zvh (h.get1 hd) ho hp,zhl,zsI hT ho hp,hj,he,e1]
      exact ⟨rfl,rfl⟩
  · simp [zug h d,hm]
theorem zCj (h:At T0 T1 b idx B) (hw:B.w≤1000000) (d:Int):
    zbb [.h kB b 0,.int .i64 d] [P0 T0 b idx B,P1 T1 idx B]=some (Ans.mk (.int .i64 (B.flush d).1) [] [P1 T1 idx (B.flush d).2]):=by
  rw [ziM]
  unfold zd1 Ben.flush
  by_cases hm:B.may d=0
  · obtain ⟨hd,hdn⟩:=may0.1 hm
    obtain ⟨h0,h1⟩:=zgD.1 hd
    obtain ⟨ho,hp⟩:=h.ds hw d
    have h1':d.toNat < idx.length:=by have:=h.len; unfold Ben.n at h1; omega
    simp (disch:=first | omega | assumption | (simp; done) | fail) [zug h d,hm,zaq h.get0,bRow,h0,h1',zaq (h.hd hd),D.isAgg,D.width,D.cell,zCh (h.get1 hd) ho hp,h.set1 hd]
  · simp [zug h d,hm]
theorem zDy (h:At T0 T1 b idx B) (d:Int):
    zeq [.h kB b 0,.int .i64 d] [P0 T0 b idx B,P1 T1 idx B]=some (Ans.mk (.int .i64 (B.fail d).1) [] [P1 T1 idx (B.fail d).2]):=by
  rw [zjF]
  unfold zer Ben.fail
  cases hd:B.is d
  · simp [b_is h d,hd]
  · obtain ⟨h0,h1⟩:=zgD.1 hd
    have h1':d.toNat < idx.length:=by have:=h.len; unfold Ben.n at h1; omega
    simp (disch:=first | omega | assumption | (simp; done) | fail) [b_is h d,hd,zaq h.get0,bRow,h0,h1',zaq (h.hd hd),D.isAgg,D.width,D.cell,zDx (h.get1 hd) (zp1 h.ok d).1,h.set1 hd]
theorem zAu (h:At T0 T1 b idx B):zaK [.h kB b 0] [P0 T0 b idx B]=some (Ans.mk (.int .i64 B.w) [] []):=by
  rw [zg7]
  unfold zdc
  simp [zaq h.get0,bRow]
end
end Wf

namespace Wf
open Go Go.RowKit Go.Proofs
set_option linter.unusedSimpArgs false
set_option linter.unusedVariables false
theorem gf_double (a:Int):zaW [.int .u8 a]=some (.int .u8 (dbl a)):=by
  rw [zp9]
  unfold zk9 dbl
  by_cases h:128≤a
  · simp [h]
  · simp [h]
theorem zDz (a b:Int) (h0:0≤b) (h1:b < 256):zdR [.int .u8 a,.int .u8 b]=some (.int .u8 (mul8 a b)):=by
  rw [zu6]
  unfold zsk
  refine zfK (fun x=>x.1.2.1.toNat) (fun _=>some (D.int .u8 (mul8 a b)))
    (fun x=>∃ (n:Nat) (a' b' o:Int),0≤b'∧b' < 2 ^ n∧n≤8∧mulA n a' b' o=mul8 a b∧x=((a',b',o,PUnit.unit),PUnit.unit)) ?_ ⟨8,a,b,0,h0,h1,Nat.le_refl _,rfl,rfl⟩ (by simp; omega)
  rintro again _ ⟨n,a',b',o,p0,p1,p2,p3,rfl⟩ hag
  dsimp only
  by_cases hb:b' > 0
  · have hd:decide (b' > 0)=true:=by simp [hb]
    rw [hd,za6,zaZ]
    cases n with
    | zero=>simp at p1; omega
    | succ n=>
      have hdiv:b'.fdiv 2=b' / 2:=Int.fdiv_eq_ediv_of_nonneg _ (by omega)
      have hlt:b' / 2 < 2 ^ n:=by
        have:(2:Int) ^ (n+1)=2 ^ n*2:=Int.pow_succ ..
        omega
      by_cases hone:bits .and .u8 b' 1=1
      · have hbo:(bits .and .u8 b' 1 == 1)=true:=by simp [hone]
        rw [hbo,za6,zaZ,gf_double,zad,zbp,zaZ,hdiv]
        refine hag _ ⟨n,_,_,_,by omega,hlt,by omega,?_,rfl⟩ (by simp; omega)
        rw [←p3]
        show _=mulA n (dbl a') (b' / 2) (if bits .and .u8 b' 1=1 then xor8 o a' else o)
        rw [if_pos hone]
      · have hbo:(bits .and .u8 b' 1 == 1)=false:=by simp [hone]
        rw [hbo,zaw,gf_double,zad,zbp,zaZ,hdiv]
        refine hag _ ⟨n,_,_,_,by omega,hlt,by omega,?_,rfl⟩ (by simp; omega)
        rw [←p3]
        show _=mulA n (dbl a') (b' / 2) (if bits .and .u8 b' 1=1 then xor8 o a' else o)
        rw [if_neg hone]
  · have hd:decide (b' > 0)=false:=by simp [hb]
    have:b'=0:=by omega
    subst this
    rw [hd,zaw,←p3,zyu]
theorem zAv {a b:List Int} {k:Nat} {x y:Int} (h1:a[k]? =some x) (h2:b[k]? =some y):(List.zipWith xor8 a b).take (k+1)=(List.zipWith xor8 a b).take k++[xor8 x y]:=by
  rw [List.take_add_one]
  congr 1
  simp [List.getElem?_zipWith,h1,h2]
theorem zgK (t t':Tag) (a b:List Int) (ha:a.length < 100000):zaB [.sl t (uL a),.sl t' (uL b)]=some (.sl .own (uL (addL a b))):=by
  rw [zsl,zcX,zcX]
  unfold zmX addL
  by_cases hl:a.length=b.length
  · have hb:(((uL a).length:Int) != ((uL b).length:Int))=false:=by simp [hl]
    rw [hb,zaw,if_pos hl]
    let st:Nat→(List D×List D×List D×Int×Int×PUnit)×PUnit:=fun k=>((uL b,uL ((List.zipWith xor8 a b).take k),uL a,(a.length:Int),(k:Int),PUnit.unit),PUnit.unit)
    have hst:st 0=((uL b,[],uL a,((uL a).length:Int),0,PUnit.unit),PUnit.unit):=by simp [st,uL]
    rw [←hst]
    refine zcQ st a.length ha ?_ ?_
    · intro again k hk
      dsimp only [st]
      have h1:a[k]? =some a[k]:=List.getElem?_eq_getElem hk
      have h2:b[k]? =some (b[k]'(by omega)):=List.getElem?_eq_getElem (by omega)
      have hd:decide ((k:Int) < (a.length:Int))=true:=by simp; omega
      rw [hd,za6,zae (by omega),zaq (by simpa using zq6 h1),zbp,zae (by omega),zaq (by simpa using zq6 h2),zbp,zaZ,zae (by simp; omega),zae (by rfl),zaZ,zah (by omega) (by omega),zae (by simp)]
      rw [zAv h1 h2,←zyB]
      rfl
    · intro again
      dsimp only [st]
      have hd:decide ((a.length:Int) < (a.length:Int))=false:=by simp
      have ht:(List.zipWith xor8 a b).take a.length=List.zipWith xor8 a b:=List.take_of_length_le (by simp; omega)
      rw [hd,zaw,zae (by rfl),zae (zhX _),ht]
  · have hb:(((uL a).length:Int) != ((uL b).length:Int))=true:=by simp; omega
    rw [hb,za6,if_neg hl]
    rfl
theorem zhI (t:Tag) (a:List Int) (ha:a.length < 100000) {f:Int} (h0:0≤f) (h1:f < 256):zaz [.sl t (uL a),.int .u8 f]=some (.sl .own (uL (a.map (mul8 · f)))):=by
  rw [zpx,zcX]
  unfold zjw
  let st:Nat→(Int×List D×List D×Int×Int×PUnit)×PUnit:=fun k=>((f,uL ((a.map (mul8 · f)).take k),uL a,(a.length:Int),(k:Int),PUnit.unit),PUnit.unit)
  have hst:st 0=((f,[],uL a,((uL a).length:Int),0,PUnit.unit),PUnit.unit):=by simp [st,uL]
  rw [←hst]
  refine zcQ st a.length ha ?_ ?_
  · intro again k hk
    dsimp only [st]
    have h2:a[k]? =some a[k]:=List.getElem?_eq_getElem hk
    have hd:decide ((k:Int) < (a.length:Int))=true:=by simp; omega
    rw [hd,za6,zae (by omega),zaq (by simpa using zq6 h2),zbp,zDz _ _ h0 h1,zad,zbp,zae (by simp; omega),zae (by rfl),zaZ,zah (by omega) (by omega),zae (by simp)]
    have:(a.map (mul8 · f)).take (k+1)=(a.map (mul8 · f)).take k++[mul8 a[k] f]:=by rw [List.take_add_one]; simp [h2]
    rw [this,←zyB]
    rfl
  · intro again
    dsimp only [st]
    have hd:decide ((a.length:Int) < (a.length:Int))=false:=by simp
    have ht:(a.map (mul8 · f)).take a.length=a.map (mul8 · f):=List.take_of_length_le (by simp)
    rw [hd,zaw,zae (by rfl),zae (zhX _),ht]
abbrev Part:=Tag×List Int
def pL (ps:List Part):List D:=ps.map fun x=>.sl x.1 (uL x.2)
def zbU (t:Tag) (l:List Int):Tag:=match t,l with
  | .nil,_=>.nil
  | .nn,[]=>.nn
  | .nul,[]=>.nul
  | _,_=>.lent
theorem zCk (t:Tag) (l:List Int):D.lent (.sl t (uL l))=.sl (zbU t l) (uL l):=by
  have h:=zcX l
  cases l with
  | nil=>cases t<;>rfl
  | cons n l=>
    have e:uL (n::l)=.int .u8 n::uL l:=rfl
    rw [e] at h ⊢
    cases t<;>simp only [D.lent,h,zbU]<;>simp [D.lentL,D.lent,zcX]
theorem zcZ (ps:List Part):D.lentL (pL ps)=pL (ps.map fun x=>(zbU x.1 x.2,x.2)):=by
  unfold pL
  rw [zoO,List.map_map,List.map_map]
  apply List.map_congr_left
  intro x _
  exact zCk x.1 x.2
@[simp] theorem zuh (ps:List Part):(pL ps).length=ps.length:=by simp [pL]
theorem zdQ {ps:List Part} {k:Nat} {x:Part} (h:ps[k]? =some x):(pL ps)[k]? =some (.sl x.1 (uL x.2)):=by simp [pL,h]
theorem zyZ (ps:List Part) (t:Tag) (l:List Int):pL ps++[.sl t (uL l)]=pL (ps++[(t,l)]):=by simp [pL]
theorem zui (ps:List Part) (i:Nat) (t:Tag) (l:List Int):(pL ps).set i (.sl t (uL l))=pL (ps.set i (t,l)):=by simp [pL,List.map_set]
def Part.free (x:Part):Bool:=x.1=.fresh || x.1=.full || x.1=.nil
theorem zpQ {ps:List Part} (h:∀ x∈ps,x.free=true):(pL ps).all D.free=true:=by
  unfold pL
  rw [List.all_map,List.all_eq_true]
  intro x hx
  have:=h x hx
  obtain ⟨t,l⟩:=x
  cases t<;>first | (exact zof l) | (exact absurd this (by simp [Part.free]))
theorem zuj (k:Nat) (hk:k < 255):zaL [.int .i64 k]=some (.int .u8 (pow8 k)):=by
  rw [zpy]
  unfold zoi
  have e1:Int.tmod (k:Int) 255=k:=by rw [Int.tmod_eq_emod_of_nonneg (by omega),Int.emod_eq_of_lt (by omega) (by omega)]
  have e2:Int.tmod ((k:Int)+255) 255=k:=by
    rw [Int.tmod_eq_emod_of_nonneg (by omega),Int.add_emod_right,Int.emod_eq_of_lt (by omega) (by omega)]
  rw [zaZ,e1,zaZ,zah (by omega) (by omega),zaZ,e2]
  refine zcQ (fun j=>((pow8 j,(k:Int),(j:Int),PUnit.unit),PUnit.unit)) k (by omega) ?_ ?_
  · intro again j hj
    dsimp only
    have hd:decide ((j:Int) < (k:Int))=true:=by simp; omega
    rw [hd,za6,gf_double,zad,zbp,zaZ,zah (by omega) (by omega)]
    rfl
  · intro again
    have hd:decide ((k:Int) < (k:Int))=false:=by simp
    dsimp only
    rw [hd,zaw]
theorem zy0 (tg:Tag) {ps:List Part} {n:Nat} (hn:n < 100000) (h0:0 < ps.length) (h1:ps.length < 255) (h:∀ x∈ps,x.2.length=n):
    zbK [.sl tg (pL ps)]=some (.sl .own (uL (sumP n (ps.map (·.2))))):=by
  rw [zu7,zcZ]
  unfold zsp
  have hsum:∀ {qs:List Part},0 < qs.length→qs.length < 255→(∀ x∈qs,x.2.length=n)→∀ tg,zbB [.sl tg (pL qs),.fn ID.synd_P_1 [] []]=some (.sl .own (uL (sumP n (qs.map (·.2))))):=by
    intro qs h0 h1 h tg
    rw [znY,zcZ]
    have hl':∀ x∈(qs.map fun x=>(zbU x.1 x.2,x.2)),x.2.length=n:=by
      intro x hx; obtain ⟨y,hy,rfl⟩:=List.mem_map.1 hx; exact h y hy
    have hm:(qs.map fun x=>(zbU x.1 x.2,x.2)).map (·.2)=qs.map (·.2):=by rw [List.map_map]; rfl
    rw [←hm]
    have hlen:(qs.map fun x=>(zbU x.1 x.2,x.2)).length=qs.length:=by simp
    rw [←hlen] at h0 h1
    generalize (qs.map fun x=>(zbU x.1 x.2,x.2))=rs at*
    clear hm hlen h qs
    unfold zia
    have hb:(((pL rs).length:Int) == 0)=false:=by simp; intro e; rw [e] at h0; simp at h0
    obtain ⟨x0,hx0⟩:∃ x,rs[0]? =some x:=⟨_,List.getElem?_eq_getElem h0⟩
    have hx0l:=hl' x0 (List.mem_of_getElem? hx0)
    rw [hb,zaw,zaq (zdQ hx0),zf0,zae (by rfl),zfl,hx0l,zae (by omega),zae (by omega),zae (by simp),Int.toNat_natCast,ztN]
    have hls:∀ l∈rs.map (·.2),l.length=n:=by intro l hl; obtain ⟨y,hy,rfl⟩:=List.mem_map.1 hl; exact hl' y hy
    let st:Nat→(List D×List D×Int×Int×PUnit)×PUnit:=fun k=>((uL (sumK (fun _=>1) n (rs.map (·.2)) k),pL rs,((pL rs).length:Int),(k:Int),PUnit.unit),PUnit.unit)
    have hst:st 0=((uL (List.replicate n 0),pL rs,((pL rs).length:Int),0,PUnit.unit),PUnit.unit):=rfl
    rw [←hst]
    refine zcQ st rs.length (by omega) ?_ ?_
    · intro again k hk
      dsimp only [st]
      obtain ⟨x,hx⟩:∃ x,rs[k]? =some x:=⟨_,List.getElem?_eq_getElem hk⟩
      have hxl:=hl' x (List.mem_of_getElem? hx)
      have hd:decide ((k:Int) < ((pL rs).length:Int))=true:=by simp; omega
      have hsl:=zoe (f:=fun _=>1) hls (k:=k) (by simp; omega)
      rw [hd,za6,zae (by omega),zaq (by simpa using zdQ hx),zf0,zae (by omega)]
      have hb2:(((uL x.2).length:Int) != ((uL (sumK (fun _=>1) n (rs.map (·.2)) k)).length:Int))=false:=by simp [hxl,hsl]
      have hone:zbt [.int .i64 (k:Int)]=some (.int .u8 1):=by rw [zsm]; rfl
      rw [hb2,zaw,hone,zad,zbp,zhI _ _ (by omega) (by omega) (by omega),zad,zbH,zae (by omega),zae (by omega),zdO,zdO,zgK _ _ _ _ (by omega),zad,zbH,zaZ,
        zah (by omega) (by omega),zae (by rfl)]
      have he:addL (sumK (fun _=>1) n (rs.map (·.2)) k) (x.2.map (mul8 · 1))=sumK (fun _=>1) n (rs.map (·.2)) (k+1):=by
        unfold addL
        rw [if_pos (by simp [hsl,hxl])]
        have:(rs.map (·.2)).getD k []=x.2:=by simp [List.getD_eq_getElem?_getD,hx]
        simp only [sumK,this]
      rw [he]
      rfl
    · intro again
      dsimp only [st]
      have hd:decide ((rs.length:Int) < ((pL rs).length:Int))=false:=by simp
      rw [hd,zaw,zae (by rfl),zae (zhX _)]
      simp [sumP]
  rw [hsum (by simpa using h0) (by simpa using h1) (by intro x hx; obtain ⟨y,hy,rfl⟩:=List.mem_map.1 hx; exact h y hy),zad,zbH,zae (by rfl),zae (zhX _),List.map_map]
  rfl
theorem zy1 (tg:Tag) {ps:List Part} {n:Nat} (hn:n < 100000) (h0:0 < ps.length) (h1:ps.length < 255) (h:∀ x∈ps,x.2.length=n):
    zbL [.sl tg (pL ps)]=some (.sl .own (uL (sumQ n (ps.map (·.2))))):=by
  rw [zu8,zcZ]
  unfold zsq
  have hsum:∀ {qs:List Part},0 < qs.length→qs.length < 255→(∀ x∈qs,x.2.length=n)→∀ tg,zbB [.sl tg (pL qs),.fn ID.gf_Pow [] []]=some (.sl .own (uL (sumQ n (qs.map (·.2))))):=by
    intro qs h0 h1 h tg
    rw [znZ,zcZ]
    have hl':∀ x∈(qs.map fun x=>(zbU x.1 x.2,x.2)),x.2.length=n:=by
      intro x hx; obtain ⟨y,hy,rfl⟩:=List.mem_map.1 hx; exact h y hy
    have hm:(qs.map fun x=>(zbU x.1 x.2,x.2)).map (·.2)=qs.map (·.2):=by rw [List.map_map]; rfl
    rw [←hm]
    have hlen:(qs.map fun x=>(zbU x.1 x.2,x.2)).length=qs.length:=by simp
    rw [←hlen] at h0 h1
    generalize (qs.map fun x=>(zbU x.1 x.2,x.2))=rs at*
    clear hm hlen h qs
    unfold zib
    have hb:(((pL rs).length:Int) == 0)=false:=by simp; intro e; rw [e] at h0; simp at h0
    obtain ⟨x0,hx0⟩:∃ x,rs[0]? =some x:=⟨_,List.getElem?_eq_getElem h0⟩
    have hx0l:=hl' x0 (List.mem_of_getElem? hx0)
    rw [hb,zaw,zaq (zdQ hx0),zf0,zae (by rfl),zfl,hx0l,zae (by omega),zae (by omega),zae (by simp),Int.toNat_natCast,ztN]
    have hls:∀ l∈rs.map (·.2),l.length=n:=by intro l hl; obtain ⟨y,hy,rfl⟩:=List.mem_map.1 hl; exact hl' y hy
    let st:Nat→(List D×List D×Int×Int×PUnit)×PUnit:=fun k=>((uL (sumK pow8 n (rs.map (·.2)) k),pL rs,((pL rs).length:Int),(k:Int),PUnit.unit),PUnit.unit)
    have hst:st 0=((uL (List.replicate n 0),pL rs,((pL rs).length:Int),0,PUnit.unit),PUnit.unit):=rfl
    rw [←hst]
    refine zcQ st rs.length (by omega) ?_ ?_
    · intro again k hk
      dsimp only [st]
      obtain ⟨x,hx⟩:∃ x,rs[k]? =some x:=⟨_,List.getElem?_eq_getElem hk⟩
      have hxl:=hl' x (List.mem_of_getElem? hx)
      have hd:decide ((k:Int) < ((pL rs).length:Int))=true:=by simp; omega
      have hsl:=zoe (f:=pow8) hls (k:=k) (by simp; omega)
      rw [hd,za6,zae (by omega),zaq (by simpa using zdQ hx),zf0,zae (by omega)]
      have hb2:(((uL x.2).length:Int) != ((uL (sumK pow8 n (rs.map (·.2)) k)).length:Int))=false:=by simp [hxl,hsl]
      have hone:=zuj k (by omega)
      rw [hb2,zaw,hone,zad,zbp,zhI _ _ (by omega) (zhq k).1 (zhq k).2,zad,zbH,zae (by omega),zae (by omega),zdO,zdO,zgK _ _ _ _ (by omega),zad,zbH,zaZ,
        zah (by omega) (by omega),zae (by rfl)]
      have he:addL (sumK pow8 n (rs.map (·.2)) k) (x.2.map (mul8 · (pow8 k)))=sumK pow8 n (rs.map (·.2)) (k+1):=by
        unfold addL
        rw [if_pos (by simp [hsl,hxl])]
        have:(rs.map (·.2)).getD k []=x.2:=by simp [List.getD_eq_getElem?_getD,hx]
        simp only [sumK,this]
      rw [he]
      rfl
    · intro again
      dsimp only [st]
      have hd:decide ((rs.length:Int) < ((pL rs).length:Int))=false:=by simp
      rw [hd,zaw,zae (by rfl),zae (zhX _)]
      simp [sumQ]
  rw [hsum (by simpa using h0) (by simpa using h1) (by intro x hx; obtain ⟨y,hy,rfl⟩:=List.mem_map.1 hx; exact h y hy),zad,zbH,zae (by rfl),zae (zhX _),List.map_map]
  rfl
end Wf

