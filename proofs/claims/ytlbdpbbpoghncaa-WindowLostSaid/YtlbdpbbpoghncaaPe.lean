/- A part of the proof: lemmas that the law's row leans on. -/
import Derived.Test.YtlbdpbbpoghncaaPd
set_option linter.all false
namespace Wf
open Go Go.RowKit Go.Proofs
set_option linter.unusedVariables false
set_option maxRecDepth 100000
def zfN:Ann:={ loops:=[] }
noncomputable def zac:List D→Option D:=denP Try.prog (zav []) zfN [0] ID.wattlekeep_Within
theorem ziO:za0 Try.prog ID.wattlekeep_Within (.pure [0] zac):=zai (zaw []) zbp ⟨Try.f16,by kernel_rfl,by kernel_rfl,by kernel_rfl⟩
noncomputable def zcR:Fact Try.prog:=⟨ID.wattlekeep_Within,(.pure [0] zac),ziO⟩
noncomputable def zez (a0:Int) (a1:Int):Option D:=
  brK (decide (a1 < (1:Int)))
    (some (D.int IntKind.i64 (0:Int)))
    (sif (a1≠(0:Int)) <|
    letN (Int.tmod a0 a1) fun n1=>
    brK (decide (n1 < (0:Int)))
      (letN (IntKind.wrap IntKind.i64 (n1+a1)) fun n2=>
      some (D.int IntKind.i64 n2))
      (some (D.int IntKind.i64 n1)))
theorem zl4 (a0:Int) (a1:Int):denP Try.prog (zav []) zfN [0] ID.wattlekeep_Within [.int .i64 a0,.int .i64 a1]=zez a0 a1:=by kernel_rfl
theorem zjo (a0:Int) (a1:Int):zac [.int .i64 a0,.int .i64 a1]=zez a0 a1:=zl4 a0 a1
def zfO:Ann:={ loops:=[] }
noncomputable def zad:List D→Option D:=denP Try.prog (zav []) zfO [0] ID.wattleref01_Check
theorem ziP:za0 Try.prog ID.wattleref01_Check (.pure [0] zad):=zai (zaw []) zbp ⟨Try.f53,by kernel_rfl,by kernel_rfl,by kernel_rfl⟩
noncomputable def zcm:Fact Try.prog:=⟨ID.wattleref01_Check,(.pure [0] zad),ziP⟩
noncomputable def zeA (a0_0:Int) (a0_1:Int) (a0_2:Int):Option D:=
  brK (a0_0 == (6:Int))
    (brK (a0_0 == (5:Int))
      (brK (decide (a0_1≥(4:Int)))
        (brK (decide (a0_1≤(8:Int)))
          (brK (a0_2 == (1:Int))
            (some (D.bool true))
            (brK (a0_2 == (2:Int))
              (some (D.bool true))
              (some (D.bool (a0_2 == (4:Int))))))
          (some (D.bool false)))
        (some (D.bool false)))
      (brK (a0_0 == (6:Int))
        (brK (decide (a0_1≥(4:Int)))
          (brK (decide (a0_1≤(8:Int)))
            (brK (a0_2 == (1:Int))
              (some (D.bool true))
              (brK (a0_2 == (2:Int))
                (some (D.bool true))
                (some (D.bool (a0_2 == (4:Int))))))
            (some (D.bool false)))
          (some (D.bool false)))
        (some (D.bool false))))
    (brK (a0_0 == (5:Int))
      (brK (decide (a0_1≥(3:Int)))
        (brK (decide (a0_1≤(8:Int)))
          (brK (a0_2 == (1:Int))
            (some (D.bool true))
            (brK (a0_2 == (2:Int))
              (some (D.bool true))
              (some (D.bool (a0_2 == (4:Int))))))
          (some (D.bool false)))
        (some (D.bool false)))
      (brK (a0_0 == (6:Int))
        (brK (decide (a0_1≥(3:Int)))
          (brK (decide (a0_1≤(8:Int)))
            (brK (a0_2 == (1:Int))
              (some (D.bool true))
              (brK (a0_2 == (2:Int))
                (some (D.bool true))
                (some (D.bool (a0_2 == (4:Int))))))
            (some (D.bool false)))
          (some (D.bool false)))
        (some (D.bool false))))
theorem zl5 (a0_0:Int) (a0_1:Int) (a0_2:Int):denP Try.prog (zav []) zfO [0] ID.wattleref01_Check [.agg [.int .i64 a0_0,.int .i64 a0_1,.int .i64 a0_2]]=zeA a0_0 a0_1 a0_2:=by kernel_rfl
theorem zjp (a0_0:Int) (a0_1:Int) (a0_2:Int):zad [.agg [.int .i64 a0_0,.int .i64 a0_1,.int .i64 a0_2]]=zeA a0_0 a0_1 a0_2:=zl5 a0_0 a0_1 a0_2
def zfh:Ann:={ loops:=[] }
noncomputable def zaz:List D→Option D:=denP Try.prog (zav [(ID.wattleref01_Check,(.pure [0] zad))]) zfh [0] ID.wattleref01_Budget
theorem zia:za0 Try.prog ID.wattleref01_Budget (.pure [0] zaz):=zai (zaw [zcm]) zbp ⟨Try.f76,by kernel_rfl,by kernel_rfl,by kernel_rfl⟩
noncomputable def zeZ:Fact Try.prog:=⟨ID.wattleref01_Budget,(.pure [0] zaz),zia⟩
noncomputable def zec (zad:List D→Option D) (a0_0:Int) (a0_1:Int) (a0_2:Int):Option D:=
  zao (zad [D.agg [D.int IntKind.i64 a0_0,D.int IntKind.i64 a0_1,D.int IntKind.i64 a0_2]]) fun r1=>
  asB r1 fun b2=>
  brK (!b2)
    (some (D.int IntKind.i64 (0:Int)))
    (letN (IntKind.wrap IntKind.i64 (a0_0 - (4:Int))) fun n3=>
    some (D.int IntKind.i64 n3))
theorem zk9 (zad:List D→Option D) (a0_0:Int) (a0_1:Int) (a0_2:Int):denP Try.prog (zav [(ID.wattleref01_Check,(.pure [0] zad))]) zfh [0] ID.wattleref01_Budget [.agg [.int .i64 a0_0,.int .i64 a0_1,.int .i64 a0_2]]=zec zad a0_0 a0_1 a0_2:=by kernel_rfl
theorem ziQ (a0_0:Int) (a0_1:Int) (a0_2:Int):zaz [.agg [.int .i64 a0_0,.int .i64 a0_1,.int .i64 a0_2]]=zec zad a0_0 a0_1 a0_2:=zk9 zad a0_0 a0_1 a0_2
def zfP:Ann:={ loops:=[] }
noncomputable def zaa:List D→Option D:=denP Try.prog (zav [(ID.wattleref01_Check,(.pure [0] zad)),(ID.wattleref01_Budget,(.pure [0] zaz))]) zfP [0] ID.wattleref01_Width
theorem ziR:za0 Try.prog ID.wattleref01_Width (.pure [0] zaa):=zai (zaw [zcm,zeZ]) zbp ⟨Try.f32,by kernel_rfl,by kernel_rfl,by kernel_rfl⟩
noncomputable def zbq:Fact Try.prog:=⟨ID.wattleref01_Width,(.pure [0] zaa),ziR⟩
noncomputable def zeB (zad:List D→Option D) (zaz:List D→Option D) (a0_0:Int) (a0_1:Int) (a0_2:Int):Option D:=
  zao (zad [D.agg [D.int IntKind.i64 a0_0,D.int IntKind.i64 a0_1,D.int IntKind.i64 a0_2]]) fun r1=>
  asB r1 fun b2=>
  brK (!b2)
    (some (D.int IntKind.i64 (0:Int)))
    (zao (zaz [D.agg [D.int IntKind.i64 a0_0,D.int IntKind.i64 a0_1,D.int IntKind.i64 a0_2]]) fun r3=>
    asI IntKind.i64 r3 fun i4=>
    letN (IntKind.wrap IntKind.i64 (a0_1 - i4)) fun n5=>
    some (D.int IntKind.i64 n5))
theorem zl6 (zad:List D→Option D) (zaz:List D→Option D) (a0_0:Int) (a0_1:Int) (a0_2:Int):denP Try.prog (zav [(ID.wattleref01_Check,(.pure [0] zad)),(ID.wattleref01_Budget,(.pure [0] zaz))]) zfP [0] ID.wattleref01_Width [.agg [.int .i64 a0_0,.int .i64 a0_1,.int .i64 a0_2]]=zeB zad zaz a0_0 a0_1 a0_2:=by kernel_rfl
theorem zjq (a0_0:Int) (a0_1:Int) (a0_2:Int):zaa [.agg [.int .i64 a0_0,.int .i64 a0_1,.int .i64 a0_2]]=zeB zad zaz a0_0 a0_1 a0_2:=zl6 zad zaz a0_0 a0_1 a0_2
def zgO:Ann:={ loops:=[] }
noncomputable def zaq:List D→Option D:=denP Try.prog (zav [(ID.wattleref01_Check,(.pure [0] zad)),(ID.wattleref01_Width,(.pure [0] zaa))]) zgO [0] ID.wattleref01_Can
theorem zka:za0 Try.prog ID.wattleref01_Can (.pure [0] zaq):=zai (zaw [zcm,zbq]) zbp ⟨Try.f61,by kernel_rfl,by kernel_rfl,by kernel_rfl⟩
noncomputable def zed:Fact Try.prog:=⟨ID.wattleref01_Can,(.pure [0] zaq),zka⟩
noncomputable def zfu (zad:List D→Option D) (zaa:List D→Option D) (a0_0:Int) (a0_1:Int) (a0_2:Int) (a1_0:Int) (a1_1:Int) (a1_2:Int):Option D:=
  zao (zad [D.agg [D.int IntKind.i64 a0_0,D.int IntKind.i64 a0_1,D.int IntKind.i64 a0_2]]) fun r1=>
  asB r1 fun b2=>
  brK b2
    (zao (zad [D.agg [D.int IntKind.i64 a1_0,D.int IntKind.i64 a1_1,D.int IntKind.i64 a1_2]]) fun r3=>
    asB r3 fun b4=>
    brK b4
      (brK (!(a0_0 == a1_0 && (a0_1 == a1_1 && (a0_2 == a1_2 && true))))
        (brK (decide (a1_1≥a0_1))
          (brK (decide (a1_0≥a0_0))
            (zao (zaa [D.agg [D.int IntKind.i64 a1_0,D.int IntKind.i64 a1_1,D.int IntKind.i64 a1_2]]) fun r5=>
            asI IntKind.i64 r5 fun i6=>
            zao (zaa [D.agg [D.int IntKind.i64 a0_0,D.int IntKind.i64 a0_1,D.int IntKind.i64 a0_2]]) fun r7=>
            asI IntKind.i64 r7 fun i8=>
            some (D.bool (decide (i6≥i8))))
            (some (D.bool false)))
          (some (D.bool false)))
        (some (D.bool false)))
      (some (D.bool false)))
    (some (D.bool false))
theorem zn0 (zad:List D→Option D) (zaa:List D→Option D) (a0_0:Int) (a0_1:Int) (a0_2:Int) (a1_0:Int) (a1_1:Int) (a1_2:Int):denP Try.prog (zav [(ID.wattleref01_Check,(.pure [0] zad)),(ID.wattleref01_Width,(.pure [0] zaa))]) zgO [0] ID.wattleref01_Can [.agg [.int .i64 a0_0,.int .i64 a0_1,.int .i64 a0_2],.agg [.int .i64 a1_0,.int .i64 a1_1,.int .i64 a1_2]]=zfu zad zaa a0_0 a0_1 a0_2 a1_0 a1_1 a1_2:=by kernel_rfl
theorem zla (a0_0:Int) (a0_1:Int) (a0_2:Int) (a1_0:Int) (a1_1:Int) (a1_2:Int):zaq [.agg [.int .i64 a0_0,.int .i64 a0_1,.int .i64 a0_2],.agg [.int .i64 a1_0,.int .i64 a1_1,.int .i64 a1_2]]=zfu zad zaa a0_0 a0_1 a0_2 a1_0 a1_1 a1_2:=zn0 zad zaa a0_0 a0_1 a0_2 a1_0 a1_1 a1_2
def zgP:Ann:={ loops:=[] }
noncomputable def zbv:List D→Option D:=denP Try.prog (zav [(ID.wattlekeep_Within,(.pure [0] zac)),(ID.wattleref01_Can,(.pure [0] zaq))]) zgP [0,0] ID.wattleplay_Pair
theorem zkb:za0 Try.prog ID.wattleplay_Pair (.pure [0,0] zbv):=zai (zaw [zcR,zed]) zbp ⟨Try.f47,by kernel_rfl,by kernel_rfl,by kernel_rfl⟩
noncomputable def zlb:Fact Try.prog:=⟨ID.wattleplay_Pair,(.pure [0,0] zbv),zkb⟩
noncomputable def zfv (zac:List D→Option D) (zaq:List D→Option D) (a0:Int) (a1:Int):Option D:=
  zao (zac [D.int IntKind.i64 a0,D.int IntKind.i64 (2:Int)]) fun r1=>
  asI IntKind.i64 r1 fun i2=>
  letN (IntKind.wrap IntKind.i64 ((3:Int)+i2)) fun n3=>
  letN (IntKind.wrap IntKind.i64 (Int.tdiv a0 (2:Int))) fun n4=>
  zao (zac [D.int IntKind.i64 n4,D.int IntKind.i64 (3:Int)]) fun r5=>
  asI IntKind.i64 r5 fun i6=>
  sif ((0:Int)≤i6) <|
  getK ([D.int IntKind.i64 (1:Int),D.int IntKind.i64 (2:Int),D.int IntKind.i64 (4:Int)]) (Int.toNat i6) fun d7=>
  asI IntKind.i64 d7 fun i8=>
  letN (IntKind.wrap IntKind.i64 (Int.tdiv a0 (6:Int))) fun n9=>
  zao (zac [D.int IntKind.i64 n9,D.int IntKind.i64 (4:Int)]) fun r10=>
  asI IntKind.i64 r10 fun i11=>
  brK (i11 == (3:Int))
    (zao (zac [D.int IntKind.i64 a0,D.int IntKind.i64 (2:Int)]) fun r12=>
    asI IntKind.i64 r12 fun i13=>
    letN (IntKind.wrap IntKind.i64 ((4:Int)+i13)) fun n14=>
    zao (zac [D.int IntKind.i64 a1,D.int IntKind.i64 (3:Int)]) fun r15=>
    asI IntKind.i64 r15 fun i16=>
    letN (IntKind.wrap IntKind.i64 (n14+i16)) fun n17=>
    letN (IntKind.wrap IntKind.i64 (Int.tdiv a1 (3:Int))) fun n18=>
    zao (zac [D.int IntKind.i64 n18,D.int IntKind.i64 (3:Int)]) fun r19=>
    asI IntKind.i64 r19 fun i20=>
    sif ((0:Int)≤i20) <|
    getK ([D.int IntKind.i64 (1:Int),D.int IntKind.i64 (2:Int),D.int IntKind.i64 (4:Int)]) (Int.toNat i20) fun d21=>
    asI IntKind.i64 d21 fun i22=>
    zao (zaq [D.agg [D.int IntKind.i64 (6:Int),D.int IntKind.i64 n14,D.int IntKind.i64 i8],D.agg [D.int IntKind.i64 (6:Int),D.int IntKind.i64 n17,D.int IntKind.i64 i22]]) fun r23=>
    asB r23 fun b24=>
    brK (!b24)
      (letN (IntKind.wrap IntKind.i64 (n17+(1:Int))) fun n25=>
      some (D.tup [D.agg [D.int IntKind.i64 (6:Int),D.int IntKind.i64 n14,D.int IntKind.i64 i8],D.agg [D.int IntKind.i64 (6:Int),D.int IntKind.i64 n25,D.int IntKind.i64 i22]]))
      (some (D.tup [D.agg [D.int IntKind.i64 (6:Int),D.int IntKind.i64 n14,D.int IntKind.i64 i8],D.agg [D.int IntKind.i64 (6:Int),D.int IntKind.i64 n17,D.int IntKind.i64 i22]])))
    (zao (zac [D.int IntKind.i64 a1,D.int IntKind.i64 (3:Int)]) fun r26=>
    asI IntKind.i64 r26 fun i27=>
    letN (IntKind.wrap IntKind.i64 (n3+i27)) fun n28=>
    letN (IntKind.wrap IntKind.i64 (Int.tdiv a1 (3:Int))) fun n29=>
    zao (zac [D.int IntKind.i64 n29,D.int IntKind.i64 (3:Int)]) fun r30=>
    asI IntKind.i64 r30 fun i31=>
    sif ((0:Int)≤i31) <|
    getK ([D.int IntKind.i64 (1:Int),D.int IntKind.i64 (2:Int),D.int IntKind.i64 (4:Int)]) (Int.toNat i31) fun d32=>
    asI IntKind.i64 d32 fun i33=>
    letN (IntKind.wrap IntKind.i64 (Int.tdiv a1 (9:Int))) fun n34=>
    zao (zac [D.int IntKind.i64 n34,D.int IntKind.i64 (2:Int)]) fun r35=>
    asI IntKind.i64 r35 fun i36=>
    brK (i36 == (1:Int))
      (letN (IntKind.wrap IntKind.i64 (n3+(1:Int))) fun n37=>
      letN (max n28 n37) fun n38=>
      zao (zaq [D.agg [D.int IntKind.i64 (5:Int),D.int IntKind.i64 n3,D.int IntKind.i64 i8],D.agg [D.int IntKind.i64 (6:Int),D.int IntKind.i64 n38,D.int IntKind.i64 i33]]) fun r39=>
      asB r39 fun b40=>
      brK (!b40)
        (letN (IntKind.wrap IntKind.i64 (n38+(1:Int))) fun n41=>
        some (D.tup [D.agg [D.int IntKind.i64 (5:Int),D.int IntKind.i64 n3,D.int IntKind.i64 i8],D.agg [D.int IntKind.i64 (6:Int),D.int IntKind.i64 n41,D.int IntKind.i64 i33]]))
        (some (D.tup [D.agg [D.int IntKind.i64 (5:Int),D.int IntKind.i64 n3,D.int IntKind.i64 i8],D.agg [D.int IntKind.i64 (6:Int),D.int IntKind.i64 n38,D.int IntKind.i64 i33]])))
      (zao (zaq [D.agg [D.int IntKind.i64 (5:Int),D.int IntKind.i64 n3,D.int IntKind.i64 i8],D.agg [D.int IntKind.i64 (5:Int),D.int IntKind.i64 n28,D.int IntKind.i64 i33]]) fun r42=>
      asB r42 fun b43=>
      brK (!b43)
        (letN (IntKind.wrap IntKind.i64 (n28+(1:Int))) fun n44=>
        some (D.tup [D.agg [D.int IntKind.i64 (5:Int),D.int IntKind.i64 n3,D.int IntKind.i64 i8],D.agg [D.int IntKind.i64 (5:Int),D.int IntKind.i64 n44,D.int IntKind.i64 i33]]))
        (some (D.tup [D.agg [D.int IntKind.i64 (5:Int),D.int IntKind.i64 n3,D.int IntKind.i64 i8],D.agg [D.int IntKind.i64 (5:Int),D.int IntKind.i64 n28,D.int IntKind.i64 i33]]))))
theorem zn1 (zac:List D→Option D) (zaq:List D→Option D) (a0:Int) (a1:Int):denP Try.prog (zav [(ID.wattlekeep_Within,(.pure [0] zac)),(ID.wattleref01_Can,(.pure [0] zaq))]) zgP [0,0] ID.wattleplay_Pair [.int .i64 a0,.int .i64 a1]=zfv zac zaq a0 a1:=by kernel_rfl
theorem zlc (a0:Int) (a1:Int):zbv [.int .i64 a0,.int .i64 a1]=zfv zac zaq a0 a1:=zn1 zac zaq a0 a1
def zoK:Ann:={ loops:=[],pubs:=[(1,[(0,119,7649)])],ks:=[(7649,true)] }
noncomputable def zcW:List D→List Tb→Option Ans:=denS Try.prog (zav []) zoK [0] ID.disk_New
theorem zq9:za0 Try.prog ID.disk_New (.st [] [0] [(7649,true)] zcW):=zbR (zaw []) zbp ⟨Try.f80,by kernel_rfl,by kernel_rfl,by kernel_rfl⟩
noncomputable def ztk:Fact Try.prog:=⟨ID.disk_New,(.st [] [0] [(7649,true)] zcW),zq9⟩
noncomputable def zn2 (T0:Tb):Option Ans:=
  letT (T0++[List.map D.own0 (List.reverse ([D.bool false,D.sl Tag.nil []]++List.replicate 1664 (D.int IntKind.u8 (0:Int))))]) fun U1=>
  some (Ans.mk (D.h (7649:Nat) (List.length T0) (0:Nat)) [] [U1])
theorem zyl (T0:Tb):denS Try.prog (zav []) zoK [0] ID.disk_New [] [T0]=zn2 T0:=by kernel_rfl
theorem ztl (T0:Tb):zcW [] [T0]=zn2 T0:=zyl T0
def zm5:Ann:={ loops:=[(1,[.dead,.dead,.dead,.dead,.val (.cell (.hnd (3840:Nat))),.dead,.dead,.dead,.dead,.dead,.dead,.dead,.dead,.dead,.val (.cell (.int .i64)),.val (.cell (.int .i64))])],pubs:=[(3,[(4,63,3840)])],ks:=[(3840,true),(7649,true)] }
noncomputable def zbo:List D→List Tb→Option Ans:=denS Try.prog (zav [(ID.disk_New,(.st [] [0] [(7649,true)] zcW))]) zm5 [0,0] ID.bench_New
theorem zqr:za0 Try.prog ID.bench_New (.st [] [0,0] [(3840,true),(7649,true)] zbo):=zbR (zaw [ztk]) zbp ⟨Try.f35,by kernel_rfl,by kernel_rfl,by kernel_rfl⟩
noncomputable def zlB:Fact Try.prog:=⟨ID.bench_New,(.st [] [0,0] [(3840,true),(7649,true)] zbo),zqr⟩
noncomputable def zl7 (zcW:List D→List Tb→Option Ans) (a0:Int) (T0:Tb) (T1:Tb):Option Ans:=
  brK (decide (a0 < (1:Int)))
    (some (Ans.mk (D.tup [D.nilp,D.int IntKind.i64 (1:Int)]) [] [T0,T1]))
    (brK (decide (a0 > (8:Int)))
      (some (Ans.mk (D.tup [D.nilp,D.int IntKind.i64 (1:Int)]) [] [T0,T1]))
      (letT (T0++[[D.own0 (D.int IntKind.i64 (0:Int)),D.own0 (D.int IntKind.i64 (-1:Int)),D.own0 (D.bool false),D.own0 (D.sl Tag.nil [])]]) fun U1=>
      zb4 (α:=(Nat×Int×Int×PUnit)×List (List D)×List (List D)×PUnit) (fun again2 ((x3,(i4,(i5,_))),(U6,(U7,_)))=>
        brK (decide (i5 < i4))
          (getK U6 x3 fun d8=>
          getK d8 ((3:Nat)) fun d9=>
          zbD d9 fun l10=>
          zao (zcW [] [U7]) fun r11=>
          nilK r11.outs <|
          zh1 r11.tbs fun c12 q13=>
          nilK q13 <|
          sif (zjW r11.r=true) <|
          sif (zeS (1:Nat) [r11.r]=true) <|
          getK U6 x3 fun d14=>
          getK d14 ((3:Nat)) fun d15=>
          zbD d15 fun l16=>
          sif (List.length l10+(1:Nat)≤(4294967296:Nat)) <|
          sif (zeS (1:Nat) [r11.r]=true) <|
          sif (List.length l10=List.length l16) <|
          letT (setT U6 x3 (3:Nat) D.undef) fun U17=>
          getK U17 x3 fun d18=>
          sif ((4:Nat)≤List.length d18) <|
          sif (List.length l10+(1:Nat)=List.length (l16++[r11.r])) <|
          sif (zdN (l16++[r11.r])=true) <|
          sif (zh3 (1:Nat) (l16++[r11.r])=true) <|
          letT (zbt U17 x3 (3:Nat) [D.sl Tag.own (l16++[r11.r])]) fun U19=>
          letN (IntKind.wrap IntKind.i64 (i5+(1:Int))) fun n20=>
          again2 (((x3,i4,n20,PUnit.unit),U19,c12,PUnit.unit)))
          (some (Ans.mk (D.tup [D.h (3840) x3 (0:Nat),D.int IntKind.i64 (0:Int)]) [] [U6,U7])))
        (((List.length T0,a0,(0:Int),PUnit.unit),U1,T1,PUnit.unit))))
theorem zwf (zcW:List D→List Tb→Option Ans) (a0:Int) (T0:Tb) (T1:Tb):denS Try.prog (zav [(ID.disk_New,(.st [] [0] [(7649,true)] zcW))]) zm5 [0,0] ID.bench_New [.int .i64 a0] [T0,T1]=zl7 zcW a0 T0 T1:=by kernel_rfl
theorem zra (a0:Int) (T0:Tb) (T1:Tb):zbo [.int .i64 a0] [T0,T1]=zl7 zcW a0 T0 T1:=zwf zcW a0 T0 T1
def zgQ:Ann:={ loops:=[(0,[.val (.cell (.int .i64)),.val (.cell (.int .i64)),.dead,.dead,.dead,.own 1,.dead,.dead,.dead,.dead,.val (.cell (.int .i64)),.val (.cell (.int .i64))])] }
noncomputable def zbw:List D→Option D:=denP Try.prog (zav [(ID.wattlekeep_Within,(.pure [0] zac))]) zgQ [1] ID.wattleplay_Live
theorem zkc:za0 Try.prog ID.wattleplay_Live (.pure [1] zbw):=zai (zaw [zcR]) zbp ⟨Try.f18,by kernel_rfl,by kernel_rfl,by kernel_rfl⟩
noncomputable def zld:Fact Try.prog:=⟨ID.wattleplay_Live,(.pure [1] zbw),zkc⟩
noncomputable def zfw (zac:List D→Option D) (a0:Int) (a1:Int):Option D:=
  sif ((0:Int)≤a1) <|
  sif (a1=a1) <|
  sif (a1*(1:Int)≤(140737488355328:Int)) <|
  sif (a1≤(140737488355328:Int)) <|
  sif ((0:Nat)+Int.toNat a1≤List.length (List.replicate (Int.toNat a1) (D.bool false))) <|
  sif (Int.toNat a1=List.length (List.replicate (Int.toNat a1) (D.bool false))) <|
  zb4 (α:=(Int×Int×List D×Int×Int×PUnit)×PUnit) (fun again1 ((i2,(i3,(l4,(i5,(i6,_))))),_)=>
    brK (decide (i6 < i5))
      (sif ((0:Int)≤i6) <|
      sif (Int.toNat i6 < List.length l4) <|
      getK l4 ((0:Nat)+Int.toNat i6) fun d7=>
      sif (D.isAgg d7=false) <|
      letN (IntKind.wrap IntKind.i64 (i6+(1:Int))) fun n8=>
      sif (List.length l4=List.length (List.set l4 ((0:Nat)+Int.toNat i6) (D.bool true))) <|
      again1 (((i2,i3,List.set l4 ((0:Nat)+Int.toNat i6) (D.bool true),i5,n8,PUnit.unit),PUnit.unit)))
      (brK (decide (i3 > (0:Int)))
        (zao (zac [D.int IntKind.i64 i2,D.int IntKind.i64 (3:Int)]) fun r9=>
        asI IntKind.i64 r9 fun i10=>
        brK (decide (i10 > (0:Int)))
          (letN (IntKind.wrap IntKind.i64 (Int.tdiv i2 (3:Int))) fun n11=>
          zao (zac [D.int IntKind.i64 n11,D.int IntKind.i64 i3]) fun r12=>
          asI IntKind.i64 r12 fun i13=>
          sif ((0:Int)≤i13) <|
          sif (Int.toNat i13 < List.length l4) <|
          getK l4 ((0:Nat)+Int.toNat i13) fun d14=>
          sif (D.isAgg d14=false) <|
          brK (decide (i3 > (0:Int)))
            (zao (zac [D.int IntKind.i64 i2,D.int IntKind.i64 (9:Int)]) fun r15=>
            asI IntKind.i64 r15 fun i16=>
            brK (i16 == (8:Int))
              (letN (IntKind.wrap IntKind.i64 (Int.tdiv i2 (27:Int))) fun n17=>
              zao (zac [D.int IntKind.i64 n17,D.int IntKind.i64 i3]) fun r18=>
              asI IntKind.i64 r18 fun i19=>
              sif ((0:Int)≤i19) <|
              sif (Int.toNat i19 < List.length l4) <|
              getK (List.set l4 ((0:Nat)+Int.toNat i13) (D.bool false)) ((0:Nat)+Int.toNat i19) fun d20=>
              sif (D.isAgg d20=false) <|
              sif (List.length l4=List.length (List.set (List.set l4 ((0:Nat)+Int.toNat i13) (D.bool false)) ((0:Nat)+Int.toNat i19) (D.bool false))) <|
              sif (List.all (List.set (List.set l4 ((0:Nat)+Int.toNat i13) (D.bool false)) ((0:Nat)+Int.toNat i19) (D.bool false)) D.free=true) <|
              some (D.sl Tag.own (List.set (List.set l4 ((0:Nat)+Int.toNat i13) (D.bool false)) ((0:Nat)+Int.toNat i19) (D.bool false))))
              (sif (List.length l4=List.length (List.set l4 ((0:Nat)+Int.toNat i13) (D.bool false))) <|
              sif (List.all (List.set l4 ((0:Nat)+Int.toNat i13) (D.bool false)) D.free=true) <|
              some (D.sl Tag.own (List.set l4 ((0:Nat)+Int.toNat i13) (D.bool false)))))
            (sif (List.length l4=List.length (List.set l4 ((0:Nat)+Int.toNat i13) (D.bool false))) <|
            sif (List.all (List.set l4 ((0:Nat)+Int.toNat i13) (D.bool false)) D.free=true) <|
            some (D.sl Tag.own (List.set l4 ((0:Nat)+Int.toNat i13) (D.bool false)))))
          (brK (decide (i3 > (0:Int)))
            (zao (zac [D.int IntKind.i64 i2,D.int IntKind.i64 (9:Int)]) fun r21=>
            asI IntKind.i64 r21 fun i22=>
            brK (i22 == (8:Int))
              (letN (IntKind.wrap IntKind.i64 (Int.tdiv i2 (27:Int))) fun n23=>
              zao (zac [D.int IntKind.i64 n23,D.int IntKind.i64 i3]) fun r24=>
              asI IntKind.i64 r24 fun i25=>
              sif ((0:Int)≤i25) <|
              sif (Int.toNat i25 < List.length l4) <|
              getK l4 ((0:Nat)+Int.toNat i25) fun d26=>
              sif (D.isAgg d26=false) <|
              sif (List.length l4=List.length (List.set l4 ((0:Nat)+Int.toNat i25) (D.bool false))) <|
              sif (List.all (List.set l4 ((0:Nat)+Int.toNat i25) (D.bool false)) D.free=true) <|
              some (D.sl Tag.own (List.set l4 ((0:Nat)+Int.toNat i25) (D.bool false))))
              (sif (List.length l4=List.length l4) <|
              sif (List.all l4 D.free=true) <|
              some (D.sl Tag.own l4)))
            (sif (List.length l4=List.length l4) <|
            sif (List.all l4 D.free=true) <|
            some (D.sl Tag.own l4))))
        (brK (decide (i3 > (0:Int)))
          (zao (zac [D.int IntKind.i64 i2,D.int IntKind.i64 (9:Int)]) fun r27=>
          asI IntKind.i64 r27 fun i28=>
          brK (i28 == (8:Int))
            (letN (IntKind.wrap IntKind.i64 (Int.tdiv i2 (27:Int))) fun n29=>
            zao (zac [D.int IntKind.i64 n29,D.int IntKind.i64 i3]) fun r30=>
            asI IntKind.i64 r30 fun i31=>
            sif ((0:Int)≤i31) <|
            sif (Int.toNat i31 < List.length l4) <|
            getK l4 ((0:Nat)+Int.toNat i31) fun d32=>
            sif (D.isAgg d32=false) <|
            sif (List.length l4=List.length (List.set l4 ((0:Nat)+Int.toNat i31) (D.bool false))) <|
            sif (List.all (List.set l4 ((0:Nat)+Int.toNat i31) (D.bool false)) D.free=true) <|
            some (D.sl Tag.own (List.set l4 ((0:Nat)+Int.toNat i31) (D.bool false))))
            (sif (List.length l4=List.length l4) <|
            sif (List.all l4 D.free=true) <|
            some (D.sl Tag.own l4)))
          (sif (List.length l4=List.length l4) <|
          sif (List.all l4 D.free=true) <|
          some (D.sl Tag.own l4)))))
    (((a0,a1,List.replicate (Int.toNat a1) (D.bool false),(↑(Int.toNat a1):Int),(0:Int),PUnit.unit),PUnit.unit))
theorem zn3 (zac:List D→Option D) (a0:Int) (a1:Int):denP Try.prog (zav [(ID.wattlekeep_Within,(.pure [0] zac))]) zgQ [1] ID.wattleplay_Live [.int .i64 a0,.int .i64 a1]=zfw zac a0 a1:=by kernel_rfl
theorem zle (a0:Int) (a1:Int):zbw [.int .i64 a0,.int .i64 a1]=zfw zac a0 a1:=zn3 zac a0 a1
def zgR:Ann:={ loops:=[],ks:=[(3840,false)] }
noncomputable def zbx:List D→List Tb→Option Ans:=denS Try.prog (zav []) zgR [0] ID.bench_Bench_Len
theorem zkd:za0 Try.prog ID.bench_Bench_Len (.st [] [0] [(3840,false)] zbx):=zbR (zaw []) zbp ⟨Try.f68,by kernel_rfl,by kernel_rfl,by kernel_rfl⟩
noncomputable def zlf:Fact Try.prog:=⟨ID.bench_Bench_Len,(.st [] [0] [(3840,false)] zbx),zkd⟩
noncomputable def zfx (a0:Nat) (T0:Tb):Option Ans:=
  getK T0 a0 fun d1=>
  getK d1 ((3:Nat)) fun d2=>
  zbD d2 fun l3=>
  getK T0 a0 fun d4=>
  getK d4 ((3:Nat)) fun d5=>
  zbD d5 fun l6=>
  sif ((0:Nat)+List.length l3≤List.length l6) <|
  some (Ans.mk (D.int IntKind.i64 (↑(List.length l3):Int)) [] [])
theorem zn4 (a0:Nat) (T0:Tb):denS Try.prog (zav []) zgR [0] ID.bench_Bench_Len [.h 3840 a0 0] [T0]=zfx a0 T0:=by kernel_rfl
theorem zlg (a0:Nat) (T0:Tb):zbx [.h 3840 a0 0] [T0]=zfx a0 T0:=zn4 a0 T0
def zeK:Ann:={ loops:=[(0,[.val (.cell .lent),.val (.cell (.int .i64)),.dead,.dead,.dead,.dead,.dead,.val (.cell (.int .i64)),.val (.cell (.int .i64))])] }
noncomputable def za2:List D→Option D:=denP Try.prog (zav []) zeK [0] ID.slices_Index_int_int
theorem zha:za0 Try.prog ID.slices_Index_int_int (.pure [0] za2):=zai (zaw []) zbp ⟨Try.f87,by kernel_rfl,by kernel_rfl,by kernel_rfl⟩
noncomputable def zhC:Fact Try.prog:=⟨ID.slices_Index_int_int,(.pure [0] za2),zha⟩
noncomputable def zdC (a0:List D) (a1:Int):Option D:=
  zb4 (α:=(List D×Int×Int×Int×PUnit)×PUnit) (fun again1 ((l2,(i3,(i4,(i5,_)))),_)=>
    brK (decide (i5 < i4))
      (sif ((0:Int)≤i5) <|
      getK l2 (Int.toNat i5) fun d6=>
      asI IntKind.i64 d6 fun i7=>
      brK (i3 == i7)
        (some (D.int IntKind.i64 i5))
        (letN (IntKind.wrap IntKind.i64 (i5+(1:Int))) fun n8=>
        again1 (((l2,i3,i4,n8,PUnit.unit),PUnit.unit))))
      (some (D.int IntKind.i64 (-1:Int))))
    (((a0,a1,(↑(List.length a0):Int),(0:Int),PUnit.unit),PUnit.unit))
theorem zjr (tga0:Tag) (a0:List D) (a1:Int):denP Try.prog (zav []) zeK [0] ID.slices_Index_int_int [.sl tga0 a0,.int .i64 a1]=zdC (D.lentL a0) a1:=by kernel_rfl
theorem zhD (tga0:Tag) (a0:List D) (a1:Int):za2 [.sl tga0 a0,.int .i64 a1]=zdC (D.lentL a0) a1:=zjr tga0 a0 a1
def zdS:Ann:={ loops:=[] }
noncomputable def zaP:List D→Option D:=denP Try.prog (zav [(ID.slices_Index_int_int,(.pure [0] za2))]) zdS [0] ID.slices_Contains_int_int
theorem zfZ:za0 Try.prog ID.slices_Contains_int_int (.pure [0] zaP):=zai (zaw [zhC]) zbp ⟨Try.f101,by kernel_rfl,by kernel_rfl,by kernel_rfl⟩
noncomputable def zgq:Fact Try.prog:=⟨ID.slices_Contains_int_int,(.pure [0] zaP),zfZ⟩
noncomputable def zc8 (za2:List D→Option D) (a0:List D) (a1:Int):Option D:=
  zao (za2 [D.sl Tag.lent a0,D.int IntKind.i64 a1]) fun r1=>
  asI IntKind.i64 r1 fun i2=>
  some (D.bool (decide (i2≥(0:Int))))
theorem zhE (za2:List D→Option D) (tga0:Tag) (a0:List D) (a1:Int):denP Try.prog (zav [(ID.slices_Index_int_int,(.pure [0] za2))]) zdS [0] ID.slices_Contains_int_int [.sl tga0 a0,.int .i64 a1]=zc8 za2 (D.lentL a0) a1:=by kernel_rfl
theorem zgr (tga0:Tag) (a0:List D) (a1:Int):zaP [.sl tga0 a0,.int .i64 a1]=zc8 za2 (D.lentL a0) a1:=zhE za2 tga0 a0 a1
def zlC:Ann:={ loops:=[] }
noncomputable def zaj:List D→Option D:=denP Try.prog (zav [(ID.slices_Contains_int_int,(.pure [0] zaP))]) zlC [0] ID.geom_Check
theorem zoW:za0 Try.prog ID.geom_Check (.pure [0] zaj):=zai (zaw [zgq]) zbp ⟨Try.f69,by kernel_rfl,by kernel_rfl,by kernel_rfl⟩
noncomputable def zde:Fact Try.prog:=⟨ID.geom_Check,(.pure [0] zaj),zoW⟩
noncomputable def zke (zaP:List D→Option D) (a0_0:Int) (a0_1:Int) (a0_2:Int):Option D:=
  asI IntKind.i64 (zx5 a0_0 (D.int IntKind.i64 (0:Int)) (setD (6:Int) (D.int IntKind.i64 (4:Int)) (setD (5:Int) (D.int IntKind.i64 (3:Int)) []))) fun i1=>
  brK (i1 == (0:Int))
    (some (D.int IntKind.i64 (1:Int)))
    (brK (decide (a0_1 < i1))
      (some (D.int IntKind.i64 (1:Int)))
      (brK (decide (a0_1 > (8:Int)))
        (some (D.int IntKind.i64 (1:Int)))
        (zao (zaP [D.sl Tag.full [D.int IntKind.i64 (1:Int),D.int IntKind.i64 (2:Int),D.int IntKind.i64 (4:Int)],D.int IntKind.i64 a0_2]) fun r2=>
        asB r2 fun b3=>
        brK (!b3)
          (some (D.int IntKind.i64 (1:Int)))
          (some (D.int IntKind.i64 (0:Int))))))
theorem zu3 (zaP:List D→Option D) (a0_0:Int) (a0_1:Int) (a0_2:Int):denP Try.prog (zav [(ID.slices_Contains_int_int,(.pure [0] zaP))]) zlC [0] ID.geom_Check [.agg [.int .i64 a0_0,.int .i64 a0_1,.int .i64 a0_2]]=zke zaP a0_0 a0_1 a0_2:=by kernel_rfl
theorem zqs (a0_0:Int) (a0_1:Int) (a0_2:Int):zaj [.agg [.int .i64 a0_0,.int .i64 a0_1,.int .i64 a0_2]]=zke zaP a0_0 a0_1 a0_2:=zu3 zaP a0_0 a0_1 a0_2
def zhp:Ann:={ loops:=[],ks:=[(3840,false)] }
noncomputable def zal:List D→List Tb→Option Ans:=denS Try.prog (zav []) zhp [0] ID.bench_Bench_is
theorem zlh:za0 Try.prog ID.bench_Bench_is (.st [] [0] [(3840,false)] zal):=zbR (zaw []) zbp ⟨Try.f66,by kernel_rfl,by kernel_rfl,by kernel_rfl⟩
noncomputable def zdt:Fact Try.prog:=⟨ID.bench_Bench_is,(.st [] [0] [(3840,false)] zal),zlh⟩
noncomputable def zf0 (a0:Nat) (a1:Int) (T0:Tb):Option Ans:=
  brK (decide (a1≥(0:Int)))
    (getK T0 a0 fun d1=>
    getK d1 ((3:Nat)) fun d2=>
    zbD d2 fun l3=>
    getK T0 a0 fun d4=>
    getK d4 ((3:Nat)) fun d5=>
    zbD d5 fun l6=>
    sif ((0:Nat)+List.length l3≤List.length l6) <|
    some (Ans.mk (D.bool (decide (a1 < (↑(List.length l3):Int)))) [] []))
    (some (Ans.mk (D.bool false) [] []))
theorem zoX (a0:Nat) (a1:Int) (T0:Tb):denS Try.prog (zav []) zhp [0] ID.bench_Bench_is [.h 3840 a0 0,.int .i64 a1] [T0]=zf0 a0 a1 T0:=by kernel_rfl
theorem zl8 (a0:Nat) (a1:Int) (T0:Tb):zal [.h 3840 a0 0,.int .i64 a1] [T0]=zf0 a0 a1 T0:=zoX a0 a1 T0
def zf8:Ann:={ loops:=[],ks:=[(7649,false)] }
noncomputable def zbk:List D→List Tb→Option Ans:=denS Try.prog (zav []) zf8 [0] ID.disk_Disk_Failed
theorem zjs:za0 Try.prog ID.disk_Disk_Failed (.st [] [0] [(7649,false)] zbk):=zbR (zaw []) zbp ⟨Try.f84,by kernel_rfl,by kernel_rfl,by kernel_rfl⟩
noncomputable def zkf:Fact Try.prog:=⟨ID.disk_Disk_Failed,(.st [] [0] [(7649,false)] zbk),zjs⟩
noncomputable def ze0 (a0:Nat) (T0:Tb):Option Ans:=
  getK T0 a0 fun d1=>
  getK d1 ((1665:Nat)) fun d2=>
  asB d2 fun b3=>
  some (Ans.mk (D.bool b3) [] [])
theorem zm6 (a0:Nat) (T0:Tb):denS Try.prog (zav []) zf8 [0] ID.disk_Disk_Failed [.h 7649 a0 0] [T0]=ze0 a0 T0:=by kernel_rfl
theorem zkg (a0:Nat) (T0:Tb):zbk [.h 7649 a0 0] [T0]=ze0 a0 T0:=zm6 a0 T0
def zfi:Ann:={ loops:=[],ks:=[(3840,false),(7649,false)] }
noncomputable def za6:List D→List Tb→Option Ans:=denS Try.prog (zav [(ID.bench_Bench_is,(.st [] [0] [(3840,false)] zal)),(ID.disk_Disk_Failed,(.st [] [0] [(7649,false)] zbk))]) zfi [0] ID.bench_Bench_Failed
theorem zib:za0 Try.prog ID.bench_Bench_Failed (.st [] [0] [(3840,false),(7649,false)] za6):=zbR (zaw [zdt,zkf]) zbp ⟨Try.f41,by kernel_rfl,by kernel_rfl,by kernel_rfl⟩
noncomputable def ziS:Fact Try.prog:=⟨ID.bench_Bench_Failed,(.st [] [0] [(3840,false),(7649,false)] za6),zib⟩
noncomputable def zee (zal:List D→List Tb→Option Ans) (zbk:List D→List Tb→Option Ans) (a0:Nat) (a1:Int) (T0:Tb) (T1:Tb):Option Ans:=
  zao (zal [D.h (3840:Nat) a0 (0:Nat),D.int IntKind.i64 a1] [T0]) fun r1=>
  nilK r1.outs <|
  nilK r1.tbs <|
  asB r1.r fun b2=>
  brK b2
    (getK T0 a0 fun d3=>
    getK d3 ((3:Nat)) fun d4=>
    zbD d4 fun l5=>
    getK T0 a0 fun d6=>
    getK d6 ((3:Nat)) fun d7=>
    zbD d7 fun l8=>
    sif ((0:Int)≤a1) <|
    sif (Int.toNat a1 < List.length l5) <|
    getK T0 a0 fun d9=>
    getK d9 ((3:Nat)) fun d10=>
    zbD d10 fun l11=>
    getK l11 ((0:Nat)+Int.toNat a1) fun d12=>
    sif (D.isAgg d12=false) <|
    sif (D.width d12=(1:Nat)) <|
    sif (D.cell d12=true) <|
    zao (zbk [d12] [T1]) fun r13=>
    nilK r13.outs <|
    nilK r13.tbs <|
    asB r13.r fun b14=>
    some (Ans.mk (D.bool b14) [] []))
    (some (Ans.mk (D.bool false) [] []))
theorem zli (zal:List D→List Tb→Option Ans) (zbk:List D→List Tb→Option Ans) (a0:Nat) (a1:Int) (T0:Tb) (T1:Tb):denS Try.prog (zav [(ID.bench_Bench_is,(.st [] [0] [(3840,false)] zal)),(ID.disk_Disk_Failed,(.st [] [0] [(7649,false)] zbk))]) zfi [0] ID.bench_Bench_Failed [.h 3840 a0 0,.int .i64 a1] [T0,T1]=zee zal zbk a0 a1 T0 T1:=by kernel_rfl
theorem ziT (a0:Nat) (a1:Int) (T0:Tb) (T1:Tb):za6 [.h 3840 a0 0,.int .i64 a1] [T0,T1]=zee zal zbk a0 a1 T0 T1:=zli zal zbk a0 a1 T0 T1
def zm7:Ann:={ loops:=[],ks:=[(3840,false),(7649,false)] }
noncomputable def zbI:List D→List Tb→Option Ans:=denS Try.prog (zav [(ID.bench_Bench_Len,(.st [] [0] [(3840,false)] zbx)),(ID.bench_Bench_Failed,(.st [] [0] [(3840,false),(7649,false)] za6))]) zm7 [0] ID.stripe_up
theorem zqt:za0 Try.prog ID.stripe_up (.st [] [0] [(3840,false),(7649,false)] zbI):=zbR (zaw [zlf,ziS]) zbp ⟨Try.f70,by kernel_rfl,by kernel_rfl,by kernel_rfl⟩
noncomputable def zlD:Fact Try.prog:=⟨ID.stripe_up,(.st [] [0] [(3840,false),(7649,false)] zbI),zqt⟩
noncomputable def zl9 (zbx:List D→List Tb→Option Ans) (za6:List D→List Tb→Option Ans) (a0:Nat) (a1:List D) (a2:Int) (T0:Tb) (T1:Tb):Option Ans:=
  zao (zbx [D.h (3840:Nat) a0 (0:Nat)] [T0]) fun r1=>
  nilK r1.outs <|
  nilK r1.tbs <|
  asI IntKind.i64 r1.r fun i2=>
  brK (decide (a2 < i2))
    (brK (decide (a2 < (↑(List.length a1):Int)))
      (sif ((0:Int)≤a2) <|
      getK a1 (Int.toNat a2) fun d3=>
      asB d3 fun b4=>
      brK b4
        (zao (za6 [D.h (3840:Nat) a0 (0:Nat),D.int IntKind.i64 a2] [T0,T1]) fun r5=>
        nilK r5.outs <|
        nilK r5.tbs <|
        asB r5.r fun b6=>
        some (Ans.mk (D.bool !b6) [] []))
        (some (Ans.mk (D.bool false) [] [])))
      (some (Ans.mk (D.bool false) [] [])))
    (some (Ans.mk (D.bool false) [] []))
theorem zwg (zbx:List D→List Tb→Option Ans) (za6:List D→List Tb→Option Ans) (tga1:Tag) (a0:Nat) (a1:List D) (a2:Int) (T0:Tb) (T1:Tb):denS Try.prog (zav [(ID.bench_Bench_Len,(.st [] [0] [(3840,false)] zbx)),(ID.bench_Bench_Failed,(.st [] [0] [(3840,false),(7649,false)] za6))]) zm7 [0] ID.stripe_up [.h 3840 a0 0,.sl tga1 a1,.int .i64 a2] [T0,T1]=zl9 zbx za6 a0 (D.lentL a1) a2 T0 T1:=by kernel_rfl
theorem zrb (tga1:Tag) (a0:Nat) (a1:List D) (a2:Int) (T0:Tb) (T1:Tb):zbI [.h 3840 a0 0,.sl tga1 a1,.int .i64 a2] [T0,T1]=zl9 zbx za6 a0 (D.lentL a1) a2 T0 T1:=zwg zbx za6 tga1 a0 a1 a2 T0 T1
def zgS:Ann:={ loops:=[],ks:=[(3840,false)] }
noncomputable def zby:List D→List Tb→Option Ans:=denS Try.prog (zav [(ID.bench_Bench_is,(.st [] [0] [(3840,false)] zal))]) zgS [0] ID.bench_Bench_may
theorem zkh:za0 Try.prog ID.bench_Bench_may (.st [] [0] [(3840,false)] zby):=zbR (zaw [zdt]) zbp ⟨Try.f85,by kernel_rfl,by kernel_rfl,by kernel_rfl⟩
noncomputable def zlj:Fact Try.prog:=⟨ID.bench_Bench_may,(.st [] [0] [(3840,false)] zby),zkh⟩
noncomputable def zfy (zal:List D→List Tb→Option Ans) (a0:Nat) (a1:Int) (T0:Tb):Option Ans:=
  zao (zal [D.h (3840:Nat) a0 (0:Nat),D.int IntKind.i64 a1] [T0]) fun r1=>
  nilK r1.outs <|
  nilK r1.tbs <|
  asB r1.r fun b2=>
  brK (!b2)
    (some (Ans.mk (D.int IntKind.i64 (1:Int)) [] []))
    (getK T0 a0 fun d3=>
    getK d3 ((2:Nat)) fun d4=>
    asB d4 fun b5=>
    brK b5
      (some (Ans.mk (D.int IntKind.i64 (6:Int)) [] []))
      (some (Ans.mk (D.int IntKind.i64 (0:Int)) [] [])))
theorem zn5 (zal:List D→List Tb→Option Ans) (a0:Nat) (a1:Int) (T0:Tb):denS Try.prog (zav [(ID.bench_Bench_is,(.st [] [0] [(3840,false)] zal))]) zgS [0] ID.bench_Bench_may [.h 3840 a0 0,.int .i64 a1] [T0]=zfy zal a0 a1 T0:=by kernel_rfl
theorem zlk (a0:Nat) (a1:Int) (T0:Tb):zby [.h 3840 a0 0,.int .i64 a1] [T0]=zfy zal a0 a1 T0:=zn5 zal a0 a1 T0
def zic:Ann:={ loops:=[],ks:=[(7649,false)] }
noncomputable def zaT:List D→List Tb→Option Ans:=denS Try.prog (zav []) zic [0] ID.disk_Disk_may
theorem zma:za0 Try.prog ID.disk_Disk_may (.st [] [0] [(7649,false)] zaT):=zbR (zaw []) zbp ⟨Try.f118,by kernel_rfl,by kernel_rfl,by kernel_rfl⟩
noncomputable def zhq:Fact Try.prog:=⟨ID.disk_Disk_may,(.st [] [0] [(7649,false)] zaT),zma⟩
noncomputable def zgT (a0:Nat) (a1:Int) (T0:Tb):Option Ans:=
  getK T0 a0 fun d1=>
  getK d1 ((1665:Nat)) fun d2=>
  asB d2 fun b3=>
  brK b3
    (some (Ans.mk (D.int IntKind.i64 (5:Int)) [] []))
    (brK (decide (a1 < (0:Int)))
      (some (Ans.mk (D.int IntKind.i64 (4:Int)) [] []))
      (brK (decide (a1≥(52:Int)))
        (some (Ans.mk (D.int IntKind.i64 (4:Int)) [] []))
        (some (Ans.mk (D.int IntKind.i64 (0:Int)) [] []))))
theorem zqu (a0:Nat) (a1:Int) (T0:Tb):denS Try.prog (zav []) zic [0] ID.disk_Disk_may [.h 7649 a0 0,.int .i64 a1] [T0]=zgT a0 a1 T0:=by kernel_rfl
theorem zm8 (a0:Nat) (a1:Int) (T0:Tb):zaT [.h 7649 a0 0,.int .i64 a1] [T0]=zgT a0 a1 T0:=zqu a0 a1 T0
def zd9:Ann:={ loops:=[] }
noncomputable def zaK:List D→Option D:=denE Try.prog (zav []) zd9 [1] ID.slices_Clone_byte_byte
theorem zgs:za0 Try.prog ID.slices_Clone_byte_byte (.pure [1] zaK):=zr7 (zaw []) zbp ⟨Try.f109,by kernel_rfl,by kernel_rfl,by kernel_rfl⟩
noncomputable def zgU:Fact Try.prog:=⟨ID.slices_Clone_byte_byte,(.pure [1] zaK),zgs⟩
noncomputable def zdf (a0:D) (b0:List D):Option D:=
  sif (List.length (a0::b0)≤(4294967296:Nat)) <|
  sif (zeS (1:Nat) (a0::b0)=true) <|
  sif (List.length (a0::b0)=List.length (a0::b0)) <|
  sif (List.all (a0::b0) D.free=true) <|
  some (D.sl Tag.own (a0::b0))
theorem zid (tga0:Tag) (a0:D) (b0:List D):denE Try.prog (zav []) zd9 [1] ID.slices_Clone_byte_byte [.sl tga0 (a0::b0)]=zdf (D.lent a0) (D.lentL b0):=by kernel_rfl
theorem zgV (tga0:Tag) (a0:D) (b0:List D):zaK [.sl tga0 (a0::b0)]=zdf (D.lent a0) (D.lentL b0):=zid tga0 a0 b0
theorem zgt (tg:Tag):zaK [.sl tg []]=some (.sl .own []):=(zoI (some (.sl .own [])))
def zhr:Ann:={ loops:=[(1,[.dead,.val (.cell (.int .i64)),.dead,.dead,.dead,.dead,.dead,.box true [(.arr 32)],.dead,.dead,.dead,.dead,.dead,.dead,.dead,.dead,.dead,.dead,.dead,.dead,.dead,.dead,.dead,.dead,.dead,.view 7649 1664,.val (.cell (.int .i64)),.val (.cell (.int .i64))])],ks:=[(7649,false)] }
noncomputable def zbF:List D→List Tb→Option Ans:=denS Try.prog (zav [(ID.disk_Disk_may,(.st [] [0] [(7649,false)] zaT)),(ID.slices_Clone_byte_byte,(.pure [1] zaK))]) zhr [1,0] ID.disk_Disk_Read
theorem zll:za0 Try.prog ID.disk_Disk_Read (.st [] [1,0] [(7649,false)] zbF):=zbR (zaw [zhq,zgU]) zbp ⟨Try.f86,by kernel_rfl,by kernel_rfl,by kernel_rfl⟩
noncomputable def zmb:Fact Try.prog:=⟨ID.disk_Disk_Read,(.st [] [1,0] [(7649,false)] zbF),zll⟩
noncomputable def zf1 (zaT:List D→List Tb→Option Ans) (zaK:List D→Option D) (a0:Nat) (a1:Int) (T0:Tb):Option Ans:=
  zao (zaT [D.h (7649:Nat) a0 (0:Nat),D.int IntKind.i64 a1] [T0]) fun r1=>
  nilK r1.outs <|
  nilK r1.tbs <|
  asI IntKind.i64 r1.r fun i2=>
  brK (i2 != (0:Int))
    (some (Ans.mk (D.tup [D.sl Tag.own [],D.int IntKind.i64 i2]) [] []))
    (sif ((0:Int)≤a1) <|
    sif (Int.toNat a1 < (52:Nat)) <|
    getK T0 a0 fun d3=>
    sif ((0:Nat)+Int.toNat a1*(32:Nat)+(32:Nat)≤List.length d3) <|
    sif (zoV (List.take (32:Nat) (List.drop ((0:Nat)+Int.toNat a1*(32:Nat)) d3))=true) <|
    sif (List.length (List.take (32:Nat) (List.drop ((0:Nat)+Int.toNat a1*(32:Nat)) d3))=(32:Nat)) <|
    sif (List.length (List.take (32:Nat) (List.drop ((0:Nat)+Int.toNat a1*(32:Nat)) d3))=(32:Nat)) <|
    getK T0 a0 fun d4=>
    getK d4 ((1664:Nat)) fun d5=>
    zbD d5 fun l6=>
    getK T0 a0 fun d7=>
    getK d7 ((1664:Nat)) fun d8=>
    zbD d8 fun l9=>
    sif ((0:Nat)+List.length l6≤List.length l9) <|
    zau ([Lf.arr (32)]) (List.take (32:Nat) (List.drop ((0:Nat)+Int.toNat a1*(32:Nat)) d3)) fun c10=>
    zb4 (α:=(Int×(List D×PUnit)×(Nat×Nat×Nat)×Int×Int×PUnit)×List (List D)×PUnit) (fun again11 ((i12,((l13,_),((x14,(x15,x16)),(i17,(i18,_))))),(U19,_))=>
      brK (decide (i18 < i17))
        (getK U19 x14 fun d20=>
        getK d20 ((1664:Nat)) fun d21=>
        zbD d21 fun l22=>
        sif ((0:Int)≤i18) <|
        sif (Int.toNat i18 < x16) <|
        getK U19 x14 fun d23=>
        getK d23 ((1664:Nat)) fun d24=>
        zbD d24 fun l25=>
        getK l25 (x15+Int.toNat i18) fun d26=>
        asAgg d26 fun cs27=>
        zau ([Lf.int IntKind.i64,Lf.arr (32)]) cs27 fun c28=>
        sif (D.width (D.agg ([D.int IntKind.i64 c28.fst]++(c28.snd.fst++[])))=(33:Nat)) <|
        sif (List.length ([D.int IntKind.i64 c28.fst]++(c28.snd.fst++[]))=(33:Nat)) <|
        brK (c28.fst == i12)
          (sif ((33:Nat)≤List.length ([D.int IntKind.i64 c28.fst]++(c28.snd.fst++[]))) <|
          sif (List.length (List.take (32:Nat) (List.drop (1:Nat) ([D.int IntKind.i64 c28.fst]++(c28.snd.fst++[]))))=(32:Nat)) <|
          sif (List.length (List.take (32:Nat) (List.drop (1:Nat) ([D.int IntKind.i64 c28.fst]++(c28.snd.fst++[]))))=(32:Nat)) <|
          sif ((32:Nat)≤List.length (l13++[])) <|
          letN (IntKind.wrap IntKind.i64 (i18+(1:Int))) fun n29=>
          zau ([Lf.arr (32)]) (spl (0:Nat) (32:Nat) (l13++[]) (List.take (32:Nat) (List.drop (1:Nat) ([D.int IntKind.i64 c28.fst]++(c28.snd.fst++[]))))) fun c30=>
          again11 (((i12,c30,(x14,x15,x16),i17,n29,PUnit.unit),U19,PUnit.unit)))
          (letN (IntKind.wrap IntKind.i64 (i18+(1:Int))) fun n31=>
          zau ([Lf.arr (32)]) (l13++[]) fun c32=>
          again11 (((i12,c32,(x14,x15,x16),i17,n31,PUnit.unit),U19,PUnit.unit))))
        (sif ((32:Nat)≤List.length (l13++[])) <|
        sif ((32:Nat)≤List.length (l13++[])) <|
        zao (zaK [D.sl Tag.lent (cut (0:Nat) (32:Nat) (l13++[]))]) fun r33=>
        zbD r33 fun l34=>
        sif (List.length l34=List.length l34) <|
        sif (List.all l34 D.free=true) <|
        some (Ans.mk (D.tup [D.sl Tag.own l34,D.int IntKind.i64 (0:Int)]) [] [])))
      (((a1,c10,(a0,(0:Nat),List.length l6),(↑(List.length l6):Int),(0:Int),PUnit.unit),T0,PUnit.unit)))
theorem zoY (zaT:List D→List Tb→Option Ans) (zaK:List D→Option D) (a0:Nat) (a1:Int) (T0:Tb):denS Try.prog (zav [(ID.disk_Disk_may,(.st [] [0] [(7649,false)] zaT)),(ID.slices_Clone_byte_byte,(.pure [1] zaK))]) zhr [1,0] ID.disk_Disk_Read [.h 7649 a0 0,.int .i64 a1] [T0]=zf1 zaT zaK a0 a1 T0:=by kernel_rfl
theorem zmc (a0:Nat) (a1:Int) (T0:Tb):zbF [.h 7649 a0 0,.int .i64 a1] [T0]=zf1 zaT zaK a0 a1 T0:=zoY zaT zaK a0 a1 T0
def zf9:Ann:={ loops:=[],ks:=[(3840,false),(7649,false)] }
noncomputable def zaL:List D→List Tb→Option Ans:=denS Try.prog (zav [(ID.bench_Bench_may,(.st [] [0] [(3840,false)] zby)),(ID.disk_Disk_Read,(.st [] [1,0] [(7649,false)] zbF))]) zf9 [1,0] ID.bench_Bench_Read
theorem zjt:za0 Try.prog ID.bench_Bench_Read (.st [] [1,0] [(3840,false),(7649,false)] zaL):=zbR (zaw [zlj,zmb]) zbp ⟨Try.f42,by kernel_rfl,by kernel_rfl,by kernel_rfl⟩
noncomputable def zfQ:Fact Try.prog:=⟨ID.bench_Bench_Read,(.st [] [1,0] [(3840,false),(7649,false)] zaL),zjt⟩
noncomputable def ze1 (zby:List D→List Tb→Option Ans) (zbF:List D→List Tb→Option Ans) (a0:Nat) (a1:Int) (a2:Int) (T0:Tb) (T1:Tb):Option Ans:=
  zao (zby [D.h (3840:Nat) a0 (0:Nat),D.int IntKind.i64 a1] [T0]) fun r1=>
  nilK r1.outs <|
  nilK r1.tbs <|
  asI IntKind.i64 r1.r fun i2=>
  brK (i2 != (0:Int))
    (some (Ans.mk (D.tup [D.sl Tag.own [],D.int IntKind.i64 i2]) [] []))
    (getK T0 a0 fun d3=>
    getK d3 ((3:Nat)) fun d4=>
    zbD d4 fun l5=>
    getK T0 a0 fun d6=>
    getK d6 ((3:Nat)) fun d7=>
    zbD d7 fun l8=>
    sif ((0:Int)≤a1) <|
    sif (Int.toNat a1 < List.length l5) <|
    getK T0 a0 fun d9=>
    getK d9 ((3:Nat)) fun d10=>
    zbD d10 fun l11=>
    getK l11 ((0:Nat)+Int.toNat a1) fun d12=>
    sif (D.isAgg d12=false) <|
    sif (D.width d12=(1:Nat)) <|
    sif (D.cell d12=true) <|
    zao (zbF [d12,D.int IntKind.i64 a2] [T1]) fun r13=>
    nilK r13.outs <|
    nilK r13.tbs <|
    zdG r13.r fun ts14=>
    zau ([Lf.any,Lf.any]) ts14 fun c15=>
    zbD c15.fst fun l16=>
    asI IntKind.i64 c15.snd.fst fun i17=>
    sif (List.length l16=List.length l16) <|
    sif (List.all l16 D.free=true) <|
    some (Ans.mk (D.tup [D.sl Tag.own l16,D.int IntKind.i64 i17]) [] []))
theorem zm9 (zby:List D→List Tb→Option Ans) (zbF:List D→List Tb→Option Ans) (a0:Nat) (a1:Int) (a2:Int) (T0:Tb) (T1:Tb):denS Try.prog (zav [(ID.bench_Bench_may,(.st [] [0] [(3840,false)] zby)),(ID.disk_Disk_Read,(.st [] [1,0] [(7649,false)] zbF))]) zf9 [1,0] ID.bench_Bench_Read [.h 3840 a0 0,.int .i64 a1,.int .i64 a2] [T0,T1]=ze1 zby zbF a0 a1 a2 T0 T1:=by kernel_rfl
theorem zki (a0:Nat) (a1:Int) (a2:Int) (T0:Tb) (T1:Tb):zaL [.h 3840 a0 0,.int .i64 a1,.int .i64 a2] [T0,T1]=ze1 zby zbF a0 a1 a2 T0 T1:=zm9 zby zbF a0 a1 a2 T0 T1
def zsg:Ann:={ loops:=[] }
noncomputable def zes:List D→Option D:=denP Try.prog (zav [(ID.geom_Check,(.pure [0] zaj))]) zsg [0] ID.row_in
theorem zu4:za0 Try.prog ID.row_in (.pure [0] zes):=zai (zaw [zde]) zbp ⟨Try.f102,by kernel_rfl,by kernel_rfl,by kernel_rfl⟩
noncomputable def zwh:Fact Try.prog:=⟨ID.row_in,(.pure [0] zes),zu4⟩
noncomputable def ztm (zaj:List D→Option D) (a0_0:Int) (a0_1:Int) (a0_2:Int) (a1:Int):Option D:=
  zao (zaj [D.agg [D.int IntKind.i64 a0_0,D.int IntKind.i64 a0_1,D.int IntKind.i64 a0_2]]) fun r1=>
  asI IntKind.i64 r1 fun i2=>
  brK (i2 == (0:Int))
    (brK (decide (a1≥(0:Int)))
      (some (D.bool (decide (a1 < (16:Int)))))
      (some (D.bool false)))
    (some (D.bool false))
theorem zBx (zaj:List D→Option D) (a0_0:Int) (a0_1:Int) (a0_2:Int) (a1:Int):denP Try.prog (zav [(ID.geom_Check,(.pure [0] zaj))]) zsg [0] ID.row_in [.agg [.int .i64 a0_0,.int .i64 a0_1,.int .i64 a0_2],.int .i64 a1]=ztm zaj a0_0 a0_1 a0_2 a1:=by kernel_rfl
theorem zwi (a0_0:Int) (a0_1:Int) (a0_2:Int) (a1:Int):zes [.agg [.int .i64 a0_0,.int .i64 a0_1,.int .i64 a0_2],.int .i64 a1]=ztm zaj a0_0 a0_1 a0_2 a1:=zBx zaj a0_0 a0_1 a0_2 a1
def zkj:Ann:={ loops:=[] }
noncomputable def zbb:List D→Option D:=denP Try.prog (zav [(ID.geom_Check,(.pure [0] zaj))]) zkj [0] ID.geom_Budget
theorem zn6:za0 Try.prog ID.geom_Budget (.pure [0] zbb):=zai (zaw [zde]) zbp ⟨Try.f127,by kernel_rfl,by kernel_rfl,by kernel_rfl⟩
noncomputable def zjf:Fact Try.prog:=⟨ID.geom_Budget,(.pure [0] zbb),zn6⟩
noncomputable def ziU (zaj:List D→Option D) (a0_0:Int) (a0_1:Int) (a0_2:Int):Option D:=
  zao (zaj [D.agg [D.int IntKind.i64 a0_0,D.int IntKind.i64 a0_1,D.int IntKind.i64 a0_2]]) fun r1=>
  asI IntKind.i64 r1 fun i2=>
  brK (i2 != (0:Int))
    (some (D.int IntKind.i64 (0:Int)))
    (letN (IntKind.wrap IntKind.i64 (a0_0 - (4:Int))) fun n3=>
    some (D.int IntKind.i64 n3))
theorem ztn (zaj:List D→Option D) (a0_0:Int) (a0_1:Int) (a0_2:Int):denP Try.prog (zav [(ID.geom_Check,(.pure [0] zaj))]) zkj [0] ID.geom_Budget [.agg [.int .i64 a0_0,.int .i64 a0_1,.int .i64 a0_2]]=ziU zaj a0_0 a0_1 a0_2:=by kernel_rfl
theorem zoZ (a0_0:Int) (a0_1:Int) (a0_2:Int):zbb [.agg [.int .i64 a0_0,.int .i64 a0_1,.int .i64 a0_2]]=ziU zaj a0_0 a0_1 a0_2:=ztn zaj a0_0 a0_1 a0_2
def zlE:Ann:={ loops:=[] }
noncomputable def zaf:List D→Option D:=denP Try.prog (zav [(ID.geom_Check,(.pure [0] zaj)),(ID.geom_Budget,(.pure [0] zbb))]) zlE [0] ID.geom_Width
theorem zo0:za0 Try.prog ID.geom_Width (.pure [0] zaf):=zai (zaw [zde,zjf]) zbp ⟨Try.f103,by kernel_rfl,by kernel_rfl,by kernel_rfl⟩
noncomputable def zcu:Fact Try.prog:=⟨ID.geom_Width,(.pure [0] zaf),zo0⟩
noncomputable def zkk (zaj:List D→Option D) (zbb:List D→Option D) (a0_0:Int) (a0_1:Int) (a0_2:Int):Option D:=
  zao (zaj [D.agg [D.int IntKind.i64 a0_0,D.int IntKind.i64 a0_1,D.int IntKind.i64 a0_2]]) fun r1=>
  asI IntKind.i64 r1 fun i2=>
  brK (i2 != (0:Int))
    (some (D.int IntKind.i64 (0:Int)))
    (zao (zbb [D.agg [D.int IntKind.i64 a0_0,D.int IntKind.i64 a0_1,D.int IntKind.i64 a0_2]]) fun r3=>
    asI IntKind.i64 r3 fun i4=>
    letN (IntKind.wrap IntKind.i64 (a0_1 - i4)) fun n5=>
    some (D.int IntKind.i64 n5))
theorem zu5 (zaj:List D→Option D) (zbb:List D→Option D) (a0_0:Int) (a0_1:Int) (a0_2:Int):denP Try.prog (zav [(ID.geom_Check,(.pure [0] zaj)),(ID.geom_Budget,(.pure [0] zbb))]) zlE [0] ID.geom_Width [.agg [.int .i64 a0_0,.int .i64 a0_1,.int .i64 a0_2]]=zkk zaj zbb a0_0 a0_1 a0_2:=by kernel_rfl
theorem zqv (a0_0:Int) (a0_1:Int) (a0_2:Int):zaf [.agg [.int .i64 a0_0,.int .i64 a0_1,.int .i64 a0_2]]=zkk zaj zbb a0_0 a0_1 a0_2:=zu5 zaj zbb a0_0 a0_1 a0_2
def zoL:Ann:={ loops:=[] }
noncomputable def zbh:List D→Option D:=denP Try.prog (zav [(ID.geom_Check,(.pure [0] zaj))]) zoL [0] ID.place_in
theorem zrc:za0 Try.prog ID.place_in (.pure [0] zbh):=zai (zaw [zde]) zbp ⟨Try.f106,by kernel_rfl,by kernel_rfl,by kernel_rfl⟩
noncomputable def ziV:Fact Try.prog:=⟨ID.place_in,(.pure [0] zbh),zrc⟩
noncomputable def zn7 (zaj:List D→Option D) (a0_0:Int) (a0_1:Int) (a0_2:Int) (a1:Int):Option D:=
  zao (zaj [D.agg [D.int IntKind.i64 a0_0,D.int IntKind.i64 a0_1,D.int IntKind.i64 a0_2]]) fun r1=>
  asI IntKind.i64 r1 fun i2=>
  brK (i2 == (0:Int))
    (brK (decide (a1≥(0:Int)))
      (some (D.bool (decide (a1 < (16:Int)))))
      (some (D.bool false)))
    (some (D.bool false))
theorem zym (zaj:List D→Option D) (a0_0:Int) (a0_1:Int) (a0_2:Int) (a1:Int):denP Try.prog (zav [(ID.geom_Check,(.pure [0] zaj))]) zoL [0] ID.place_in [.agg [.int .i64 a0_0,.int .i64 a0_1,.int .i64 a0_2],.int .i64 a1]=zn7 zaj a0_0 a0_1 a0_2 a1:=by kernel_rfl
theorem zto (a0_0:Int) (a0_1:Int) (a0_2:Int) (a1:Int):zbh [.agg [.int .i64 a0_0,.int .i64 a0_1,.int .i64 a0_2],.int .i64 a1]=zn7 zaj a0_0 a0_1 a0_2 a1:=zym zaj a0_0 a0_1 a0_2 a1
def zjg:Ann:={ loops:=[] }
noncomputable def zaW:List D→Option D:=denP Try.prog (zav [(ID.place_in,(.pure [0] zbh))]) zjg [0,0] ID.place_Parity
theorem zna:za0 Try.prog ID.place_Parity (.pure [0,0] zaW):=zai (zaw [ziV]) zbp ⟨Try.f88,by kernel_rfl,by kernel_rfl,by kernel_rfl⟩
noncomputable def zie:Fact Try.prog:=⟨ID.place_Parity,(.pure [0,0] zaW),zna⟩
noncomputable def zhF (zbh:List D→Option D) (a0_0:Int) (a0_1:Int) (a0_2:Int) (a1:Int):Option D:=
  zao (zbh [D.agg [D.int IntKind.i64 a0_0,D.int IntKind.i64 a0_1,D.int IntKind.i64 a0_2],D.int IntKind.i64 a1]) fun r1=>
  asB r1 fun b2=>
  brK (!b2)
    (some (D.tup [D.int IntKind.i64 (-1:Int),D.int IntKind.i64 (-1:Int)]))
    (letN (IntKind.wrap IntKind.i64 (a0_1 - (1:Int))) fun n3=>
    sif (a0_2≠(0:Int)) <|
    letN (IntKind.wrap IntKind.i64 (Int.tdiv a1 a0_2)) fun n4=>
    sif (a0_1≠(0:Int)) <|
    letN (Int.tmod n4 a0_1) fun n5=>
    letN (IntKind.wrap IntKind.i64 (n3 - n5)) fun n6=>
    brK (a0_0 == (5:Int))
      (some (D.tup [D.int IntKind.i64 n6,D.int IntKind.i64 (-1:Int)]))
      (letN (IntKind.wrap IntKind.i64 (n6+(1:Int))) fun n7=>
      sif (a0_1≠(0:Int)) <|
      letN (Int.tmod n7 a0_1) fun n8=>
      some (D.tup [D.int IntKind.i64 n6,D.int IntKind.i64 n8])))
theorem zrd (zbh:List D→Option D) (a0_0:Int) (a0_1:Int) (a0_2:Int) (a1:Int):denP Try.prog (zav [(ID.place_in,(.pure [0] zbh))]) zjg [0,0] ID.place_Parity [.agg [.int .i64 a0_0,.int .i64 a0_1,.int .i64 a0_2],.int .i64 a1]=zhF zbh a0_0 a0_1 a0_2 a1:=by kernel_rfl
theorem zn8 (a0_0:Int) (a0_1:Int) (a0_2:Int) (a1:Int):zaW [.agg [.int .i64 a0_0,.int .i64 a0_1,.int .i64 a0_2],.int .i64 a1]=zhF zbh a0_0 a0_1 a0_2 a1:=zrd zbh a0_0 a0_1 a0_2 a1
def zlF:Ann:={ loops:=[] }
noncomputable def zbi:List D→Option D:=denP Try.prog (zav [(ID.place_in,(.pure [0] zbh)),(ID.geom_Width,(.pure [0] zaf)),(ID.place_Parity,(.pure [0,0] zaW)),(ID.geom_Budget,(.pure [0] zbb))]) zlF [0] ID.place_Disk
theorem zo1:za0 Try.prog ID.place_Disk (.pure [0] zbi):=zai (zaw [ziV,zcu,zie,zjf]) zbp ⟨Try.f104,by kernel_rfl,by kernel_rfl,by kernel_rfl⟩
noncomputable def zkl:Fact Try.prog:=⟨ID.place_Disk,(.pure [0] zbi),zo1⟩
noncomputable def zkm (zbh:List D→Option D) (zaf:List D→Option D) (zaW:List D→Option D) (zbb:List D→Option D) (a0_0:Int) (a0_1:Int) (a0_2:Int) (a1:Int) (a2:Int):Option D:=
  zao (zbh [D.agg [D.int IntKind.i64 a0_0,D.int IntKind.i64 a0_1,D.int IntKind.i64 a0_2],D.int IntKind.i64 a1]) fun r1=>
  asB r1 fun b2=>
  brK (!b2)
    (some (D.int IntKind.i64 (-1:Int)))
    (brK (decide (a2 < (0:Int)))
      (some (D.int IntKind.i64 (-1:Int)))
      (zao (zaf [D.agg [D.int IntKind.i64 a0_0,D.int IntKind.i64 a0_1,D.int IntKind.i64 a0_2]]) fun r3=>
      asI IntKind.i64 r3 fun i4=>
      brK (decide (a2≥i4))
        (some (D.int IntKind.i64 (-1:Int)))
        (zao (zaW [D.agg [D.int IntKind.i64 a0_0,D.int IntKind.i64 a0_1,D.int IntKind.i64 a0_2],D.int IntKind.i64 a1]) fun r5=>
        zdG r5 fun ts6=>
        zau ([Lf.any,Lf.any]) ts6 fun c7=>
        asI IntKind.i64 c7.fst fun i8=>
        asI IntKind.i64 c7.snd.fst fun i9=>
        zao (zbb [D.agg [D.int IntKind.i64 a0_0,D.int IntKind.i64 a0_1,D.int IntKind.i64 a0_2]]) fun r10=>
        asI IntKind.i64 r10 fun i11=>
        letN (IntKind.wrap IntKind.i64 (i8+i11)) fun n12=>
        letN (IntKind.wrap IntKind.i64 (n12+a2)) fun n13=>
        sif (a0_1≠(0:Int)) <|
        letN (Int.tmod n13 a0_1) fun n14=>
        some (D.int IntKind.i64 n14))))
theorem zu6 (zbh:List D→Option D) (zaf:List D→Option D) (zaW:List D→Option D) (zbb:List D→Option D) (a0_0:Int) (a0_1:Int) (a0_2:Int) (a1:Int) (a2:Int):denP Try.prog (zav [(ID.place_in,(.pure [0] zbh)),(ID.geom_Width,(.pure [0] zaf)),(ID.place_Parity,(.pure [0,0] zaW)),(ID.geom_Budget,(.pure [0] zbb))]) zlF [0] ID.place_Disk [.agg [.int .i64 a0_0,.int .i64 a0_1,.int .i64 a0_2],.int .i64 a1,.int .i64 a2]=zkm zbh zaf zaW zbb a0_0 a0_1 a0_2 a1 a2:=by kernel_rfl
theorem zqw (a0_0:Int) (a0_1:Int) (a0_2:Int) (a1:Int) (a2:Int):zbi [.agg [.int .i64 a0_0,.int .i64 a0_1,.int .i64 a0_2],.int .i64 a1,.int .i64 a2]=zkm zbh zaf zaW zbb a0_0 a0_1 a0_2 a1 a2:=zu6 zbh zaf zaW zbb a0_0 a0_1 a0_2 a1 a2
def zif:Ann:={ loops:=[(0,[.dead,.dead,.dead,.own 1,.dead,.dead,.val (.cell .lent),.val (.cell (.int .i64)),.val (.cell (.int .i64))])] }
noncomputable def zbB:List D→Option D:=denP Try.prog (zav []) zif [1] ID.erase_Missing
theorem zmd:za0 Try.prog ID.erase_Missing (.pure [1] zbB):=zai (zaw []) zbp ⟨Try.f128,by kernel_rfl,by kernel_rfl,by kernel_rfl⟩
noncomputable def znb:Fact Try.prog:=⟨ID.erase_Missing,(.pure [1] zbB),zmd⟩
noncomputable def zgW (a0:List D):Option D:=
  zb4 (α:=(List D×List D×Int×Int×PUnit)×PUnit) (fun again1 ((l2,(l3,(i4,(i5,_)))),_)=>
    brK (decide (i5 < i4))
      (sif ((0:Int)≤i5) <|
      getK l3 (Int.toNat i5) fun d6=>
      asSl d6 fun t7 l8=>
      brK ((↑(List.length l8):Int) == (0:Int))
        (sif (List.length l2+(1:Nat)≤(4294967296:Nat)) <|
        sif (List.length l2=List.length l2) <|
        letN (IntKind.wrap IntKind.i64 (i5+(1:Int))) fun n9=>
        sif (List.length l2+(1:Nat)=List.length (l2++[D.int IntKind.i64 i5])) <|
        again1 (((l2++[D.int IntKind.i64 i5],l3,i4,n9,PUnit.unit),PUnit.unit)))
        (letN (IntKind.wrap IntKind.i64 (i5+(1:Int))) fun n10=>
        sif (List.length l2=List.length l2) <|
        again1 (((l2,l3,i4,n10,PUnit.unit),PUnit.unit))))
      (sif (List.length l2=List.length l2) <|
      sif (List.all l2 D.free=true) <|
      some (D.sl Tag.own l2)))
    ((([],a0,(↑(List.length a0):Int),(0:Int),PUnit.unit),PUnit.unit))
theorem zqx (tga0:Tag) (a0:List D):denP Try.prog (zav []) zif [1] ID.erase_Missing [.sl tga0 a0]=zgW (D.lentL a0):=by kernel_rfl
theorem znc (tga0:Tag) (a0:List D):zbB [.sl tga0 a0]=zgW (D.lentL a0):=zqx tga0 a0
def zjh:Ann:={ loops:=[],hints:=[(1,.at1 (.int .i64))] }
noncomputable def za8:List D→Option D:=denP Try.prog (zav []) zjh [0] ID.erase_fits_1
theorem znd:za0 Try.prog ID.erase_fits_1 (.pure [0] za8):=zai (zaw []) zbp ⟨Try.f140,by kernel_rfl,by kernel_rfl,by kernel_rfl⟩
noncomputable def zih:Fact Try.prog:=⟨ID.erase_fits_1,(.pure [0] za8),znd⟩
noncomputable def zhG (a0:List D) (c0:Int):Option D:=
  brK (decide ((↑(List.length a0):Int) > (0:Int)))
    (some (D.bool ((↑(List.length a0):Int) != c0)))
    (some (D.bool false))
theorem zre (tga0:Tag) (a0:List D) (c0:Int):denP Try.prog (zav []) zjh [0] ID.erase_fits_1 [.sl tga0 a0,.at_ (.int .i64 c0)]=zhG (D.lentL a0) c0:=by kernel_rfl
theorem zn9 (tga0:Tag) (a0:List D) (c0:Int):za8 [.sl tga0 a0,.at_ (.int .i64 c0)]=zhG (D.lentL a0) c0:=zre tga0 a0 c0
def zoa:Ann:={ loops:=[] }
noncomputable def zbg:List D→Option D:=denP Try.prog (zav []) zoa [0] ID.row_sectors_1
theorem zme:za0 Try.prog ID.row_sectors_1 (.pure [0] zbg):=zai (zaw []) zbp ⟨Try.f135,by kernel_rfl,by kernel_rfl,by kernel_rfl⟩
noncomputable def zhs:Fact Try.prog:=⟨ID.row_sectors_1,(.pure [0] zbg),zme⟩
def zdo:List (Nat×Ann):=[(140,{ loops:=[(0,[.val (.cell .lent),.val (.fn1 (140:FuncId) (.int .i64)),.dead,.dead,.dead,.dead,.dead,.val (.cell (.int .i64)),.val (.cell (.int .i64))])] }),(135,{ loops:=[(0,[.val (.cell .lent),.fnc 135,.dead,.dead,.dead,.dead,.dead,.val (.cell (.int .i64)),.val (.cell (.int .i64))])] })]
noncomputable def zaH:List D→Option D:=denA Try.prog (zav [(ID.erase_fits_1,(.pure [0] za8)),(ID.row_sectors_1,(.pure [0] zbg))]) zdo [0] ID.slices_IndexFunc_byte_byte
theorem zfg:za0 Try.prog ID.slices_IndexFunc_byte_byte (.pure [0] zaH):=zr8 (zaw [zih,zhs]) zbp ⟨Try.f143,by kernel_rfl,by kernel_rfl,by kernel_rfl⟩
noncomputable def zfz:Fact Try.prog:=⟨ID.slices_IndexFunc_byte_byte,(.pure [0] zaH),zfg⟩
noncomputable def zcb (za8:List D→Option D) (zbg:List D→Option D) (a0:List D) (c0:Int):Option D:=
  zb4 (α:=(List D×Int×Int×Int×PUnit)×PUnit) (fun again1 ((l2,(i3,(i4,(i5,_)))),_)=>
    brK (decide (i5 < i4))
      (sif ((0:Int)≤i5) <|
      getK l2 (Int.toNat i5) fun d6=>
      asSl d6 fun t7 l8=>
      zao (za8 [D.sl t7 l8,D.at_ (D.int IntKind.i64 i3)]) fun r9=>
      asB r9 fun b10=>
      brK b10
        (some (D.int IntKind.i64 i5))
        (letN (IntKind.wrap IntKind.i64 (i5+(1:Int))) fun n11=>
        again1 (((l2,i3,i4,n11,PUnit.unit),PUnit.unit))))
      (some (D.int IntKind.i64 (-1:Int))))
    (((a0,c0,(↑(List.length a0):Int),(0:Int),PUnit.unit),PUnit.unit))
theorem zeP (za8:List D→Option D) (zbg:List D→Option D) (tga0:Tag) (a0:List D) (c0:Int):denA Try.prog (zav [(ID.erase_fits_1,(.pure [0] za8)),(ID.row_sectors_1,(.pure [0] zbg))]) zdo [0] ID.slices_IndexFunc_byte_byte [.sl tga0 a0,.fn 140 [] [.at_ (.int .i64 c0)]]=zcb za8 zbg (D.lentL a0) c0:=by kernel_rfl
theorem zef (tga0:Tag) (a0:List D) (c0:Int):zaH [.sl tga0 a0,.fn 140 [] [.at_ (.int .i64 c0)]]=zcb za8 zbg (D.lentL a0) c0:=zeP za8 zbg tga0 a0 c0
def zc1:Ann:={ loops:=[] }
noncomputable def zay:List D→Option D:=denP Try.prog (zav [(ID.slices_IndexFunc_byte_byte,(.pure [0] zaH)),(ID.erase_fits_1,(.pure [0] za8)),(ID.row_sectors_1,(.pure [0] zbg))]) zc1 [0] ID.slices_ContainsFunc_byte_byte
theorem zeC:za0 Try.prog ID.slices_ContainsFunc_byte_byte (.pure [0] zay):=zai (zaw [zfz,zih,zhs]) zbp ⟨Try.f134,by kernel_rfl,by kernel_rfl,by kernel_rfl⟩
noncomputable def zeQ:Fact Try.prog:=⟨ID.slices_ContainsFunc_byte_byte,(.pure [0] zay),zeC⟩
noncomputable def zbZ (zaH:List D→Option D) (za8:List D→Option D) (zbg:List D→Option D) (a0:List D) (c0:Int):Option D:=
  zao (zaH [D.sl Tag.lent a0,D.fn (140:FuncId) [] [D.at_ (D.int IntKind.i64 c0)]]) fun r1=>
  asI IntKind.i64 r1 fun i2=>
  some (D.bool (decide (i2≥(0:Int))))
theorem zeg (zaH:List D→Option D) (za8:List D→Option D) (zbg:List D→Option D) (tga0:Tag) (a0:List D) (c0:Int):denP Try.prog (zav [(ID.slices_IndexFunc_byte_byte,(.pure [0] zaH)),(ID.erase_fits_1,(.pure [0] za8)),(ID.row_sectors_1,(.pure [0] zbg))]) zc1 [0] ID.slices_ContainsFunc_byte_byte [.sl tga0 a0,.fn 140 [] [.at_ (.int .i64 c0)]]=zbZ zaH za8 zbg (D.lentL a0) c0:=by kernel_rfl
theorem zdH (tga0:Tag) (a0:List D) (c0:Int):zay [.sl tga0 a0,.fn 140 [] [.at_ (.int .i64 c0)]]=zbZ zaH za8 zbg (D.lentL a0) c0:=zeg zaH za8 zbg tga0 a0 c0
def zlG:Ann:={ loops:=[] }
noncomputable def zb1:List D→Option D:=denP Try.prog (zav [(ID.slices_ContainsFunc_byte_byte,(.pure [0] zay))]) zlG [0] ID.erase_fits
theorem zo2:za0 Try.prog ID.erase_fits (.pure [0] zb1):=zai (zaw [zeQ]) zbp ⟨Try.f129,by kernel_rfl,by kernel_rfl,by kernel_rfl⟩
noncomputable def zqy:Fact Try.prog:=⟨ID.erase_fits,(.pure [0] zb1),zo2⟩
noncomputable def zkn (zay:List D→Option D) (a0:Int) (a1:List D):Option D:=
  zao (zay [D.sl Tag.lent a1,D.fn (140:Nat) [] [D.at_ (D.int IntKind.i64 a0)]]) fun r1=>
  asB r1 fun b2=>
  some (D.bool !b2)
theorem zu7 (zay:List D→Option D) (tga1:Tag) (a0:Int) (a1:List D):denP Try.prog (zav [(ID.slices_ContainsFunc_byte_byte,(.pure [0] zay))]) zlG [0] ID.erase_fits [.int .i64 a0,.sl tga1 a1]=zkn zay a0 (D.lentL a1):=by kernel_rfl
theorem zqz (tga1:Tag) (a0:Int) (a1:List D):zb1 [.int .i64 a0,.sl tga1 a1]=zkn zay a0 (D.lentL a1):=zu7 zay tga1 a0 a1
def zji:Ann:={ loops:=[(0,[.val (.cell (.int .i64)),.dead,.dead,.dead,.dead,.own 1,.dead,.dead,.dead,.val (.cell .lent),.val (.cell (.int .i64)),.val (.cell (.int .i64))])] }
noncomputable def zbS:List D→Option D:=denP Try.prog (zav []) zji [1] ID.erase_filled
theorem zne:za0 Try.prog ID.erase_filled (.pure [1] zbS):=zai (zaw []) zbp ⟨Try.f130,by kernel_rfl,by kernel_rfl,by kernel_rfl⟩
noncomputable def zob:Fact Try.prog:=⟨ID.erase_filled,(.pure [1] zbS),zne⟩
noncomputable def zhH (a0:Int) (a1:List D):Option D:=
  zb4 (α:=(Int×List D×List D×Int×Int×PUnit)×PUnit) (fun again1 ((i2,(l3,(l4,(i5,(i6,_))))),_)=>
    brK (decide (i6 < i5))
      (sif ((0:Int)≤i6) <|
      getK l4 (Int.toNat i6) fun d7=>
      asSl d7 fun t8 l9=>
      sif ((0:Int)≤i2) <|
      sif (i2=i2) <|
      sif (i2*(1:Int)≤(140737488355328:Int)) <|
      sif (i2≤(140737488355328:Int)) <|
      sif ((0:Nat)+Int.toNat i2≤List.length (List.replicate (Int.toNat i2) (D.int IntKind.u8 (0:Int)))) <|
      sif (cells l9=true) <|
      sif ((0:Nat)+Int.toNat i2≤List.length ([]++List.take (Int.toNat i2) l9++List.drop ((0:Nat)+List.length (List.take (Int.toNat i2) l9)) (List.replicate (Int.toNat i2) (D.int IntKind.u8 (0:Int))))) <|
      sif (List.length l3+(1:Nat)≤(4294967296:Nat)) <|
      sif (List.length l3=List.length l3) <|
      letN (IntKind.wrap IntKind.i64 (i6+(1:Int))) fun n10=>
      sif (List.length l3+(1:Nat)=List.length (l3++[D.sl Tag.fresh (cut (0:Nat) (Int.toNat i2) ([]++List.take (Int.toNat i2) l9++List.drop ((0:Nat)+List.length (List.take (Int.toNat i2) l9)) (List.replicate (Int.toNat i2) (D.int IntKind.u8 (0:Int)))))])) <|
      again1 (((i2,l3++[D.sl Tag.fresh (cut (0:Nat) (Int.toNat i2) ([]++List.take (Int.toNat i2) l9++List.drop ((0:Nat)+List.length (List.take (Int.toNat i2) l9)) (List.replicate (Int.toNat i2) (D.int IntKind.u8 (0:Int)))))],l4,i5,n10,PUnit.unit),PUnit.unit)))
      (sif (List.length l3=List.length l3) <|
      sif (List.all l3 D.free=true) <|
      some (D.sl Tag.own l3)))
    (((a0,[],a1,(↑(List.length a1):Int),(0:Int),PUnit.unit),PUnit.unit))
theorem zrf (tga1:Tag) (a0:Int) (a1:List D):denP Try.prog (zav []) zji [1] ID.erase_filled [.int .i64 a0,.sl tga1 a1]=zhH a0 (D.lentL a1):=by kernel_rfl
theorem zoc (tga1:Tag) (a0:Int) (a1:List D):zbS [.int .i64 a0,.sl tga1 a1]=zhH a0 (D.lentL a1):=zrf tga1 a0 a1
def znf:Ann:={ loops:=[] }
noncomputable def zaZ:List D→Option D:=denP Try.prog (zav []) znf [0] ID.gf_double
theorem zqA:za0 Try.prog ID.gf_double (.pure [0] zaZ):=zai (zaw []) zbp ⟨Try.f144,by kernel_rfl,by kernel_rfl,by kernel_rfl⟩
noncomputable def zhI:Fact Try.prog:=⟨ID.gf_double,(.pure [0] zaZ),zqA⟩
noncomputable def zmf (a0:Int):Option D:=
  brK (decide (a0≥(128:Int)))
    (letN (IntKind.wrap IntKind.u8 (a0*(2:Int))) fun n1=>
    letN (bits BinOp.xor IntKind.u8 n1 (29:Int)) fun n2=>
    some (D.int IntKind.u8 n2))
    (letN (IntKind.wrap IntKind.u8 (a0*(2:Int))) fun n3=>
    some (D.int IntKind.u8 n3))
theorem zwj (a0:Int):denP Try.prog (zav []) znf [0] ID.gf_double [.int .u8 a0]=zmf a0:=by kernel_rfl
theorem zrg (a0:Int):zaZ [.int .u8 a0]=zmf a0:=zwj a0
def zsh:Ann:={ loops:=[(0,[.val (.cell (.int .u8)),.val (.cell (.int .u8)),.dead,.dead,.dead,.val (.cell (.int .u8))])] }
noncomputable def zet:List D→Option D:=denP Try.prog (zav [(ID.gf_double,(.pure [0] zaZ))]) zsh [0] ID.gf_Mul
theorem zu8:za0 Try.prog ID.gf_Mul (.pure [0] zet):=zai (zaw [zhI]) zbp ⟨Try.f146,by kernel_rfl,by kernel_rfl,by kernel_rfl⟩
noncomputable def zwk:Fact Try.prog:=⟨ID.gf_Mul,(.pure [0] zet),zu8⟩
noncomputable def ztp (zaZ:List D→Option D) (a0:Int) (a1:Int):Option D:=
  zb4 (α:=(Int×Int×Int×PUnit)×PUnit) (fun again1 ((i2,(i3,(i4,_))),_)=>
    brK (decide (i3 > (0:Int)))
      (letN (bits BinOp.and IntKind.u8 i3 (1:Int)) fun n5=>
      brK (n5 == (1:Int))
        (letN (bits BinOp.xor IntKind.u8 i4 i2) fun n6=>
        zao (zaZ [D.int IntKind.u8 i2]) fun r7=>
        asI IntKind.u8 r7 fun i8=>
        letN (Int.fdiv i3 (2:Int)) fun n9=>
        again1 (((i8,n9,n6,PUnit.unit),PUnit.unit)))
        (zao (zaZ [D.int IntKind.u8 i2]) fun r10=>
        asI IntKind.u8 r10 fun i11=>
        letN (Int.fdiv i3 (2:Int)) fun n12=>
        again1 (((i11,n12,i4,PUnit.unit),PUnit.unit))))
      (some (D.int IntKind.u8 i4)))
    (((a0,a1,(0:Int),PUnit.unit),PUnit.unit))
theorem zBy (zaZ:List D→Option D) (a0:Int) (a1:Int):denP Try.prog (zav [(ID.gf_double,(.pure [0] zaZ))]) zsh [0] ID.gf_Mul [.int .u8 a0,.int .u8 a1]=ztp zaZ a0 a1:=by kernel_rfl
theorem zwl (a0:Int) (a1:Int):zet [.int .u8 a0,.int .u8 a1]=ztp zaZ a0 a1:=zBy zaZ a0 a1
def zlH:Ann:={ loops:=[(0,[.dead,.val (.cell (.int .u8)),.dead,.dead,.dead,.own 1,.dead,.dead,.val (.cell .lent),.val (.cell (.int .i64)),.val (.cell (.int .i64))])] }
noncomputable def zaE:List D→Option D:=denP Try.prog (zav [(ID.gf_Mul,(.pure [0] zet))]) zlH [1] ID.synd_Scale
theorem zo3:za0 Try.prog ID.synd_Scale (.pure [1] zaE):=zai (zaw [zwk]) zbp ⟨Try.f142,by kernel_rfl,by kernel_rfl,by kernel_rfl⟩
noncomputable def zgX:Fact Try.prog:=⟨ID.synd_Scale,(.pure [1] zaE),zo3⟩
noncomputable def zko (zet:List D→Option D) (a0:List D) (a1:Int):Option D:=
  zb4 (α:=(Int×List D×List D×Int×Int×PUnit)×PUnit) (fun again1 ((i2,(l3,(l4,(i5,(i6,_))))),_)=>
    brK (decide (i6 < i5))
      (sif ((0:Int)≤i6) <|
      getK l4 (Int.toNat i6) fun d7=>
      asI IntKind.u8 d7 fun i8=>
      zao (zet [D.int IntKind.u8 i8,D.int IntKind.u8 i2]) fun r9=>
      asI IntKind.u8 r9 fun i10=>
      sif (List.length l3+(1:Nat)≤(4294967296:Nat)) <|
      sif (List.length l3=List.length l3) <|
      letN (IntKind.wrap IntKind.i64 (i6+(1:Int))) fun n11=>
      sif (List.length l3+(1:Nat)=List.length (l3++[D.int IntKind.u8 i10])) <|
      again1 (((i2,l3++[D.int IntKind.u8 i10],l4,i5,n11,PUnit.unit),PUnit.unit)))
      (sif (List.length l3=List.length l3) <|
      sif (List.all l3 D.free=true) <|
      some (D.sl Tag.own l3)))
    (((a1,[],a0,(↑(List.length a0):Int),(0:Int),PUnit.unit),PUnit.unit))
theorem zu9 (zet:List D→Option D) (tga0:Tag) (a0:List D) (a1:Int):denP Try.prog (zav [(ID.gf_Mul,(.pure [0] zet))]) zlH [1] ID.synd_Scale [.sl tga0 a0,.int .u8 a1]=zko zet (D.lentL a0) a1:=by kernel_rfl
theorem zqB (tga0:Tag) (a0:List D) (a1:Int):zaE [.sl tga0 a0,.int .u8 a1]=zko zet (D.lentL a0) a1:=zu9 zet tga0 a0 a1
def zoM:Ann:={ loops:=[(1,[.dead,.val (.cell .lent),.dead,.dead,.dead,.own 1,.dead,.dead,.dead,.dead,.dead,.dead,.dead,.val (.cell .lent),.val (.cell (.int .i64)),.val (.cell (.int .i64))])] }
noncomputable def zaG:List D→Option D:=denP Try.prog (zav []) zoM [1] ID.synd_Add
theorem zrh:za0 Try.prog ID.synd_Add (.pure [1] zaG):=zai (zaw []) zbp ⟨Try.f132,by kernel_rfl,by kernel_rfl,by kernel_rfl⟩
noncomputable def zgu:Fact Try.prog:=⟨ID.synd_Add,(.pure [1] zaG),zrh⟩
noncomputable def zod (a0:List D) (a1:List D):Option D:=
  brK ((↑(List.length a0):Int) != (↑(List.length a1):Int))
    (some (D.sl Tag.own []))
    (zb4 (α:=(List D×List D×List D×Int×Int×PUnit)×PUnit) (fun again1 ((l2,(l3,(l4,(i5,(i6,_))))),_)=>
      brK (decide (i6 < i5))
        (sif ((0:Int)≤i6) <|
        getK l4 (Int.toNat i6) fun d7=>
        asI IntKind.u8 d7 fun i8=>
        sif ((0:Int)≤i6) <|
        getK l2 (Int.toNat i6) fun d9=>
        asI IntKind.u8 d9 fun i10=>
        letN (bits BinOp.xor IntKind.u8 i8 i10) fun n11=>
        sif (List.length l3+(1:Nat)≤(4294967296:Nat)) <|
        sif (List.length l3=List.length l3) <|
        letN (IntKind.wrap IntKind.i64 (i6+(1:Int))) fun n12=>
        sif (List.length l3+(1:Nat)=List.length (l3++[D.int IntKind.u8 n11])) <|
        again1 (((l2,l3++[D.int IntKind.u8 n11],l4,i5,n12,PUnit.unit),PUnit.unit)))
        (sif (List.length l3=List.length l3) <|
        sif (List.all l3 D.free=true) <|
        some (D.sl Tag.own l3)))
      (((a1,[],a0,(↑(List.length a0):Int),(0:Int),PUnit.unit),PUnit.unit)))
theorem zyn (tga0:Tag) (tga1:Tag) (a0:List D) (a1:List D):denP Try.prog (zav []) zoM [1] ID.synd_Add [.sl tga0 a0,.sl tga1 a1]=zod (D.lentL a0) (D.lentL a1):=by kernel_rfl
theorem ztq (tga0:Tag) (tga1:Tag) (a0:List D) (a1:List D):zaG [.sl tga0 a0,.sl tga1 a1]=zod (D.lentL a0) (D.lentL a1):=zyn tga0 tga1 a0 a1
def zsi:Ann:={ loops:=[(0,[.dead,.dead,.dead,.val (.cell (.int .u8)),.dead,.dead,.dead,.val (.cell (.int .i64)),.val (.cell (.int .i64))])] }
noncomputable def zaR:List D→Option D:=denP Try.prog (zav [(ID.gf_double,(.pure [0] zaZ))]) zsi [0] ID.gf_Pow
theorem zva:za0 Try.prog ID.gf_Pow (.pure [0] zaR):=zai (zaw [zhI]) zbp ⟨Try.f138,by kernel_rfl,by kernel_rfl,by kernel_rfl⟩
noncomputable def zgY:Fact Try.prog:=⟨ID.gf_Pow,(.pure [0] zaR),zva⟩
noncomputable def zpo (zaZ:List D→Option D) (a0:Int):Option D:=
  letN (Int.tmod a0 (255:Int)) fun n1=>
  letN (IntKind.wrap IntKind.i64 (n1+(255:Int))) fun n2=>
  letN (Int.tmod n2 (255:Int)) fun n3=>
  zb4 (α:=(Int×Int×Int×PUnit)×PUnit) (fun again4 ((i5,(i6,(i7,_))),_)=>
    brK (decide (i7 < i6))
      (zao (zaZ [D.int IntKind.u8 i5]) fun r8=>
      asI IntKind.u8 r8 fun i9=>
      letN (IntKind.wrap IntKind.i64 (i7+(1:Int))) fun n10=>
      again4 (((i9,i6,n10,PUnit.unit),PUnit.unit)))
      (some (D.int IntKind.u8 i5)))
    ((((1:Int),n3,(0:Int),PUnit.unit),PUnit.unit))
theorem zBz (zaZ:List D→Option D) (a0:Int):denP Try.prog (zav [(ID.gf_double,(.pure [0] zaZ))]) zsi [0] ID.gf_Pow [.int .i64 a0]=zpo zaZ a0:=by kernel_rfl
theorem zqC (a0:Int):zaR [.int .i64 a0]=zpo zaZ a0:=zBz zaZ a0
def zoN:Ann:={ loops:=[] }
noncomputable def zbz:List D→Option D:=denP Try.prog (zav []) zoN [0] ID.synd_P_1
theorem zri:za0 Try.prog ID.synd_P_1 (.pure [0] zbz):=zai (zaw []) zbp ⟨Try.f137,by kernel_rfl,by kernel_rfl,by kernel_rfl⟩
noncomputable def zng:Fact Try.prog:=⟨ID.synd_P_1,(.pure [0] zbz),zri⟩
noncomputable def zsj (a0:Int):Option D:=
  some (D.int IntKind.u8 (1:Int))
theorem zyo (a0:Int):denP Try.prog (zav []) zoN [0] ID.synd_P_1 [.int .i64 a0]=zsj a0:=by kernel_rfl
theorem ztr (a0:Int):zbz [.int .i64 a0]=zsj a0:=zyo a0
def zkp:List (Nat×Ann):=[(137,{ loops:=[(1,[.dead,.fnc 137,.dead,.dead,.dead,.own 1,.dead,.dead,.dead,.dead,.dead,.dead,.dead,.dead,.dead,.dead,.val (.cell .lent),.val (.cell (.int .i64)),.val (.cell (.int .i64))])] }),(138,{ loops:=[(1,[.dead,.fnc 138,.dead,.dead,.dead,.own 1,.dead,.dead,.dead,.dead,.dead,.dead,.dead,.dead,.dead,.dead,.val (.cell .lent),.val (.cell (.int .i64)),.val (.cell (.int .i64))])] })]
noncomputable def zbM:List D→Option D:=denA Try.prog (zav [(ID.synd_Scale,(.pure [1] zaE)),(ID.synd_Add,(.pure [1] zaG)),(ID.gf_Pow,(.pure [0] zaR)),(ID.synd_P_1,(.pure [0] zbz))]) zkp [1] ID.synd_sum
theorem zrj:za0 Try.prog ID.synd_sum (.pure [1] zbM):=zr8 (zaw [zgX,zgu,zgY,zng]) zbp ⟨Try.f136,by kernel_rfl,by kernel_rfl,by kernel_rfl⟩
noncomputable def znh:Fact Try.prog:=⟨ID.synd_sum,(.pure [1] zbM),zrj⟩
noncomputable def ziW (zaE:List D→Option D) (zaG:List D→Option D) (zaR:List D→Option D) (zbz:List D→Option D) (a0:List D):Option D:=
  brK ((↑(List.length a0):Int) == (0:Int))
    (some (D.sl Tag.own []))
    (getK a0 ((0:Nat)) fun d1=>
    asSl d1 fun t2 l3=>
    sif ((↑(List.length l3):Int)=(↑(List.length l3):Int)) <|
    sif ((↑(List.length l3):Int)*(1:Int)≤(140737488355328:Int)) <|
    sif ((↑(List.length l3):Int)≤(140737488355328:Int)) <|
    sif (Int.toNat (↑(List.length l3):Int)=List.length (List.replicate (Int.toNat (↑(List.length l3):Int)) (D.int IntKind.u8 (0:Int)))) <|
    zb4 (α:=(List D×List D×Int×Int×PUnit)×PUnit) (fun again4 ((l5,(l6,(i7,(i8,_)))),_)=>
      brK (decide (i8 < i7))
        (sif ((0:Int)≤i8) <|
        getK l6 (Int.toNat i8) fun d9=>
        asSl d9 fun t10 l11=>
        sif ((0:Nat)+List.length l5≤List.length l5) <|
        brK ((↑(List.length l11):Int) != (↑(List.length l5):Int))
          (some (D.sl Tag.own []))
          (zao (zbz [D.int IntKind.i64 i8]) fun r12=>
          asI IntKind.u8 r12 fun i13=>
          zao (zaE [D.sl t10 l11,D.int IntKind.u8 i13]) fun r14=>
          zbD r14 fun l15=>
          sif ((0:Nat)+List.length l5≤List.length l5) <|
          sif ((0:Nat)+List.length l15≤List.length l15) <|
          zao (zaG [D.sl Tag.lent (cut (0:Nat) (List.length l5) l5),D.sl Tag.lent (cut (0:Nat) (List.length l15) l15)]) fun r16=>
          zbD r16 fun l17=>
          letN (IntKind.wrap IntKind.i64 (i8+(1:Int))) fun n18=>
          sif (List.length l17=List.length l17) <|
          again4 (((l17,l6,i7,n18,PUnit.unit),PUnit.unit))))
        (sif (List.length l5=List.length l5) <|
        sif (List.all l5 D.free=true) <|
        some (D.sl Tag.own l5)))
      (((List.replicate (Int.toNat (↑(List.length l3):Int)) (D.int IntKind.u8 (0:Int)),a0,(↑(List.length a0):Int),(0:Int),PUnit.unit),PUnit.unit)))
theorem zts (zaE:List D→Option D) (zaG:List D→Option D) (zaR:List D→Option D) (zbz:List D→Option D) (tga0:Tag) (a0:List D):denA Try.prog (zav [(ID.synd_Scale,(.pure [1] zaE)),(ID.synd_Add,(.pure [1] zaG)),(ID.gf_Pow,(.pure [0] zaR)),(ID.synd_P_1,(.pure [0] zbz))]) zkp [1] ID.synd_sum [.sl tga0 a0,.fn 137 [] []]=ziW zaE zaG zaR zbz (D.lentL a0):=by kernel_rfl
theorem zo4 (tga0:Tag) (a0:List D):zbM [.sl tga0 a0,.fn 137 [] []]=ziW zaE zaG zaR zbz (D.lentL a0):=zts zaE zaG zaR zbz tga0 a0
noncomputable def ziX (zaE:List D→Option D) (zaG:List D→Option D) (zaR:List D→Option D) (zbz:List D→Option D) (a0:List D):Option D:=
  brK ((↑(List.length a0):Int) == (0:Int))
    (some (D.sl Tag.own []))
    (getK a0 ((0:Nat)) fun d1=>
    asSl d1 fun t2 l3=>
    sif ((↑(List.length l3):Int)=(↑(List.length l3):Int)) <|
    sif ((↑(List.length l3):Int)*(1:Int)≤(140737488355328:Int)) <|
    sif ((↑(List.length l3):Int)≤(140737488355328:Int)) <|
    sif (Int.toNat (↑(List.length l3):Int)=List.length (List.replicate (Int.toNat (↑(List.length l3):Int)) (D.int IntKind.u8 (0:Int)))) <|
    zb4 (α:=(List D×List D×Int×Int×PUnit)×PUnit) (fun again4 ((l5,(l6,(i7,(i8,_)))),_)=>
      brK (decide (i8 < i7))
        (sif ((0:Int)≤i8) <|
        getK l6 (Int.toNat i8) fun d9=>
        asSl d9 fun t10 l11=>
        sif ((0:Nat)+List.length l5≤List.length l5) <|
        brK ((↑(List.length l11):Int) != (↑(List.length l5):Int))
          (some (D.sl Tag.own []))
          (zao (zaR [D.int IntKind.i64 i8]) fun r12=>
          asI IntKind.u8 r12 fun i13=>
          zao (zaE [D.sl t10 l11,D.int IntKind.u8 i13]) fun r14=>
          zbD r14 fun l15=>
          sif ((0:Nat)+List.length l5≤List.length l5) <|
          sif ((0:Nat)+List.length l15≤List.length l15) <|
          zao (zaG [D.sl Tag.lent (cut (0:Nat) (List.length l5) l5),D.sl Tag.lent (cut (0:Nat) (List.length l15) l15)]) fun r16=>
          zbD r16 fun l17=>
          letN (IntKind.wrap IntKind.i64 (i8+(1:Int))) fun n18=>
          sif (List.length l17=List.length l17) <|
          again4 (((l17,l6,i7,n18,PUnit.unit),PUnit.unit))))
        (sif (List.length l5=List.length l5) <|
        sif (List.all l5 D.free=true) <|
        some (D.sl Tag.own l5)))
      (((List.replicate (Int.toNat (↑(List.length l3):Int)) (D.int IntKind.u8 (0:Int)),a0,(↑(List.length a0):Int),(0:Int),PUnit.unit),PUnit.unit)))
theorem ztt (zaE:List D→Option D) (zaG:List D→Option D) (zaR:List D→Option D) (zbz:List D→Option D) (tga0:Tag) (a0:List D):denA Try.prog (zav [(ID.synd_Scale,(.pure [1] zaE)),(ID.synd_Add,(.pure [1] zaG)),(ID.gf_Pow,(.pure [0] zaR)),(ID.synd_P_1,(.pure [0] zbz))]) zkp [1] ID.synd_sum [.sl tga0 a0,.fn 138 [] []]=ziX zaE zaG zaR zbz (D.lentL a0):=by kernel_rfl
theorem zo5 (tga0:Tag) (a0:List D):zbM [.sl tga0 a0,.fn 138 [] []]=ziX zaE zaG zaR zbz (D.lentL a0):=ztt zaE zaG zaR zbz tga0 a0
def zsk:Ann:={ loops:=[] }
noncomputable def zcy:List D→Option D:=denP Try.prog (zav [(ID.synd_sum,(.pure [1] zbM)),(ID.synd_P_1,(.pure [0] zbz))]) zsk [1] ID.synd_P
theorem zvb:za0 Try.prog ID.synd_P (.pure [1] zcy):=zai (zaw [znh,zng]) zbp ⟨Try.f110,by kernel_rfl,by kernel_rfl,by kernel_rfl⟩
noncomputable def zqD:Fact Try.prog:=⟨ID.synd_P,(.pure [1] zcy),zvb⟩
noncomputable def ztu (zbM:List D→Option D) (zbz:List D→Option D) (a0:List D):Option D:=
  zao (zbM [D.sl Tag.lent a0,D.fn (137:Nat) [] []]) fun r1=>
  zbD r1 fun l2=>
  sif (List.length l2=List.length l2) <|
  sif (List.all l2 D.free=true) <|
  some (D.sl Tag.own l2)
theorem zBA (zbM:List D→Option D) (zbz:List D→Option D) (tga0:Tag) (a0:List D):denP Try.prog (zav [(ID.synd_sum,(.pure [1] zbM)),(ID.synd_P_1,(.pure [0] zbz))]) zsk [1] ID.synd_P [.sl tga0 a0]=ztu zbM zbz (D.lentL a0):=by kernel_rfl
theorem zwm (tga0:Tag) (a0:List D):zcy [.sl tga0 a0]=ztu zbM zbz (D.lentL a0):=zBA zbM zbz tga0 a0
def zsl:Ann:={ loops:=[] }
noncomputable def zcz:List D→Option D:=denP Try.prog (zav [(ID.synd_sum,(.pure [1] zbM)),(ID.gf_Pow,(.pure [0] zaR))]) zsl [1] ID.synd_Q
theorem zvc:za0 Try.prog ID.synd_Q (.pure [1] zcz):=zai (zaw [znh,zgY]) zbp ⟨Try.f111,by kernel_rfl,by kernel_rfl,by kernel_rfl⟩
noncomputable def zqE:Fact Try.prog:=⟨ID.synd_Q,(.pure [1] zcz),zvc⟩
noncomputable def ztv (zbM:List D→Option D) (zaR:List D→Option D) (a0:List D):Option D:=
  zao (zbM [D.sl Tag.lent a0,D.fn (138:Nat) [] []]) fun r1=>
  zbD r1 fun l2=>
  sif (List.length l2=List.length l2) <|
  sif (List.all l2 D.free=true) <|
  some (D.sl Tag.own l2)
theorem zBB (zbM:List D→Option D) (zaR:List D→Option D) (tga0:Tag) (a0:List D):denP Try.prog (zav [(ID.synd_sum,(.pure [1] zbM)),(ID.gf_Pow,(.pure [0] zaR))]) zsl [1] ID.synd_Q [.sl tga0 a0]=ztv zbM zaR (D.lentL a0):=by kernel_rfl
theorem zwn (tga0:Tag) (a0:List D):zcz [.sl tga0 a0]=ztv zbM zaR (D.lentL a0):=zBB zbM zaR tga0 a0
def zsm:Ann:={ loops:=[(0,[.val (.cell (.int .u8)),.dead,.dead,.val (.cell (.int .u8)),.dead,.val (.cell (.int .i64))])] }
noncomputable def zeu:List D→Option D:=denP Try.prog (zav [(ID.gf_double,(.pure [0] zaZ))]) zsm [0] ID.gf_Log
theorem zvd:za0 Try.prog ID.gf_Log (.pure [0] zeu):=zai (zaw [zhI]) zbp ⟨Try.f145,by kernel_rfl,by kernel_rfl,by kernel_rfl⟩
noncomputable def zwo:Fact Try.prog:=⟨ID.gf_Log,(.pure [0] zeu),zvd⟩
noncomputable def ztw (zaZ:List D→Option D) (a0:Int):Option D:=
  zb4 (α:=(Int×Int×Int×PUnit)×PUnit) (fun again1 ((i2,(i3,(i4,_))),_)=>
    brK (decide (i4 < (255:Int)))
      (brK (i3 == i2)
        (some (D.int IntKind.i64 i4))
        (zao (zaZ [D.int IntKind.u8 i3]) fun r5=>
        asI IntKind.u8 r5 fun i6=>
        letN (IntKind.wrap IntKind.i64 (i4+(1:Int))) fun n7=>
        again1 (((i2,i6,n7,PUnit.unit),PUnit.unit))))
      (some (D.int IntKind.i64 (-1:Int))))
    (((a0,(1:Int),(0:Int),PUnit.unit),PUnit.unit))
theorem zBC (zaZ:List D→Option D) (a0:Int):denP Try.prog (zav [(ID.gf_double,(.pure [0] zaZ))]) zsm [0] ID.gf_Log [.int .u8 a0]=ztw zaZ a0:=by kernel_rfl
theorem zwp (a0:Int):zeu [.int .u8 a0]=ztw zaZ a0:=zBC zaZ a0
def zsn:Ann:={ loops:=[] }
noncomputable def zcA:List D→Option D:=denP Try.prog (zav [(ID.gf_Log,(.pure [0] zeu)),(ID.gf_Pow,(.pure [0] zaR))]) zsn [0] ID.gf_Inv
theorem zve:za0 Try.prog ID.gf_Inv (.pure [0] zcA):=zai (zaw [zwo,zgY]) zbp ⟨Try.f141,by kernel_rfl,by kernel_rfl,by kernel_rfl⟩
noncomputable def zqF:Fact Try.prog:=⟨ID.gf_Inv,(.pure [0] zcA),zve⟩
noncomputable def ztx (zeu:List D→Option D) (zaR:List D→Option D) (a0:Int):Option D:=
  brK (a0 == (0:Int))
    (some (D.int IntKind.u8 (0:Int)))
    (zao (zeu [D.int IntKind.u8 a0]) fun r1=>
    asI IntKind.i64 r1 fun i2=>
    letN (IntKind.wrap IntKind.i64 ((255:Int) - i2)) fun n3=>
    zao (zaR [D.int IntKind.i64 n3]) fun r4=>
    asI IntKind.u8 r4 fun i5=>
    some (D.int IntKind.u8 i5))
theorem zBD (zeu:List D→Option D) (zaR:List D→Option D) (a0:Int):denP Try.prog (zav [(ID.gf_Log,(.pure [0] zeu)),(ID.gf_Pow,(.pure [0] zaR))]) zsn [0] ID.gf_Inv [.int .u8 a0]=ztx zeu zaR a0:=by kernel_rfl
theorem zwq (a0:Int):zcA [.int .u8 a0]=ztx zeu zaR a0:=zBD zeu zaR a0
def zni:Ann:={ loops:=[] }
noncomputable def zcF:List D→Option D:=denP Try.prog (zav [(ID.synd_P,(.pure [1] zcy)),(ID.synd_Add,(.pure [1] zaG)),(ID.synd_Q,(.pure [1] zcz)),(ID.gf_Pow,(.pure [0] zaR)),(ID.gf_Inv,(.pure [0] zcA)),(ID.synd_Scale,(.pure [1] zaE))]) zni [1,1] ID.erase_two
theorem zqG:za0 Try.prog ID.erase_two (.pure [1,1] zcF):=zai (zaw [zqD,zgu,zqE,zgY,zqF,zgX]) zbp ⟨Try.f131,by kernel_rfl,by kernel_rfl,by kernel_rfl⟩
noncomputable def zrk:Fact Try.prog:=⟨ID.erase_two,(.pure [1,1] zcF),zqG⟩
noncomputable def zmg (zcy:List D→Option D) (zaG:List D→Option D) (zcz:List D→Option D) (zaR:List D→Option D) (zcA:List D→Option D) (zaE:List D→Option D) (a0:List D) (a1:List D) (a2:List D) (a3:Int) (a4:Int):Option D:=
  zao (zcy [D.sl Tag.lent a2]) fun r1=>
  zbD r1 fun l2=>
  sif ((0:Nat)+List.length l2≤List.length l2) <|
  zao (zaG [D.sl Tag.lent a0,D.sl Tag.lent (cut (0:Nat) (List.length l2) l2)]) fun r3=>
  zbD r3 fun l4=>
  zao (zcz [D.sl Tag.lent a2]) fun r5=>
  zbD r5 fun l6=>
  sif ((0:Nat)+List.length l6≤List.length l6) <|
  zao (zaG [D.sl Tag.lent a1,D.sl Tag.lent (cut (0:Nat) (List.length l6) l6)]) fun r7=>
  zbD r7 fun l8=>
  zao (zaR [D.int IntKind.i64 a3]) fun r9=>
  asI IntKind.u8 r9 fun i10=>
  zao (zaR [D.int IntKind.i64 a4]) fun r11=>
  asI IntKind.u8 r11 fun i12=>
  letN (bits BinOp.xor IntKind.u8 i10 i12) fun n13=>
  zao (zcA [D.int IntKind.u8 n13]) fun r14=>
  asI IntKind.u8 r14 fun i15=>
  zao (zaR [D.int IntKind.i64 a4]) fun r16=>
  asI IntKind.u8 r16 fun i17=>
  sif ((0:Nat)+List.length l4≤List.length l4) <|
  zao (zaE [D.sl Tag.lent (cut (0:Nat) (List.length l4) l4),D.int IntKind.u8 i17]) fun r18=>
  zbD r18 fun l19=>
  sif ((0:Nat)+List.length l8≤List.length l8) <|
  sif ((0:Nat)+List.length l19≤List.length l19) <|
  zao (zaG [D.sl Tag.lent (cut (0:Nat) (List.length l8) l8),D.sl Tag.lent (cut (0:Nat) (List.length l19) l19)]) fun r20=>
  zbD r20 fun l21=>
  sif ((0:Nat)+List.length l21≤List.length l21) <|
  zao (zaE [D.sl Tag.lent (cut (0:Nat) (List.length l21) l21),D.int IntKind.u8 i15]) fun r22=>
  zbD r22 fun l23=>
  sif ((0:Nat)+List.length l4≤List.length l4) <|
  sif ((0:Nat)+List.length l23≤List.length l23) <|
  zao (zaG [D.sl Tag.lent (cut (0:Nat) (List.length l4) l4),D.sl Tag.lent (cut (0:Nat) (List.length l23) l23)]) fun r24=>
  zbD r24 fun l25=>
  sif (List.length l23=List.length l23) <|
  sif (List.all l23 D.free=true) <|
  sif (List.length l25=List.length l25) <|
  sif (List.all l25 D.free=true) <|
  some (D.tup [D.sl Tag.own l23,D.sl Tag.own l25])
theorem zwr (zcy:List D→Option D) (zaG:List D→Option D) (zcz:List D→Option D) (zaR:List D→Option D) (zcA:List D→Option D) (zaE:List D→Option D) (tga0:Tag) (tga1:Tag) (tga2:Tag) (a0:List D) (a1:List D) (a2:List D) (a3:Int) (a4:Int):denP Try.prog (zav [(ID.synd_P,(.pure [1] zcy)),(ID.synd_Add,(.pure [1] zaG)),(ID.synd_Q,(.pure [1] zcz)),(ID.gf_Pow,(.pure [0] zaR)),(ID.gf_Inv,(.pure [0] zcA)),(ID.synd_Scale,(.pure [1] zaE))]) zni [1,1] ID.erase_two [.sl tga0 a0,.sl tga1 a1,.sl tga2 a2,.int .i64 a3,.int .i64 a4]=zmg zcy zaG zcz zaR zcA zaE (D.lentL a0) (D.lentL a1) (D.lentL a2) a3 a4:=by kernel_rfl
theorem zrl (tga0:Tag) (tga1:Tag) (tga2:Tag) (a0:List D) (a1:List D) (a2:List D) (a3:Int) (a4:Int):zcF [.sl tga0 a0,.sl tga1 a1,.sl tga2 a2,.int .i64 a3,.int .i64 a4]=zmg zcy zaG zcz zaR zcA zaE (D.lentL a0) (D.lentL a1) (D.lentL a2) a3 a4:=zwr zcy zaG zcz zaR zcA zaE tga0 tga1 tga2 a0 a1 a2 a3 a4
def znj:Ann:={ loops:=[] }
noncomputable def zcn:List D→Option D:=denP Try.prog (zav [(ID.synd_Q,(.pure [1] zcz)),(ID.synd_Add,(.pure [1] zaG)),(ID.gf_Pow,(.pure [0] zaR)),(ID.gf_Inv,(.pure [0] zcA)),(ID.synd_Scale,(.pure [1] zaE))]) znj [1] ID.erase_byQ
theorem zqH:za0 Try.prog ID.erase_byQ (.pure [1] zcn):=zai (zaw [zqE,zgu,zgY,zqF,zgX]) zbp ⟨Try.f133,by kernel_rfl,by kernel_rfl,by kernel_rfl⟩
noncomputable def zrm:Fact Try.prog:=⟨ID.erase_byQ,(.pure [1] zcn),zqH⟩
noncomputable def zmh (zcz:List D→Option D) (zaG:List D→Option D) (zaR:List D→Option D) (zcA:List D→Option D) (zaE:List D→Option D) (a0:List D) (a1:List D) (a2:Int):Option D:=
  zao (zcz [D.sl Tag.lent a1]) fun r1=>
  zbD r1 fun l2=>
  sif ((0:Nat)+List.length l2≤List.length l2) <|
  zao (zaG [D.sl Tag.lent a0,D.sl Tag.lent (cut (0:Nat) (List.length l2) l2)]) fun r3=>
  zbD r3 fun l4=>
  zao (zaR [D.int IntKind.i64 a2]) fun r5=>
  asI IntKind.u8 r5 fun i6=>
  zao (zcA [D.int IntKind.u8 i6]) fun r7=>
  asI IntKind.u8 r7 fun i8=>
  sif ((0:Nat)+List.length l4≤List.length l4) <|
  zao (zaE [D.sl Tag.lent (cut (0:Nat) (List.length l4) l4),D.int IntKind.u8 i8]) fun r9=>
  zbD r9 fun l10=>
  sif (List.length l10=List.length l10) <|
  sif (List.all l10 D.free=true) <|
  some (D.sl Tag.own l10)
theorem zws (zcz:List D→Option D) (zaG:List D→Option D) (zaR:List D→Option D) (zcA:List D→Option D) (zaE:List D→Option D) (tga0:Tag) (tga1:Tag) (a0:List D) (a1:List D) (a2:Int):denP Try.prog (zav [(ID.synd_Q,(.pure [1] zcz)),(ID.synd_Add,(.pure [1] zaG)),(ID.gf_Pow,(.pure [0] zaR)),(ID.gf_Inv,(.pure [0] zcA)),(ID.synd_Scale,(.pure [1] zaE))]) znj [1] ID.erase_byQ [.sl tga0 a0,.sl tga1 a1,.int .i64 a2]=zmh zcz zaG zaR zcA zaE (D.lentL a0) (D.lentL a1) a2:=by kernel_rfl
theorem zrn (tga0:Tag) (tga1:Tag) (a0:List D) (a1:List D) (a2:Int):zcn [.sl tga0 a0,.sl tga1 a1,.int .i64 a2]=zmh zcz zaG zaR zcA zaE (D.lentL a0) (D.lentL a1) a2:=zws zcz zaG zaR zcA zaE tga0 tga1 a0 a1 a2
def zkq:Ann:={ loops:=[] }
noncomputable def zbX:List D→Option D:=denP Try.prog (zav [(ID.erase_Missing,(.pure [1] zbB)),(ID.erase_fits,(.pure [0] zb1)),(ID.erase_filled,(.pure [1] zbS)),(ID.erase_two,(.pure [1,1] zcF)),(ID.synd_P,(.pure [1] zcy)),(ID.synd_Add,(.pure [1] zaG)),(ID.erase_byQ,(.pure [1] zcn))]) zkq [1,0] ID.erase_Solve
theorem zoe:za0 Try.prog ID.erase_Solve (.pure [1,0] zbX):=zai (zaw [znb,zqy,zob,zrk,zqD,zgu,zrm]) zbp ⟨Try.f105,by kernel_rfl,by kernel_rfl,by kernel_rfl⟩
noncomputable def zo6:Fact Try.prog:=⟨ID.erase_Solve,(.pure [1,0] zbX),zoe⟩
noncomputable def ziY (zbB:List D→Option D) (zb1:List D→Option D) (zbS:List D→Option D) (zcF:List D→Option D) (zcy:List D→Option D) (zaG:List D→Option D) (zcn:List D→Option D) (a0:Int) (a1:List D) (a2:List D) (a3:List D):Option D:=
  zao (zbB [D.sl Tag.lent a3]) fun r1=>
  zbD r1 fun l2=>
  brK (decide (a0 < (1:Int)))
    (some (D.tup [D.sl Tag.own [],D.bool false]))
    (brK (decide ((↑(List.length a3):Int) < (1:Int)))
      (some (D.tup [D.sl Tag.own [],D.bool false]))
      (brK (decide ((↑(List.length a3):Int) > (8:Int)))
        (some (D.tup [D.sl Tag.own [],D.bool false]))
        (zao (zb1 [D.int IntKind.i64 a0,D.sl Tag.lent a3]) fun r3=>
        asB r3 fun b4=>
        brK (!b4)
          (some (D.tup [D.sl Tag.own [],D.bool false]))
          (zao (zb1 [D.int IntKind.i64 a0,D.sl Tag.full [D.sl Tag.lent a1,D.sl Tag.lent a2]]) fun r5=>
          asB r5 fun b6=>
          brK (!b6)
            (some (D.tup [D.sl Tag.own [],D.bool false]))
            (sif ((0:Nat)+List.length l2≤List.length l2) <|
            zao (zbB [D.sl Tag.full [D.sl Tag.lent a1,D.sl Tag.lent a2]]) fun r7=>
            zbD r7 fun l8=>
            sif ((0:Nat)+List.length l8≤List.length l8) <|
            letN (IntKind.wrap IntKind.i64 ((↑(List.length l2):Int)+(↑(List.length l8):Int))) fun n9=>
            brK (decide (n9 > (2:Int)))
              (some (D.tup [D.sl Tag.own [],D.bool false]))
              (zao (zbS [D.int IntKind.i64 a0,D.sl Tag.lent a3]) fun r10=>
              zbD r10 fun l11=>
              sif ((0:Nat)+List.length l2≤List.length l2) <|
              brK ((↑(List.length l2):Int) == (2:Int))
                (sif ((0:Nat) < List.length l2) <|
                getK l2 ((0:Nat)) fun d12=>
                asI IntKind.i64 d12 fun i13=>
                sif ((1:Nat) < List.length l2) <|
                getK l2 ((1:Nat)) fun d14=>
                asI IntKind.i64 d14 fun i15=>
                sif ((0:Nat) < List.length l2) <|
                getK l2 ((0:Nat)) fun d16=>
                asI IntKind.i64 d16 fun i17=>
                sif ((1:Nat) < List.length l2) <|
                getK l2 ((1:Nat)) fun d18=>
                asI IntKind.i64 d18 fun i19=>
                sif ((0:Nat)+List.length l11≤List.length l11) <|
                zao (zcF [D.sl Tag.lent a1,D.sl Tag.lent a2,D.sl Tag.lent (cut (0:Nat) (List.length l11) l11),D.int IntKind.i64 i17,D.int IntKind.i64 i19]) fun r20=>
                zdG r20 fun ts21=>
                zau ([Lf.any,Lf.any]) ts21 fun c22=>
                zbD c22.fst fun l23=>
                zbD c22.snd.fst fun l24=>
                sif ((0:Int)≤i13) <|
                sif (Int.toNat i13 < List.length l11) <|
                sif ((0:Nat)+List.length l23≤List.length l23) <|
                getK l11 ((0:Nat)+Int.toNat i13) fun d25=>
                sif ((0:Nat)+List.length l23≤List.length l23) <|
                sif (D.isAgg d25=false) <|
                sif ((0:Int)≤i15) <|
                sif (Int.toNat i15 < List.length l11) <|
                sif ((0:Nat)+List.length l24≤List.length l24) <|
                getK (List.set l11 ((0:Nat)+Int.toNat i13) (D.sl Tag.fresh (cut (0:Nat) (List.length l23) l23))) ((0:Nat)+Int.toNat i15) fun d26=>
                sif ((0:Nat)+List.length l24≤List.length l24) <|
                sif (D.isAgg d26=false) <|
                sif (List.length l11=List.length (List.set (List.set l11 ((0:Nat)+Int.toNat i13) (D.sl Tag.fresh (cut (0:Nat) (List.length l23) l23))) ((0:Nat)+Int.toNat i15) (D.sl Tag.fresh (cut (0:Nat) (List.length l24) l24)))) <|
                sif (List.all (List.set (List.set l11 ((0:Nat)+Int.toNat i13) (D.sl Tag.fresh (cut (0:Nat) (List.length l23) l23))) ((0:Nat)+Int.toNat i15) (D.sl Tag.fresh (cut (0:Nat) (List.length l24) l24))) D.free=true) <|
                some (D.tup [D.sl Tag.own (List.set (List.set l11 ((0:Nat)+Int.toNat i13) (D.sl Tag.fresh (cut (0:Nat) (List.length l23) l23))) ((0:Nat)+Int.toNat i15) (D.sl Tag.fresh (cut (0:Nat) (List.length l24) l24))),D.bool true]))
                (sif ((0:Nat)+List.length l2≤List.length l2) <|
                brK ((↑(List.length l2):Int) == (1:Int))
                  (brK (decide ((↑(List.length a1):Int) > (0:Int)))
                    (sif ((0:Nat) < List.length l2) <|
                    getK l2 ((0:Nat)) fun d27=>
                    asI IntKind.i64 d27 fun i28=>
                    sif ((0:Nat)+List.length l11≤List.length l11) <|
                    zao (zcy [D.sl Tag.lent (cut (0:Nat) (List.length l11) l11)]) fun r29=>
                    zbD r29 fun l30=>
                    sif ((0:Nat)+List.length l30≤List.length l30) <|
                    zao (zaG [D.sl Tag.lent a1,D.sl Tag.lent (cut (0:Nat) (List.length l30) l30)]) fun r31=>
                    zbD r31 fun l32=>
                    sif ((0:Int)≤i28) <|
                    sif (Int.toNat i28 < List.length l11) <|
                    sif ((0:Nat)+List.length l32≤List.length l32) <|
                    getK l11 ((0:Nat)+Int.toNat i28) fun d33=>
                    sif ((0:Nat)+List.length l32≤List.length l32) <|
                    sif (D.isAgg d33=false) <|
                    sif (List.length l11=List.length (List.set l11 ((0:Nat)+Int.toNat i28) (D.sl Tag.fresh (cut (0:Nat) (List.length l32) l32)))) <|
                    sif (List.all (List.set l11 ((0:Nat)+Int.toNat i28) (D.sl Tag.fresh (cut (0:Nat) (List.length l32) l32))) D.free=true) <|
                    some (D.tup [D.sl Tag.own (List.set l11 ((0:Nat)+Int.toNat i28) (D.sl Tag.fresh (cut (0:Nat) (List.length l32) l32))),D.bool true]))
                    (sif ((0:Nat)+List.length l2≤List.length l2) <|
                    brK ((↑(List.length l2):Int) == (1:Int))
                      (sif ((0:Nat) < List.length l2) <|
                      getK l2 ((0:Nat)) fun d34=>
                      asI IntKind.i64 d34 fun i35=>
                      sif ((0:Nat) < List.length l2) <|
                      getK l2 ((0:Nat)) fun d36=>
                      asI IntKind.i64 d36 fun i37=>
                      sif ((0:Nat)+List.length l11≤List.length l11) <|
                      zao (zcn [D.sl Tag.lent a2,D.sl Tag.lent (cut (0:Nat) (List.length l11) l11),D.int IntKind.i64 i37]) fun r38=>
                      zbD r38 fun l39=>
                      sif ((0:Int)≤i35) <|
                      sif (Int.toNat i35 < List.length l11) <|
                      sif ((0:Nat)+List.length l39≤List.length l39) <|
                      getK l11 ((0:Nat)+Int.toNat i35) fun d40=>
                      sif ((0:Nat)+List.length l39≤List.length l39) <|
                      sif (D.isAgg d40=false) <|
                      sif (List.length l11=List.length (List.set l11 ((0:Nat)+Int.toNat i35) (D.sl Tag.fresh (cut (0:Nat) (List.length l39) l39)))) <|
                      sif (List.all (List.set l11 ((0:Nat)+Int.toNat i35) (D.sl Tag.fresh (cut (0:Nat) (List.length l39) l39))) D.free=true) <|
                      some (D.tup [D.sl Tag.own (List.set l11 ((0:Nat)+Int.toNat i35) (D.sl Tag.fresh (cut (0:Nat) (List.length l39) l39))),D.bool true]))
                      (sif (List.length l11=List.length l11) <|
                      sif (List.all l11 D.free=true) <|
                      some (D.tup [D.sl Tag.own l11,D.bool true]))))
                  (sif ((0:Nat)+List.length l2≤List.length l2) <|
                  brK ((↑(List.length l2):Int) == (1:Int))
                    (sif ((0:Nat) < List.length l2) <|
                    getK l2 ((0:Nat)) fun d41=>
                    asI IntKind.i64 d41 fun i42=>
                    sif ((0:Nat) < List.length l2) <|
                    getK l2 ((0:Nat)) fun d43=>
                    asI IntKind.i64 d43 fun i44=>
                    sif ((0:Nat)+List.length l11≤List.length l11) <|
                    zao (zcn [D.sl Tag.lent a2,D.sl Tag.lent (cut (0:Nat) (List.length l11) l11),D.int IntKind.i64 i44]) fun r45=>
                    zbD r45 fun l46=>
                    sif ((0:Int)≤i42) <|
                    sif (Int.toNat i42 < List.length l11) <|
                    sif ((0:Nat)+List.length l46≤List.length l46) <|
                    getK l11 ((0:Nat)+Int.toNat i42) fun d47=>
                    sif ((0:Nat)+List.length l46≤List.length l46) <|
                    sif (D.isAgg d47=false) <|
                    sif (List.length l11=List.length (List.set l11 ((0:Nat)+Int.toNat i42) (D.sl Tag.fresh (cut (0:Nat) (List.length l46) l46)))) <|
                    sif (List.all (List.set l11 ((0:Nat)+Int.toNat i42) (D.sl Tag.fresh (cut (0:Nat) (List.length l46) l46))) D.free=true) <|
                    some (D.tup [D.sl Tag.own (List.set l11 ((0:Nat)+Int.toNat i42) (D.sl Tag.fresh (cut (0:Nat) (List.length l46) l46))),D.bool true]))
                    (sif (List.length l11=List.length l11) <|
                    sif (List.all l11 D.free=true) <|
                    some (D.tup [D.sl Tag.own l11,D.bool true]))))))))))
theorem zty (zbB:List D→Option D) (zb1:List D→Option D) (zbS:List D→Option D) (zcF:List D→Option D) (zcy:List D→Option D) (zaG:List D→Option D) (zcn:List D→Option D) (tga1:Tag) (tga2:Tag) (tga3:Tag) (a0:Int) (a1:List D) (a2:List D) (a3:List D):denP Try.prog (zav [(ID.erase_Missing,(.pure [1] zbB)),(ID.erase_fits,(.pure [0] zb1)),(ID.erase_filled,(.pure [1] zbS)),(ID.erase_two,(.pure [1,1] zcF)),(ID.synd_P,(.pure [1] zcy)),(ID.synd_Add,(.pure [1] zaG)),(ID.erase_byQ,(.pure [1] zcn))]) zkq [1,0] ID.erase_Solve [.int .i64 a0,.sl tga1 a1,.sl tga2 a2,.sl tga3 a3]=ziY zbB zb1 zbS zcF zcy zaG zcn a0 (D.lentL a1) (D.lentL a2) (D.lentL a3):=by kernel_rfl
theorem zo7 (tga1:Tag) (tga2:Tag) (tga3:Tag) (a0:Int) (a1:List D) (a2:List D) (a3:List D):zbX [.int .i64 a0,.sl tga1 a1,.sl tga2 a2,.sl tga3 a3]=ziY zbB zb1 zbS zcF zcy zaG zcn a0 (D.lentL a1) (D.lentL a2) (D.lentL a3):=zty zbB zb1 zbS zcF zcy zaG zcn tga1 tga2 tga3 a0 a1 a2 a3
def zoO:Ann:={ loops:=[(1,[.dead,.val (.cell (.int .i64)),.val (.cell .lent),.box true [(.int .i64),(.int .i64),(.int .i64)],.dead,.dead,.dead,.dead,.own 1,.dead,.dead,.dead,.dead,.dead,.dead,.dead,.dead,.dead,.dead,.dead,.dead,.dead,.dead,.dead,.val (.cell (.int .i64)),.val (.cell (.int .i64))])] }
noncomputable def zcX:List D→Option D:=denP Try.prog (zav [(ID.row_in,(.pure [0] zes)),(ID.geom_Width,(.pure [0] zaf)),(ID.place_Disk,(.pure [0] zbi)),(ID.place_Parity,(.pure [0,0] zaW)),(ID.erase_Solve,(.pure [1,0] zbX))]) zoO [1,0] ID.row_Take
theorem zro:za0 Try.prog ID.row_Take (.pure [1,0] zcX):=zai (zaw [zwh,zcu,zkl,zie,zo6]) zbp ⟨Try.f71,by kernel_rfl,by kernel_rfl,by kernel_rfl⟩
noncomputable def ztz:Fact Try.prog:=⟨ID.row_Take,(.pure [1,0] zcX),zro⟩
noncomputable def zof (zes:List D→Option D) (zaf:List D→Option D) (zbi:List D→Option D) (zaW:List D→Option D) (zbX:List D→Option D) (a0_0:Int) (a0_1:Int) (a0_2:Int) (a1:Int) (a2:List D):Option D:=
  zao (zes [D.agg [D.int IntKind.i64 a0_0,D.int IntKind.i64 a0_1,D.int IntKind.i64 a0_2],D.int IntKind.i64 a1]) fun r1=>
  asB r1 fun b2=>
  brK (!b2)
    (some (D.tup [D.sl Tag.own [],D.bool false]))
    (brK ((↑(List.length a2):Int) != a0_1)
      (some (D.tup [D.sl Tag.own [],D.bool false]))
      (zao (zaf [D.agg [D.int IntKind.i64 a0_0,D.int IntKind.i64 a0_1,D.int IntKind.i64 a0_2]]) fun r3=>
      asI IntKind.i64 r3 fun i4=>
      zb4 (α:=(Int×List D×(Int×Int×Int×PUnit)×List D×Int×Int×PUnit)×PUnit) (fun again5 ((i6,(l7,((i8,(i9,(i10,_))),(l11,(i12,(i13,_)))))),_)=>
        brK (decide (i13 < i12))
          (zao (zbi [D.agg [D.int IntKind.i64 i8,D.int IntKind.i64 i9,D.int IntKind.i64 i10],D.int IntKind.i64 i6,D.int IntKind.i64 i13]) fun r14=>
          asI IntKind.i64 r14 fun i15=>
          sif ((0:Int)≤i15) <|
          getK l7 (Int.toNat i15) fun d16=>
          asSl d16 fun t17 l18=>
          sif (List.length l11+(1:Nat)≤(4294967296:Nat)) <|
          sif (List.length l11=List.length l11) <|
          letN (IntKind.wrap IntKind.i64 (i13+(1:Int))) fun n19=>
          sif (List.length l11+(1:Nat)=List.length (l11++[D.sl t17 l18])) <|
          again5 (((i6,l7,(i8,i9,i10,PUnit.unit),l11++[D.sl t17 l18],i12,n19,PUnit.unit),PUnit.unit)))
          (zao (zaW [D.agg [D.int IntKind.i64 i8,D.int IntKind.i64 i9,D.int IntKind.i64 i10],D.int IntKind.i64 i6]) fun r20=>
          zdG r20 fun ts21=>
          zau ([Lf.any,Lf.any]) ts21 fun c22=>
          asI IntKind.i64 c22.fst fun i23=>
          asI IntKind.i64 c22.snd.fst fun i24=>
          brK (decide (i24 < (0:Int)))
            (sif ((0:Int)≤i23) <|
            getK l7 (Int.toNat i23) fun d25=>
            asSl d25 fun t26 l27=>
            sif ((0:Nat)+List.length l11≤List.length l11) <|
            zao (zbX [D.int IntKind.i64 (32:Int),D.sl t26 l27,D.sl Tag.nil [],D.sl Tag.lent (cut (0:Nat) (List.length l11) l11)]) fun r28=>
            zdG r28 fun ts29=>
            zau ([Lf.any,Lf.any]) ts29 fun c30=>
            zbD c30.fst fun l31=>
            asB c30.snd.fst fun b32=>
            sif (List.length l31=List.length l31) <|
            sif (List.all l31 D.free=true) <|
            some (D.tup [D.sl Tag.own l31,D.bool b32]))
            (sif ((0:Int)≤i23) <|
            getK l7 (Int.toNat i23) fun d33=>
            asSl d33 fun t34 l35=>
            sif ((0:Int)≤i24) <|
            getK l7 (Int.toNat i24) fun d36=>
            asSl d36 fun t37 l38=>
            sif ((0:Nat)+List.length l11≤List.length l11) <|
            zao (zbX [D.int IntKind.i64 (32:Int),D.sl t34 l35,D.sl t37 l38,D.sl Tag.lent (cut (0:Nat) (List.length l11) l11)]) fun r39=>
            zdG r39 fun ts40=>
            zau ([Lf.any,Lf.any]) ts40 fun c41=>
            zbD c41.fst fun l42=>
            asB c41.snd.fst fun b43=>
            sif (List.length l42=List.length l42) <|
            sif (List.all l42 D.free=true) <|
            some (D.tup [D.sl Tag.own l42,D.bool b43]))))
        (((a1,a2,(a0_0,a0_1,a0_2,PUnit.unit),[],i4,(0:Int),PUnit.unit),PUnit.unit))))
theorem zyp (zes:List D→Option D) (zaf:List D→Option D) (zbi:List D→Option D) (zaW:List D→Option D) (zbX:List D→Option D) (tga2:Tag) (a0_0:Int) (a0_1:Int) (a0_2:Int) (a1:Int) (a2:List D):denP Try.prog (zav [(ID.row_in,(.pure [0] zes)),(ID.geom_Width,(.pure [0] zaf)),(ID.place_Disk,(.pure [0] zbi)),(ID.place_Parity,(.pure [0,0] zaW)),(ID.erase_Solve,(.pure [1,0] zbX))]) zoO [1,0] ID.row_Take [.agg [.int .i64 a0_0,.int .i64 a0_1,.int .i64 a0_2],.int .i64 a1,.sl tga2 a2]=zof zes zaf zbi zaW zbX a0_0 a0_1 a0_2 a1 (D.lentL a2):=by kernel_rfl
theorem ztA (tga2:Tag) (a0_0:Int) (a0_1:Int) (a0_2:Int) (a1:Int) (a2:List D):zcX [.agg [.int .i64 a0_0,.int .i64 a0_1,.int .i64 a0_2],.int .i64 a1,.sl tga2 a2]=zof zes zaf zbi zaW zbX a0_0 a0_1 a0_2 a1 (D.lentL a2):=zyp zes zaf zbi zaW zbX tga2 a0_0 a0_1 a0_2 a1 a2
def zkr:Ann:={ loops:=[(1,[.val (.cell (.hnd (3840:Nat))),.val (.cell .lent),.dead,.val (.cell (.int .i64)),.dead,.dead,.box true [(.int .i64),(.int .i64),(.int .i64)],.dead,.dead,.dead,.own 1,.dead,.dead,.dead,.dead,.dead,.dead,.dead,.dead,.dead,.dead,.dead,.dead,.dead,.dead,.dead,.dead,.dead,.dead,.dead,.dead,.val (.cell (.int .i64)),.val (.cell (.int .i64))])],ks:=[(3840,false),(7649,false)] }
noncomputable def zb5:List D→List Tb→Option Ans:=denS Try.prog (zav [(ID.geom_Check,(.pure [0] zaj)),(ID.stripe_up,(.st [] [0] [(3840,false),(7649,false)] zbI)),(ID.bench_Bench_Read,(.st [] [1,0] [(3840,false),(7649,false)] zaL)),(ID.row_Take,(.pure [1,0] zcX))]) zkr [1,0] ID.stripe_Read
theorem zog:za0 Try.prog ID.stripe_Read (.st [] [1,0] [(3840,false),(7649,false)] zb5):=zbR (zaw [zde,zlD,zfQ,ztz]) zbp ⟨Try.f21,by kernel_rfl,by kernel_rfl,by kernel_rfl⟩
noncomputable def zo8:Fact Try.prog:=⟨ID.stripe_Read,(.st [] [1,0] [(3840,false),(7649,false)] zb5),zog⟩
noncomputable def ziZ (zaj:List D→Option D) (zbI:List D→List Tb→Option Ans) (zaL:List D→List Tb→Option Ans) (zcX:List D→Option D) (a0:Nat) (a1:List D) (a2_0:Int) (a2_1:Int) (a2_2:Int) (a3:Int) (T0:Tb) (T1:Tb):Option Ans:=
  zao (zaj [D.agg [D.int IntKind.i64 a2_0,D.int IntKind.i64 a2_1,D.int IntKind.i64 a2_2]]) fun r1=>
  asI IntKind.i64 r1 fun i2=>
  brK (i2 != (0:Int))
    (some (Ans.mk (D.tup [D.sl Tag.own [],D.int IntKind.i64 (1:Int)]) [] []))
    (brK (decide (a3 < (0:Int)))
      (some (Ans.mk (D.tup [D.sl Tag.own [],D.int IntKind.i64 (1:Int)]) [] []))
      (brK (decide (a3≥(16:Int)))
        (some (Ans.mk (D.tup [D.sl Tag.own [],D.int IntKind.i64 (1:Int)]) [] []))
        (sif ((0:Int)≤a2_1) <|
        sif (a2_1=a2_1) <|
        sif (a2_1*(24:Int)≤(140737488355328:Int)) <|
        sif (a2_1≤(140737488355328:Int)) <|
        sif ((0:Nat)+Int.toNat a2_1≤List.length (List.replicate (Int.toNat a2_1) (D.sl Tag.nil []))) <|
        sif (Int.toNat a2_1=List.length (List.replicate (Int.toNat a2_1) (D.sl Tag.nil []))) <|
        zb4 (α:=(Nat×List D×Int×(Int×Int×Int×PUnit)×List D×Int×Int×PUnit)×List (List D)×List (List D)×PUnit) (fun again3 ((x4,(l5,(i6,((i7,(i8,(i9,_))),(l10,(i11,(i12,_))))))),(U13,(U14,_)))=>
          brK (decide (i12 < i11))
            (zao (zbI [D.h (3840) x4 (0:Nat),D.sl Tag.lent l5,D.int IntKind.i64 i12] [U13,U14]) fun r15=>
            nilK r15.outs <|
            nilK r15.tbs <|
            asB r15.r fun b16=>
            brK (!b16)
              (letN (IntKind.wrap IntKind.i64 (i12+(1:Int))) fun n17=>
              sif (List.length l10=List.length l10) <|
              again3 (((x4,l5,i6,(i7,i8,i9,PUnit.unit),l10,i11,n17,PUnit.unit),U13,U14,PUnit.unit)))
              (letN (IntKind.wrap IntKind.i64 ((36:Int)+i6)) fun n18=>
              zao (zaL [D.h (3840) x4 (0:Nat),D.int IntKind.i64 i12,D.int IntKind.i64 n18] [U13,U14]) fun r19=>
              nilK r19.outs <|
              nilK r19.tbs <|
              zdG r19.r fun ts20=>
              zau ([Lf.any,Lf.any]) ts20 fun c21=>
              zbD c21.fst fun l22=>
              asI IntKind.i64 c21.snd.fst fun i23=>
              brK (i23 != (0:Int))
                (some (Ans.mk (D.tup [D.sl Tag.own [],D.int IntKind.i64 i23]) [] []))
                (sif ((0:Int)≤i12) <|
                sif (Int.toNat i12 < List.length l10) <|
                sif ((0:Nat)+List.length l22≤List.length l22) <|
                getK l10 ((0:Nat)+Int.toNat i12) fun d24=>
                sif ((0:Nat)+List.length l22≤List.length l22) <|
                sif (D.isAgg d24=false) <|
                letN (IntKind.wrap IntKind.i64 (i12+(1:Int))) fun n25=>
                sif (List.length l10=List.length (List.set l10 ((0:Nat)+Int.toNat i12) (D.sl Tag.fresh (cut (0:Nat) (List.length l22) l22)))) <|
                again3 (((x4,l5,i6,(i7,i8,i9,PUnit.unit),List.set l10 ((0:Nat)+Int.toNat i12) (D.sl Tag.fresh (cut (0:Nat) (List.length l22) l22)),i11,n25,PUnit.unit),U13,U14,PUnit.unit)))))
            (sif ((0:Nat)+List.length l10≤List.length l10) <|
            zao (zcX [D.agg [D.int IntKind.i64 i7,D.int IntKind.i64 i8,D.int IntKind.i64 i9],D.int IntKind.i64 i6,D.sl Tag.lent (cut (0:Nat) (List.length l10) l10)]) fun r26=>
            zdG r26 fun ts27=>
            zau ([Lf.any,Lf.any]) ts27 fun c28=>
            zbD c28.fst fun l29=>
            asB c28.snd.fst fun b30=>
            brK (!b30)
              (some (Ans.mk (D.tup [D.sl Tag.own [],D.int IntKind.i64 (7:Int)]) [] []))
              (sif (List.length l29=List.length l29) <|
              sif (List.all l29 D.free=true) <|
              some (Ans.mk (D.tup [D.sl Tag.own l29,D.int IntKind.i64 (0:Int)]) [] []))))
          (((a0,a1,a3,(a2_0,a2_1,a2_2,PUnit.unit),List.replicate (Int.toNat a2_1) (D.sl Tag.nil []),(↑(Int.toNat a2_1):Int),(0:Int),PUnit.unit),T0,T1,PUnit.unit)))))
theorem ztB (zaj:List D→Option D) (zbI:List D→List Tb→Option Ans) (zaL:List D→List Tb→Option Ans) (zcX:List D→Option D) (tga1:Tag) (a0:Nat) (a1:List D) (a2_0:Int) (a2_1:Int) (a2_2:Int) (a3:Int) (T0:Tb) (T1:Tb):denS Try.prog (zav [(ID.geom_Check,(.pure [0] zaj)),(ID.stripe_up,(.st [] [0] [(3840,false),(7649,false)] zbI)),(ID.bench_Bench_Read,(.st [] [1,0] [(3840,false),(7649,false)] zaL)),(ID.row_Take,(.pure [1,0] zcX))]) zkr [1,0] ID.stripe_Read [.h 3840 a0 0,.sl tga1 a1,.agg [.int .i64 a2_0,.int .i64 a2_1,.int .i64 a2_2],.int .i64 a3] [T0,T1]=ziZ zaj zbI zaL zcX a0 (D.lentL a1) a2_0 a2_1 a2_2 a3 T0 T1:=by kernel_rfl
theorem zo9 (tga1:Tag) (a0:Nat) (a1:List D) (a2_0:Int) (a2_1:Int) (a2_2:Int) (a3:Int) (T0:Tb) (T1:Tb):zb5 [.h 3840 a0 0,.sl tga1 a1,.agg [.int .i64 a2_0,.int .i64 a2_1,.int .i64 a2_2],.int .i64 a3] [T0,T1]=ziZ zaj zbI zaL zcX a0 (D.lentL a1) a2_0 a2_1 a2_2 a3 T0 T1:=ztB zaj zbI zaL zcX tga1 a0 a1 a2_0 a2_1 a2_2 a3 T0 T1
def zcB:Ann:={ loops:=[] }
noncomputable def zan:List D→Option D:=denE Try.prog (zav []) zcB [33] ID.slices_Clone_disk_write_disk_write
theorem zdI:za0 Try.prog ID.slices_Clone_disk_write_disk_write (.pure [33] zan):=zr7 (zaw []) zbp ⟨Try.f121,by kernel_rfl,by kernel_rfl,by kernel_rfl⟩
noncomputable def zdT:Fact Try.prog:=⟨ID.slices_Clone_disk_write_disk_write,(.pure [33] zan),zdI⟩
noncomputable def zb3 (a0:D) (b0:List D):Option D:=
  sif (List.length (a0::b0)≤(4294967296:Nat)) <|
  sif (zeS (33:Nat) (a0::b0)=true) <|
  sif (List.length (a0::b0)=List.length (a0::b0)) <|
  sif (List.all (a0::b0) D.free=true) <|
  some (D.sl Tag.own (a0::b0))
theorem zep (tga0:Tag) (a0:D) (b0:List D):denE Try.prog (zav []) zcB [33] ID.slices_Clone_disk_write_disk_write [.sl tga0 (a0::b0)]=zb3 (D.lent a0) (D.lentL b0):=by kernel_rfl
theorem zdU (tga0:Tag) (a0:D) (b0:List D):zan [.sl tga0 (a0::b0)]=zb3 (D.lent a0) (D.lentL b0):=zep tga0 a0 b0
theorem zdJ (tg:Tag):zan [.sl tg []]=some (.sl .own []):=(zoI (some (.sl .own [])))
def zii:Ann:={ loops:=[],ks:=[(7649,false)] }
noncomputable def zbN:List D→List Tb→Option Ans:=denS Try.prog (zav [(ID.disk_Disk_may,(.st [] [0] [(7649,false)] zaT))]) zii [0,0] ID.disk_Disk_put
theorem zmi:za0 Try.prog ID.disk_Disk_put (.st [] [0,0] [(7649,false)] zbN):=zbR (zaw [zhq]) zbp ⟨Try.f124,by kernel_rfl,by kernel_rfl,by kernel_rfl⟩
noncomputable def znk:Fact Try.prog:=⟨ID.disk_Disk_put,(.st [] [0,0] [(7649,false)] zbN),zmi⟩
noncomputable def zgZ (zaT:List D→List Tb→Option Ans) (a0:Nat) (a1:Int) (a2:List D) (T0:Tb):Option Ans:=
  zao (zaT [D.h (7649:Nat) a0 (0:Nat),D.int IntKind.i64 a1] [T0]) fun r1=>
  nilK r1.outs <|
  nilK r1.tbs <|
  asI IntKind.i64 r1.r fun i2=>
  brK (i2 != (0:Int))
    (some (Ans.mk (D.tup [D.agg [D.int IntKind.i64 (0:Int),D.int IntKind.u8 (0:Int),D.int IntKind.u8 (0:Int),D.int IntKind.u8 (0:Int),D.int IntKind.u8 (0:Int),D.int IntKind.u8 (0:Int),D.int IntKind.u8 (0:Int),D.int IntKind.u8 (0:Int),D.int IntKind.u8 (0:Int),D.int IntKind.u8 (0:Int),D.int IntKind.u8 (0:Int),D.int IntKind.u8 (0:Int),D.int IntKind.u8 (0:Int),D.int IntKind.u8 (0:Int),D.int IntKind.u8 (0:Int),D.int IntKind.u8 (0:Int),D.int IntKind.u8 (0:Int),D.int IntKind.u8 (0:Int),D.int IntKind.u8 (0:Int),D.int IntKind.u8 (0:Int),D.int IntKind.u8 (0:Int),D.int IntKind.u8 (0:Int),D.int IntKind.u8 (0:Int),D.int IntKind.u8 (0:Int),D.int IntKind.u8 (0:Int),D.int IntKind.u8 (0:Int),D.int IntKind.u8 (0:Int),D.int IntKind.u8 (0:Int),D.int IntKind.u8 (0:Int),D.int IntKind.u8 (0:Int),D.int IntKind.u8 (0:Int),D.int IntKind.u8 (0:Int),D.int IntKind.u8 (0:Int)],D.int IntKind.i64 i2]) [] []))
    (brK ((↑(List.length a2):Int) != (32:Int))
      (some (Ans.mk (D.tup [D.agg [D.int IntKind.i64 (0:Int),D.int IntKind.u8 (0:Int),D.int IntKind.u8 (0:Int),D.int IntKind.u8 (0:Int),D.int IntKind.u8 (0:Int),D.int IntKind.u8 (0:Int),D.int IntKind.u8 (0:Int),D.int IntKind.u8 (0:Int),D.int IntKind.u8 (0:Int),D.int IntKind.u8 (0:Int),D.int IntKind.u8 (0:Int),D.int IntKind.u8 (0:Int),D.int IntKind.u8 (0:Int),D.int IntKind.u8 (0:Int),D.int IntKind.u8 (0:Int),D.int IntKind.u8 (0:Int),D.int IntKind.u8 (0:Int),D.int IntKind.u8 (0:Int),D.int IntKind.u8 (0:Int),D.int IntKind.u8 (0:Int),D.int IntKind.u8 (0:Int),D.int IntKind.u8 (0:Int),D.int IntKind.u8 (0:Int),D.int IntKind.u8 (0:Int),D.int IntKind.u8 (0:Int),D.int IntKind.u8 (0:Int),D.int IntKind.u8 (0:Int),D.int IntKind.u8 (0:Int),D.int IntKind.u8 (0:Int),D.int IntKind.u8 (0:Int),D.int IntKind.u8 (0:Int),D.int IntKind.u8 (0:Int),D.int IntKind.u8 (0:Int)],D.int IntKind.i64 (1:Int)]) [] []))
      (sif (cells a2=true) <|
      sif (List.length a2=(32:Nat)) <|
      sif ((33:Nat)≤List.length ([D.int IntKind.i64 a1]++(a2++[]))) <|
      zau ([Lf.int IntKind.i64,Lf.arr (32)]) (List.take (33:Nat) (List.drop (0:Nat) ([D.int IntKind.i64 a1]++(a2++[])))) fun c3=>
      sif (List.length ([D.int IntKind.i64 c3.fst]++(c3.snd.fst++[]))=(33:Nat)) <|
      sif ((33:Nat)≤List.length ([D.int IntKind.i64 c3.fst]++(c3.snd.fst++[]))) <|
      zau ([Lf.int IntKind.i64,Lf.arr (32)]) (List.take (33:Nat) (List.drop (0:Nat) ([D.int IntKind.i64 c3.fst]++(c3.snd.fst++[])))) fun c4=>
      sif (D.free (D.agg ([D.int IntKind.i64 c4.fst]++(c4.snd.fst++[])))=true) <|
      some (Ans.mk (D.tup [D.agg ([D.int IntKind.i64 c4.fst]++(c4.snd.fst++[])),D.int IntKind.i64 (0:Int)]) [] [])))
theorem zqI (zaT:List D→List Tb→Option Ans) (tga2:Tag) (a0:Nat) (a1:Int) (a2:List D) (T0:Tb):denS Try.prog (zav [(ID.disk_Disk_may,(.st [] [0] [(7649,false)] zaT))]) zii [0,0] ID.disk_Disk_put [.h 7649 a0 0,.int .i64 a1,.sl tga2 a2] [T0]=zgZ zaT a0 a1 (D.lentL a2) T0:=by kernel_rfl
theorem znl (tga2:Tag) (a0:Nat) (a1:Int) (a2:List D) (T0:Tb):zbN [.h 7649 a0 0,.int .i64 a1,.sl tga2 a2] [T0]=zgZ zaT a0 a1 (D.lentL a2) T0:=zqI zaT tga2 a0 a1 a2 T0
def zht:Ann:={ loops:=[],ks:=[(7649,true)] }
noncomputable def zbG:List D→List Tb→Option Ans:=denS Try.prog (zav []) zht [] ID.disk_Disk_Fail
theorem zlm:za0 Try.prog ID.disk_Disk_Fail (.st [] [] [(7649,true)] zbG):=zbR (zaw []) zbp ⟨Try.f67,by kernel_rfl,by kernel_rfl,by kernel_rfl⟩
noncomputable def zmj:Fact Try.prog:=⟨ID.disk_Disk_Fail,(.st [] [] [(7649,true)] zbG),zlm⟩
noncomputable def zf2 (a0:Nat) (T0:Tb):Option Ans:=
  getK T0 a0 fun d1=>
  sif ((1666:Nat)≤List.length d1) <|
  letT (zbt T0 a0 (0:Nat) (List.map D.own0 (List.set (List.reverse ([D.bool false,D.sl Tag.nil []]++List.replicate 1664 (D.int IntKind.u8 (0:Int)))) (1665:Nat) (D.bool true)))) fun U2=>
  some (Ans.mk (D.tup []) [] [U2])
theorem zpa (a0:Nat) (T0:Tb):denS Try.prog (zav []) zht [] ID.disk_Disk_Fail [.h 7649 a0 0] [T0]=zf2 a0 T0:=by kernel_rfl
theorem zmk (a0:Nat) (T0:Tb):zbG [.h 7649 a0 0] [T0]=zf2 a0 T0:=zpa a0 T0
def zga:Ann:={ loops:=[],ks:=[(3840,false),(7649,true)] }
noncomputable def za3:List D→List Tb→Option Ans:=denS Try.prog (zav [(ID.bench_Bench_is,(.st [] [0] [(3840,false)] zal)),(ID.disk_Disk_Fail,(.st [] [] [(7649,true)] zbG))]) zga [0] ID.bench_Bench_Fail
theorem zju:za0 Try.prog ID.bench_Bench_Fail (.st [] [0] [(3840,false),(7649,true)] za3):=zbR (zaw [zdt,zmj]) zbp ⟨Try.f19,by kernel_rfl,by kernel_rfl,by kernel_rfl⟩
noncomputable def zks:Fact Try.prog:=⟨ID.bench_Bench_Fail,(.st [] [0] [(3840,false),(7649,true)] za3),zju⟩
noncomputable def ze2 (zal:List D→List Tb→Option Ans) (zbG:List D→List Tb→Option Ans) (a0:Nat) (a1:Int) (T0:Tb) (T1:Tb):Option Ans:=
  zao (zal [D.h (3840:Nat) a0 (0:Nat),D.int IntKind.i64 a1] [T0]) fun r1=>
  nilK r1.outs <|
  nilK r1.tbs <|
  asB r1.r fun b2=>
  brK (!b2)
    (some (Ans.mk (D.int IntKind.i64 (1:Int)) [] [T1]))
    (getK T0 a0 fun d3=>
    getK d3 ((3:Nat)) fun d4=>
    zbD d4 fun l5=>
    getK T0 a0 fun d6=>
    getK d6 ((3:Nat)) fun d7=>
    zbD d7 fun l8=>
    sif ((0:Int)≤a1) <|
    sif (Int.toNat a1 < List.length l5) <|
    getK T0 a0 fun d9=>
    getK d9 ((3:Nat)) fun d10=>
    zbD d10 fun l11=>
    getK l11 ((0:Nat)+Int.toNat a1) fun d12=>
    sif (D.isAgg d12=false) <|
    sif (D.width d12=(1:Nat)) <|
    sif (D.cell d12=true) <|
    zao (zbG [d12] [T1]) fun r13=>
    nilK r13.outs <|
    zh1 r13.tbs fun c14 q15=>
    nilK q15 <|
    zdG r13.r fun ts16=>
    nilK ts16 <|
    some (Ans.mk (D.int IntKind.i64 (0:Int)) [] [c14]))
theorem znm (zal:List D→List Tb→Option Ans) (zbG:List D→List Tb→Option Ans) (a0:Nat) (a1:Int) (T0:Tb) (T1:Tb):denS Try.prog (zav [(ID.bench_Bench_is,(.st [] [0] [(3840,false)] zal)),(ID.disk_Disk_Fail,(.st [] [] [(7649,true)] zbG))]) zga [0] ID.bench_Bench_Fail [.h 3840 a0 0,.int .i64 a1] [T0,T1]=ze2 zal zbG a0 a1 T0 T1:=by kernel_rfl
theorem zkt (a0:Nat) (a1:Int) (T0:Tb) (T1:Tb):za3 [.h 3840 a0 0,.int .i64 a1] [T0,T1]=ze2 zal zbG a0 a1 T0 T1:=znm zal zbG a0 a1 T0 T1
def zfR:Ann:={ loops:=[(1,[.val (.cell (.int .i64)),.dead,.dead,.own 1,.dead,.dead,.dead,.dead,.dead,.dead,.dead,.val (.cell (.int .i64)),.val (.cell (.int .i64))])] }
noncomputable def za5:List D→Option D:=denP Try.prog (zav [(ID.wattlekeep_Within,(.pure [0] zac))]) zfR [1] ID.wattleplay_Sector
theorem zi0:za0 Try.prog ID.wattleplay_Sector (.pure [1] za5):=zai (zaw [zcR]) zbp ⟨Try.f36,by kernel_rfl,by kernel_rfl,by kernel_rfl⟩
noncomputable def zjv:Fact Try.prog:=⟨ID.wattleplay_Sector,(.pure [1] za5),zi0⟩
noncomputable def zeD (zac:List D→Option D) (a0:Int):Option D:=
  zao (zac [D.int IntKind.i64 a0,D.int IntKind.i64 (11:Int)]) fun r1=>
  asI IntKind.i64 r1 fun i2=>
  brK (i2 == (10:Int))
    (some (D.sl Tag.own [D.int IntKind.u8 (0:Int),D.int IntKind.u8 (0:Int),D.int IntKind.u8 (0:Int),D.int IntKind.u8 (0:Int),D.int IntKind.u8 (0:Int),D.int IntKind.u8 (0:Int),D.int IntKind.u8 (0:Int),D.int IntKind.u8 (0:Int),D.int IntKind.u8 (0:Int),D.int IntKind.u8 (0:Int),D.int IntKind.u8 (0:Int),D.int IntKind.u8 (0:Int),D.int IntKind.u8 (0:Int),D.int IntKind.u8 (0:Int),D.int IntKind.u8 (0:Int),D.int IntKind.u8 (0:Int),D.int IntKind.u8 (0:Int),D.int IntKind.u8 (0:Int),D.int IntKind.u8 (0:Int),D.int IntKind.u8 (0:Int),D.int IntKind.u8 (0:Int),D.int IntKind.u8 (0:Int),D.int IntKind.u8 (0:Int),D.int IntKind.u8 (0:Int),D.int IntKind.u8 (0:Int),D.int IntKind.u8 (0:Int),D.int IntKind.u8 (0:Int),D.int IntKind.u8 (0:Int),D.int IntKind.u8 (0:Int),D.int IntKind.u8 (0:Int),D.int IntKind.u8 (0:Int),D.int IntKind.u8 (0:Int)]))
    (zb4 (α:=(Int×List D×Int×Int×PUnit)×PUnit) (fun again3 ((i4,(l5,(i6,(i7,_)))),_)=>
      brK (decide (i7 < i6))
        (letN (IntKind.wrap IntKind.i64 (Int.tdiv i4 (7:Int))) fun n8=>
        letN (bits BinOp.or IntKind.i64 n8 (1:Int)) fun n9=>
        letN (IntKind.wrap IntKind.i64 (i7*n9)) fun n10=>
        letN (IntKind.wrap IntKind.i64 (i4+n10)) fun n11=>
        letN (IntKind.wrap IntKind.u8 n11) fun n12=>
        sif ((0:Int)≤i7) <|
        sif (Int.toNat i7 < List.length l5) <|
        getK l5 ((0:Nat)+Int.toNat i7) fun d13=>
        sif (D.isAgg d13=false) <|
        letN (IntKind.wrap IntKind.i64 (i7+(1:Int))) fun n14=>
        sif (List.length l5=List.length (List.set l5 ((0:Nat)+Int.toNat i7) (D.int IntKind.u8 n12))) <|
        again3 (((i4,List.set l5 ((0:Nat)+Int.toNat i7) (D.int IntKind.u8 n12),i6,n14,PUnit.unit),PUnit.unit)))
        (sif (List.length l5=List.length l5) <|
        sif (List.all l5 D.free=true) <|
        some (D.sl Tag.own l5)))
      (((a0,[D.int IntKind.u8 (0:Int),D.int IntKind.u8 (0:Int),D.int IntKind.u8 (0:Int),D.int IntKind.u8 (0:Int),D.int IntKind.u8 (0:Int),D.int IntKind.u8 (0:Int),D.int IntKind.u8 (0:Int),D.int IntKind.u8 (0:Int),D.int IntKind.u8 (0:Int),D.int IntKind.u8 (0:Int),D.int IntKind.u8 (0:Int),D.int IntKind.u8 (0:Int),D.int IntKind.u8 (0:Int),D.int IntKind.u8 (0:Int),D.int IntKind.u8 (0:Int),D.int IntKind.u8 (0:Int),D.int IntKind.u8 (0:Int),D.int IntKind.u8 (0:Int),D.int IntKind.u8 (0:Int),D.int IntKind.u8 (0:Int),D.int IntKind.u8 (0:Int),D.int IntKind.u8 (0:Int),D.int IntKind.u8 (0:Int),D.int IntKind.u8 (0:Int),D.int IntKind.u8 (0:Int),D.int IntKind.u8 (0:Int),D.int IntKind.u8 (0:Int),D.int IntKind.u8 (0:Int),D.int IntKind.u8 (0:Int),D.int IntKind.u8 (0:Int),D.int IntKind.u8 (0:Int),D.int IntKind.u8 (0:Int)],(32:Int),(0:Int),PUnit.unit),PUnit.unit)))
theorem zml (zac:List D→Option D) (a0:Int):denP Try.prog (zav [(ID.wattlekeep_Within,(.pure [0] zac))]) zfR [1] ID.wattleplay_Sector [.int .i64 a0]=zeD zac a0:=by kernel_rfl
theorem zjw (a0:Int):za5 [.int .i64 a0]=zeD zac a0:=zml zac a0
def zfj:Ann:={ loops:=[(0,[.val (.cell .lent),.val (.cell (.int .i64)),.dead,.dead,.dead,.own 1,.val (.cell (.int .i64))])] }
noncomputable def zaA:List D→Option D:=denP Try.prog (zav [(ID.wattleplay_Sector,(.pure [1] za5))]) zfj [1] ID.wattleplay_Sectors
theorem zij:za0 Try.prog ID.wattleplay_Sectors (.pure [1] zaA):=zai (zaw [zjv]) zbp ⟨Try.f31,by kernel_rfl,by kernel_rfl,by kernel_rfl⟩
noncomputable def ze3:Fact Try.prog:=⟨ID.wattleplay_Sectors,(.pure [1] zaA),zij⟩
noncomputable def zeh (za5:List D→Option D) (a0:List D) (a1:Int):Option D:=
  zb4 (α:=(List D×Int×List D×Int×PUnit)×PUnit) (fun again1 ((l2,(i3,(l4,(i5,_)))),_)=>
    brK (decide (i5 < i3))
      (letN (IntKind.wrap IntKind.i64 ((3:Int)*i5)) fun n6=>
      brK (decide (i5 < (↑(List.length l2):Int)))
        (sif ((0:Int)≤i5) <|
        getK l2 (Int.toNat i5) fun d7=>
        asI IntKind.i64 d7 fun i8=>
        zao (za5 [D.int IntKind.i64 i8]) fun r9=>
        zbD r9 fun l10=>
        sif ((0:Nat)+List.length l10≤List.length l10) <|
        sif (List.length l4+(1:Nat)≤(4294967296:Nat)) <|
        sif (List.length l4=List.length l4) <|
        letN (IntKind.wrap IntKind.i64 (i5+(1:Int))) fun n11=>
        sif (List.length l4+(1:Nat)=List.length (l4++[D.sl Tag.fresh (cut (0:Nat) (List.length l10) l10)])) <|
        again1 (((l2,i3,l4++[D.sl Tag.fresh (cut (0:Nat) (List.length l10) l10)],n11,PUnit.unit),PUnit.unit)))
        (zao (za5 [D.int IntKind.i64 n6]) fun r12=>
        zbD r12 fun l13=>
        sif ((0:Nat)+List.length l13≤List.length l13) <|
        sif (List.length l4+(1:Nat)≤(4294967296:Nat)) <|
        sif (List.length l4=List.length l4) <|
        letN (IntKind.wrap IntKind.i64 (i5+(1:Int))) fun n14=>
        sif (List.length l4+(1:Nat)=List.length (l4++[D.sl Tag.fresh (cut (0:Nat) (List.length l13) l13)])) <|
        again1 (((l2,i3,l4++[D.sl Tag.fresh (cut (0:Nat) (List.length l13) l13)],n14,PUnit.unit),PUnit.unit))))
      (sif (List.length l4=List.length l4) <|
      sif (List.all l4 D.free=true) <|
      some (D.sl Tag.own l4)))
    (((a0,a1,[],(0:Int),PUnit.unit),PUnit.unit))
theorem zln (za5:List D→Option D) (tga0:Tag) (a0:List D) (a1:Int):denP Try.prog (zav [(ID.wattleplay_Sector,(.pure [1] za5))]) zfj [1] ID.wattleplay_Sectors [.sl tga0 a0,.int .i64 a1]=zeh za5 (D.lentL a0) a1:=by kernel_rfl
theorem zi1 (tga0:Tag) (a0:List D) (a1:Int):zaA [.sl tga0 a0,.int .i64 a1]=zeh za5 (D.lentL a0) a1:=zln za5 tga0 a0 a1
def zgb:Ann:={ loops:=[] }
noncomputable def zag:List D→Option D:=denP Try.prog (zav [(ID.wattleref01_Check,(.pure [0] zad))]) zgb [0] ID.wattleref01_fine
theorem zjx:za0 Try.prog ID.wattleref01_fine (.pure [0] zag):=zai (zaw [zcm]) zbp ⟨Try.f75,by kernel_rfl,by kernel_rfl,by kernel_rfl⟩
noncomputable def zc2:Fact Try.prog:=⟨ID.wattleref01_fine,(.pure [0] zag),zjx⟩
noncomputable def ze4 (zad:List D→Option D) (a0_0:Int) (a0_1:Int) (a0_2:Int) (a1:Int):Option D:=
  zao (zad [D.agg [D.int IntKind.i64 a0_0,D.int IntKind.i64 a0_1,D.int IntKind.i64 a0_2]]) fun r1=>
  asB r1 fun b2=>
  brK b2
    (brK (decide (a1≥(0:Int)))
      (some (D.bool (decide (a1 < (16:Int)))))
      (some (D.bool false)))
    (some (D.bool false))
theorem znn (zad:List D→Option D) (a0_0:Int) (a0_1:Int) (a0_2:Int) (a1:Int):denP Try.prog (zav [(ID.wattleref01_Check,(.pure [0] zad))]) zgb [0] ID.wattleref01_fine [.agg [.int .i64 a0_0,.int .i64 a0_1,.int .i64 a0_2],.int .i64 a1]=ze4 zad a0_0 a0_1 a0_2 a1:=by kernel_rfl
theorem zku (a0_0:Int) (a0_1:Int) (a0_2:Int) (a1:Int):zag [.agg [.int .i64 a0_0,.int .i64 a0_1,.int .i64 a0_2],.int .i64 a1]=ze4 zad a0_0 a0_1 a0_2 a1:=znn zad a0_0 a0_1 a0_2 a1
def zfk:Ann:={ loops:=[] }
noncomputable def zax:List D→Option D:=denP Try.prog (zav [(ID.wattleref01_fine,(.pure [0] zag))]) zfk [0,0] ID.wattleref01_Parity
theorem zik:za0 Try.prog ID.wattleref01_Parity (.pure [0,0] zax):=zai (zaw [zc2]) zbp ⟨Try.f46,by kernel_rfl,by kernel_rfl,by kernel_rfl⟩
noncomputable def ze5:Fact Try.prog:=⟨ID.wattleref01_Parity,(.pure [0,0] zax),zik⟩
noncomputable def zei (zag:List D→Option D) (a0_0:Int) (a0_1:Int) (a0_2:Int) (a1:Int):Option D:=
  zao (zag [D.agg [D.int IntKind.i64 a0_0,D.int IntKind.i64 a0_1,D.int IntKind.i64 a0_2],D.int IntKind.i64 a1]) fun r1=>
  asB r1 fun b2=>
  brK (!b2)
    (some (D.tup [D.int IntKind.i64 (-1:Int),D.int IntKind.i64 (-1:Int)]))
    (letN (IntKind.wrap IntKind.i64 (a0_1 - (1:Int))) fun n3=>
    sif (a0_2≠(0:Int)) <|
    letN (IntKind.wrap IntKind.i64 (Int.tdiv a1 a0_2)) fun n4=>
    sif (a0_1≠(0:Int)) <|
    letN (Int.tmod n4 a0_1) fun n5=>
    letN (IntKind.wrap IntKind.i64 (n3 - n5)) fun n6=>
    brK (a0_0 == (5:Int))
      (some (D.tup [D.int IntKind.i64 n6,D.int IntKind.i64 (-1:Int)]))
      (letN (IntKind.wrap IntKind.i64 (n6+(1:Int))) fun n7=>
      sif (a0_1≠(0:Int)) <|
      letN (Int.tmod n7 a0_1) fun n8=>
      some (D.tup [D.int IntKind.i64 n6,D.int IntKind.i64 n8])))
theorem zlo (zag:List D→Option D) (a0_0:Int) (a0_1:Int) (a0_2:Int) (a1:Int):denP Try.prog (zav [(ID.wattleref01_fine,(.pure [0] zag))]) zfk [0,0] ID.wattleref01_Parity [.agg [.int .i64 a0_0,.int .i64 a0_1,.int .i64 a0_2],.int .i64 a1]=zei zag a0_0 a0_1 a0_2 a1:=by kernel_rfl
theorem zi2 (a0_0:Int) (a0_1:Int) (a0_2:Int) (a1:Int):zax [.agg [.int .i64 a0_0,.int .i64 a0_1,.int .i64 a0_2],.int .i64 a1]=zei zag a0_0 a0_1 a0_2 a1:=zlo zag a0_0 a0_1 a0_2 a1
def zgc:Ann:={ loops:=[] }
noncomputable def zaF:List D→Option D:=denP Try.prog (zav [(ID.wattleref01_fine,(.pure [0] zag)),(ID.wattleref01_Width,(.pure [0] zaa)),(ID.wattleref01_Parity,(.pure [0,0] zax)),(ID.wattleref01_Budget,(.pure [0] zaz))]) zgc [0] ID.wattleref01_Disk
theorem zjy:za0 Try.prog ID.wattleref01_Disk (.pure [0] zaF):=zai (zaw [zc2,zbq,ze5,zeZ]) zbp ⟨Try.f74,by kernel_rfl,by kernel_rfl,by kernel_rfl⟩
noncomputable def zfS:Fact Try.prog:=⟨ID.wattleref01_Disk,(.pure [0] zaF),zjy⟩
noncomputable def ze6 (zag:List D→Option D) (zaa:List D→Option D) (zax:List D→Option D) (zaz:List D→Option D) (a0_0:Int) (a0_1:Int) (a0_2:Int) (a1:Int) (a2:Int):Option D:=
  zao (zag [D.agg [D.int IntKind.i64 a0_0,D.int IntKind.i64 a0_1,D.int IntKind.i64 a0_2],D.int IntKind.i64 a1]) fun r1=>
  asB r1 fun b2=>
  brK (!b2)
    (some (D.int IntKind.i64 (-1:Int)))
    (brK (decide (a2 < (0:Int)))
      (some (D.int IntKind.i64 (-1:Int)))
      (zao (zaa [D.agg [D.int IntKind.i64 a0_0,D.int IntKind.i64 a0_1,D.int IntKind.i64 a0_2]]) fun r3=>
      asI IntKind.i64 r3 fun i4=>
      brK (decide (a2≥i4))
        (some (D.int IntKind.i64 (-1:Int)))
        (zao (zax [D.agg [D.int IntKind.i64 a0_0,D.int IntKind.i64 a0_1,D.int IntKind.i64 a0_2],D.int IntKind.i64 a1]) fun r5=>
        zdG r5 fun ts6=>
        zau ([Lf.any,Lf.any]) ts6 fun c7=>
        asI IntKind.i64 c7.fst fun i8=>
        asI IntKind.i64 c7.snd.fst fun i9=>
        zao (zaz [D.agg [D.int IntKind.i64 a0_0,D.int IntKind.i64 a0_1,D.int IntKind.i64 a0_2]]) fun r10=>
        asI IntKind.i64 r10 fun i11=>
        letN (IntKind.wrap IntKind.i64 (i8+i11)) fun n12=>
        letN (IntKind.wrap IntKind.i64 (n12+a2)) fun n13=>
        sif (a0_1≠(0:Int)) <|
        letN (Int.tmod n13 a0_1) fun n14=>
        some (D.int IntKind.i64 n14))))
theorem zno (zag:List D→Option D) (zaa:List D→Option D) (zax:List D→Option D) (zaz:List D→Option D) (a0_0:Int) (a0_1:Int) (a0_2:Int) (a1:Int) (a2:Int):denP Try.prog (zav [(ID.wattleref01_fine,(.pure [0] zag)),(ID.wattleref01_Width,(.pure [0] zaa)),(ID.wattleref01_Parity,(.pure [0,0] zax)),(ID.wattleref01_Budget,(.pure [0] zaz))]) zgc [0] ID.wattleref01_Disk [.agg [.int .i64 a0_0,.int .i64 a0_1,.int .i64 a0_2],.int .i64 a1,.int .i64 a2]=ze6 zag zaa zax zaz a0_0 a0_1 a0_2 a1 a2:=by kernel_rfl
theorem zkv (a0_0:Int) (a0_1:Int) (a0_2:Int) (a1:Int) (a2:Int):zaF [.agg [.int .i64 a0_0,.int .i64 a0_1,.int .i64 a0_2],.int .i64 a1,.int .i64 a2]=ze6 zag zaa zax zaz a0_0 a0_1 a0_2 a1 a2:=zno zag zaa zax zaz a0_0 a0_1 a0_2 a1 a2
def zfT:Ann:={ loops:=[(0,[.val (.cell .lent),.dead,.dead,.dead,.dead,.val (.cell .lent),.val (.cell (.int .i64)),.val (.cell (.int .i64))])] }
noncomputable def zaD:List D→Option D:=denP Try.prog (zav []) zfT [0] ID.wattleref01_alike
theorem zi3:za0 Try.prog ID.wattleref01_alike (.pure [0] zaD):=zai (zaw []) zbp ⟨Try.f115,by kernel_rfl,by kernel_rfl,by kernel_rfl⟩
noncomputable def zfl:Fact Try.prog:=⟨ID.wattleref01_alike,(.pure [0] zaD),zi3⟩
noncomputable def zeE (a0:List D):Option D:=
  zb4 (α:=(List D×List D×Int×Int×PUnit)×PUnit) (fun again1 ((l2,(l3,(i4,(i5,_)))),_)=>
    brK (decide (i5 < i4))
      (sif ((0:Int)≤i5) <|
      getK l3 (Int.toNat i5) fun d6=>
      asSl d6 fun t7 l8=>
      getK l2 ((0:Nat)) fun d9=>
      asSl d9 fun t10 l11=>
      brK ((↑(List.length l8):Int) != (↑(List.length l11):Int))
        (some (D.bool false))
        (letN (IntKind.wrap IntKind.i64 (i5+(1:Int))) fun n12=>
        again1 (((l2,l3,i4,n12,PUnit.unit),PUnit.unit))))
      (some (D.bool (decide ((↑(List.length l2):Int) > (0:Int))))))
    (((a0,a0,(↑(List.length a0):Int),(0:Int),PUnit.unit),PUnit.unit))
theorem zmm (tga0:Tag) (a0:List D):denP Try.prog (zav []) zfT [0] ID.wattleref01_alike [.sl tga0 a0]=zeE (D.lentL a0):=by kernel_rfl
theorem zjz (tga0:Tag) (a0:List D):zaD [.sl tga0 a0]=zeE (D.lentL a0):=zmm tga0 a0
def zil:Ann:={ loops:=[(1,[.dead,.dead,.dead,.own 1,.dead,.dead,.dead,.dead,.dead,.dead,.dead,.dead,.dead,.dead,.dead,.dead,.val (.cell .lent),.val (.cell (.int .i64)),.val (.cell (.int .i64))]),(3,[.dead,.dead,.dead,.own 1,.dead,.dead,.dead,.dead,.dead,.dead,.dead,.dead,.dead,.dead,.dead,.dead,.val (.cell .lent),.val (.cell (.int .i64)),.val (.cell (.int .i64)),.dead,.dead,.dead,.val (.cell .sl),.val (.cell (.int .i64)),.val (.cell (.int .i64))])] }
noncomputable def zbO:List D→Option D:=denP Try.prog (zav [(ID.wattleref01_alike,(.pure [0] zaD))]) zil [1] ID.wattleref01_P
theorem zmn:za0 Try.prog ID.wattleref01_P (.pure [1] zbO):=zai (zaw [zfl]) zbp ⟨Try.f81,by kernel_rfl,by kernel_rfl,by kernel_rfl⟩
noncomputable def znp:Fact Try.prog:=⟨ID.wattleref01_P,(.pure [1] zbO),zmn⟩
noncomputable def zg0 (zaD:List D→Option D) (a0:List D):Option D:=
  zao (zaD [D.sl Tag.lent a0]) fun r1=>
  asB r1 fun b2=>
  brK (!b2)
    (some (D.sl Tag.own []))
    (getK a0 ((0:Nat)) fun d3=>
    asSl d3 fun t4 l5=>
    sif ((↑(List.length l5):Int)=(↑(List.length l5):Int)) <|
    sif ((↑(List.length l5):Int)*(1:Int)≤(140737488355328:Int)) <|
    sif ((↑(List.length l5):Int)≤(140737488355328:Int)) <|
    sif (Int.toNat (↑(List.length l5):Int)=List.length (List.replicate (Int.toNat (↑(List.length l5):Int)) (D.int IntKind.u8 (0:Int)))) <|
    zb4 (α:=(List D×List D×Int×Int×PUnit)×PUnit) (fun again6 ((l7,(l8,(i9,(i10,_)))),_)=>
      brK (decide (i10 < i9))
        (sif ((0:Int)≤i10) <|
        getK l8 (Int.toNat i10) fun d11=>
        asSl d11 fun t12 l13=>
        sif (List.length l7=List.length l7) <|
        zb4 (α:=(List D×List D×Int×Int×(Tag×List D)×Int×Int×PUnit)×PUnit) (fun again14 ((l15,(l16,(i17,(i18,((t19,l20),(i21,(i22,_))))))),_)=>
          brK (decide (i22 < i21))
            (sif ((0:Int)≤i22) <|
            getK l20 (Int.toNat i22) fun d23=>
            asI IntKind.u8 d23 fun i24=>
            sif ((0:Int)≤i22) <|
            sif (Int.toNat i22 < List.length l15) <|
            getK l15 ((0:Nat)+Int.toNat i22) fun d25=>
            asI IntKind.u8 d25 fun i26=>
            letN (bits BinOp.xor IntKind.u8 i26 i24) fun n27=>
            sif ((0:Int)≤i22) <|
            sif (Int.toNat i22 < List.length l15) <|
            getK l15 ((0:Nat)+Int.toNat i22) fun d28=>
            sif (D.isAgg d28=false) <|
            letN (IntKind.wrap IntKind.i64 (i22+(1:Int))) fun n29=>
            sif (List.length l15=List.length (List.set l15 ((0:Nat)+Int.toNat i22) (D.int IntKind.u8 n27))) <|
            again14 (((List.set l15 ((0:Nat)+Int.toNat i22) (D.int IntKind.u8 n27),l16,i17,i18,(t19,l20),i21,n29,PUnit.unit),PUnit.unit)))
            (letN (IntKind.wrap IntKind.i64 (i18+(1:Int))) fun n30=>
            sif (List.length l15=List.length l15) <|
            again6 (((l15,l16,i17,n30,PUnit.unit),PUnit.unit))))
          (((l7,l8,i9,i10,(t12,l13),(↑(List.length l13):Int),(0:Int),PUnit.unit),PUnit.unit)))
        (sif (List.length l7=List.length l7) <|
        sif (List.all l7 D.free=true) <|
        some (D.sl Tag.own l7)))
      (((List.replicate (Int.toNat (↑(List.length l5):Int)) (D.int IntKind.u8 (0:Int)),a0,(↑(List.length a0):Int),(0:Int),PUnit.unit),PUnit.unit)))
theorem zqJ (zaD:List D→Option D) (tga0:Tag) (a0:List D):denP Try.prog (zav [(ID.wattleref01_alike,(.pure [0] zaD))]) zil [1] ID.wattleref01_P [.sl tga0 a0]=zg0 zaD (D.lentL a0):=by kernel_rfl
theorem znq (tga0:Tag) (a0:List D):zbO [.sl tga0 a0]=zg0 zaD (D.lentL a0):=zqJ zaD tga0 a0
def zg1:Ann:={ loops:=[(0,[.dead,.val (.cell (.int .u8)),.dead,.dead,.dead,.val (.cell (.int .i64)),.val (.cell (.int .i64)),.val (.cell (.int .i64))])] }
noncomputable def zaN:List D→Option D:=denP Try.prog (zav []) zg1 [0] ID.wattleref01_Mul
theorem zkw:za0 Try.prog ID.wattleref01_Mul (.pure [0] zaN):=zai (zaw []) zbp ⟨Try.f117,by kernel_rfl,by kernel_rfl,by kernel_rfl⟩
noncomputable def zgd:Fact Try.prog:=⟨ID.wattleref01_Mul,(.pure [0] zaN),zkw⟩
noncomputable def zfA (a0:Int) (a1:Int):Option D:=
  letN (IntKind.wrap IntKind.i64 a0) fun n1=>
  zb4 (α:=(Int×Int×Int×Int×PUnit)×PUnit) (fun again2 ((i3,(i4,(i5,(i6,_)))),_)=>
    brK (decide (i6 < (8:Int)))
      (letN (IntKind.wrap IntKind.u64 i6) fun n7=>
      sif ((0:Int)≤n7) <|
      letN (Int.fdiv i3 ((2:Int) ^ min (Int.toNat n7) (8:Nat))) fun n8=>
      letN (bits BinOp.and IntKind.u8 n8 (1:Int)) fun n9=>
      brK (n9 == (1:Int))
        (letN (bits BinOp.xor IntKind.i64 i5 i4) fun n10=>
        letN (IntKind.wrap IntKind.i64 (i4*(2:Int))) fun n11=>
        brK (decide (n11 > (255:Int)))
          (letN (bits BinOp.xor IntKind.i64 n11 (285:Int)) fun n12=>
          letN (IntKind.wrap IntKind.i64 (i6+(1:Int))) fun n13=>
          again2 (((i3,n12,n10,n13,PUnit.unit),PUnit.unit)))
          (letN (IntKind.wrap IntKind.i64 (i6+(1:Int))) fun n14=>
          again2 (((i3,n11,n10,n14,PUnit.unit),PUnit.unit))))
        (letN (IntKind.wrap IntKind.i64 (i4*(2:Int))) fun n15=>
        brK (decide (n15 > (255:Int)))
          (letN (bits BinOp.xor IntKind.i64 n15 (285:Int)) fun n16=>
          letN (IntKind.wrap IntKind.i64 (i6+(1:Int))) fun n17=>
          again2 (((i3,n16,i5,n17,PUnit.unit),PUnit.unit)))
          (letN (IntKind.wrap IntKind.i64 (i6+(1:Int))) fun n18=>
          again2 (((i3,n15,i5,n18,PUnit.unit),PUnit.unit)))))
      (letN (IntKind.wrap IntKind.u8 i5) fun n19=>
      some (D.int IntKind.u8 n19)))
    (((a1,n1,(0:Int),(0:Int),PUnit.unit),PUnit.unit))
theorem zoh (a0:Int) (a1:Int):denP Try.prog (zav []) zg1 [0] ID.wattleref01_Mul [.int .u8 a0,.int .u8 a1]=zfA a0 a1:=by kernel_rfl
theorem zlp (a0:Int) (a1:Int):zaN [.int .u8 a0,.int .u8 a1]=zfA a0 a1:=zoh a0 a1
def zg2:Ann:={ loops:=[(1,[.val (.cell (.int .i64)),.dead,.dead,.val (.cell (.int .u8))])] }
noncomputable def zbA:List D→Option D:=denP Try.prog (zav [(ID.wattleref01_Mul,(.pure [0] zaN))]) zg2 [0] ID.wattleref01_Pow
theorem zkx:za0 Try.prog ID.wattleref01_Pow (.pure [0] zbA):=zai (zaw [zgd]) zbp ⟨Try.f116,by kernel_rfl,by kernel_rfl,by kernel_rfl⟩
noncomputable def zlq:Fact Try.prog:=⟨ID.wattleref01_Pow,(.pure [0] zbA),zkx⟩
noncomputable def zfB (zaN:List D→Option D) (a0:Int):Option D:=
  letN (Int.tmod a0 (255:Int)) fun n1=>
  brK (decide (n1 < (0:Int)))
    (letN (IntKind.wrap IntKind.i64 (n1+(255:Int))) fun n2=>
    zb4 (α:=(Int×Int×PUnit)×PUnit) (fun again3 ((i4,(i5,_)),_)=>
      brK (decide (i4 > (0:Int)))
        (zao (zaN [D.int IntKind.u8 i5,D.int IntKind.u8 (2:Int)]) fun r6=>
        asI IntKind.u8 r6 fun i7=>
        letN (IntKind.wrap IntKind.i64 (i4 - (1:Int))) fun n8=>
        again3 (((n8,i7,PUnit.unit),PUnit.unit)))
        (some (D.int IntKind.u8 i5)))
      (((n2,(1:Int),PUnit.unit),PUnit.unit)))
    (zb4 (α:=(Int×Int×PUnit)×PUnit) (fun again9 ((i10,(i11,_)),_)=>
      brK (decide (i10 > (0:Int)))
        (zao (zaN [D.int IntKind.u8 i11,D.int IntKind.u8 (2:Int)]) fun r12=>
        asI IntKind.u8 r12 fun i13=>
        letN (IntKind.wrap IntKind.i64 (i10 - (1:Int))) fun n14=>
        again9 (((n14,i13,PUnit.unit),PUnit.unit)))
        (some (D.int IntKind.u8 i11)))
      (((n1,(1:Int),PUnit.unit),PUnit.unit)))
theorem zoi (zaN:List D→Option D) (a0:Int):denP Try.prog (zav [(ID.wattleref01_Mul,(.pure [0] zaN))]) zg2 [0] ID.wattleref01_Pow [.int .i64 a0]=zfB zaN a0:=by kernel_rfl
theorem zlr (a0:Int):zbA [.int .i64 a0]=zfB zaN a0:=zoi zaN a0
def zim:Ann:={ loops:=[(1,[.dead,.dead,.dead,.own 1,.dead,.dead,.dead,.dead,.dead,.dead,.dead,.dead,.dead,.dead,.dead,.dead,.dead,.val (.cell .lent),.val (.cell (.int .i64)),.val (.cell (.int .i64))]),(3,[.dead,.dead,.dead,.own 1,.dead,.dead,.val (.cell (.int .u8)),.dead,.dead,.dead,.dead,.dead,.dead,.dead,.dead,.dead,.dead,.val (.cell .lent),.val (.cell (.int .i64)),.val (.cell (.int .i64)),.dead,.dead,.dead,.dead,.dead,.dead,.val (.cell .sl),.val (.cell (.int .i64)),.val (.cell (.int .i64))])] }
noncomputable def zbP:List D→Option D:=denP Try.prog (zav [(ID.wattleref01_alike,(.pure [0] zaD)),(ID.wattleref01_Pow,(.pure [0] zbA)),(ID.wattleref01_Mul,(.pure [0] zaN))]) zim [1] ID.wattleref01_Q
theorem zmo:za0 Try.prog ID.wattleref01_Q (.pure [1] zbP):=zai (zaw [zfl,zlq,zgd]) zbp ⟨Try.f82,by kernel_rfl,by kernel_rfl,by kernel_rfl⟩
noncomputable def znr:Fact Try.prog:=⟨ID.wattleref01_Q,(.pure [1] zbP),zmo⟩
noncomputable def zg3 (zaD:List D→Option D) (zbA:List D→Option D) (zaN:List D→Option D) (a0:List D):Option D:=
  zao (zaD [D.sl Tag.lent a0]) fun r1=>
  asB r1 fun b2=>
  brK (!b2)
    (some (D.sl Tag.own []))
    (getK a0 ((0:Nat)) fun d3=>
    asSl d3 fun t4 l5=>
    sif ((↑(List.length l5):Int)=(↑(List.length l5):Int)) <|
    sif ((↑(List.length l5):Int)*(1:Int)≤(140737488355328:Int)) <|
    sif ((↑(List.length l5):Int)≤(140737488355328:Int)) <|
    sif (Int.toNat (↑(List.length l5):Int)=List.length (List.replicate (Int.toNat (↑(List.length l5):Int)) (D.int IntKind.u8 (0:Int)))) <|
    zb4 (α:=(List D×List D×Int×Int×PUnit)×PUnit) (fun again6 ((l7,(l8,(i9,(i10,_)))),_)=>
      brK (decide (i10 < i9))
        (sif ((0:Int)≤i10) <|
        getK l8 (Int.toNat i10) fun d11=>
        asSl d11 fun t12 l13=>
        zao (zbA [D.int IntKind.i64 i10]) fun r14=>
        asI IntKind.u8 r14 fun i15=>
        sif (List.length l7=List.length l7) <|
        zb4 (α:=(List D×Int×List D×Int×Int×(Tag×List D)×Int×Int×PUnit)×PUnit) (fun again16 ((l17,(i18,(l19,(i20,(i21,((t22,l23),(i24,(i25,_)))))))),_)=>
          brK (decide (i25 < i24))
            (sif ((0:Int)≤i25) <|
            getK l23 (Int.toNat i25) fun d26=>
            asI IntKind.u8 d26 fun i27=>
            sif ((0:Int)≤i25) <|
            sif (Int.toNat i25 < List.length l17) <|
            getK l17 ((0:Nat)+Int.toNat i25) fun d28=>
            asI IntKind.u8 d28 fun i29=>
            zao (zaN [D.int IntKind.u8 i27,D.int IntKind.u8 i18]) fun r30=>
            asI IntKind.u8 r30 fun i31=>
            letN (bits BinOp.xor IntKind.u8 i29 i31) fun n32=>
            sif ((0:Int)≤i25) <|
            sif (Int.toNat i25 < List.length l17) <|
            getK l17 ((0:Nat)+Int.toNat i25) fun d33=>
            sif (D.isAgg d33=false) <|
            letN (IntKind.wrap IntKind.i64 (i25+(1:Int))) fun n34=>
            sif (List.length l17=List.length (List.set l17 ((0:Nat)+Int.toNat i25) (D.int IntKind.u8 n32))) <|
            again16 (((List.set l17 ((0:Nat)+Int.toNat i25) (D.int IntKind.u8 n32),i18,l19,i20,i21,(t22,l23),i24,n34,PUnit.unit),PUnit.unit)))
            (letN (IntKind.wrap IntKind.i64 (i21+(1:Int))) fun n35=>
            sif (List.length l17=List.length l17) <|
            again6 (((l17,l19,i20,n35,PUnit.unit),PUnit.unit))))
          (((l7,i15,l8,i9,i10,(t12,l13),(↑(List.length l13):Int),(0:Int),PUnit.unit),PUnit.unit)))
        (sif (List.length l7=List.length l7) <|
        sif (List.all l7 D.free=true) <|
        some (D.sl Tag.own l7)))
      (((List.replicate (Int.toNat (↑(List.length l5):Int)) (D.int IntKind.u8 (0:Int)),a0,(↑(List.length a0):Int),(0:Int),PUnit.unit),PUnit.unit)))
theorem zqK (zaD:List D→Option D) (zbA:List D→Option D) (zaN:List D→Option D) (tga0:Tag) (a0:List D):denP Try.prog (zav [(ID.wattleref01_alike,(.pure [0] zaD)),(ID.wattleref01_Pow,(.pure [0] zbA)),(ID.wattleref01_Mul,(.pure [0] zaN))]) zim [1] ID.wattleref01_Q [.sl tga0 a0]=zg3 zaD zbA zaN (D.lentL a0):=by kernel_rfl
theorem zns (tga0:Tag) (a0:List D):zbP [.sl tga0 a0]=zg3 zaD zbA zaN (D.lentL a0):=zqK zaD zbA zaN tga0 a0
def zge:Ann:={ loops:=[(1,[.dead,.val (.cell (.int .i64)),.val (.cell .lent),.box true [(.int .i64),(.int .i64),(.int .i64)],.dead,.dead,.dead,.dead,.own 1,.dead,.dead,.dead,.dead,.dead,.dead,.dead,.dead,.dead,.dead,.dead,.dead,.dead,.dead,.dead,.dead,.dead,.dead,.val (.cell .lent),.val (.cell (.int .i64)),.val (.cell (.int .i64))])] }
noncomputable def zbl:List D→Option D:=denP Try.prog (zav [(ID.wattleref01_fine,(.pure [0] zag)),(ID.wattleref01_Width,(.pure [0] zaa)),(ID.wattleref01_Disk,(.pure [0] zaF)),(ID.wattleref01_Parity,(.pure [0,0] zax)),(ID.wattleref01_P,(.pure [1] zbO)),(ID.wattleref01_Q,(.pure [1] zbP))]) zge [1,0] ID.wattleref01_Fill
theorem zjA:za0 Try.prog ID.wattleref01_Fill (.pure [1,0] zbl):=zai (zaw [zc2,zbq,zfS,ze5,znp,znr]) zbp ⟨Try.f39,by kernel_rfl,by kernel_rfl,by kernel_rfl⟩
noncomputable def zky:Fact Try.prog:=⟨ID.wattleref01_Fill,(.pure [1,0] zbl),zjA⟩
noncomputable def ze7 (zag:List D→Option D) (zaa:List D→Option D) (zaF:List D→Option D) (zax:List D→Option D) (zbO:List D→Option D) (zbP:List D→Option D) (a0_0:Int) (a0_1:Int) (a0_2:Int) (a1:Int) (a2:List D):Option D:=
  zao (zag [D.agg [D.int IntKind.i64 a0_0,D.int IntKind.i64 a0_1,D.int IntKind.i64 a0_2],D.int IntKind.i64 a1]) fun r1=>
  asB r1 fun b2=>
  brK (!b2)
    (some (D.tup [D.sl Tag.own [],D.bool false]))
    (zao (zaa [D.agg [D.int IntKind.i64 a0_0,D.int IntKind.i64 a0_1,D.int IntKind.i64 a0_2]]) fun r3=>
    asI IntKind.i64 r3 fun i4=>
    brK ((↑(List.length a2):Int) != i4)
      (some (D.tup [D.sl Tag.own [],D.bool false]))
      (sif ((0:Int)≤a0_1) <|
      sif (a0_1=a0_1) <|
      sif (a0_1*(24:Int)≤(140737488355328:Int)) <|
      sif (a0_1≤(140737488355328:Int)) <|
      sif (Int.toNat a0_1=List.length (List.replicate (Int.toNat a0_1) (D.sl Tag.nil []))) <|
      zb4 (α:=(Int×List D×(Int×Int×Int×PUnit)×List D×List D×Int×Int×PUnit)×PUnit) (fun again5 ((i6,(l7,((i8,(i9,(i10,_))),(l11,(l12,(i13,(i14,_))))))),_)=>
        brK (decide (i14 < i13))
          (sif ((0:Int)≤i14) <|
          getK l12 (Int.toNat i14) fun d15=>
          asSl d15 fun t16 l17=>
          brK ((↑(List.length l17):Int) != (32:Int))
            (some (D.tup [D.sl Tag.own [],D.bool false]))
            (zao (zaF [D.agg [D.int IntKind.i64 i8,D.int IntKind.i64 i9,D.int IntKind.i64 i10],D.int IntKind.i64 i6,D.int IntKind.i64 i14]) fun r18=>
            asI IntKind.i64 r18 fun i19=>
            sif (List.length l17≤(4294967296:Nat)) <|
            sif (zeS (1:Nat) l17=true) <|
            sif ((0:Int)≤i19) <|
            sif (Int.toNat i19 < List.length l11) <|
            sif ((0:Nat)+List.length l17≤List.length l17) <|
            getK l11 ((0:Nat)+Int.toNat i19) fun d20=>
            sif ((0:Nat)+List.length l17≤List.length l17) <|
            sif (D.isAgg d20=false) <|
            letN (IntKind.wrap IntKind.i64 (i14+(1:Int))) fun n21=>
            sif (List.length l11=List.length (List.set l11 ((0:Nat)+Int.toNat i19) (D.sl Tag.fresh (cut (0:Nat) (List.length l17) l17)))) <|
            again5 (((i6,l7,(i8,i9,i10,PUnit.unit),List.set l11 ((0:Nat)+Int.toNat i19) (D.sl Tag.fresh (cut (0:Nat) (List.length l17) l17)),l12,i13,n21,PUnit.unit),PUnit.unit))))
          (zao (zax [D.agg [D.int IntKind.i64 i8,D.int IntKind.i64 i9,D.int IntKind.i64 i10],D.int IntKind.i64 i6]) fun r22=>
          zdG r22 fun ts23=>
          zau ([Lf.any,Lf.any]) ts23 fun c24=>
          asI IntKind.i64 c24.fst fun i25=>
          asI IntKind.i64 c24.snd.fst fun i26=>
          zao (zbO [D.sl Tag.lent l7]) fun r27=>
          zbD r27 fun l28=>
          sif ((0:Int)≤i25) <|
          sif (Int.toNat i25 < List.length l11) <|
          sif ((0:Nat)+List.length l28≤List.length l28) <|
          getK l11 ((0:Nat)+Int.toNat i25) fun d29=>
          sif ((0:Nat)+List.length l28≤List.length l28) <|
          sif (D.isAgg d29=false) <|
          brK (decide (i26≥(0:Int)))
            (zao (zbP [D.sl Tag.lent l7]) fun r30=>
            zbD r30 fun l31=>
            sif ((0:Int)≤i26) <|
            sif (Int.toNat i26 < List.length l11) <|
            sif ((0:Nat)+List.length l31≤List.length l31) <|
            getK (List.set l11 ((0:Nat)+Int.toNat i25) (D.sl Tag.fresh (cut (0:Nat) (List.length l28) l28))) ((0:Nat)+Int.toNat i26) fun d32=>
            sif ((0:Nat)+List.length l31≤List.length l31) <|
            sif (D.isAgg d32=false) <|
            sif (List.length l11=List.length (List.set (List.set l11 ((0:Nat)+Int.toNat i25) (D.sl Tag.fresh (cut (0:Nat) (List.length l28) l28))) ((0:Nat)+Int.toNat i26) (D.sl Tag.fresh (cut (0:Nat) (List.length l31) l31)))) <|
            sif (List.all (List.set (List.set l11 ((0:Nat)+Int.toNat i25) (D.sl Tag.fresh (cut (0:Nat) (List.length l28) l28))) ((0:Nat)+Int.toNat i26) (D.sl Tag.fresh (cut (0:Nat) (List.length l31) l31))) D.free=true) <|
            some (D.tup [D.sl Tag.own (List.set (List.set l11 ((0:Nat)+Int.toNat i25) (D.sl Tag.fresh (cut (0:Nat) (List.length l28) l28))) ((0:Nat)+Int.toNat i26) (D.sl Tag.fresh (cut (0:Nat) (List.length l31) l31))),D.bool true]))
            (sif (List.length l11=List.length (List.set l11 ((0:Nat)+Int.toNat i25) (D.sl Tag.fresh (cut (0:Nat) (List.length l28) l28)))) <|
            sif (List.all (List.set l11 ((0:Nat)+Int.toNat i25) (D.sl Tag.fresh (cut (0:Nat) (List.length l28) l28))) D.free=true) <|
            some (D.tup [D.sl Tag.own (List.set l11 ((0:Nat)+Int.toNat i25) (D.sl Tag.fresh (cut (0:Nat) (List.length l28) l28))),D.bool true]))))
        (((a1,a2,(a0_0,a0_1,a0_2,PUnit.unit),List.replicate (Int.toNat a0_1) (D.sl Tag.nil []),a2,(↑(List.length a2):Int),(0:Int),PUnit.unit),PUnit.unit))))
theorem znt (zag:List D→Option D) (zaa:List D→Option D) (zaF:List D→Option D) (zax:List D→Option D) (zbO:List D→Option D) (zbP:List D→Option D) (tga2:Tag) (a0_0:Int) (a0_1:Int) (a0_2:Int) (a1:Int) (a2:List D):denP Try.prog (zav [(ID.wattleref01_fine,(.pure [0] zag)),(ID.wattleref01_Width,(.pure [0] zaa)),(ID.wattleref01_Disk,(.pure [0] zaF)),(ID.wattleref01_Parity,(.pure [0,0] zax)),(ID.wattleref01_P,(.pure [1] zbO)),(ID.wattleref01_Q,(.pure [1] zbP))]) zge [1,0] ID.wattleref01_Fill [.agg [.int .i64 a0_0,.int .i64 a0_1,.int .i64 a0_2],.int .i64 a1,.sl tga2 a2]=ze7 zag zaa zaF zax zbO zbP a0_0 a0_1 a0_2 a1 (D.lentL a2):=by kernel_rfl
theorem zkz (tga2:Tag) (a0_0:Int) (a0_1:Int) (a0_2:Int) (a1:Int) (a2:List D):zbl [.agg [.int .i64 a0_0,.int .i64 a0_1,.int .i64 a0_2],.int .i64 a1,.sl tga2 a2]=ze7 zag zaa zaF zax zbO zbP a0_0 a0_1 a0_2 a1 (D.lentL a2):=znt zag zaa zaF zax zbO zbP tga2 a0_0 a0_1 a0_2 a1 a2
def zfm:Ann:={ loops:=[],hints:=[(1,.at1 (.int .i64))] }
noncomputable def zaC:List D→Option D:=denP Try.prog (zav []) zfm [0] ID.disk_Disk_Damage_1
theorem zin:za0 Try.prog ID.disk_Disk_Damage_1 (.pure [0] zaC):=zai (zaw []) zbp ⟨Try.f126,by kernel_rfl,by kernel_rfl,by kernel_rfl⟩
noncomputable def ze8:Fact Try.prog:=⟨ID.disk_Disk_Damage_1,(.pure [0] zaC),zin⟩
noncomputable def zej (a0:List D) (c0:Int):Option D:=
  zau ([Lf.int IntKind.i64,Lf.arr (32)]) a0 fun c1=>
  some (D.bool (c1.fst == c0))
theorem zls (a0:List D) (c0:Int):denP Try.prog (zav []) zfm [0] ID.disk_Disk_Damage_1 [.agg a0,.at_ (.int .i64 c0)]=zej (D.lentL a0) c0:=by kernel_rfl
theorem zi4 (a0:List D) (c0:Int):zaC [.agg a0,.at_ (.int .i64 c0)]=zej (D.lentL a0) c0:=zls a0 c0
def zcf:Ann:={ loops:=[(0,[.val (.cell .lent),.val (.fn1 (126:FuncId) (.int .i64)),.dead,.dead,.dead,.dead,.dead,.val (.cell (.int .i64)),.val (.cell (.int .i64))])] }
noncomputable def zam:List D→Option D:=denP Try.prog (zav [(ID.disk_Disk_Damage_1,(.pure [0] zaC))]) zcf [0] ID.slices_IndexFunc_disk_write_disk_write
theorem zdl:za0 Try.prog ID.slices_IndexFunc_disk_write_disk_write (.pure [0] zam):=zai (zaw [ze8]) zbp ⟨Try.f139,by kernel_rfl,by kernel_rfl,by kernel_rfl⟩
noncomputable def zdu:Fact Try.prog:=⟨ID.slices_IndexFunc_disk_write_disk_write,(.pure [0] zam),zdl⟩
noncomputable def zbC (zaC:List D→Option D) (a0:List D) (c0:Int):Option D:=
  zb4 (α:=(List D×Int×Int×Int×PUnit)×PUnit) (fun again1 ((l2,(i3,(i4,(i5,_)))),_)=>
    brK (decide (i5 < i4))
      (sif ((0:Int)≤i5) <|
      getK l2 (Int.toNat i5) fun d6=>
      asAgg d6 fun cs7=>
      zau ([Lf.int IntKind.i64,Lf.arr (32)]) cs7 fun c8=>
      sif (D.width (D.agg ([D.int IntKind.i64 c8.fst]++(c8.snd.fst++[])))=(33:Nat)) <|
      zau ([Lf.int IntKind.i64,Lf.arr (32)]) ([D.int IntKind.i64 c8.fst]++(c8.snd.fst++[])) fun c9=>
      sif (D.width (D.agg ([D.int IntKind.i64 c9.fst]++(c9.snd.fst++[])))=(33:Nat)) <|
      zao (zaC [D.agg ([D.int IntKind.i64 c9.fst]++(c9.snd.fst++[])),D.at_ (D.int IntKind.i64 i3)]) fun r10=>
      asB r10 fun b11=>
      brK b11
        (some (D.int IntKind.i64 i5))
        (letN (IntKind.wrap IntKind.i64 (i5+(1:Int))) fun n12=>
        again1 (((l2,i3,i4,n12,PUnit.unit),PUnit.unit))))
      (some (D.int IntKind.i64 (-1:Int))))
    (((a0,c0,(↑(List.length a0):Int),(0:Int),PUnit.unit),PUnit.unit))
theorem zc3 (zaC:List D→Option D) (tga0:Tag) (a0:List D) (c0:Int):denP Try.prog (zav [(ID.disk_Disk_Damage_1,(.pure [0] zaC))]) zcf [0] ID.slices_IndexFunc_disk_write_disk_write [.sl tga0 a0,.fn 126 [] [.at_ (.int .i64 c0)]]=zbC zaC (D.lentL a0) c0:=by kernel_rfl
theorem zcO (tga0:Tag) (a0:List D) (c0:Int):zam [.sl tga0 a0,.fn 126 [] [.at_ (.int .i64 c0)]]=zbC zaC (D.lentL a0) c0:=zc3 zaC tga0 a0 c0
def zce:Ann:={ loops:=[(1,[.own 33,.val (.fn1 (126:FuncId) (.int .i64)),.dead,.dead,.dead,.val (.cell (.int .i64)),.val (.cell (.int .i64))])],pms:=[(.own,33)] }
noncomputable def zak:List D→List Tb→Option Ans:=denS Try.prog (zav [(ID.slices_IndexFunc_disk_write_disk_write,(.pure [0] zam)),(ID.disk_Disk_Damage_1,(.pure [0] zaC))]) zce [33] ID.slices_DeleteFunc_disk_write_disk_write
theorem zdg:za0 Try.prog ID.slices_DeleteFunc_disk_write_disk_write (.st [(.own,33)] [33] [] zak):=zbR (zaw [zdu,ze8]) zbp ⟨Try.f125,by kernel_rfl,by kernel_rfl,by kernel_rfl⟩
noncomputable def zdm:Fact Try.prog:=⟨ID.slices_DeleteFunc_disk_write_disk_write,(.st [(.own,33)] [33] [] zak),zdg⟩
noncomputable def zbu (zam:List D→Option D) (zaC:List D→Option D) (a0:List D) (c0:Int):Option Ans:=
  sif ((0:Nat)+List.length a0≤List.length a0) <|
  zao (zam [D.sl Tag.lent (cut (0:Nat) (List.length a0) a0),D.fn (126:FuncId) [] [D.at_ (D.int IntKind.i64 c0)]]) fun r1=>
  asI IntKind.i64 r1 fun i2=>
  brK (i2 == (-1:Int))
    (sif (List.length a0=List.length a0) <|
    sif (List.all a0 D.free=true) <|
    some (Ans.mk (D.sl Tag.own a0) [] []))
    (letN (IntKind.wrap IntKind.i64 (i2+(1:Int))) fun n3=>
    none)
theorem zcV (zam:List D→Option D) (zaC:List D→Option D) (a0:List D) (c0:Int):denS Try.prog (zav [(ID.slices_IndexFunc_disk_write_disk_write,(.pure [0] zam)),(ID.disk_Disk_Damage_1,(.pure [0] zaC))]) zce [33] ID.slices_DeleteFunc_disk_write_disk_write [.sl .own a0,.fn 126 [] [.at_ (.int .i64 c0)]] []=zbu zam zaC a0 c0:=by kernel_rfl
theorem zcK (a0:List D) (c0:Int):zak [.sl .own a0,.fn 126 [] [.at_ (.int .i64 c0)]] []=zbu zam zaC a0 c0:=zcV zam zaC a0 c0
def zgf:Ann:={ loops:=[],ks:=[(7649,true)] }
noncomputable def zbm:List D→List Tb→Option Ans:=denS Try.prog (zav [(ID.disk_Disk_put,(.st [] [0,0] [(7649,false)] zbN)),(ID.slices_Clone_disk_write_disk_write,(.pure [33] zan)),(ID.slices_DeleteFunc_disk_write_disk_write,(.st [(.own,33)] [33] [] zak))]) zgf [0] ID.disk_Disk_Damage
theorem zjB:za0 Try.prog ID.disk_Disk_Damage (.st [] [0] [(7649,true)] zbm):=zbR (zaw [znk,zdT,zdm]) zbp ⟨Try.f100,by kernel_rfl,by kernel_rfl,by kernel_rfl⟩
noncomputable def zkA:Fact Try.prog:=⟨ID.disk_Disk_Damage,(.st [] [0] [(7649,true)] zbm),zjB⟩
noncomputable def ze9 (zbN:List D→List Tb→Option Ans) (zan:List D→Option D) (zak:List D→List Tb→Option Ans) (a0:Nat) (a1:Int) (a2:List D) (T0:Tb):Option Ans:=
  zao (zbN [D.h (7649:Nat) a0 (0:Nat),D.int IntKind.i64 a1,D.sl Tag.lent a2] [T0]) fun r1=>
  nilK r1.outs <|
  nilK r1.tbs <|
  zdG r1.r fun ts2=>
  zau ([Lf.any,Lf.any]) ts2 fun c3=>
  asAgg c3.fst fun cs4=>
  zau ([Lf.int IntKind.i64,Lf.arr (32)]) cs4 fun c5=>
  asI IntKind.i64 c3.snd.fst fun i6=>
  sif (List.length ([D.int IntKind.i64 c5.fst]++(c5.snd.fst++[]))=(33:Nat)) <|
  brK (i6 != (0:Int))
    (some (Ans.mk (D.int IntKind.i64 i6) [] [T0]))
    (sif ((33:Nat)≤List.length ([D.int IntKind.i64 c5.fst]++(c5.snd.fst++[]))) <|
    sif (List.length (List.take (32:Nat) (List.drop (1:Nat) ([D.int IntKind.i64 c5.fst]++(c5.snd.fst++[]))))=(32:Nat)) <|
    sif ((0:Int)≤a1) <|
    sif (Int.toNat a1 < (52:Nat)) <|
    getK T0 a0 fun d7=>
    sif ((0:Nat)+Int.toNat a1*(32:Nat)+(32:Nat)≤List.length d7) <|
    sif (List.length (List.take (32:Nat) (List.drop (1:Nat) ([D.int IntKind.i64 c5.fst]++(c5.snd.fst++[]))))=(32:Nat)) <|
    sif (zoV (List.take (32:Nat) (List.drop (1:Nat) ([D.int IntKind.i64 c5.fst]++(c5.snd.fst++[]))))=true) <|
    sif (zoV (List.take (32:Nat) (List.drop ((0:Nat)+Int.toNat a1*(32:Nat)) d7))=true) <|
    letT (zbt T0 a0 ((0:Nat)+Int.toNat a1*(32:Nat)) (List.take (32:Nat) (List.drop (1:Nat) ([D.int IntKind.i64 c5.fst]++(c5.snd.fst++[]))))) fun U8=>
    getK U8 a0 fun d9=>
    getK d9 ((1664:Nat)) fun d10=>
    zbD d10 fun l11=>
    getK U8 a0 fun d12=>
    getK d12 ((1664:Nat)) fun d13=>
    zbD d13 fun l14=>
    sif ((0:Nat)+List.length l11≤List.length l14) <|
    zao (zan [D.sl Tag.lent (cut (0:Nat) (List.length l11) l14)]) fun r15=>
    zbD r15 fun l16=>
    sif (List.length l16=List.length l16) <|
    sif (zdN l16=true) <|
    zao (zak [D.sl Tag.own l16,D.fn (126:Nat) [] [D.at_ (D.int IntKind.i64 a1)]] []) fun r17=>
    nilK r17.outs <|
    nilK r17.tbs <|
    zbD r17.r fun l18=>
    sif ((0:Nat)+List.length l18≤List.length l18) <|
    getK U8 a0 fun d19=>
    sif ((1665:Nat)≤List.length d19) <|
    sif (List.length l18=List.length l18) <|
    sif (zdN l18=true) <|
    sif (zh3 (33:Nat) l18=true) <|
    letT (zbt U8 a0 (1664:Nat) [D.sl Tag.own l18]) fun U20=>
    some (Ans.mk (D.int IntKind.i64 (0:Int)) [] [U20]))
theorem znu (zbN:List D→List Tb→Option Ans) (zan:List D→Option D) (zak:List D→List Tb→Option Ans) (tga2:Tag) (a0:Nat) (a1:Int) (a2:List D) (T0:Tb):denS Try.prog (zav [(ID.disk_Disk_put,(.st [] [0,0] [(7649,false)] zbN)),(ID.slices_Clone_disk_write_disk_write,(.pure [33] zan)),(ID.slices_DeleteFunc_disk_write_disk_write,(.st [(.own,33)] [33] [] zak))]) zgf [0] ID.disk_Disk_Damage [.h 7649 a0 0,.int .i64 a1,.sl tga2 a2] [T0]=ze9 zbN zan zak a0 a1 (D.lentL a2) T0:=by kernel_rfl
theorem zkB (tga2:Tag) (a0:Nat) (a1:Int) (a2:List D) (T0:Tb):zbm [.h 7649 a0 0,.int .i64 a1,.sl tga2 a2] [T0]=ze9 zbN zan zak a0 a1 (D.lentL a2) T0:=znu zbN zan zak tga2 a0 a1 a2 T0
def zfn:Ann:={ loops:=[],ks:=[(3840,false),(7649,true)] }
noncomputable def za7:List D→List Tb→Option Ans:=denS Try.prog (zav [(ID.bench_Bench_is,(.st [] [0] [(3840,false)] zal)),(ID.disk_Disk_Damage,(.st [] [0] [(7649,true)] zbm))]) zfn [0] ID.bench_Bench_Damage
theorem zio:za0 Try.prog ID.bench_Bench_Damage (.st [] [0] [(3840,false),(7649,true)] za7):=zbR (zaw [zdt,zkA]) zbp ⟨Try.f65,by kernel_rfl,by kernel_rfl,by kernel_rfl⟩
noncomputable def zi5:Fact Try.prog:=⟨ID.bench_Bench_Damage,(.st [] [0] [(3840,false),(7649,true)] za7),zio⟩
noncomputable def zek (zal:List D→List Tb→Option Ans) (zbm:List D→List Tb→Option Ans) (a0:Nat) (a1:Int) (a2:Int) (a3:List D) (T0:Tb) (T1:Tb):Option Ans:=
  zao (zal [D.h (3840:Nat) a0 (0:Nat),D.int IntKind.i64 a1] [T0]) fun r1=>
  nilK r1.outs <|
  nilK r1.tbs <|
  asB r1.r fun b2=>
  brK (!b2)
    (some (Ans.mk (D.int IntKind.i64 (1:Int)) [] [T1]))
    (getK T0 a0 fun d3=>
    getK d3 ((3:Nat)) fun d4=>
    zbD d4 fun l5=>
    getK T0 a0 fun d6=>
    getK d6 ((3:Nat)) fun d7=>
    zbD d7 fun l8=>
    sif ((0:Int)≤a1) <|
    sif (Int.toNat a1 < List.length l5) <|
    getK T0 a0 fun d9=>
    getK d9 ((3:Nat)) fun d10=>
    zbD d10 fun l11=>
    getK l11 ((0:Nat)+Int.toNat a1) fun d12=>
    sif (D.isAgg d12=false) <|
    sif (D.width d12=(1:Nat)) <|
    sif (D.cell d12=true) <|
    zao (zbm [d12,D.int IntKind.i64 a2,D.sl Tag.lent a3] [T1]) fun r13=>
    nilK r13.outs <|
    zh1 r13.tbs fun c14 q15=>
    nilK q15 <|
    asI IntKind.i64 r13.r fun i16=>
    some (Ans.mk (D.int IntKind.i64 i16) [] [c14]))
theorem zlt (zal:List D→List Tb→Option Ans) (zbm:List D→List Tb→Option Ans) (tga3:Tag) (a0:Nat) (a1:Int) (a2:Int) (a3:List D) (T0:Tb) (T1:Tb):denS Try.prog (zav [(ID.bench_Bench_is,(.st [] [0] [(3840,false)] zal)),(ID.disk_Disk_Damage,(.st [] [0] [(7649,true)] zbm))]) zfn [0] ID.bench_Bench_Damage [.h 3840 a0 0,.int .i64 a1,.int .i64 a2,.sl tga3 a3] [T0,T1]=zek zal zbm a0 a1 a2 (D.lentL a3) T0 T1:=by kernel_rfl
theorem zi6 (tga3:Tag) (a0:Nat) (a1:Int) (a2:Int) (a3:List D) (T0:Tb) (T1:Tb):za7 [.h 3840 a0 0,.int .i64 a1,.int .i64 a2,.sl tga3 a3] [T0,T1]=zek zal zbm a0 a1 a2 (D.lentL a3) T0 T1:=zlt zal zbm tga3 a0 a1 a2 a3 T0 T1
def zfo:Ann:={ loops:=[(1,[.dead,.val (.cell (.int .i64)),.val (.cell .lent),.box true [(.int .i64),(.int .i64),(.int .i64)],.dead,.dead,.dead,.ptr 3840,.dead,.val (.cell (.int .i64))]),(3,[.dead,.val (.cell (.int .i64)),.val (.cell .lent),.box true [(.int .i64),(.int .i64),(.int .i64)],.dead,.dead,.dead,.ptr 3840,.dead,.val (.cell (.int .i64)),.own 1,.val (.cell .bool),.val (.cell (.int .i64))])],ks:=[(3840,true),(7649,true)] }
noncomputable def za1:List D→List Tb→Option Ans:=denS Try.prog (zav [(ID.bench_New,(.st [] [0,0] [(3840,true),(7649,true)] zbo)),(ID.wattleref01_Width,(.pure [0] zaa)),(ID.wattleplay_Sectors,(.pure [1] zaA)),(ID.wattleref01_Fill,(.pure [1,0] zbl)),(ID.bench_Bench_Damage,(.st [] [0] [(3840,false),(7649,true)] za7))]) zfo [0] ID.wattlelaw14_Filled
theorem ziq:za0 Try.prog ID.wattlelaw14_Filled (.st [] [0] [(3840,true),(7649,true)] za1):=zbR (zaw [zlB,zbq,ze3,zky,zi5]) zbp ⟨Try.f17,by kernel_rfl,by kernel_rfl,by kernel_rfl⟩
noncomputable def zi7:Fact Try.prog:=⟨ID.wattlelaw14_Filled,(.st [] [0] [(3840,true),(7649,true)] za1),ziq⟩
noncomputable def zel (zbo:List D→List Tb→Option Ans) (zaa:List D→Option D) (zaA:List D→Option D) (zbl:List D→Option D) (za7:List D→List Tb→Option Ans) (a0_0:Int) (a0_1:Int) (a0_2:Int) (a1:Int) (a2:List D) (T0:Tb) (T1:Tb):Option Ans:=
  zao (zbo [D.int IntKind.i64 a1] [T0,T1]) fun r1=>
  nilK r1.outs <|
  zh1 r1.tbs fun c2 q3=>
  zh1 q3 fun c4 q5=>
  nilK q5 <|
  zdG r1.r fun ts6=>
  zau ([Lf.any,Lf.any]) ts6 fun c7=>
  sif (zjW c7.fst=true) <|
  asI IntKind.i64 c7.snd.fst fun i8=>
  brK (i8 != (0:Int))
    (some (Ans.mk D.nilp [] [c2,c4]))
    (znN c7.fst fun b9=>
    brK b9
      (some (Ans.mk D.nilp [] [c2,c4]))
      (zb4 (α:=(Int×List D×(Int×Int×Int×PUnit)×D×Int×PUnit)×List (List D)×List (List D)×PUnit) (fun again10 ((i11,(l12,((i13,(i14,(i15,_))),(x16,(i17,_))))),(U18,(U19,_)))=>
        brK (decide (i17 < (16:Int)))
          (letN (min i17 (↑(List.length l12):Int)) fun n20=>
          sif ((0:Int)≤n20) <|
          sif (n20≤(↑(List.length l12):Int)) <|
          sif ((↑(List.length l12):Int)≤(↑(List.length l12):Int)) <|
          sif ((↑(List.length l12):Int)=(↑(List.length l12):Int)) <|
          sif (zvK (1:Nat) l12=true) <|
          zao (zaa [D.agg [D.int IntKind.i64 i13,D.int IntKind.i64 i14,D.int IntKind.i64 i15]]) fun r21=>
          asI IntKind.i64 r21 fun i22=>
          zao (zaA [D.sl (zd0 Tag.lent false (decide ((↑(List.length l12):Int)=(↑(List.length l12):Int)))) (cutI n20 (↑(List.length l12):Int) l12),D.int IntKind.i64 i22]) fun r23=>
          zbD r23 fun l24=>
          sif ((0:Nat)+List.length l24≤List.length l24) <|
          zao (zbl [D.agg [D.int IntKind.i64 i13,D.int IntKind.i64 i14,D.int IntKind.i64 i15],D.int IntKind.i64 i17,D.sl Tag.lent (cut (0:Nat) (List.length l24) l24)]) fun r25=>
          zdG r25 fun ts26=>
          zau ([Lf.any,Lf.any]) ts26 fun c27=>
          zbD c27.fst fun l28=>
          asB c27.snd.fst fun b29=>
          sif (List.length l28=List.length l28) <|
          zb4 (α:=(Int×List D×(Int×Int×Int×PUnit)×D×Int×List D×Bool×Int×PUnit)×List (List D)×List (List D)×PUnit) (fun again30 ((i31,(l32,((i33,(i34,(i35,_))),(x36,(i37,(l38,(b39,(i40,_)))))))),(U41,(U42,_)))=>
            brK b39
              (sif ((0:Nat)+List.length l38≤List.length l38) <|
              brK (decide (i40 < (↑(List.length l38):Int)))
                (brK (decide (i40 < i31))
                  (letN (IntKind.wrap IntKind.i64 ((36:Int)+i37)) fun n43=>
                  sif ((0:Int)≤i40) <|
                  sif (Int.toNat i40 < List.length l38) <|
                  getK l38 ((0:Nat)+Int.toNat i40) fun d44=>
                  asSl d44 fun t45 l46=>
                  zao (za7 [x36,D.int IntKind.i64 i40,D.int IntKind.i64 n43,D.sl t45 l46] [U41,U42]) fun r47=>
                  nilK r47.outs <|
                  zh1 r47.tbs fun c48 q49=>
                  nilK q49 <|
                  asI IntKind.i64 r47.r fun i50=>
                  letN (IntKind.wrap IntKind.i64 (i40+(1:Int))) fun n51=>
                  sif (List.length l38=List.length l38) <|
                  again30 (((i31,l32,(i33,i34,i35,PUnit.unit),x36,i37,l38,b39,n51,PUnit.unit),U41,c48,PUnit.unit)))
                  (letN (IntKind.wrap IntKind.i64 (i37+(1:Int))) fun n52=>
                  again10 (((i31,l32,(i33,i34,i35,PUnit.unit),x36,n52,PUnit.unit),U41,U42,PUnit.unit))))
                (letN (IntKind.wrap IntKind.i64 (i37+(1:Int))) fun n53=>
                again10 (((i31,l32,(i33,i34,i35,PUnit.unit),x36,n53,PUnit.unit),U41,U42,PUnit.unit))))
              (letN (IntKind.wrap IntKind.i64 (i37+(1:Int))) fun n54=>
              again10 (((i31,l32,(i33,i34,i35,PUnit.unit),x36,n54,PUnit.unit),U41,U42,PUnit.unit))))
            (((i11,l12,(i13,i14,i15,PUnit.unit),x16,i17,l28,b29,(0:Int),PUnit.unit),U18,U19,PUnit.unit)))
          (sif (D.free x16=true) <|
          some (Ans.mk x16 [] [U18,U19])))
        (((a1,a2,(a0_0,a0_1,a0_2,PUnit.unit),c7.fst,(0:Int),PUnit.unit),c2,c4,PUnit.unit))))
theorem zlu (zbo:List D→List Tb→Option Ans) (zaa:List D→Option D) (zaA:List D→Option D) (zbl:List D→Option D) (za7:List D→List Tb→Option Ans) (tga2:Tag) (a0_0:Int) (a0_1:Int) (a0_2:Int) (a1:Int) (a2:List D) (T0:Tb) (T1:Tb):denS Try.prog (zav [(ID.bench_New,(.st [] [0,0] [(3840,true),(7649,true)] zbo)),(ID.wattleref01_Width,(.pure [0] zaa)),(ID.wattleplay_Sectors,(.pure [1] zaA)),(ID.wattleref01_Fill,(.pure [1,0] zbl)),(ID.bench_Bench_Damage,(.st [] [0] [(3840,false),(7649,true)] za7))]) zfo [0] ID.wattlelaw14_Filled [.agg [.int .i64 a0_0,.int .i64 a0_1,.int .i64 a0_2],.int .i64 a1,.sl tga2 a2] [T0,T1]=zel zbo zaa zaA zbl za7 a0_0 a0_1 a0_2 a1 (D.lentL a2) T0 T1:=by kernel_rfl
theorem zi8 (tga2:Tag) (a0_0:Int) (a0_1:Int) (a0_2:Int) (a1:Int) (a2:List D) (T0:Tb) (T1:Tb):za1 [.agg [.int .i64 a0_0,.int .i64 a0_1,.int .i64 a0_2],.int .i64 a1,.sl tga2 a2] [T0,T1]=zel zbo zaa zaA zbl za7 a0_0 a0_1 a0_2 a1 (D.lentL a2) T0 T1:=zlu zbo zaa zaA zbl za7 tga2 a0_0 a0_1 a0_2 a1 a2 T0 T1
def zfU:Ann:={ loops:=[(0,[.val (.cell (.int .i64)),.val (.cell (.int .i64)),.dead,.dead,.dead,.val (.cell (.int .i64))])] }
noncomputable def zbd:List D→Option D:=denP Try.prog (zav []) zfU [0] ID.wattleref01_least
theorem zi9:za0 Try.prog ID.wattleref01_least (.pure [0] zbd):=zai (zaw []) zbp ⟨Try.f99,by kernel_rfl,by kernel_rfl,by kernel_rfl⟩
noncomputable def zjC:Fact Try.prog:=⟨ID.wattleref01_least,(.pure [0] zbd),zi9⟩
noncomputable def zeF (a0:Int) (a1:Int):Option D:=
  zb4 (α:=(Int×Int×Int×PUnit)×PUnit) (fun again1 ((i2,(i3,(i4,_))),_)=>
    sif (i3≠(0:Int)) <|
    letN (Int.tmod i4 i3) fun n5=>
    brK (n5 != (0:Int))
      (letN (IntKind.wrap IntKind.i64 (i4+i2)) fun n6=>
      again1 (((i2,i3,n6,PUnit.unit),PUnit.unit)))
      (some (D.int IntKind.i64 i4)))
    (((a0,a1,a0,PUnit.unit),PUnit.unit))
theorem zmp (a0:Int) (a1:Int):denP Try.prog (zav []) zfU [0] ID.wattleref01_least [.int .i64 a0,.int .i64 a1]=zeF a0 a1:=by kernel_rfl
theorem zjD (a0:Int) (a1:Int):zbd [.int .i64 a0,.int .i64 a1]=zeF a0 a1:=zmp a0 a1
def zgg:Ann:={ loops:=[] }
noncomputable def zaM:List D→Option D:=denP Try.prog (zav [(ID.wattleref01_Can,(.pure [0] zaq)),(ID.wattleref01_least,(.pure [0] zbd))]) zgg [0] ID.wattleref01_Rows
theorem zjE:za0 Try.prog ID.wattleref01_Rows (.pure [0] zaM):=zai (zaw [zed,zjC]) zbp ⟨Try.f62,by kernel_rfl,by kernel_rfl,by kernel_rfl⟩
noncomputable def zfV:Fact Try.prog:=⟨ID.wattleref01_Rows,(.pure [0] zaM),zjE⟩
noncomputable def zfa (zaq:List D→Option D) (zbd:List D→Option D) (a0_0:Int) (a0_1:Int) (a0_2:Int) (a1_0:Int) (a1_1:Int) (a1_2:Int):Option D:=
  zao (zaq [D.agg [D.int IntKind.i64 a0_0,D.int IntKind.i64 a0_1,D.int IntKind.i64 a0_2],D.agg [D.int IntKind.i64 a1_0,D.int IntKind.i64 a1_1,D.int IntKind.i64 a1_2]]) fun r1=>
  asB r1 fun b2=>
  brK (!b2)
    (some (D.int IntKind.i64 (0:Int)))
    (zao (zbd [D.int IntKind.i64 a0_2,D.int IntKind.i64 a1_2]) fun r3=>
    asI IntKind.i64 r3 fun i4=>
    some (D.int IntKind.i64 i4))
theorem znv (zaq:List D→Option D) (zbd:List D→Option D) (a0_0:Int) (a0_1:Int) (a0_2:Int) (a1_0:Int) (a1_1:Int) (a1_2:Int):denP Try.prog (zav [(ID.wattleref01_Can,(.pure [0] zaq)),(ID.wattleref01_least,(.pure [0] zbd))]) zgg [0] ID.wattleref01_Rows [.agg [.int .i64 a0_0,.int .i64 a0_1,.int .i64 a0_2],.agg [.int .i64 a1_0,.int .i64 a1_1,.int .i64 a1_2]]=zfa zaq zbd a0_0 a0_1 a0_2 a1_0 a1_1 a1_2:=by kernel_rfl
theorem zkC (a0_0:Int) (a0_1:Int) (a0_2:Int) (a1_0:Int) (a1_1:Int) (a1_2:Int):zaM [.agg [.int .i64 a0_0,.int .i64 a0_1,.int .i64 a0_2],.agg [.int .i64 a1_0,.int .i64 a1_1,.int .i64 a1_2]]=zfa zaq zbd a0_0 a0_1 a0_2 a1_0 a1_1 a1_2:=znv zaq zbd a0_0 a0_1 a0_2 a1_0 a1_1 a1_2
def zfb:Ann:={ loops:=[] }
noncomputable def zat:List D→Option D:=denP Try.prog (zav [(ID.wattleref01_Can,(.pure [0] zaq)),(ID.wattleref01_Rows,(.pure [0] zaM))]) zfb [0] ID.wattleref01_Windows
theorem zhJ:za0 Try.prog ID.wattleref01_Windows (.pure [0] zat):=zai (zaw [zed,zfV]) zbp ⟨Try.f56,by kernel_rfl,by kernel_rfl,by kernel_rfl⟩
noncomputable def zeL:Fact Try.prog:=⟨ID.wattleref01_Windows,(.pure [0] zat),zhJ⟩
noncomputable def zdV (zaq:List D→Option D) (zaM:List D→Option D) (a0_0:Int) (a0_1:Int) (a0_2:Int) (a1_0:Int) (a1_1:Int) (a1_2:Int):Option D:=
  zao (zaq [D.agg [D.int IntKind.i64 a0_0,D.int IntKind.i64 a0_1,D.int IntKind.i64 a0_2],D.agg [D.int IntKind.i64 a1_0,D.int IntKind.i64 a1_1,D.int IntKind.i64 a1_2]]) fun r1=>
  asB r1 fun b2=>
  brK (!b2)
    (some (D.int IntKind.i64 (0:Int)))
    (zao (zaM [D.agg [D.int IntKind.i64 a0_0,D.int IntKind.i64 a0_1,D.int IntKind.i64 a0_2],D.agg [D.int IntKind.i64 a1_0,D.int IntKind.i64 a1_1,D.int IntKind.i64 a1_2]]) fun r3=>
    asI IntKind.i64 r3 fun i4=>
    sif (i4≠(0:Int)) <|
    letN (IntKind.wrap IntKind.i64 (Int.tdiv (16:Int) i4)) fun n5=>
    some (D.int IntKind.i64 n5))
theorem zkD (zaq:List D→Option D) (zaM:List D→Option D) (a0_0:Int) (a0_1:Int) (a0_2:Int) (a1_0:Int) (a1_1:Int) (a1_2:Int):denP Try.prog (zav [(ID.wattleref01_Can,(.pure [0] zaq)),(ID.wattleref01_Rows,(.pure [0] zaM))]) zfb [0] ID.wattleref01_Windows [.agg [.int .i64 a0_0,.int .i64 a0_1,.int .i64 a0_2],.agg [.int .i64 a1_0,.int .i64 a1_1,.int .i64 a1_2]]=zdV zaq zaM a0_0 a0_1 a0_2 a1_0 a1_1 a1_2:=by kernel_rfl
theorem zir (a0_0:Int) (a0_1:Int) (a0_2:Int) (a1_0:Int) (a1_1:Int) (a1_2:Int):zat [.agg [.int .i64 a0_0,.int .i64 a0_1,.int .i64 a0_2],.agg [.int .i64 a1_0,.int .i64 a1_1,.int .i64 a1_2]]=zdV zaq zaM a0_0 a0_1 a0_2 a1_0 a1_1 a1_2:=zkD zaq zaM a0_0 a0_1 a0_2 a1_0 a1_1 a1_2
def zgh:Ann:={ loops:=[] }
noncomputable def zbc:List D→Option D:=denP Try.prog (zav [(ID.wattleref01_Windows,(.pure [0] zat)),(ID.wattleref01_Rows,(.pure [0] zaM)),(ID.wattleref01_Width,(.pure [0] zaa))]) zgh [0,0] ID.wattleref01_Span
theorem zjF:za0 Try.prog ID.wattleref01_Span (.pure [0,0] zbc):=zai (zaw [zeL,zfV,zbq]) zbp ⟨Try.f57,by kernel_rfl,by kernel_rfl,by kernel_rfl⟩
noncomputable def zkE:Fact Try.prog:=⟨ID.wattleref01_Span,(.pure [0,0] zbc),zjF⟩
noncomputable def zfc (zat:List D→Option D) (zaM:List D→Option D) (zaa:List D→Option D) (a0_0:Int) (a0_1:Int) (a0_2:Int) (a1_0:Int) (a1_1:Int) (a1_2:Int) (a2:Int):Option D:=
  brK (decide (a2 < (0:Int)))
    (some (D.tup [D.int IntKind.i64 (0:Int),D.int IntKind.i64 (0:Int)]))
    (zao (zat [D.agg [D.int IntKind.i64 a0_0,D.int IntKind.i64 a0_1,D.int IntKind.i64 a0_2],D.agg [D.int IntKind.i64 a1_0,D.int IntKind.i64 a1_1,D.int IntKind.i64 a1_2]]) fun r1=>
    asI IntKind.i64 r1 fun i2=>
    brK (decide (a2≥i2))
      (some (D.tup [D.int IntKind.i64 (0:Int),D.int IntKind.i64 (0:Int)]))
      (zao (zaM [D.agg [D.int IntKind.i64 a0_0,D.int IntKind.i64 a0_1,D.int IntKind.i64 a0_2],D.agg [D.int IntKind.i64 a1_0,D.int IntKind.i64 a1_1,D.int IntKind.i64 a1_2]]) fun r3=>
      asI IntKind.i64 r3 fun i4=>
      zao (zaa [D.agg [D.int IntKind.i64 a1_0,D.int IntKind.i64 a1_1,D.int IntKind.i64 a1_2]]) fun r5=>
      asI IntKind.i64 r5 fun i6=>
      letN (IntKind.wrap IntKind.i64 (i4*i6)) fun n7=>
      letN (IntKind.wrap IntKind.i64 (a2*n7)) fun n8=>
      letN (IntKind.wrap IntKind.i64 (a2+(1:Int))) fun n9=>
      letN (IntKind.wrap IntKind.i64 (n9*n7)) fun n10=>
      some (D.tup [D.int IntKind.i64 n8,D.int IntKind.i64 n10])))
theorem znw (zat:List D→Option D) (zaM:List D→Option D) (zaa:List D→Option D) (a0_0:Int) (a0_1:Int) (a0_2:Int) (a1_0:Int) (a1_1:Int) (a1_2:Int) (a2:Int):denP Try.prog (zav [(ID.wattleref01_Windows,(.pure [0] zat)),(ID.wattleref01_Rows,(.pure [0] zaM)),(ID.wattleref01_Width,(.pure [0] zaa))]) zgh [0,0] ID.wattleref01_Span [.agg [.int .i64 a0_0,.int .i64 a0_1,.int .i64 a0_2],.agg [.int .i64 a1_0,.int .i64 a1_1,.int .i64 a1_2],.int .i64 a2]=zfc zat zaM zaa a0_0 a0_1 a0_2 a1_0 a1_1 a1_2 a2:=by kernel_rfl
theorem zkF (a0_0:Int) (a0_1:Int) (a0_2:Int) (a1_0:Int) (a1_1:Int) (a1_2:Int) (a2:Int):zbc [.agg [.int .i64 a0_0,.int .i64 a0_1,.int .i64 a0_2],.agg [.int .i64 a1_0,.int .i64 a1_1,.int .i64 a1_2],.int .i64 a2]=zfc zat zaM zaa a0_0 a0_1 a0_2 a1_0 a1_1 a1_2 a2:=znw zat zaM zaa a0_0 a0_1 a0_2 a1_0 a1_1 a1_2 a2
def zoP:Ann:={ loops:=[] }
noncomputable def zcY:List D→Option D:=denP Try.prog (zav [(ID.geom_Check,(.pure [0] zaj)),(ID.geom_Width,(.pure [0] zaf))]) zoP [0] ID.geom_Can
theorem zrp:za0 Try.prog ID.geom_Can (.pure [0] zcY):=zai (zaw [zde,zcu]) zbp ⟨Try.f123,by kernel_rfl,by kernel_rfl,by kernel_rfl⟩
noncomputable def ztC:Fact Try.prog:=⟨ID.geom_Can,(.pure [0] zcY),zrp⟩
noncomputable def zoj (zaj:List D→Option D) (zaf:List D→Option D) (a0_0:Int) (a0_1:Int) (a0_2:Int) (a1_0:Int) (a1_1:Int) (a1_2:Int):Option D:=
  zao (zaj [D.agg [D.int IntKind.i64 a0_0,D.int IntKind.i64 a0_1,D.int IntKind.i64 a0_2]]) fun r1=>
  asI IntKind.i64 r1 fun i2=>
  brK (i2 == (0:Int))
    (zao (zaj [D.agg [D.int IntKind.i64 a1_0,D.int IntKind.i64 a1_1,D.int IntKind.i64 a1_2]]) fun r3=>
    asI IntKind.i64 r3 fun i4=>
    brK (i4 == (0:Int))
      (brK (!(a0_0 == a1_0 && (a0_1 == a1_1 && (a0_2 == a1_2 && true))))
        (brK (decide (a1_1≥a0_1))
          (brK (decide (a1_0≥a0_0))
            (zao (zaf [D.agg [D.int IntKind.i64 a1_0,D.int IntKind.i64 a1_1,D.int IntKind.i64 a1_2]]) fun r5=>
            asI IntKind.i64 r5 fun i6=>
            zao (zaf [D.agg [D.int IntKind.i64 a0_0,D.int IntKind.i64 a0_1,D.int IntKind.i64 a0_2]]) fun r7=>
            asI IntKind.i64 r7 fun i8=>
            some (D.bool (decide (i6≥i8))))
            (some (D.bool false)))
          (some (D.bool false)))
        (some (D.bool false)))
      (some (D.bool false)))
    (some (D.bool false))
theorem zyq (zaj:List D→Option D) (zaf:List D→Option D) (a0_0:Int) (a0_1:Int) (a0_2:Int) (a1_0:Int) (a1_1:Int) (a1_2:Int):denP Try.prog (zav [(ID.geom_Check,(.pure [0] zaj)),(ID.geom_Width,(.pure [0] zaf))]) zoP [0] ID.geom_Can [.agg [.int .i64 a0_0,.int .i64 a0_1,.int .i64 a0_2],.agg [.int .i64 a1_0,.int .i64 a1_1,.int .i64 a1_2]]=zoj zaj zaf a0_0 a0_1 a0_2 a1_0 a1_1 a1_2:=by kernel_rfl
theorem ztD (a0_0:Int) (a0_1:Int) (a0_2:Int) (a1_0:Int) (a1_1:Int) (a1_2:Int):zcY [.agg [.int .i64 a0_0,.int .i64 a0_1,.int .i64 a0_2],.agg [.int .i64 a1_0,.int .i64 a1_1,.int .i64 a1_2]]=zoj zaj zaf a0_0 a0_1 a0_2 a1_0 a1_1 a1_2:=zyq zaj zaf a0_0 a0_1 a0_2 a1_0 a1_1 a1_2
def znx:Ann:={ loops:=[] }
noncomputable def zbJ:List D→Option D:=denP Try.prog (zav [(ID.geom_Can,(.pure [0] zcY))]) znx [0] ID.plan_Rows
theorem zqL:za0 Try.prog ID.plan_Rows (.pure [0] zbJ):=zai (zaw [ztC]) zbp ⟨Try.f98,by kernel_rfl,by kernel_rfl,by kernel_rfl⟩
noncomputable def zlI:Fact Try.prog:=⟨ID.plan_Rows,(.pure [0] zbJ),zqL⟩
noncomputable def zmq (zcY:List D→Option D) (a0_0:Int) (a0_1:Int) (a0_2:Int) (a1_0:Int) (a1_1:Int) (a1_2:Int):Option D:=
  zao (zcY [D.agg [D.int IntKind.i64 a0_0,D.int IntKind.i64 a0_1,D.int IntKind.i64 a0_2],D.agg [D.int IntKind.i64 a1_0,D.int IntKind.i64 a1_1,D.int IntKind.i64 a1_2]]) fun r1=>
  asB r1 fun b2=>
  brK (!b2)
    (some (D.int IntKind.i64 (0:Int)))
    (letN (max a0_2 a1_2) fun n3=>
    some (D.int IntKind.i64 n3))
theorem zwt (zcY:List D→Option D) (a0_0:Int) (a0_1:Int) (a0_2:Int) (a1_0:Int) (a1_1:Int) (a1_2:Int):denP Try.prog (zav [(ID.geom_Can,(.pure [0] zcY))]) znx [0] ID.plan_Rows [.agg [.int .i64 a0_0,.int .i64 a0_1,.int .i64 a0_2],.agg [.int .i64 a1_0,.int .i64 a1_1,.int .i64 a1_2]]=zmq zcY a0_0 a0_1 a0_2 a1_0 a1_1 a1_2:=by kernel_rfl
theorem zrq (a0_0:Int) (a0_1:Int) (a0_2:Int) (a1_0:Int) (a1_1:Int) (a1_2:Int):zbJ [.agg [.int .i64 a0_0,.int .i64 a0_1,.int .i64 a0_2],.agg [.int .i64 a1_0,.int .i64 a1_1,.int .i64 a1_2]]=zmq zcY a0_0 a0_1 a0_2 a1_0 a1_1 a1_2:=zwt zcY a0_0 a0_1 a0_2 a1_0 a1_1 a1_2
def zjj:Ann:={ loops:=[] }
noncomputable def zaX:List D→Option D:=denP Try.prog (zav [(ID.plan_Rows,(.pure [0] zbJ))]) zjj [0] ID.plan_Windows
theorem zny:za0 Try.prog ID.plan_Windows (.pure [0] zaX):=zai (zaw [zlI]) zbp ⟨Try.f122,by kernel_rfl,by kernel_rfl,by kernel_rfl⟩
noncomputable def zis:Fact Try.prog:=⟨ID.plan_Windows,(.pure [0] zaX),zny⟩
noncomputable def zhK (zbJ:List D→Option D) (a0_0:Int) (a0_1:Int) (a0_2:Int) (a1_0:Int) (a1_1:Int) (a1_2:Int):Option D:=
  zao (zbJ [D.agg [D.int IntKind.i64 a0_0,D.int IntKind.i64 a0_1,D.int IntKind.i64 a0_2],D.agg [D.int IntKind.i64 a1_0,D.int IntKind.i64 a1_1,D.int IntKind.i64 a1_2]]) fun r1=>
  asI IntKind.i64 r1 fun i2=>
  brK (i2 == (0:Int))
    (some (D.int IntKind.i64 (0:Int)))
    (sif (i2≠(0:Int)) <|
    letN (IntKind.wrap IntKind.i64 (Int.tdiv (16:Int) i2)) fun n3=>
    some (D.int IntKind.i64 n3))
theorem zrr (zbJ:List D→Option D) (a0_0:Int) (a0_1:Int) (a0_2:Int) (a1_0:Int) (a1_1:Int) (a1_2:Int):denP Try.prog (zav [(ID.plan_Rows,(.pure [0] zbJ))]) zjj [0] ID.plan_Windows [.agg [.int .i64 a0_0,.int .i64 a0_1,.int .i64 a0_2],.agg [.int .i64 a1_0,.int .i64 a1_1,.int .i64 a1_2]]=zhK zbJ a0_0 a0_1 a0_2 a1_0 a1_1 a1_2:=by kernel_rfl
theorem zok (a0_0:Int) (a0_1:Int) (a0_2:Int) (a1_0:Int) (a1_1:Int) (a1_2:Int):zaX [.agg [.int .i64 a0_0,.int .i64 a0_1,.int .i64 a0_2],.agg [.int .i64 a1_0,.int .i64 a1_1,.int .i64 a1_2]]=zhK zbJ a0_0 a0_1 a0_2 a1_0 a1_1 a1_2:=zrr zbJ a0_0 a0_1 a0_2 a1_0 a1_1 a1_2
def zlJ:Ann:={ loops:=[] }
noncomputable def zcg:List D→Option D:=denP Try.prog (zav [(ID.plan_Windows,(.pure [0] zaX))]) zlJ [0] ID.window_may
theorem zpb:za0 Try.prog ID.window_may (.pure [0] zcg):=zai (zaw [zis]) zbp ⟨Try.f95,by kernel_rfl,by kernel_rfl,by kernel_rfl⟩
noncomputable def zqM:Fact Try.prog:=⟨ID.window_may,(.pure [0] zcg),zpb⟩
noncomputable def zkG (zaX:List D→Option D) (a0_0:Int) (a0_1:Int) (a0_2:Int) (a1_0:Int) (a1_1:Int) (a1_2:Int) (a2:Int):Option D:=
  brK (decide (a2≥(0:Int)))
    (zao (zaX [D.agg [D.int IntKind.i64 a0_0,D.int IntKind.i64 a0_1,D.int IntKind.i64 a0_2],D.agg [D.int IntKind.i64 a1_0,D.int IntKind.i64 a1_1,D.int IntKind.i64 a1_2]]) fun r1=>
    asI IntKind.i64 r1 fun i2=>
    some (D.bool (decide (a2 < i2))))
    (some (D.bool false))
theorem zvf (zaX:List D→Option D) (a0_0:Int) (a0_1:Int) (a0_2:Int) (a1_0:Int) (a1_1:Int) (a1_2:Int) (a2:Int):denP Try.prog (zav [(ID.plan_Windows,(.pure [0] zaX))]) zlJ [0] ID.window_may [.agg [.int .i64 a0_0,.int .i64 a0_1,.int .i64 a0_2],.agg [.int .i64 a1_0,.int .i64 a1_1,.int .i64 a1_2],.int .i64 a2]=zkG zaX a0_0 a0_1 a0_2 a1_0 a1_1 a1_2 a2:=by kernel_rfl
theorem zqN (a0_0:Int) (a0_1:Int) (a0_2:Int) (a1_0:Int) (a1_1:Int) (a1_2:Int) (a2:Int):zcg [.agg [.int .i64 a0_0,.int .i64 a0_1,.int .i64 a0_2],.agg [.int .i64 a1_0,.int .i64 a1_1,.int .i64 a1_2],.int .i64 a2]=zkG zaX a0_0 a0_1 a0_2 a1_0 a1_1 a1_2 a2:=zvf zaX a0_0 a0_1 a0_2 a1_0 a1_1 a1_2 a2
def znz:Ann:={ loops:=[] }
noncomputable def zco:List D→Option D:=denP Try.prog (zav [(ID.plan_Windows,(.pure [0] zaX)),(ID.plan_Rows,(.pure [0] zbJ)),(ID.geom_Width,(.pure [0] zaf))]) znz [0,0] ID.plan_Span
theorem zqO:za0 Try.prog ID.plan_Span (.pure [0,0] zco):=zai (zaw [zis,zlI,zcu]) zbp ⟨Try.f96,by kernel_rfl,by kernel_rfl,by kernel_rfl⟩
noncomputable def zrs:Fact Try.prog:=⟨ID.plan_Span,(.pure [0,0] zco),zqO⟩
noncomputable def zmr (zaX:List D→Option D) (zbJ:List D→Option D) (zaf:List D→Option D) (a0_0:Int) (a0_1:Int) (a0_2:Int) (a1_0:Int) (a1_1:Int) (a1_2:Int) (a2:Int):Option D:=
  brK (decide (a2 < (0:Int)))
    (some (D.tup [D.int IntKind.i64 (0:Int),D.int IntKind.i64 (0:Int)]))
    (zao (zaX [D.agg [D.int IntKind.i64 a0_0,D.int IntKind.i64 a0_1,D.int IntKind.i64 a0_2],D.agg [D.int IntKind.i64 a1_0,D.int IntKind.i64 a1_1,D.int IntKind.i64 a1_2]]) fun r1=>
    asI IntKind.i64 r1 fun i2=>
    brK (decide (a2≥i2))
      (some (D.tup [D.int IntKind.i64 (0:Int),D.int IntKind.i64 (0:Int)]))
      (zao (zbJ [D.agg [D.int IntKind.i64 a0_0,D.int IntKind.i64 a0_1,D.int IntKind.i64 a0_2],D.agg [D.int IntKind.i64 a1_0,D.int IntKind.i64 a1_1,D.int IntKind.i64 a1_2]]) fun r3=>
      asI IntKind.i64 r3 fun i4=>
      zao (zaf [D.agg [D.int IntKind.i64 a1_0,D.int IntKind.i64 a1_1,D.int IntKind.i64 a1_2]]) fun r5=>
      asI IntKind.i64 r5 fun i6=>
      letN (IntKind.wrap IntKind.i64 (i4*i6)) fun n7=>
      letN (IntKind.wrap IntKind.i64 (a2*n7)) fun n8=>
      letN (IntKind.wrap IntKind.i64 (a2+(1:Int))) fun n9=>
      letN (IntKind.wrap IntKind.i64 (n9*n7)) fun n10=>
      some (D.tup [D.int IntKind.i64 n8,D.int IntKind.i64 n10])))
theorem zwu (zaX:List D→Option D) (zbJ:List D→Option D) (zaf:List D→Option D) (a0_0:Int) (a0_1:Int) (a0_2:Int) (a1_0:Int) (a1_1:Int) (a1_2:Int) (a2:Int):denP Try.prog (zav [(ID.plan_Windows,(.pure [0] zaX)),(ID.plan_Rows,(.pure [0] zbJ)),(ID.geom_Width,(.pure [0] zaf))]) znz [0,0] ID.plan_Span [.agg [.int .i64 a0_0,.int .i64 a0_1,.int .i64 a0_2],.agg [.int .i64 a1_0,.int .i64 a1_1,.int .i64 a1_2],.int .i64 a2]=zmr zaX zbJ zaf a0_0 a0_1 a0_2 a1_0 a1_1 a1_2 a2:=by kernel_rfl
theorem zrt (a0_0:Int) (a0_1:Int) (a0_2:Int) (a1_0:Int) (a1_1:Int) (a1_2:Int) (a2:Int):zco [.agg [.int .i64 a0_0,.int .i64 a0_1,.int .i64 a0_2],.agg [.int .i64 a1_0,.int .i64 a1_1,.int .i64 a1_2],.int .i64 a2]=zmr zaX zbJ zaf a0_0 a0_1 a0_2 a1_0 a1_1 a1_2 a2:=zwu zaX zbJ zaf a0_0 a0_1 a0_2 a1_0 a1_1 a1_2 a2
def zit:Ann:={ loops:=[] }
noncomputable def zaQ:List D→Option D:=denP Try.prog (zav [(ID.geom_Width,(.pure [0] zaf))]) zit [0] ID.geom_Capacity
theorem zms:za0 Try.prog ID.geom_Capacity (.pure [0] zaQ):=zai (zaw [zcu]) zbp ⟨Try.f97,by kernel_rfl,by kernel_rfl,by kernel_rfl⟩
noncomputable def zhu:Fact Try.prog:=⟨ID.geom_Capacity,(.pure [0] zaQ),zms⟩
noncomputable def zg4 (zaf:List D→Option D) (a0_0:Int) (a0_1:Int) (a0_2:Int):Option D:=
  zao (zaf [D.agg [D.int IntKind.i64 a0_0,D.int IntKind.i64 a0_1,D.int IntKind.i64 a0_2]]) fun r1=>
  asI IntKind.i64 r1 fun i2=>
  letN (IntKind.wrap IntKind.i64 (i2*(16:Int))) fun n3=>
  some (D.int IntKind.i64 n3)
theorem zqP (zaf:List D→Option D) (a0_0:Int) (a0_1:Int) (a0_2:Int):denP Try.prog (zav [(ID.geom_Width,(.pure [0] zaf))]) zit [0] ID.geom_Capacity [.agg [.int .i64 a0_0,.int .i64 a0_1,.int .i64 a0_2]]=zg4 zaf a0_0 a0_1 a0_2:=by kernel_rfl
theorem znA (a0_0:Int) (a0_1:Int) (a0_2:Int):zaQ [.agg [.int .i64 a0_0,.int .i64 a0_1,.int .i64 a0_2]]=zg4 zaf a0_0 a0_1 a0_2:=zqP zaf a0_0 a0_1 a0_2
def zoQ:Ann:={ loops:=[] }
noncomputable def zcL:List D→Option D:=denP Try.prog (zav [(ID.geom_Capacity,(.pure [0] zaQ)),(ID.geom_Width,(.pure [0] zaf)),(ID.place_Disk,(.pure [0] zbi))]) zoQ [0,0,0] ID.place_Of
theorem zru:za0 Try.prog ID.place_Of (.pure [0,0,0] zcL):=zai (zaw [zhu,zcu,zkl]) zbp ⟨Try.f72,by kernel_rfl,by kernel_rfl,by kernel_rfl⟩
noncomputable def ztE:Fact Try.prog:=⟨ID.place_Of,(.pure [0,0,0] zcL),zru⟩
noncomputable def zol (zaQ:List D→Option D) (zaf:List D→Option D) (zbi:List D→Option D) (a0_0:Int) (a0_1:Int) (a0_2:Int) (a1:Int):Option D:=
  brK (decide (a1 < (0:Int)))
    (some (D.tup [D.int IntKind.i64 (0:Int),D.int IntKind.i64 (0:Int),D.bool false]))
    (zao (zaQ [D.agg [D.int IntKind.i64 a0_0,D.int IntKind.i64 a0_1,D.int IntKind.i64 a0_2]]) fun r1=>
    asI IntKind.i64 r1 fun i2=>
    brK (decide (a1≥i2))
      (some (D.tup [D.int IntKind.i64 (0:Int),D.int IntKind.i64 (0:Int),D.bool false]))
      (sif (a0_2≠(0:Int)) <|
      letN (IntKind.wrap IntKind.i64 (Int.tdiv a1 a0_2)) fun n3=>
      zao (zaf [D.agg [D.int IntKind.i64 a0_0,D.int IntKind.i64 a0_1,D.int IntKind.i64 a0_2]]) fun r4=>
      asI IntKind.i64 r4 fun i5=>
      sif (i5≠(0:Int)) <|
      letN (IntKind.wrap IntKind.i64 (Int.tdiv n3 i5)) fun n6=>
      letN (IntKind.wrap IntKind.i64 (n6*a0_2)) fun n7=>
      sif (a0_2≠(0:Int)) <|
      letN (Int.tmod a1 a0_2) fun n8=>
      letN (IntKind.wrap IntKind.i64 (n7+n8)) fun n9=>
      zao (zaf [D.agg [D.int IntKind.i64 a0_0,D.int IntKind.i64 a0_1,D.int IntKind.i64 a0_2]]) fun r10=>
      asI IntKind.i64 r10 fun i11=>
      sif (i11≠(0:Int)) <|
      letN (Int.tmod n3 i11) fun n12=>
      zao (zbi [D.agg [D.int IntKind.i64 a0_0,D.int IntKind.i64 a0_1,D.int IntKind.i64 a0_2],D.int IntKind.i64 n9,D.int IntKind.i64 n12]) fun r13=>
      asI IntKind.i64 r13 fun i14=>
      some (D.tup [D.int IntKind.i64 i14,D.int IntKind.i64 n9,D.bool true])))
theorem zyr (zaQ:List D→Option D) (zaf:List D→Option D) (zbi:List D→Option D) (a0_0:Int) (a0_1:Int) (a0_2:Int) (a1:Int):denP Try.prog (zav [(ID.geom_Capacity,(.pure [0] zaQ)),(ID.geom_Width,(.pure [0] zaf)),(ID.place_Disk,(.pure [0] zbi))]) zoQ [0,0,0] ID.place_Of [.agg [.int .i64 a0_0,.int .i64 a0_1,.int .i64 a0_2],.int .i64 a1]=zol zaQ zaf zbi a0_0 a0_1 a0_2 a1:=by kernel_rfl
theorem ztF (a0_0:Int) (a0_1:Int) (a0_2:Int) (a1:Int):zcL [.agg [.int .i64 a0_0,.int .i64 a0_1,.int .i64 a0_2],.int .i64 a1]=zol zaQ zaf zbi a0_0 a0_1 a0_2 a1:=zyr zaQ zaf zbi a0_0 a0_1 a0_2 a1
def zjk:Ann:={ loops:=[] }
noncomputable def zbW:List D→Option D:=denP Try.prog (zav [(ID.geom_Width,(.pure [0] zaf))]) zjk [0] ID.place_number
theorem znB:za0 Try.prog ID.place_number (.pure [0] zbW):=zai (zaw [zcu]) zbp ⟨Try.f107,by kernel_rfl,by kernel_rfl,by kernel_rfl⟩
noncomputable def zom:Fact Try.prog:=⟨ID.place_number,(.pure [0] zbW),znB⟩
noncomputable def zhL (zaf:List D→Option D) (a0_0:Int) (a0_1:Int) (a0_2:Int) (a1:Int) (a2:Int):Option D:=
  sif (a0_2≠(0:Int)) <|
  letN (IntKind.wrap IntKind.i64 (Int.tdiv a1 a0_2)) fun n1=>
  zao (zaf [D.agg [D.int IntKind.i64 a0_0,D.int IntKind.i64 a0_1,D.int IntKind.i64 a0_2]]) fun r2=>
  asI IntKind.i64 r2 fun i3=>
  letN (IntKind.wrap IntKind.i64 (n1*i3)) fun n4=>
  letN (IntKind.wrap IntKind.i64 (n4+a2)) fun n5=>
  letN (IntKind.wrap IntKind.i64 (n5*a0_2)) fun n6=>
  sif (a0_2≠(0:Int)) <|
  letN (Int.tmod a1 a0_2) fun n7=>
  letN (IntKind.wrap IntKind.i64 (n6+n7)) fun n8=>
  some (D.int IntKind.i64 n8)
theorem zrv (zaf:List D→Option D) (a0_0:Int) (a0_1:Int) (a0_2:Int) (a1:Int) (a2:Int):denP Try.prog (zav [(ID.geom_Width,(.pure [0] zaf))]) zjk [0] ID.place_number [.agg [.int .i64 a0_0,.int .i64 a0_1,.int .i64 a0_2],.int .i64 a1,.int .i64 a2]=zhL zaf a0_0 a0_1 a0_2 a1 a2:=by kernel_rfl
theorem zon (a0_0:Int) (a0_1:Int) (a0_2:Int) (a1:Int) (a2:Int):zbW [.agg [.int .i64 a0_0,.int .i64 a0_1,.int .i64 a0_2],.int .i64 a1,.int .i64 a2]=zhL zaf a0_0 a0_1 a0_2 a1 a2:=zrv zaf a0_0 a0_1 a0_2 a1 a2
def ziu:Ann:={ loops:=[(1,[.dead,.val (.cell (.int .i64)),.box true [(.int .i64),(.int .i64),(.int .i64)],.dead,.dead,.own 1,.dead,.dead,.dead,.dead,.dead,.dead,.val (.cell (.int .i64)),.val (.cell (.int .i64))])] }
noncomputable def zbK:List D→Option D:=denP Try.prog (zav [(ID.place_in,(.pure [0] zbh)),(ID.geom_Width,(.pure [0] zaf)),(ID.place_number,(.pure [0] zbW))]) ziu [1] ID.place_Numbers
theorem zmt:za0 Try.prog ID.place_Numbers (.pure [1] zbK):=zai (zaw [ziV,zcu,zom]) zbp ⟨Try.f73,by kernel_rfl,by kernel_rfl,by kernel_rfl⟩
noncomputable def znC:Fact Try.prog:=⟨ID.place_Numbers,(.pure [1] zbK),zmt⟩
noncomputable def zg5 (zbh:List D→Option D) (zaf:List D→Option D) (zbW:List D→Option D) (a0_0:Int) (a0_1:Int) (a0_2:Int) (a1:Int):Option D:=
  zao (zbh [D.agg [D.int IntKind.i64 a0_0,D.int IntKind.i64 a0_1,D.int IntKind.i64 a0_2],D.int IntKind.i64 a1]) fun r1=>
  asB r1 fun b2=>
  brK (!b2)
    (some (D.sl Tag.own []))
    (zao (zaf [D.agg [D.int IntKind.i64 a0_0,D.int IntKind.i64 a0_1,D.int IntKind.i64 a0_2]]) fun r3=>
    asI IntKind.i64 r3 fun i4=>
    zb4 (α:=(Int×(Int×Int×Int×PUnit)×List D×Int×Int×PUnit)×PUnit) (fun again5 ((i6,((i7,(i8,(i9,_))),(l10,(i11,(i12,_))))),_)=>
      brK (decide (i12 < i11))
        (zao (zbW [D.agg [D.int IntKind.i64 i7,D.int IntKind.i64 i8,D.int IntKind.i64 i9],D.int IntKind.i64 i6,D.int IntKind.i64 i12]) fun r13=>
        asI IntKind.i64 r13 fun i14=>
        sif (List.length l10+(1:Nat)≤(4294967296:Nat)) <|
        sif (List.length l10=List.length l10) <|
        letN (IntKind.wrap IntKind.i64 (i12+(1:Int))) fun n15=>
        sif (List.length l10+(1:Nat)=List.length (l10++[D.int IntKind.i64 i14])) <|
        again5 (((i6,(i7,i8,i9,PUnit.unit),l10++[D.int IntKind.i64 i14],i11,n15,PUnit.unit),PUnit.unit)))
        (sif (List.length l10=List.length l10) <|
        sif (List.all l10 D.free=true) <|
        some (D.sl Tag.own l10)))
      (((a1,(a0_0,a0_1,a0_2,PUnit.unit),[],i4,(0:Int),PUnit.unit),PUnit.unit)))
theorem zqQ (zbh:List D→Option D) (zaf:List D→Option D) (zbW:List D→Option D) (a0_0:Int) (a0_1:Int) (a0_2:Int) (a1:Int):denP Try.prog (zav [(ID.place_in,(.pure [0] zbh)),(ID.geom_Width,(.pure [0] zaf)),(ID.place_number,(.pure [0] zbW))]) ziu [1] ID.place_Numbers [.agg [.int .i64 a0_0,.int .i64 a0_1,.int .i64 a0_2],.int .i64 a1]=zg5 zbh zaf zbW a0_0 a0_1 a0_2 a1:=by kernel_rfl
theorem znD (a0_0:Int) (a0_1:Int) (a0_2:Int) (a1:Int):zbK [.agg [.int .i64 a0_0,.int .i64 a0_1,.int .i64 a0_2],.int .i64 a1]=zg5 zbh zaf zbW a0_0 a0_1 a0_2 a1:=zqQ zbh zaf zbW a0_0 a0_1 a0_2 a1
def zlK:Ann:={ loops:=[(3,[.dead,.dead,.dead,.val (.cell (.int .i64)),.dead,.dead,.dead,.dead,.dead,.dead,.dead,.dead,.dead,.own 1,.dead,.dead,.dead,.dead,.dead,.dead,.dead,.dead,.dead,.dead,.dead,.dead,.dead,.dead,.dead,.dead,.dead,.dead,.dead,.dead,.dead,.dead,.dead,.dead,.dead,.dead,.dead,.dead,.dead,.dead,.dead,.dead,.dead,.dead,.dead,.dead,.own 1,.val (.cell (.int .i64)),.val (.cell (.int .i64))])],ks:=[(3840,false),(7649,false)] }
noncomputable def zch:List D→List Tb→Option Ans:=denS Try.prog (zav [(ID.place_Of,(.pure [0,0,0] zcL)),(ID.stripe_up,(.st [] [0] [(3840,false),(7649,false)] zbI)),(ID.bench_Bench_Read,(.st [] [1,0] [(3840,false),(7649,false)] zaL)),(ID.stripe_Read,(.st [] [1,0] [(3840,false),(7649,false)] zb5)),(ID.place_Numbers,(.pure [1] zbK))]) zlK [0,0] ID.stripe_One
theorem zpc:za0 Try.prog ID.stripe_One (.st [] [0,0] [(3840,false),(7649,false)] zch):=zbR (zaw [ztE,zlD,zfQ,zo8,znC]) zbp ⟨Try.f26,by kernel_rfl,by kernel_rfl,by kernel_rfl⟩
noncomputable def zqR:Fact Try.prog:=⟨ID.stripe_One,(.st [] [0,0] [(3840,false),(7649,false)] zch),zpc⟩
noncomputable def zkH (zcL:List D→Option D) (zbI:List D→List Tb→Option Ans) (zaL:List D→List Tb→Option Ans) (zb5:List D→List Tb→Option Ans) (zbK:List D→Option D) (a0:Nat) (a1:List D) (a2_0:Int) (a2_1:Int) (a2_2:Int) (a3:Int) (T0:Tb) (T1:Tb):Option Ans:=
  zao (zcL [D.agg [D.int IntKind.i64 a2_0,D.int IntKind.i64 a2_1,D.int IntKind.i64 a2_2],D.int IntKind.i64 a3]) fun r1=>
  zdG r1 fun ts2=>
  zau ([Lf.any,Lf.any,Lf.any]) ts2 fun c3=>
  asI IntKind.i64 c3.fst fun i4=>
  asI IntKind.i64 c3.snd.fst fun i5=>
  asB c3.snd.snd.fst fun b6=>
  brK (!b6)
    (some (Ans.mk (D.tup [D.sl Tag.nil [],D.int IntKind.i64 (4:Int)]) [] []))
    (zao (zbI [D.h (3840:Nat) a0 (0:Nat),D.sl Tag.lent a1,D.int IntKind.i64 i4] [T0,T1]) fun r7=>
    nilK r7.outs <|
    nilK r7.tbs <|
    asB r7.r fun b8=>
    brK b8
      (letN (IntKind.wrap IntKind.i64 ((36:Int)+i5)) fun n9=>
      zao (zaL [D.h (3840:Nat) a0 (0:Nat),D.int IntKind.i64 i4,D.int IntKind.i64 n9] [T0,T1]) fun r10=>
      nilK r10.outs <|
      nilK r10.tbs <|
      zdG r10.r fun ts11=>
      zau ([Lf.any,Lf.any]) ts11 fun c12=>
      zbD c12.fst fun l13=>
      asI IntKind.i64 c12.snd.fst fun i14=>
      sif ((0:Nat)+List.length l13≤List.length l13) <|
      sif (D.free (D.sl Tag.fresh (cut (0:Nat) (List.length l13) l13))=true) <|
      some (Ans.mk (D.tup [D.sl Tag.fresh (cut (0:Nat) (List.length l13) l13),D.int IntKind.i64 i14]) [] []))
      (zao (zb5 [D.h (3840:Nat) a0 (0:Nat),D.sl Tag.lent a1,D.agg [D.int IntKind.i64 a2_0,D.int IntKind.i64 a2_1,D.int IntKind.i64 a2_2],D.int IntKind.i64 i5] [T0,T1]) fun r15=>
      nilK r15.outs <|
      nilK r15.tbs <|
      zdG r15.r fun ts16=>
      zau ([Lf.any,Lf.any]) ts16 fun c17=>
      zbD c17.fst fun l18=>
      asI IntKind.i64 c17.snd.fst fun i19=>
      brK (i19 != (0:Int))
        (some (Ans.mk (D.tup [D.sl Tag.nil [],D.int IntKind.i64 i19]) [] []))
        (zao (zbK [D.agg [D.int IntKind.i64 a2_0,D.int IntKind.i64 a2_1,D.int IntKind.i64 a2_2],D.int IntKind.i64 i5]) fun r20=>
        zbD r20 fun l21=>
        sif ((0:Nat)+List.length l21≤List.length l21) <|
        sif (List.length l18=List.length l18) <|
        sif (List.length l21=List.length l21) <|
        zb4 (α:=(Int×List D×List D×Int×Int×PUnit)×List (List D)×List (List D)×PUnit) (fun again22 ((i23,(l24,(l25,(i26,(i27,_))))),(U28,(U29,_)))=>
          brK (decide (i27 < i26))
            (sif ((0:Int)≤i27) <|
            sif (Int.toNat i27 < List.length l25) <|
            getK l25 ((0:Nat)+Int.toNat i27) fun d30=>
            asI IntKind.i64 d30 fun i31=>
            brK (i31 == i23)
              (sif ((0:Int)≤i27) <|
              sif (Int.toNat i27 < List.length l24) <|
              getK l24 ((0:Nat)+Int.toNat i27) fun d32=>
              asSl d32 fun t33 l34=>
              sif (D.free (D.sl t33 l34)=true) <|
              some (Ans.mk (D.tup [D.sl t33 l34,D.int IntKind.i64 (0:Int)]) [] []))
              (letN (IntKind.wrap IntKind.i64 (i27+(1:Int))) fun n35=>
              sif (List.length l24=List.length l24) <|
              sif (List.length l25=List.length l25) <|
              again22 (((i23,l24,l25,i26,n35,PUnit.unit),U28,U29,PUnit.unit))))
            (some (Ans.mk (D.tup [D.sl Tag.nil [],D.int IntKind.i64 (4:Int)]) [] [])))
          (((a3,l18,l21,(↑(List.length l21):Int),(0:Int),PUnit.unit),T0,T1,PUnit.unit)))))
theorem zvg (zcL:List D→Option D) (zbI:List D→List Tb→Option Ans) (zaL:List D→List Tb→Option Ans) (zb5:List D→List Tb→Option Ans) (zbK:List D→Option D) (tga1:Tag) (a0:Nat) (a1:List D) (a2_0:Int) (a2_1:Int) (a2_2:Int) (a3:Int) (T0:Tb) (T1:Tb):denS Try.prog (zav [(ID.place_Of,(.pure [0,0,0] zcL)),(ID.stripe_up,(.st [] [0] [(3840,false),(7649,false)] zbI)),(ID.bench_Bench_Read,(.st [] [1,0] [(3840,false),(7649,false)] zaL)),(ID.stripe_Read,(.st [] [1,0] [(3840,false),(7649,false)] zb5)),(ID.place_Numbers,(.pure [1] zbK))]) zlK [0,0] ID.stripe_One [.h 3840 a0 0,.sl tga1 a1,.agg [.int .i64 a2_0,.int .i64 a2_1,.int .i64 a2_2],.int .i64 a3] [T0,T1]=zkH zcL zbI zaL zb5 zbK a0 (D.lentL a1) a2_0 a2_1 a2_2 a3 T0 T1:=by kernel_rfl
theorem zqS (tga1:Tag) (a0:Nat) (a1:List D) (a2_0:Int) (a2_1:Int) (a2_2:Int) (a3:Int) (T0:Tb) (T1:Tb):zch [.h 3840 a0 0,.sl tga1 a1,.agg [.int .i64 a2_0,.int .i64 a2_1,.int .i64 a2_2],.int .i64 a3] [T0,T1]=zkH zcL zbI zaL zb5 zbK a0 (D.lentL a1) a2_0 a2_1 a2_2 a3 T0 T1:=zvg zcL zbI zaL zb5 zbK tga1 a0 a1 a2_0 a2_1 a2_2 a3 T0 T1
def zkI:Ann:={ loops:=[(1,[.val (.cell (.hnd (3840:Nat))),.val (.cell .lent),.dead,.dead,.dead,.dead,.dead,.box true [(.int .i64),(.int .i64),(.int .i64)],.dead,.dead,.dead,.dead,.own 1,.dead,.val (.cell (.int .i64)),.val (.cell (.int .i64))])],ks:=[(3840,false),(7649,false)] }
noncomputable def za9:List D→List Tb→Option Ans:=denS Try.prog (zav [(ID.window_may,(.pure [0] zcg)),(ID.plan_Span,(.pure [0,0] zco)),(ID.geom_Capacity,(.pure [0] zaQ)),(ID.stripe_One,(.st [] [0,0] [(3840,false),(7649,false)] zch))]) zkI [1,0] ID.window_Read
theorem zoo:za0 Try.prog ID.window_Read (.st [] [1,0] [(3840,false),(7649,false)] za9):=zbR (zaw [zqM,zrs,zhu,zqR]) zbp ⟨Try.f58,by kernel_rfl,by kernel_rfl,by kernel_rfl⟩
noncomputable def zjl:Fact Try.prog:=⟨ID.window_Read,(.st [] [1,0] [(3840,false),(7649,false)] za9),zoo⟩
noncomputable def zja (zcg:List D→Option D) (zco:List D→Option D) (zaQ:List D→Option D) (zch:List D→List Tb→Option Ans) (a0:Nat) (a1:List D) (a2_0:Int) (a2_1:Int) (a2_2:Int) (a3_0:Int) (a3_1:Int) (a3_2:Int) (a4:Int) (T0:Tb) (T1:Tb):Option Ans:=
  zao (zcg [D.agg [D.int IntKind.i64 a2_0,D.int IntKind.i64 a2_1,D.int IntKind.i64 a2_2],D.agg [D.int IntKind.i64 a3_0,D.int IntKind.i64 a3_1,D.int IntKind.i64 a3_2],D.int IntKind.i64 a4]) fun r1=>
  asB r1 fun b2=>
  brK (!b2)
    (some (Ans.mk (D.tup [D.sl Tag.own [],D.int IntKind.i64 (1:Int)]) [] []))
    (zao (zco [D.agg [D.int IntKind.i64 a2_0,D.int IntKind.i64 a2_1,D.int IntKind.i64 a2_2],D.agg [D.int IntKind.i64 a3_0,D.int IntKind.i64 a3_1,D.int IntKind.i64 a3_2],D.int IntKind.i64 a4]) fun r3=>
    zdG r3 fun ts4=>
    zau ([Lf.any,Lf.any]) ts4 fun c5=>
    asI IntKind.i64 c5.fst fun i6=>
    asI IntKind.i64 c5.snd.fst fun i7=>
    zb4 (α:=(Nat×List D×(Int×Int×Int×PUnit)×List D×Int×Int×PUnit)×List (List D)×List (List D)×PUnit) (fun again8 ((x9,(l10,((i11,(i12,(i13,_))),(l14,(i15,(i16,_)))))),(U17,(U18,_)))=>
      brK (decide (i16 < i15))
        (zao (zaQ [D.agg [D.int IntKind.i64 i11,D.int IntKind.i64 i12,D.int IntKind.i64 i13]]) fun r19=>
        asI IntKind.i64 r19 fun i20=>
        brK (decide (i16≥i20))
          (sif (List.length l14+(1:Nat)≤(4294967296:Nat)) <|
          sif (List.length l14=List.length l14) <|
          letN (IntKind.wrap IntKind.i64 (i16+(1:Int))) fun n21=>
          sif (List.length l14+(1:Nat)=List.length (l14++[D.sl Tag.fresh [D.int IntKind.u8 (0:Int),D.int IntKind.u8 (0:Int),D.int IntKind.u8 (0:Int),D.int IntKind.u8 (0:Int),D.int IntKind.u8 (0:Int),D.int IntKind.u8 (0:Int),D.int IntKind.u8 (0:Int),D.int IntKind.u8 (0:Int),D.int IntKind.u8 (0:Int),D.int IntKind.u8 (0:Int),D.int IntKind.u8 (0:Int),D.int IntKind.u8 (0:Int),D.int IntKind.u8 (0:Int),D.int IntKind.u8 (0:Int),D.int IntKind.u8 (0:Int),D.int IntKind.u8 (0:Int),D.int IntKind.u8 (0:Int),D.int IntKind.u8 (0:Int),D.int IntKind.u8 (0:Int),D.int IntKind.u8 (0:Int),D.int IntKind.u8 (0:Int),D.int IntKind.u8 (0:Int),D.int IntKind.u8 (0:Int),D.int IntKind.u8 (0:Int),D.int IntKind.u8 (0:Int),D.int IntKind.u8 (0:Int),D.int IntKind.u8 (0:Int),D.int IntKind.u8 (0:Int),D.int IntKind.u8 (0:Int),D.int IntKind.u8 (0:Int),D.int IntKind.u8 (0:Int),D.int IntKind.u8 (0:Int)]])) <|
          again8 (((x9,l10,(i11,i12,i13,PUnit.unit),l14++[D.sl Tag.fresh [D.int IntKind.u8 (0:Int),D.int IntKind.u8 (0:Int),D.int IntKind.u8 (0:Int),D.int IntKind.u8 (0:Int),D.int IntKind.u8 (0:Int),D.int IntKind.u8 (0:Int),D.int IntKind.u8 (0:Int),D.int IntKind.u8 (0:Int),D.int IntKind.u8 (0:Int),D.int IntKind.u8 (0:Int),D.int IntKind.u8 (0:Int),D.int IntKind.u8 (0:Int),D.int IntKind.u8 (0:Int),D.int IntKind.u8 (0:Int),D.int IntKind.u8 (0:Int),D.int IntKind.u8 (0:Int),D.int IntKind.u8 (0:Int),D.int IntKind.u8 (0:Int),D.int IntKind.u8 (0:Int),D.int IntKind.u8 (0:Int),D.int IntKind.u8 (0:Int),D.int IntKind.u8 (0:Int),D.int IntKind.u8 (0:Int),D.int IntKind.u8 (0:Int),D.int IntKind.u8 (0:Int),D.int IntKind.u8 (0:Int),D.int IntKind.u8 (0:Int),D.int IntKind.u8 (0:Int),D.int IntKind.u8 (0:Int),D.int IntKind.u8 (0:Int),D.int IntKind.u8 (0:Int),D.int IntKind.u8 (0:Int)]],i15,n21,PUnit.unit),U17,U18,PUnit.unit)))
          (zao (zch [D.h (3840) x9 (0:Nat),D.sl Tag.lent l10,D.agg [D.int IntKind.i64 i11,D.int IntKind.i64 i12,D.int IntKind.i64 i13],D.int IntKind.i64 i16] [U17,U18]) fun r22=>
          nilK r22.outs <|
          nilK r22.tbs <|
          zdG r22.r fun ts23=>
          zau ([Lf.any,Lf.any]) ts23 fun c24=>
          asSl c24.fst fun t25 l26=>
          sif (zjW (D.sl t25 l26)=true) <|
          asI IntKind.i64 c24.snd.fst fun i27=>
          brK (i27 != (0:Int))
            (some (Ans.mk (D.tup [D.sl Tag.own [],D.int IntKind.i64 i27]) [] []))
            (sif (List.length l14+(1:Nat)≤(4294967296:Nat)) <|
            sif (List.length l14=List.length l14) <|
            letN (IntKind.wrap IntKind.i64 (i16+(1:Int))) fun n28=>
            sif (List.length l14+(1:Nat)=List.length (l14++[D.sl t25 l26])) <|
            again8 (((x9,l10,(i11,i12,i13,PUnit.unit),l14++[D.sl t25 l26],i15,n28,PUnit.unit),U17,U18,PUnit.unit)))))
        (sif (List.length l14=List.length l14) <|
        sif (List.all l14 D.free=true) <|
        some (Ans.mk (D.tup [D.sl Tag.own l14,D.int IntKind.i64 (0:Int)]) [] [])))
      (((a0,a1,(a2_0,a2_1,a2_2,PUnit.unit),[],i7,i6,PUnit.unit),T0,T1,PUnit.unit)))
theorem ztG (zcg:List D→Option D) (zco:List D→Option D) (zaQ:List D→Option D) (zch:List D→List Tb→Option Ans) (tga1:Tag) (a0:Nat) (a1:List D) (a2_0:Int) (a2_1:Int) (a2_2:Int) (a3_0:Int) (a3_1:Int) (a3_2:Int) (a4:Int) (T0:Tb) (T1:Tb):denS Try.prog (zav [(ID.window_may,(.pure [0] zcg)),(ID.plan_Span,(.pure [0,0] zco)),(ID.geom_Capacity,(.pure [0] zaQ)),(ID.stripe_One,(.st [] [0,0] [(3840,false),(7649,false)] zch))]) zkI [1,0] ID.window_Read [.h 3840 a0 0,.sl tga1 a1,.agg [.int .i64 a2_0,.int .i64 a2_1,.int .i64 a2_2],.agg [.int .i64 a3_0,.int .i64 a3_1,.int .i64 a3_2],.int .i64 a4] [T0,T1]=zja zcg zco zaQ zch a0 (D.lentL a1) a2_0 a2_1 a2_2 a3_0 a3_1 a3_2 a4 T0 T1:=by kernel_rfl
theorem zpd (tga1:Tag) (a0:Nat) (a1:List D) (a2_0:Int) (a2_1:Int) (a2_2:Int) (a3_0:Int) (a3_1:Int) (a3_2:Int) (a4:Int) (T0:Tb) (T1:Tb):za9 [.h 3840 a0 0,.sl tga1 a1,.agg [.int .i64 a2_0,.int .i64 a2_1,.int .i64 a2_2],.agg [.int .i64 a3_0,.int .i64 a3_1,.int .i64 a3_2],.int .i64 a4] [T0,T1]=zja zcg zco zaQ zch a0 (D.lentL a1) a2_0 a2_1 a2_2 a3_0 a3_1 a3_2 a4 T0 T1:=ztG zcg zco zaQ zch tga1 a0 a1 a2_0 a2_1 a2_2 a3_0 a3_1 a3_2 a4 T0 T1
def zeM:Ann:={ loops:=[] }
noncomputable def zar:List D→Option D:=denP Try.prog (zav [(ID.wattleref01_Width,(.pure [0] zaa))]) zeM [0] ID.wattleref01_Capacity
theorem zhb:za0 Try.prog ID.wattleref01_Capacity (.pure [0] zar):=zai (zaw [zbq]) zbp ⟨Try.f25,by kernel_rfl,by kernel_rfl,by kernel_rfl⟩
noncomputable def zeq:Fact Try.prog:=⟨ID.wattleref01_Capacity,(.pure [0] zar),zhb⟩
noncomputable def zdD (zaa:List D→Option D) (a0_0:Int) (a0_1:Int) (a0_2:Int):Option D:=
  zao (zaa [D.agg [D.int IntKind.i64 a0_0,D.int IntKind.i64 a0_1,D.int IntKind.i64 a0_2]]) fun r1=>
  asI IntKind.i64 r1 fun i2=>
  letN (IntKind.wrap IntKind.i64 (i2*(16:Int))) fun n3=>
  some (D.int IntKind.i64 n3)
theorem zjG (zaa:List D→Option D) (a0_0:Int) (a0_1:Int) (a0_2:Int):denP Try.prog (zav [(ID.wattleref01_Width,(.pure [0] zaa))]) zeM [0] ID.wattleref01_Capacity [.agg [.int .i64 a0_0,.int .i64 a0_1,.int .i64 a0_2]]=zdD zaa a0_0 a0_1 a0_2:=by kernel_rfl
theorem zhM (a0_0:Int) (a0_1:Int) (a0_2:Int):zar [.agg [.int .i64 a0_0,.int .i64 a0_1,.int .i64 a0_2]]=zdD zaa a0_0 a0_1 a0_2:=zjG zaa a0_0 a0_1 a0_2
def zhv:Ann:={ loops:=[] }
noncomputable def zbn:List D→Option D:=denP Try.prog (zav [(ID.wattleref01_Check,(.pure [0] zad)),(ID.wattleref01_Capacity,(.pure [0] zar)),(ID.wattleref01_Width,(.pure [0] zaa)),(ID.wattleref01_Disk,(.pure [0] zaF))]) zhv [0,0,0] ID.wattleref01_Of
theorem zlv:za0 Try.prog ID.wattleref01_Of (.pure [0,0,0] zbn):=zai (zaw [zcm,zeq,zbq,zfS]) zbp ⟨Try.f27,by kernel_rfl,by kernel_rfl,by kernel_rfl⟩
noncomputable def zmu:Fact Try.prog:=⟨ID.wattleref01_Of,(.pure [0,0,0] zbn),zlv⟩
noncomputable def zf3 (zad:List D→Option D) (zar:List D→Option D) (zaa:List D→Option D) (zaF:List D→Option D) (a0_0:Int) (a0_1:Int) (a0_2:Int) (a1:Int):Option D:=
  zao (zad [D.agg [D.int IntKind.i64 a0_0,D.int IntKind.i64 a0_1,D.int IntKind.i64 a0_2]]) fun r1=>
  asB r1 fun b2=>
  brK (!b2)
    (some (D.tup [D.int IntKind.i64 (0:Int),D.int IntKind.i64 (0:Int),D.bool false]))
    (brK (decide (a1 < (0:Int)))
      (some (D.tup [D.int IntKind.i64 (0:Int),D.int IntKind.i64 (0:Int),D.bool false]))
      (zao (zar [D.agg [D.int IntKind.i64 a0_0,D.int IntKind.i64 a0_1,D.int IntKind.i64 a0_2]]) fun r3=>
      asI IntKind.i64 r3 fun i4=>
      brK (decide (a1≥i4))
        (some (D.tup [D.int IntKind.i64 (0:Int),D.int IntKind.i64 (0:Int),D.bool false]))
        (sif (a0_2≠(0:Int)) <|
        letN (IntKind.wrap IntKind.i64 (Int.tdiv a1 a0_2)) fun n5=>
        zao (zaa [D.agg [D.int IntKind.i64 a0_0,D.int IntKind.i64 a0_1,D.int IntKind.i64 a0_2]]) fun r6=>
        asI IntKind.i64 r6 fun i7=>
        sif (i7≠(0:Int)) <|
        letN (IntKind.wrap IntKind.i64 (Int.tdiv n5 i7)) fun n8=>
        letN (IntKind.wrap IntKind.i64 (n8*a0_2)) fun n9=>
        sif (a0_2≠(0:Int)) <|
        letN (Int.tmod a1 a0_2) fun n10=>
        letN (IntKind.wrap IntKind.i64 (n9+n10)) fun n11=>
        zao (zaa [D.agg [D.int IntKind.i64 a0_0,D.int IntKind.i64 a0_1,D.int IntKind.i64 a0_2]]) fun r12=>
        asI IntKind.i64 r12 fun i13=>
        sif (i13≠(0:Int)) <|
        letN (Int.tmod n5 i13) fun n14=>
        zao (zaF [D.agg [D.int IntKind.i64 a0_0,D.int IntKind.i64 a0_1,D.int IntKind.i64 a0_2],D.int IntKind.i64 n11,D.int IntKind.i64 n14]) fun r15=>
        asI IntKind.i64 r15 fun i16=>
        some (D.tup [D.int IntKind.i64 i16,D.int IntKind.i64 n11,D.bool true]))))
theorem zpe (zad:List D→Option D) (zar:List D→Option D) (zaa:List D→Option D) (zaF:List D→Option D) (a0_0:Int) (a0_1:Int) (a0_2:Int) (a1:Int):denP Try.prog (zav [(ID.wattleref01_Check,(.pure [0] zad)),(ID.wattleref01_Capacity,(.pure [0] zar)),(ID.wattleref01_Width,(.pure [0] zaa)),(ID.wattleref01_Disk,(.pure [0] zaF))]) zhv [0,0,0] ID.wattleref01_Of [.agg [.int .i64 a0_0,.int .i64 a0_1,.int .i64 a0_2],.int .i64 a1]=zf3 zad zar zaa zaF a0_0 a0_1 a0_2 a1:=by kernel_rfl
theorem zmv (a0_0:Int) (a0_1:Int) (a0_2:Int) (a1:Int):zbn [.agg [.int .i64 a0_0,.int .i64 a0_1,.int .i64 a0_2],.int .i64 a1]=zf3 zad zar zaa zaF a0_0 a0_1 a0_2 a1:=zpe zad zar zaa zaF a0_0 a0_1 a0_2 a1
def zfd:Ann:={ loops:=[(1,[.dead,.val (.cell (.int .i64)),.box true [(.int .i64),(.int .i64),(.int .i64)],.dead,.dead,.own 1,.val (.cell (.int .i64))])] }
noncomputable def zaO:List D→Option D:=denP Try.prog (zav [(ID.wattleref01_fine,(.pure [0] zag)),(ID.wattleref01_Width,(.pure [0] zaa))]) zfd [1] ID.wattleref01_Numbers
theorem zhN:za0 Try.prog ID.wattleref01_Numbers (.pure [1] zaO):=zai (zaw [zc2,zbq]) zbp ⟨Try.f29,by kernel_rfl,by kernel_rfl,by kernel_rfl⟩
noncomputable def ziv:Fact Try.prog:=⟨ID.wattleref01_Numbers,(.pure [1] zaO),zhN⟩
noncomputable def zdW (zag:List D→Option D) (zaa:List D→Option D) (a0_0:Int) (a0_1:Int) (a0_2:Int) (a1:Int):Option D:=
  zao (zag [D.agg [D.int IntKind.i64 a0_0,D.int IntKind.i64 a0_1,D.int IntKind.i64 a0_2],D.int IntKind.i64 a1]) fun r1=>
  asB r1 fun b2=>
  brK (!b2)
    (some (D.sl Tag.own []))
    (zb4 (α:=(Int×(Int×Int×Int×PUnit)×List D×Int×PUnit)×PUnit) (fun again3 ((i4,((i5,(i6,(i7,_))),(l8,(i9,_)))),_)=>
      zao (zaa [D.agg [D.int IntKind.i64 i5,D.int IntKind.i64 i6,D.int IntKind.i64 i7]]) fun r10=>
      asI IntKind.i64 r10 fun i11=>
      brK (decide (i9 < i11))
        (sif (i7≠(0:Int)) <|
        letN (IntKind.wrap IntKind.i64 (Int.tdiv i4 i7)) fun n12=>
        zao (zaa [D.agg [D.int IntKind.i64 i5,D.int IntKind.i64 i6,D.int IntKind.i64 i7]]) fun r13=>
        asI IntKind.i64 r13 fun i14=>
        letN (IntKind.wrap IntKind.i64 (n12*i14)) fun n15=>
        letN (IntKind.wrap IntKind.i64 (n15+i9)) fun n16=>
        letN (IntKind.wrap IntKind.i64 (n16*i7)) fun n17=>
        sif (i7≠(0:Int)) <|
        letN (Int.tmod i4 i7) fun n18=>
        letN (IntKind.wrap IntKind.i64 (n17+n18)) fun n19=>
        sif (List.length l8+(1:Nat)≤(4294967296:Nat)) <|
        sif (List.length l8=List.length l8) <|
        letN (IntKind.wrap IntKind.i64 (i9+(1:Int))) fun n20=>
        sif (List.length l8+(1:Nat)=List.length (l8++[D.int IntKind.i64 n19])) <|
        again3 (((i4,(i5,i6,i7,PUnit.unit),l8++[D.int IntKind.i64 n19],n20,PUnit.unit),PUnit.unit)))
        (sif (List.length l8=List.length l8) <|
        sif (List.all l8 D.free=true) <|
        some (D.sl Tag.own l8)))
      (((a1,(a0_0,a0_1,a0_2,PUnit.unit),[],(0:Int),PUnit.unit),PUnit.unit)))
theorem zkJ (zag:List D→Option D) (zaa:List D→Option D) (a0_0:Int) (a0_1:Int) (a0_2:Int) (a1:Int):denP Try.prog (zav [(ID.wattleref01_fine,(.pure [0] zag)),(ID.wattleref01_Width,(.pure [0] zaa))]) zfd [1] ID.wattleref01_Numbers [.agg [.int .i64 a0_0,.int .i64 a0_1,.int .i64 a0_2],.int .i64 a1]=zdW zag zaa a0_0 a0_1 a0_2 a1:=by kernel_rfl
theorem ziw (a0_0:Int) (a0_1:Int) (a0_2:Int) (a1:Int):zaO [.agg [.int .i64 a0_0,.int .i64 a0_1,.int .i64 a0_2],.int .i64 a1]=zdW zag zaa a0_0 a0_1 a0_2 a1:=zkJ zag zaa a0_0 a0_1 a0_2 a1
def zgi:Ann:={ loops:=[] }
noncomputable def za4:List D→Option D:=denP Try.prog (zav [(ID.wattleref01_Width,(.pure [0] zaa)),(ID.wattleplay_Sectors,(.pure [1] zaA))]) zgi [1] ID.wattlelaw14_Data
theorem zjH:za0 Try.prog ID.wattlelaw14_Data (.pure [1] za4):=zai (zaw [zbq,ze3]) zbp ⟨Try.f24,by kernel_rfl,by kernel_rfl,by kernel_rfl⟩
noncomputable def zkK:Fact Try.prog:=⟨ID.wattlelaw14_Data,(.pure [1] za4),zjH⟩
noncomputable def zfe (zaa:List D→Option D) (zaA:List D→Option D) (a0_0:Int) (a0_1:Int) (a0_2:Int) (a1:Int) (a2:List D):Option D:=
  letN (min a1 (↑(List.length a2):Int)) fun n1=>
  sif ((0:Int)≤n1) <|
  sif (n1≤(↑(List.length a2):Int)) <|
  sif ((↑(List.length a2):Int)≤(↑(List.length a2):Int)) <|
  sif ((↑(List.length a2):Int)=(↑(List.length a2):Int)) <|
  sif (zvK (1:Nat) a2=true) <|
  zao (zaa [D.agg [D.int IntKind.i64 a0_0,D.int IntKind.i64 a0_1,D.int IntKind.i64 a0_2]]) fun r2=>
  asI IntKind.i64 r2 fun i3=>
  zao (zaA [D.sl (zd0 Tag.lent false (decide ((↑(List.length a2):Int)=(↑(List.length a2):Int)))) (cutI n1 (↑(List.length a2):Int) a2),D.int IntKind.i64 i3]) fun r4=>
  zbD r4 fun l5=>
  sif (List.length l5=List.length l5) <|
  sif (List.all l5 D.free=true) <|
  some (D.sl Tag.own l5)
theorem znE (zaa:List D→Option D) (zaA:List D→Option D) (tga2:Tag) (a0_0:Int) (a0_1:Int) (a0_2:Int) (a1:Int) (a2:List D):denP Try.prog (zav [(ID.wattleref01_Width,(.pure [0] zaa)),(ID.wattleplay_Sectors,(.pure [1] zaA))]) zgi [1] ID.wattlelaw14_Data [.agg [.int .i64 a0_0,.int .i64 a0_1,.int .i64 a0_2],.int .i64 a1,.sl tga2 a2]=zfe zaa zaA a0_0 a0_1 a0_2 a1 (D.lentL a2):=by kernel_rfl
theorem zkL (tga2:Tag) (a0_0:Int) (a0_1:Int) (a0_2:Int) (a1:Int) (a2:List D):za4 [.agg [.int .i64 a0_0,.int .i64 a0_1,.int .i64 a0_2],.int .i64 a1,.sl tga2 a2]=zfe zaa zaA a0_0 a0_1 a0_2 a1 (D.lentL a2):=znE zaa zaA tga2 a0_0 a0_1 a0_2 a1 a2
def zeN:Ann:={ loops:=[(1,[.val (.cell .lent),.val (.cell .lent),.dead,.dead,.dead,.val (.cell (.int .i64))])] }
noncomputable def zap:List D→Option D:=denP Try.prog (zav []) zeN [0] ID.wattlekeep_Same_byte
theorem zhc:za0 Try.prog ID.wattlekeep_Same_byte (.pure [0] zap):=zai (zaw []) zbp ⟨Try.f30,by kernel_rfl,by kernel_rfl,by kernel_rfl⟩
noncomputable def zer:Fact Try.prog:=⟨ID.wattlekeep_Same_byte,(.pure [0] zap),zhc⟩
noncomputable def zdE (a0:List D) (a1:List D):Option D:=
  brK ((↑(List.length a0):Int) != (↑(List.length a1):Int))
    (some (D.bool false))
    (zb4 (α:=(List D×List D×Int×PUnit)×PUnit) (fun again1 ((l2,(l3,(i4,_))),_)=>
      brK (decide (i4 < (↑(List.length l2):Int)))
        (sif ((0:Int)≤i4) <|
        getK l2 (Int.toNat i4) fun d5=>
        asI IntKind.u8 d5 fun i6=>
        sif ((0:Int)≤i4) <|
        getK l3 (Int.toNat i4) fun d7=>
        asI IntKind.u8 d7 fun i8=>
        brK (i6 != i8)
          (some (D.bool false))
          (letN (IntKind.wrap IntKind.i64 (i4+(1:Int))) fun n9=>
          again1 (((l2,l3,n9,PUnit.unit),PUnit.unit))))
        (some (D.bool true)))
      (((a0,a1,(0:Int),PUnit.unit),PUnit.unit)))
theorem zjI (tga0:Tag) (tga1:Tag) (a0:List D) (a1:List D):denP Try.prog (zav []) zeN [0] ID.wattlekeep_Same_byte [.sl tga0 a0,.sl tga1 a1]=zdE (D.lentL a0) (D.lentL a1):=by kernel_rfl
theorem zhO (tga0:Tag) (tga1:Tag) (a0:List D) (a1:List D):zap [.sl tga0 a0,.sl tga1 a1]=zdE (D.lentL a0) (D.lentL a1):=zjI tga0 tga1 a0 a1
def zfW:Ann:={ loops:=[],ks:=[(3840,true),(7649,true)] }
noncomputable def zbe:List D→Option D:=denT Try.prog (zav [(ID.bench_New,(.st [] [0,0] [(3840,true),(7649,true)] zbo)),(ID.window_Read,(.st [] [1,0] [(3840,false),(7649,false)] za9)),(ID.wattlekeep_Same_byte,(.pure [0] zap))]) zfW [0] ID.wattlelaw20_wakes
theorem zjb:za0 Try.prog ID.wattlelaw20_wakes (.pure [0] zbe):=zr9 (zaw [zlB,zjl,zer]) zbp ⟨Try.f59,by kernel_rfl,by kernel_rfl,by kernel_rfl⟩
noncomputable def zjJ:Fact Try.prog:=⟨ID.wattlelaw20_wakes,(.pure [0] zbe),zjb⟩
noncomputable def zeG (zbo:List D→List Tb→Option Ans) (za9:List D→List Tb→Option Ans) (zap:List D→Option D):Option D:=
  zao (zbo [D.int IntKind.i64 (4:Int)] [[],[]]) fun r1=>
  nilK r1.outs <|
  zh1 r1.tbs fun c2 q3=>
  zh1 q3 fun c4 q5=>
  nilK q5 <|
  zdG r1.r fun ts6=>
  zau ([Lf.any,Lf.any]) ts6 fun c7=>
  sif (zjW c7.fst=true) <|
  asI IntKind.i64 c7.snd.fst fun i8=>
  brK (i8 != (0:Int))
    (some (D.bool false))
    (znN c7.fst fun b9=>
    brK b9
      (some (D.bool false))
      (zao (za9 [c7.fst,D.sl Tag.full [D.bool true,D.bool true,D.bool true,D.bool true],D.agg [D.int IntKind.i64 (5:Int),D.int IntKind.i64 (3:Int),D.int IntKind.i64 (1:Int)],D.agg [D.int IntKind.i64 (5:Int),D.int IntKind.i64 (4:Int),D.int IntKind.i64 (1:Int)],D.int IntKind.i64 (15:Int)] [c2,c4]) fun r10=>
      nilK r10.outs <|
      nilK r10.tbs <|
      zdG r10.r fun ts11=>
      zau ([Lf.any,Lf.any]) ts11 fun c12=>
      zbD c12.fst fun l13=>
      asI IntKind.i64 c12.snd.fst fun i14=>
      brK (i14 == (0:Int))
        (sif ((0:Nat)+List.length l13≤List.length l13) <|
        brK ((↑(List.length l13):Int) == (3:Int))
          (sif ((2:Nat) < List.length l13) <|
          getK l13 ((2:Nat)) fun d15=>
          asSl d15 fun t16 l17=>
          zao (zap [D.sl t16 l17,D.sl Tag.lent [D.int IntKind.u8 (0:Int),D.int IntKind.u8 (0:Int),D.int IntKind.u8 (0:Int),D.int IntKind.u8 (0:Int),D.int IntKind.u8 (0:Int),D.int IntKind.u8 (0:Int),D.int IntKind.u8 (0:Int),D.int IntKind.u8 (0:Int),D.int IntKind.u8 (0:Int),D.int IntKind.u8 (0:Int),D.int IntKind.u8 (0:Int),D.int IntKind.u8 (0:Int),D.int IntKind.u8 (0:Int),D.int IntKind.u8 (0:Int),D.int IntKind.u8 (0:Int),D.int IntKind.u8 (0:Int),D.int IntKind.u8 (0:Int),D.int IntKind.u8 (0:Int),D.int IntKind.u8 (0:Int),D.int IntKind.u8 (0:Int),D.int IntKind.u8 (0:Int),D.int IntKind.u8 (0:Int),D.int IntKind.u8 (0:Int),D.int IntKind.u8 (0:Int),D.int IntKind.u8 (0:Int),D.int IntKind.u8 (0:Int),D.int IntKind.u8 (0:Int),D.int IntKind.u8 (0:Int),D.int IntKind.u8 (0:Int),D.int IntKind.u8 (0:Int),D.int IntKind.u8 (0:Int),D.int IntKind.u8 (0:Int)]]) fun r18=>
          asB r18 fun b19=>
          some (D.bool b19))
          (some (D.bool false)))
        (some (D.bool false))))
theorem zmw (zbo:List D→List Tb→Option Ans) (za9:List D→List Tb→Option Ans) (zap:List D→Option D):denT Try.prog (zav [(ID.bench_New,(.st [] [0,0] [(3840,true),(7649,true)] zbo)),(ID.window_Read,(.st [] [1,0] [(3840,false),(7649,false)] za9)),(ID.wattlekeep_Same_byte,(.pure [0] zap))]) zfW [0] ID.wattlelaw20_wakes []=sif (D.nohL []=true) (zeG zbo za9 zap ):=by kernel_rfl
theorem zjK:zbe []=sif (D.nohL []=true) (zeG zbo za9 zap ):=zmw zbo za9 zap
end Wf

namespace Wf
open Go Go.RowKit Go.Proofs
set_option linter.unusedSimpArgs false
set_option linter.unusedVariables false
theorem zvh (c:Int):zaP [.sl .full [.int .i64 1,.int .i64 2,.int .i64 4],.int .i64 c]=some (.bool (c == 1 || c == 2 || c == 4)):=by
  rw [zgr]
  unfold zc8
  rw [zhD]
  unfold zdC
  obtain ⟨m,hm⟩:=zuX
  by_cases h1:c=1<;>by_cases h2:c=2<;>by_cases h4:c=4<;>
    simp [zb4,hm,fixN,zbH,h1,h2,h4,zah]<;>omega
theorem zfC (l d c:Int):zaj [gD l d c]=some (iD (if zdn l d c then 0 else 1)):=by
  rw [zqs]
  unfold zke
  have hc:=zvh c
  unfold zdn
  obtain ⟨q,hq⟩:∃ q,(c == 1 || c == 2 || c == 4)=q:=⟨_,rfl⟩
  rw [hq] at hc ⊢
  by_cases h5:l=5
  · subst h5
    by_cases h3:d < 3<;>by_cases h8:8 < d<;>cases q<;>simp [zx5,zhU,setD,hc,zbH,h3,h8]<;>omega
  · by_cases h6:l=6
    · subst h6
      by_cases h3:d < 4<;>by_cases h8:8 < d<;>cases q<;>simp [zx5,zhU,setD,hc,zbH,h3,h8]<;>omega
    · simp [zx5,zhU,setD,hc,zbH,h5,h6]
theorem zqT (l d c:Int):zbb [gD l d c]=some (iD (zl1 l d c)):=by
  rw [zoZ]
  unfold ziU zl1
  rw [zfC]
  cases h:zdn l d c
  · simp [zbH]
  · have:=zeY.1 h
    simp [zbH]
    exact zah (by omega) (by omega)
theorem zk3 (l d c:Int):zaf [gD l d c]=some (iD (zfM l d c)):=by
  rw [zqv]
  unfold zkk zfM
  rw [zfC,zqT]
  unfold zl1
  cases h:zdn l d c
  · simp [zbH]
  · have:=zeY.1 h
    simp [zbH]
    exact zah (by omega) (by omega)
theorem ztH (l d c:Int):zaQ [gD l d c]=some (iD (capG l d c)):=by
  rw [znA]
  unfold zg4 capG
  rw [zk3]
  have:=zBp l d c
  simp
  exact zah (by omega) (by omega)
theorem zix (l d c:Int):zad [gD l d c]=some (.bool (zdn l d c)):=by
  rw [zjp]
  unfold zeA zdn
  by_cases h5:l=5
  · subst h5
    by_cases h3:3≤d<;>by_cases h8:d≤8<;>simp [zbH,h3,h8]<;>by_cases h1:c=1<;>by_cases h2:c=2<;>simp [h1,h2]<;>omega
  · by_cases h6:l=6
    · subst h6
      by_cases h3:4≤d<;>by_cases h8:d≤8<;>simp [zbH,h3,h8]<;>by_cases h1:c=1<;>by_cases h2:c=2<;>simp [h1,h2]<;>omega
    · simp [zbH,h5,h6]
theorem zso (l d c:Int):zaz [gD l d c]=some (iD (zl1 l d c)):=by
  rw [ziQ]
  unfold zec zl1
  rw [zix]
  cases h:zdn l d c
  · simp [zbH]
  · have:=zeY.1 h
    simp [zbH]
    exact zah (by omega) (by omega)
theorem zqU (l d c:Int):zaa [gD l d c]=some (iD (zfM l d c)):=by
  rw [zjq]
  unfold zeB zfM
  rw [zix,zso]
  unfold zl1
  cases h:zdn l d c
  · simp [zbH]
  · have:=zeY.1 h
    simp [zbH]
    exact zah (by omega) (by omega)
theorem zxx (a n:Int) (h:1≤n) (h9:n < 1000000000):zac [.int .i64 a,.int .i64 n]=some (iD (a % n)):=by
  rw [zjo]
  unfold zez
  have hm:=zyk a n h
  have hlt:=Int.lt_tmod_of_pos a (show 0 < n by omega)
  have h1:¬ n < 1:=by omega
  have h0:n≠0:=by omega
  rcases hm with ⟨k1,k2⟩ | ⟨k1,k2⟩
  · simp [zbH,h1,h0,Int.not_lt.2 k1,k2]
  · simp [zbH,h1,h0,k1,k2]
    exact zah (by omega) (by omega)
theorem ziy (g:Geo):zaf [gD g.l g.d g.c]=some (iD g.width):=zk3 ..
theorem zAd (g:Geo):zaQ [gD g.l g.d g.c]=some (iD g.cap):=ztH ..
theorem zk4 (g:Geo):zaa [gD g.l g.d g.c]=some (iD g.width):=zqU ..
section
variable (a b c x y z k:Int)
end
section
variable (g:Geo) (a row k:Int)
theorem ztI:zbh [g.D,.int .i64 row]=some (.bool (zcw g row)):=by
  unfold Geo.D
  rw [zto]
  unfold zn7
  rw [zfC]
  unfold zcw Geo.ok
  cases zdn g.l g.d g.c<;>simp [zbH]<;>(by_cases h:0≤row<;>simp [h])
theorem zpp:zag [g.D,.int .i64 row]=some (.bool (zcw g row)):=by
  unfold Geo.D
  rw [zku]
  unfold ze4
  rw [zix]
  unfold zcw Geo.ok
  cases zdn g.l g.d g.c<;>simp [zbH]<;>(by_cases h:0≤row<;>simp [h])
theorem zvi:zaW [g.D,.int .i64 row]=some (.tup [iD (parP g row).1,iD (parP g row).2]):=by
  have hi:=ztI g row
  unfold Geo.D at*
  rw [zn8]
  unfold zhF
  rw [hi]
  unfold parP
  cases h:zcw g row
  · simp [zbH]
  · obtain ⟨hk,h0,h1⟩:=zbU.1 h
    have hd:=ok_d hk
    have hv:=zBq hk h0
    have hp:=zlA hk row
    have w1:IntKind.i64.wrap (g.d - 1)=g.d - 1:=zah (by omega) (by omega)
    have w2:IntKind.i64.wrap (row.tdiv g.c)=row / g.c:=by rw [zu0 hk h0]; exact zah (by omega) (by omega)
    have w3:IntKind.i64.wrap (g.d - 1 - (row / g.c).tmod g.d)=parA g row:=by rw [zj8 hv.1]; exact zah (by unfold parA at hp; omega) (by unfold parA at hp; omega)
    have w4:IntKind.i64.wrap (parA g row+1)=parA g row+1:=zah (by omega) (by omega)
    have t4:(parA g row+1).tmod g.d=(parA g row+1) % g.d:=zj8 (by omega)
    by_cases h5:g.l=5
    · simp [zbH,show g.c≠0 by omega,show g.d≠0 by omega,w1,w2,w3,h5]
    · simp [zbH,show g.c≠0 by omega,show g.d≠0 by omega,w1,w2,w3,h5,w4,t4]
theorem zAe:zax [g.D,.int .i64 row]=some (.tup [iD (parP g row).1,iD (parP g row).2]):=by
  have hi:=zpp g row
  unfold Geo.D at*
  rw [zi2]
  unfold zei
  rw [hi]
  unfold parP
  cases h:zcw g row
  · simp [zbH]
  · obtain ⟨hk,h0,h1⟩:=zbU.1 h
    have hd:=ok_d hk
    have hv:=zBq hk h0
    have hp:=zlA hk row
    have w1:IntKind.i64.wrap (g.d - 1)=g.d - 1:=zah (by omega) (by omega)
    have w2:IntKind.i64.wrap (row.tdiv g.c)=row / g.c:=by rw [zu0 hk h0]; exact zah (by omega) (by omega)
    have w3:IntKind.i64.wrap (g.d - 1 - (row / g.c).tmod g.d)=parA g row:=by rw [zj8 hv.1]; exact zah (by unfold parA at hp; omega) (by unfold parA at hp; omega)
    have w4:IntKind.i64.wrap (parA g row+1)=parA g row+1:=zah (by omega) (by omega)
    have t4:(parA g row+1).tmod g.d=(parA g row+1) % g.d:=zj8 (by omega)
    by_cases h5:g.l=5
    · simp [zbH,show g.c≠0 by omega,show g.d≠0 by omega,w1,w2,w3,h5]
    · simp [zbH,show g.c≠0 by omega,show g.d≠0 by omega,w1,w2,w3,h5,w4,t4]
theorem zsp:zbi [g.D,.int .i64 row,.int .i64 k]=some (iD (zcT g row k)):=by
  have hi:=ztI g row
  have hp:=zvi g row
  unfold Geo.D at*
  rw [zqw]
  unfold zkm
  rw [hi,hp,ziy,zqT]
  unfold zcT
  cases h:zcw g row
  · simp [zbH]
  · obtain ⟨hk,h0,h1⟩:=zbU.1 h
    have hd:=ok_d hk
    have hw:=zbQ hk
    have hb:=zuZ hk
    have hl:=zdy.1 hk
    have hpa:=zlA hk row
    by_cases k0:k < 0
    · simp [zbH,k0,show ¬ 0≤k by omega]
    · by_cases k1:g.width≤k
      · simp [zbH,k0,k1,show ¬ k < g.width by omega]
      · have w1:IntKind.i64.wrap (parA g row+(g.l - 4))=parA g row+(g.l - 4):=zah (by omega) (by omega)
        have w2:IntKind.i64.wrap (parA g row+(g.l - 4)+k)=parA g row+(g.l - 4)+k:=zah (by omega) (by omega)
        have t2:(parA g row+(g.l - 4)+k).tmod g.d=(parA g row+(g.l - 4)+k) % g.d:=zj8 (by omega)
        have hp1:(parP g row).1=parA g row:=by unfold parP; simp [h]
        simp [zbH,k0,k1,show 0≤k by omega,show k < g.width by omega,hb,hp1,w1,w2,t2,show g.d≠0 by omega]
theorem zBE:zaF [g.D,.int .i64 row,.int .i64 k]=some (iD (zcT g row k)):=by
  have hi:=zpp g row
  have hp:=zAe g row
  unfold Geo.D at*
  rw [zkv]
  unfold ze6
  rw [hi,hp,zk4,zso]
  unfold zcT
  cases h:zcw g row
  · simp [zbH]
  · obtain ⟨hk,h0,h1⟩:=zbU.1 h
    have hd:=ok_d hk
    have hw:=zbQ hk
    have hb:=zuZ hk
    have hl:=zdy.1 hk
    have hpa:=zlA hk row
    by_cases k0:k < 0
    · simp [zbH,k0,show ¬ 0≤k by omega]
    · by_cases k1:g.width≤k
      · simp [zbH,k0,k1,show ¬ k < g.width by omega]
      · have w1:IntKind.i64.wrap (parA g row+(g.l - 4))=parA g row+(g.l - 4):=zah (by omega) (by omega)
        have w2:IntKind.i64.wrap (parA g row+(g.l - 4)+k)=parA g row+(g.l - 4)+k:=zah (by omega) (by omega)
        have t2:(parA g row+(g.l - 4)+k).tmod g.d=(parA g row+(g.l - 4)+k) % g.d:=zj8 (by omega)
        have hp1:(parP g row).1=parA g row:=by unfold parP; simp [h]
        simp [zbH,k0,k1,show 0≤k by omega,show k < g.width by omega,hb,hp1,w1,w2,t2,show g.d≠0 by omega]
theorem zBF:zcL [g.D,.int .i64 a]=some (ofD (ofP g a)):=by
  have hdk:=fun row k=>zsp g row k
  unfold Geo.D at*
  rw [ztF]
  unfold zol
  rw [ziy,zAd]
  unfold ofP ofD
  by_cases h0:a < 0
  · simp [zbH,h0,show ¬ 0≤a by omega]
  · by_cases h1:g.cap≤a
    · simp [zbH,h0,h1,show ¬ a < g.cap by omega]
    · have h0:0≤a:=by omega
      have h1:a < g.cap:=by omega
      have hk:=zqp h0 h1
      have hd:=ok_d hk
      have hw:=zbQ hk
      have hv:=zBq hk h0
      have hr:=zm3 h0 h1
      have hca:g.cap=g.width*16:=rfl
      have hvw:a / g.c / g.width≤a / g.c:=Int.ediv_le_self _ hv.1
      have w1:IntKind.i64.wrap (a.tdiv g.c)=a / g.c:=by rw [zu0 hk h0]; exact zah (by omega) (by omega)
      have w2:IntKind.i64.wrap ((a / g.c).tdiv g.width)=a / g.c / g.width:=by rw [Int.tdiv_eq_ediv_of_nonneg hv.1]; exact zah (by omega) (by omega)
      have hm:0≤a / g.c / g.width*g.c:=Int.mul_nonneg hr.2.2.1 (by omega)
      have w3:IntKind.i64.wrap (a / g.c / g.width*g.c)=a / g.c / g.width*g.c:=zah (by omega) (by omega)
      have w4:IntKind.i64.wrap (a / g.c / g.width*g.c+a.tmod g.c)=rowG g a:=by rw [zj8 h0]; exact zah (by omega) (by omega)
      have t5:(a / g.c).tmod g.width=zcU g a:=zj8 hv.1
      simp [zbH,h0,h1,show ¬ a < 0 by omega,show ¬ g.cap≤a by omega,w1,w2,w3,w4,t5,show g.c≠0 by omega,show g.width≠0 by omega,hdk]
end
section
variable (l d c a row k:Int)
end
section
variable (g:Geo) (row k:Int)
theorem zvj (h:zcw g row=true) (k0:0≤k) (k1:k≤8):zbW [gD g.l g.d g.c,.int .i64 row,.int .i64 k]=some (iD (numP g row k)):=by
  obtain ⟨hk,h0,h1⟩:=zbU.1 h
  obtain ⟨w1,w2,w3,w4,w5⟩:=zz7 hk h0 h1 k0 k1
  have hd:=ok_d hk
  rw [zon]
  unfold zhL
  rw [ziy]
  simp [show g.c≠0 by omega,w1,w2,w3,w4,w5]
theorem zys:zbK [g.D,.int .i64 row]=some (.sl .own (zq8 g row)):=by
  have hi:=ztI g row
  unfold Geo.D at*
  rw [znD]
  unfold zg5
  rw [hi,ziy]
  unfold zq8
  cases h:zcw g row
  · simp [zbH]
  · obtain ⟨hk,h0,h1⟩:=zbU.1 h
    have hw:=zbQ hk
    simp only [zae,zcQ,zbH,iD,zaU,Bool.not_true,Bool.false_eq_true,if_false,if_true]
    refine zgx (fun a=>(g.width - a.1.2.2.2.2.1).toNat) (fun _=>some (D.sl Tag.own (numD g row g.width.toNat))) (fun a=>∃ n:Nat,n≤g.width∧
      a=((row,(g.l,g.d,g.c,PUnit.unit),numD g row n,g.width,(n:Int),PUnit.unit),PUnit.unit)) ?_ ⟨0,by omega,rfl⟩ ?_
    rotate_left
    · simp; omega
    rintro again _ ⟨n,hn,rfl⟩ ih
    dsimp only
    by_cases hl:(n:Int) < g.width
    · have:=ih _ ⟨n+1,by omega,rfl⟩ (by dsimp only; omega)
      have wn:IntKind.i64.wrap ((n:Int)+1)=(n:Int)+1:=zah (by omega) (by omega)
      rw [zu1] at this
      simp [hl,zvj g row n h (by omega) (by omega),zho,wn,show n+1≤4294967296 by omega]
      simpa using this
    · have hnw:g.width.toNat=n:=by omega
      simp only [hl,decide_false,hnw,Bool.false_eq_true,if_false]
      simp [zho,zu2]
theorem zBG:zaO [g.D,.int .i64 row]=some (.sl .own (zq8 g row)):=by
  have hi:=zpp g row
  unfold Geo.D at*
  rw [ziw]
  unfold zdW
  rw [hi]
  unfold zq8
  cases h:zcw g row
  · simp [zbH]
  · obtain ⟨hk,h0,h1⟩:=zbU.1 h
    have hw:=zbQ hk
    have hd:=ok_d hk
    simp only [zae,zcQ,zbH,iD,zaU,Bool.not_true,Bool.false_eq_true,if_false,if_true]
    refine zgx (fun a=>(g.width - a.1.2.2.2.1).toNat) (fun _=>some (D.sl Tag.own (numD g row g.width.toNat))) (fun a=>∃ n:Nat,n≤g.width∧
      a=((row,(g.l,g.d,g.c,PUnit.unit),numD g row n,(n:Int),PUnit.unit),PUnit.unit)) ?_ ⟨0,by omega,rfl⟩ ?_
    rotate_left
    · simp; omega
    rintro again _ ⟨n,hn,rfl⟩ ih
    dsimp only
    rw [zk4]
    by_cases hl:(n:Int) < g.width
    · have:=ih _ ⟨n+1,by omega,rfl⟩ (by dsimp only; omega)
      have wn:IntKind.i64.wrap ((n:Int)+1)=(n:Int)+1:=zah (by omega) (by omega)
      obtain ⟨w1,w2,w3,w4,w5⟩:=zz7 hk h0 h1 (show 0≤(n:Int) by omega) (by omega)
      rw [zu1] at this
      simp [hl,w1,w2,w3,w4,w5,zho,wn,show n+1≤4294967296 by omega,show g.c≠0 by omega]
      simpa using this
    · have hnw:g.width.toNat=n:=by omega
      simp only [hl,decide_false,hnw,Bool.false_eq_true,if_false,zae,iD,zaU]
      simp [zho,zu2]
end
section
variable (l d c row k:Int)
end
end Wf

namespace Wf
open Go Go.RowKit Go.Proofs
set_option linter.unusedSimpArgs false
set_option linter.unusedVariables false
theorem zBH (l d c x y z:Int):zcY [gD l d c,gD x y z]=some (.bool (canG l d c x y z)):=by
  rw [ztD]
  unfold zoj canG
  rw [zfC,zfC,zk3,zk3]
  cases h:zdn l d c<;>cases k:zdn x y z<;>simp [zbH]
  by_cases h1:l=x<;>by_cases h2:d=y<;>by_cases h3:c=z<;>by_cases h4:d≤y<;>by_cases h5:l≤x<;>simp [h1,h2,h3,h4,h5]<;>omega
theorem zwv (l d c x y z:Int):zaq [gD l d c,gD x y z]=some (.bool (canG l d c x y z)):=by
  rw [zla]
  unfold zfu canG
  rw [zix,zix,zqU,zqU]
  cases h:zdn l d c<;>cases k:zdn x y z<;>simp [zbH]
  by_cases h1:l=x<;>by_cases h2:d=y<;>by_cases h3:c=z<;>by_cases h4:d≤y<;>by_cases h5:l≤x<;>simp [h1,h2,h3,h4,h5]<;>omega
theorem zAf (m n:Int):∃ x y:Geo,zbv [.int .i64 m,.int .i64 n]=some (.tup [x.D,y.D])∧x.can y=true∧x.d≤5∧y.d≤8:=by
  rw [zlc]
  unfold zfv
  have e2:IntKind.i64.wrap (m.tdiv 2)=qn m 2:=rfl
  have e6:IntKind.i64.wrap (m.tdiv 6)=qn m 6:=rfl
  have e3:IntKind.i64.wrap (n.tdiv 3)=qn n 3:=rfl
  have e9:IntKind.i64.wrap (n.tdiv 9)=qn n 9:=rfl
  have w3:IntKind.i64.wrap (3+m % 2)=3+m % 2:=zah (by omega) (by omega)
  have w4:IntKind.i64.wrap (4+m % 2)=4+m % 2:=zah (by omega) (by omega)
  have w31:IntKind.i64.wrap (3+m % 2+1)=3+m % 2+1:=zah (by omega) (by omega)
  have w3n:IntKind.i64.wrap (3+m % 2+n % 3)=3+m % 2+n % 3:=zah (by omega) (by omega)
  have w4n:IntKind.i64.wrap (4+m % 2+n % 3)=4+m % 2+n % 3:=zah (by omega) (by omega)
  have w3n1:IntKind.i64.wrap (3+m % 2+n % 3+1)=3+m % 2+n % 3+1:=zah (by omega) (by omega)
  have w4n1:IntKind.i64.wrap (4+m % 2+n % 3+1)=4+m % 2+n % 3+1:=zah (by omega) (by omega)
  have wmx:IntKind.i64.wrap (max (3+m % 2+n % 3) (3+m % 2+1)+1)=max (3+m % 2+n % 3) (3+m % 2+1)+1:=zah (by omega) (by omega)
  have h0:0≤qn m 2 % 3:=by omega
  have h3:qn m 2 % 3 < 3:=by omega
  have k0:0≤qn n 3 % 3:=by omega
  have k3:qn n 3 % 3 < 3:=by omega
  simp only [zxx _ _ (show (1:Int)≤2 by decide) (show (2:Int) < 1000000000 by decide),zxx _ _ (show (1:Int)≤3 by decide) (show (3:Int) < 1000000000 by decide),zxx _ _ (show (1:Int)≤4 by decide) (show (4:Int) < 1000000000 by decide),
    zae,iD,zaU,zaI,e2,e6,e3,e9,w3,w4,w31,w3n,w4n,w3n1,w4n1,wmx,zab h0,zab k0,zxt _ h0 h3,zxt _ k0 k3,zwv,zcQ]
  obtain ⟨a,ha⟩:∃ a,(if qn m 2 % 3=0 then (1:Int) else if qn m 2 % 3=1 then 2 else 4)=a:=⟨_,rfl⟩
  obtain ⟨b,hb⟩:∃ a,(if qn n 3 % 3=0 then (1:Int) else if qn n 3 % 3=1 then 2 else 4)=a:=⟨_,rfl⟩
  have ha':a=1∨a=2∨a=4:=by rw [←ha]; (repeat' split)<;>simp
  have hb':b=1∨b=2∨b=4:=by rw [←hb]; (repeat' split)<;>simp
  rw [ha,hb]
  have hm:m % 2=0∨m % 2=1:=by omega
  have hn:n % 3=0∨n % 3=1∨n % 3=2:=by omega
  clear e2 e6 e3 e9 w3 w4 w31 w3n w4n w3n1 w4n1 wmx h0 h3 k0 k3 ha hb
  generalize m % 2=p at*
  generalize n % 3=q at*
  generalize qn m 6 % 4=s1 at*
  generalize qn n 9 % 2=s2 at*
  have key:∀ (l l' d d':Int),3≤d→d≤5→d≤d'→d'≤7→(l=5∨l=6∧4≤d)→(l'=l∨l=5∧l'=6∧d < d')→
      ∃ x y:Geo,brK (!canG l d a l' d' b) (some (D.tup [gD l d a,gD l' (d'+1) b])) (some (D.tup [gD l d a,gD l' d' b]))=some (.tup [x.D,y.D])∧x.can y=true∧x.d≤5∧y.d≤8:=by
    intro l l' d d' h1 h2 h3 h4 h5 h6
    have v1:zdn l d a=true:=by rw [zeY]; omega
    have v2:zdn l' d' b=true:=by rw [zeY]; omega
    have v3:zdn l' (d'+1) b=true:=by rw [zeY]; omega
    cases hc:canG l d a l' d' b
    · refine ⟨⟨l,d,a⟩,⟨l',d'+1,b⟩,rfl,zj7.2 ⟨v1,v3,?_,?_,?_,?_⟩,h2,by dsimp only; omega⟩
      · simp only [ne_eq,Geo.mk.injEq]; omega
      · dsimp only; omega
      · dsimp only; omega
      · simp only [zfM,v1,v3,if_true]; omega
    · exact ⟨⟨l,d,a⟩,⟨l',d',b⟩,rfl,hc,h2,by dsimp only; omega⟩
  by_cases q1:s1=3
  · rw [show (s1 == 3)=true from by simp [q1],zaY]
    have:=key 6 6 (4+p) (4+p+q) (by omega) (by omega) (by omega) (by omega) (by omega) (by omega)
    exact this
  · rw [show (s1 == 3)=false from by simpa using q1,zas]
    by_cases q2:s2=1
    · rw [show (s2 == 1)=true from by simp [q2],zaY]
      have:=key 5 6 (3+p) (max (3+p+q) (3+p+1)) (by omega) (by omega) (by omega) (by omega) (by omega) (by omega)
      exact this
    · rw [show (s2 == 1)=false from by simpa using q2,zas]
      have:=key 5 5 (3+p) (3+p+q) (by omega) (by omega) (by omega) (by omega) (by omega) (by omega)
      exact this
theorem zvk (x y:Geo):zbJ [x.D,y.D]=some (iD (zcj x y)):=by
  unfold Geo.D
  rw [zrq]
  unfold zmq
  rw [zBH]
  show zao (some (D.bool (x.can y))) _=_
  cases h:x.can y
  · simp [zbH,zl3 h]
  · simp [zbH,zl2 h]
theorem zoR (x y:Geo):zaX [x.D,y.D]=some (iD (winP x y)):=by
  have hr:=zvk x y
  unfold Geo.D at*
  rw [zok]
  unfold zhK
  rw [hr]
  cases h:x.can y
  · simp [zbH,zl3 h]
  · obtain ⟨h1,h2⟩:=zl2 h
    obtain ⟨h3,h4,h5⟩:=zuY h
    rw [h3]
    rcases h2 with e | e | e<;>rw [e]<;>simp [zbH]<;>rfl
theorem zAg (x y:Geo) (k:Int):zco [x.D,y.D,.int .i64 k]=some (.tup [iD (zb7 x y k).1,iD (zb7 x y k).2]):=by
  have hr:=zvk x y
  have hw:=zoR x y
  unfold Geo.D at*
  rw [zrt]
  unfold zmr zb7
  rw [hr,hw,ziy]
  by_cases h0:k < 0
  · simp [h0]
  · by_cases h1:winP x y≤k
    · simp [h0,h1]
    · have hc:x.can y=true:=by
        cases h:x.can y
        · have:=(zl3 h).2; omega
        · rfl
      obtain ⟨w1,w2,w3,w4,_,_⟩:=zxv hc (by omega) (show k≤winP x y by omega)
      simp [h0,h1,w1,w2,w3,w4]
theorem zAh (a b:Int) (ha:a=1∨a=2∨a=4) (hb:b=1∨b=2∨b=4):zbd [.int .i64 a,.int .i64 b]=some (iD (max a b)):=by
  rw [zjD]
  unfold zeF
  obtain ⟨m,hm⟩:=zuX
  rcases ha with rfl | rfl | rfl<;>rcases hb with rfl | rfl | rfl<;>simp [zb4,hm,fixN,zbH,zah]<;>rfl
theorem zxy (x y:Geo):zaM [x.D,y.D]=some (iD (zcj x y)):=by
  unfold Geo.D
  rw [zkC]
  unfold zfa
  rw [zwv]
  show zao (some (D.bool (x.can y))) _=_
  cases h:x.can y
  · simp [zbH,zl3 h]
  · rw [zAh _ _ (zdy.1 (zj7.1 h).1).2.2 (zdy.1 (zj7.1 h).2.1).2.2]
    simp [zbH,zl2 h]
theorem zqV (x y:Geo):zat [x.D,y.D]=some (iD (winP x y)):=by
  have hr:=zxy x y
  unfold Geo.D at*
  rw [zir]
  unfold zdV
  rw [hr,zwv]
  show zao (some (D.bool (x.can y))) _=_
  cases h:x.can y
  · simp [zbH,zl3 h]
  · obtain ⟨h1,h2⟩:=zl2 h
    obtain ⟨h3,h4,h5⟩:=zuY h
    rw [h3]
    rcases h2 with e | e | e<;>rw [e]<;>simp [zbH]<;>rfl
theorem zBI (x y:Geo) (k:Int):zbc [x.D,y.D,.int .i64 k]=some (.tup [iD (zb7 x y k).1,iD (zb7 x y k).2]):=by
  have hr:=zxy x y
  have hw:=zqV x y
  unfold Geo.D at*
  rw [zkF]
  unfold zfc zb7
  rw [hr,hw,zk4]
  by_cases h0:k < 0
  · simp [h0]
  · by_cases h1:winP x y≤k
    · simp [h0,h1]
    · have hc:x.can y=true:=by
        cases h:x.can y
        · have:=(zl3 h).2; omega
        · rfl
      obtain ⟨w1,w2,w3,w4,_,_⟩:=zxv hc (by omega) (show k≤winP x y by omega)
      simp [h0,h1,w1,w2,w3,w4]
end Wf

namespace Wf
open Go Go.RowKit Go.Proofs
set_option linter.unusedSimpArgs false
set_option linter.unusedVariables false
theorem ztJ (a n:Int) (h:1≤n) (h9:n < 1000000000):zac [.int .i64 a,.int .i64 n]=some (.int .i64 (a % n)):=zxx a n h h9
theorem zvl (t t':Tag) (l m:List Int) (hl:l.length < 1000000000):zap [.sl t (uL l),.sl t' (uL m)]=some (.bool (decide (l=m))):=by
  rw [zhO,zds,zds]
  unfold zdE
  by_cases hlen:l.length=m.length
  · simp only [zd8,hlen,bne_self_eq_false,zas]
    refine zgx (fun a=>(m.length:Int).toNat - a.1.2.2.1.toNat) (fun _=>some (D.bool (decide (l=m))))
      (fun a=>∃ k:Nat,k≤m.length∧l.take k=m.take k∧a=((uL l,uL m,(k:Int),PUnit.unit),PUnit.unit)) ?_ ⟨0,by omega,by simp,rfl⟩ (by simp; omega)
    rintro again _ ⟨k,hk,he,rfl⟩ hag
    dsimp only
    rw [zd8,hlen]
    by_cases hkm:k < m.length
    · have h1:l[k]? =some l[k]:=List.getElem?_eq_getElem (by omega)
      have h2:m[k]? =some m[k]:=List.getElem?_eq_getElem hkm
      have hd:decide ((k:Int) < (m.length:Int))=true:=by simp; omega
      rw [hd,zaY,zab (by omega),zaB (by simpa using zje h1),zaU,zab (by omega),zaB (by simpa using zje h2),zaU]
      by_cases hx:l[k]=m[k]
      · have hb:(l[k] != m[k])=false:=by simp [hx]
        rw [hb,zas,zaI,zah (by omega) (by omega)]
        exact hag _ ⟨k+1,by omega,by rw [List.take_add_one,List.take_add_one,he,h1,h2,hx],rfl⟩ (by simp; omega)
      · have hb:(l[k] != m[k])=true:=by simp [hx]
        rw [hb,zaY]
        congr 2
        symm
        simp
        intro e
        subst e
        exact hx rfl
    · have hd:decide ((k:Int) < (m.length:Int))=false:=by simp; omega
      rw [hd,zas]
      have:l=m:=by
        have e1:l.take k=l:=List.take_of_length_le (by omega)
        have e2:m.take k=m:=List.take_of_length_le (by omega)
        rw [←e1,←e2,he]
      simp [this]
  · have hb:((l.length:Int) != (m.length:Int))=true:=by simp; omega
    simp only [zd8,hb,zaY]
    congr 2
    symm
    simp
    intro e; subst e; exact hlen rfl
theorem zfD {R:Type} (a:Int) {b:List Int} (h:b.length=32) (f:LfT [.int .i64,.arr 32]→Option R):zau [.int .i64,.arr 32] (.int .i64 a::uL b) f=f (a,uL b,()):=by
  have e1:(uL b).take 32=uL b:=List.take_of_length_le (by simp [h])
  have e2:(uL b).drop 32=[]:=List.drop_of_length_le (by simp [h])
  simp [zau,zdL,Lf.get,h,e1,e2]
theorem zop {R:Type} {b:List Int} (h:b.length=32) (f:LfT [.arr 32]→Option R):zau [.arr 32] (uL b) f=f (uL b,()):=by
  have e1:(uL b).take 32=uL b:=List.take_of_length_le (by simp [h])
  have e2:(uL b).drop 32=[]:=List.drop_of_length_le (by simp [h])
  simp [zau,zdL,Lf.get,h,e1,e2]
theorem zET {T:Tb} {i:Nat} {s:DS} (h:T[i]? =some s.cells) (hs:s.Ok) (a:Int):zaT [.h kD i 0,.int .i64 a] [T]=some (Ans.mk (.int .i64 (s.may a)) [] []):=by
  rw [zm8]
  unfold zgT DS.may
  rw [zaB h,zaB (zuT hs.len),zcQ]
  cases hf:s.failed
  · by_cases h0:a < 0
    · simp [zbH,h0]
    · by_cases h1:52≤a
      · simp [zbH,h0,h1]
      · simp [zbH,h0,h1]
  · simp [zbH]
theorem zBJ {T:Tb} {i:Nat} {s:DS} (h:T[i]? =some s.cells) (hs:s.Ok):zbk [.h kD i 0] [T]=some (Ans.mk (.bool s.failed) [] []):=by
  rw [zkg]
  unfold ze0
  rw [zaB h,zaB (zuT hs.len),zcQ]
theorem zww {b:List Int} (h:b.length≤4294967296) (tg:Tag):zaK [.sl tg (uL b)]=some (.sl .own (uL b)):=by
  cases b with
  | nil=>exact zgt tg
  | cons n b=>
    show zaK [.sl tg (.int .u8 n::uL b)]=some (.sl .own (.int .u8 n::uL b))
    rw [zgV,zds]
    unfold zdf
    have h1:(D.lent (.int .u8 n)::uL b)=uL (n::b):=by simp [uL]
    rw [h1]
    simp only [zd8,zBm,zgN,zab,h]
    simp [uL]
theorem zCs (w:Int×List Int):(wD w).free=true:=by
  simp only [wD,D.free,D.freeL,zpn,Bool.and_self]
theorem zCt (w:Int×List Int):(wD w).lent=wD w:=by
  simp only [wD,D.lent,D.lentL,zds]
theorem zAi (p:List (Int×List Int)):D.lentL (p.map wD)=p.map wD:=by
  induction p with
  | nil=>rfl
  | cons w p ih=>simp [ih,zCt]
theorem zDz {p:List (Int×List Int)} (h:∀ w∈p,Sec w.2):zeS 33 (p.map wD)=true:=by
  simp only [zeS,List.all_map,List.all_eq_true]
  intro w hw
  have:=(h w hw).len
  simp [wD,D.width,D.isAgg,D.cell,this]
theorem zDA {p:List (Int×List Int)} (hp:∀ w∈p,Sec w.2) (h:p.length≤4294967296) (tg:Tag):zan [.sl tg (p.map wD)]=some (.sl .own (p.map wD)):=by
  cases p with
  | nil=>exact zdJ tg
  | cons w p=>
    have hok:=zDz hp
    rw [List.map_cons] at hok ⊢
    rw [zdU,zAi,zCt]
    unfold zb3
    have hf:(wD w::p.map wD).all D.free=true:=by
      rw [←List.map_cons (f:=wD),List.all_map,List.all_eq_true]; intro w _; exact zCs w
    have hl:(wD w::p.map wD).length≤4294967296:=by simpa using h
    simp only [zab,hl,hok,hf]
theorem zCu {p:List (Int×List Int)} {k:Nat} {w:Int×List Int} (h:p[k]? =some w):(p.map wD)[k]? =some (.agg (.int .i64 w.1::uL w.2)):=by simp [h,wD]
theorem zvm (l:List D):D.width (.agg l)=l.length:=rfl
theorem zEU {T:Tb} {i:Nat} {s:DS} (h:T[i]? =some s.cells) (hs:s.Ok) (hn:s.pend.length≤1000000) (a:Int):
    zbF [.h kD i 0,.int .i64 a] [T]=some (Ans.mk (.tup [.sl .own (uL (s.read a).1),.int .i64 (s.read a).2]) [] []):=by
  rw [zmc]
  unfold zf1 DS.read
  rw [zET h hs a,zae,zb9,zb9,zaU]
  by_cases hm:s.may a=0
  · rw [hm]
    have hb:((0:Int) != 0)=false:=rfl
    rw [hb,zas,if_neg (by simp)]
    have ha:0≤a∧a < 52:=by
      unfold DS.may at hm
      split at hm
      · omega
      · split at hm<;>omega
    have hp:=zzX (s:=s) hs.len
    have hbase:=zzY (s:=s) hs.len (a:=a.toNat) (by omega)
    have hsec:=zBn hs (a:=a.toNat) (by omega)
    rw [zab ha.1,zab (by omega),zaB h,zab (by rw [zsb hs.len]; omega),Nat.zero_add,hbase]
    rw [zab (ztd _),zab (by simp [hsec.len]),zab (by simp [hsec.len]),zaB h,zaB hp,zbL,zaB h,zaB hp,zbL,zab (by simp)]
    rw [zop hsec.len,List.length_map]
    refine zcN (R:=Ans) (α:=(Int×(List D×PUnit)×(Nat×Nat×Nat)×Int×Int×PUnit)×List (List D)×PUnit)
      (fun k=>((a,(uL (look (s.pend.take k) a (s.base a.toNat)),PUnit.unit),(i,0,s.pend.length),(s.pend.length:Int),(k:Int),PUnit.unit),T,PUnit.unit)) s.pend.length (by omega) ?_ ?_
    · intro again k hk
      dsimp only
      obtain ⟨w,hw⟩:∃ w,s.pend[k]? =some w:=⟨_,List.getElem?_eq_getElem hk⟩
      have hws:=hs.ps w (List.mem_of_getElem? hw)
      have hd:decide ((k:Int) < (s.pend.length:Int))=true:=by simp; omega
      have hlk:(look (s.pend.take k) a (s.base a.toNat)).length=32:=zxo (fun w hw=>(hs.ps w (List.mem_of_mem_take hw)).len) hsec.len
      rw [hd,zaY,zaB h,zaB hp,zbL,zab (by omega),zab (by simpa using hk),zaB h,zaB hp,zbL,zaB (by simpa using zCu hw),zj2,zfD _ hws.len]
      dsimp only
      simp only [List.append_nil,List.cons_append,List.nil_append,zvm,List.length_cons,zd8,hws.len,hlk,zab]
      by_cases hwa:w.1=a
      · have hb:(w.1 == a)=true:=by simp [hwa]
        rw [hb,zaY,List.drop_succ_cons,List.drop_zero]
        have et:(uL w.2).take 32=uL w.2:=List.take_of_length_le (by simp [hws.len])
        rw [et,zab (by omega),zab (by simp [hws.len]),zab (by simp [hws.len]),zab (by omega),zaI,zah (by omega) (by omega),zCe (by simp [hws.len])]
        have e3:(uL (look (s.pend.take k) a (s.base a.toNat))).take 0++uL w.2++(uL (look (s.pend.take k) a (s.base a.toNat))).drop (0+32)=uL w.2:=by
          rw [List.drop_of_length_le (by simp [hlk])]; simp
        rw [e3,zop hws.len,zuU hw,if_pos hwa]
        rfl
      · have hb:(w.1 == a)=false:=by simp [hwa]
        rw [hb,zas,zaI,zah (by omega) (by omega),zop hlk,zuU hw,if_neg hwa]
        rfl
    · intro again
      have hlk:=zxo (p:=s.pend) (a:=a) (fun w hw=>(hs.ps w hw).len) hsec.len
      have hd:decide ((s.pend.length:Int) < (s.pend.length:Int))=false:=by simp
      dsimp only
      rw [hd,zas,List.take_length]
      simp only [List.append_nil,zd8,hlk,Nat.le_refl,zab]
      have ec:cut 0 32 (uL (look s.pend a (s.base a.toNat)))=uL (look s.pend a (s.base a.toNat)):=by
        have:=zdc (uL (look s.pend a (s.base a.toNat)))
        rw [zd8,hlk] at this; exact this
      rw [ec,zww (by rw [hlk]; omega),zae,zbL]
      simp
      rfl
  · have hb:(s.may a != 0)=true:=by simp [hm]
    rw [hb,zaY,if_pos hm]
    rfl
theorem zFO {T:Tb} {i:Nat} {s:DS} (h:T[i]? =some s.cells) (hs:s.Ok) (a:Int) (tg:Tag) (b:List Int):
    zbN [.h kD i 0,.int .i64 a,.sl tg (uL b)] [T]=some (Ans.mk (.tup [wD (putR s a b).1,.int .i64 (putR s a b).2]) [] []):=by
  rw [znl,zds]
  unfold zgZ putR
  rw [zET h hs a,zae,zb9,zb9,zaU]
  by_cases hm:s.may a=0
  · rw [hm]
    have hb:((0:Int) != 0)=false:=rfl
    rw [hb,zas,if_neg (by simp)]
    by_cases hl:b.length=32
    · have hb2:(((uL b).length:Int) != 32)=false:=by simp [hl]
      rw [hb2,zas,if_neg (by simp [hl]),zab (zxn _),zab (by simp [hl])]
      have et:(D.int .i64 a::uL b).take 33=.int .i64 a::uL b:=List.take_of_length_le (by simp [hl])
      simp only [List.append_nil,List.cons_append,List.nil_append,List.length_cons,zd8,hl,List.drop_zero,et]
      rw [zab (by omega),zfD _ hl]
      dsimp only
      simp only [zd8,hl,Nat.le_refl,zab,List.take_of_length_le,et]
      rw [zfD _ hl]
      dsimp only
      rw [zab (by simp only [D.free,D.freeL,zpn,Bool.and_self])]
      rfl
    · have hb2:(((uL b).length:Int) != 32)=true:=by simp; omega
      rw [hb2,zaY,if_pos hl]
      rfl
  · have hb:(s.may a != 0)=true:=by simp [hm]
    rw [hb,zaY,if_pos hm]
    rfl
theorem zDB (w:Int×List Int) (hw:Sec w.2) (c:Int):zaC [wD w,.at_ (.int .i64 c)]=some (.bool (w.1 == c)):=by
  unfold wD
  rw [zi4]
  unfold zej
  rw [show D.lentL (.int .i64 w.1::uL w.2)=.int .i64 w.1::uL w.2 by simp [zds],zfD _ hw.len]
theorem zwx {p:List (Int×List Int)} (hp:∀ w∈p,Sec w.2) {c:Int} (hc:∀ w∈p,w.1≠c) (hn:p.length≤1000000) (tg:Tag):
    zam [.sl tg (p.map wD),.fn ID.disk_Disk_Damage_1 [] [.at_ (.int .i64 c)]]=some (.int .i64 (-1)):=by
  rw [zcO,zAi]
  unfold zbC
  rw [List.length_map]
  refine zcN (R:=D) (α:=(List D×Int×Int×Int×PUnit)×PUnit) (fun k=>((p.map wD,c,(p.length:Int),(k:Int),PUnit.unit),PUnit.unit)) p.length (by omega) ?_ ?_
  · intro again k hk
    dsimp only
    obtain ⟨w,hw⟩:∃ w,p[k]? =some w:=⟨_,List.getElem?_eq_getElem hk⟩
    have hws:=hp w (List.mem_of_getElem? hw)
    have hd:decide ((k:Int) < (p.length:Int))=true:=by simp; omega
    rw [hd,zaY,zab (by omega),zaB (by simpa using zCu hw),zj2,zfD _ hws.len]
    dsimp only
    simp only [List.append_nil,List.cons_append,List.nil_append,zvm,List.length_cons,zd8,hws.len,zab]
    rw [zfD _ hws.len]
    dsimp only
    rw [zd8,hws.len,zab (by omega)]
    have:=zDB w hws c
    unfold wD at this
    rw [this,zae,zcQ]
    have hb:(w.1 == c)=false:=by simp [hc w (List.mem_of_getElem? hw)]
    rw [hb,zas,zaI,zah (by omega) (by omega)]
    rfl
  · intro again
    have hd:decide ((p.length:Int) < (p.length:Int))=false:=by simp
    dsimp only
    rw [hd,zas]
theorem zvn {p:List (Int×List Int)} (hp:∀ w∈p,Sec w.2) {c:Int} (hc:∀ w∈p,w.1≠c) (hn:p.length≤1000000):
    zak [.sl .own (p.map wD),.fn ID.disk_Disk_Damage_1 [] [.at_ (.int .i64 c)]] []=some (Ans.mk (.sl .own (p.map wD)) [] []):=by
  rw [zcK]
  unfold zbu
  rw [zab (by omega),zdc,zwx hp hc hn,zae,zaU]
  have hb:((-1:Int) == -1)=true:=rfl
  have hf:(p.map wD).all D.free=true:=by rw [List.all_map,List.all_eq_true]; intro w _; exact zCs w
  rw [hb,zaY,zab (by rfl),zab hf]
theorem zvo (p:List (Int×List Int)):zdN (p.map wD)=true:=by
  simp only [zdN,List.all_map,List.all_eq_true]
  intro w _
  simp [wD,D.flatEl,D.flat,uL]
theorem zBK {p:List (Int×List Int)} (h:∀ w∈p,Sec w.2):zh3 33 (p.map wD)=true:=by
  simp only [zh3,List.all_map,List.all_eq_true]
  intro w hw
  have:=(h w hw).len
  simp [wD,D.width,this]
theorem zBL {T:Tb} {i:Nat} {s:DS} (h:T[i]? =some s.cells) (hs:s.Ok) (hn:s.pend.length≤1000000) {a:Int} (hc:∀ w∈s.pend,w.1≠a) (tg:Tag) (b:List Int):
    zbm [.h kD i 0,.int .i64 a,.sl tg (uL b)] [T]=some (Ans.mk (.int .i64 (s.damage a b).1) [] [T.set i (s.damage a b).2.cells]):=by
  rw [zkB,zds]
  unfold ze9 DS.damage
  have hpl:=zBo s a b
  rw [zFO h hs,zae,zb9,zb9,zeo,zcH,zcH,zdQ]
  dsimp only
  unfold wD
  rw [zj2,zfD _ hpl,zaU]
  dsimp only
  rw [zab (by simp [hpl])]
  by_cases he:(putR s a b).2=0
  · obtain ⟨h1,h2,h3,h4,h5⟩:=zz0 he
    have hb:((putR s a b).2 != 0)=false:=by simp [he]
    rw [hb,zas,if_pos he,h3]
    try rw [he]
    dsimp only
    have et:(uL b).take 32=uL b:=List.take_of_length_le (by simp [h2])
    simp only [List.append_nil,List.cons_append,List.nil_append,List.length_cons,zd8,h2,List.drop_succ_cons,List.drop_zero,et,ztd,Nat.zero_add]
    have hlen:=hs.len
    have hset:zbt T i (a.toNat*32) (uL b)=T.set i (s.setSec a.toNat b).cells:=by
      rw [ziN h,zd8,h2,zEI hlen (by omega)]
    have hlen2:=zsc (s:=s) hlen (a:=a.toNat) (by omega) h2
    have hU:=zxh h (s.setSec a.toNat b).cells
    have hp:=zzX hlen2
    have hpe:(s.setSec a.toNat b).pend=s.pend:=rfl
    rw [zab (by first | trivial | omega),zab (by first | trivial | omega),zab h4,zab (by first | trivial | omega),zaB h,zab (by rw [zsb hlen]; omega),zab (by first | trivial | omega),zab (by first | trivial | rfl)]
    rw [zzY hlen (by first | trivial | omega),zab (ztd _),zqg,hset,zaB hU,zaB hp,zbL,zaB hU,zaB hp,zbL,zab (by first | trivial | omega),zdc,hpe]
    rw [zDA hs.ps (by first | trivial | omega),zae,zbL,zab (by first | trivial | rfl),zab (zvo _),zvn hs.ps hc hn,zae,zb9,zb9,zbL,zab (by first | trivial | omega),zaB hU,zab (by rw [zsb hlen2]; omega),
      zab (by first | trivial | rfl),zab (zvo _),zab (zBK hs.ps),zqg]
    have h6:zbt (T.set i (s.setSec a.toNat b).cells) i 1664 [.sl .own (s.pend.map wD)]=T.set i (s.setSec a.toNat b).cells:=by
      rw [ziN hU]
      have:=zyi (s:=s.setSec a.toNat b) hlen2 s.pend
      rw [show (1664:Nat)+[D.sl .own (s.pend.map wD)].length=1665 from rfl,this,List.set_set]
      rfl
    rw [h6,show s.mayW a b=0 from he]
  · have hb:((putR s a b).2 != 0)=true:=by simp [he]
    rw [hb,zaY,if_neg he]
    have:T.set i s.cells=T:=by
      apply List.ext_getElem?
      intro j
      rw [List.getElem?_set]
      split
      · rename_i e; subst e; rw [h]; simp [zaS h]
      · rfl
    rw [this]
theorem zBM (T:Tb):zn2 T=some (Ans.mk (.h kD T.length 0) [] [T++[List.replicate 1664 (D.int .u8 0)++[.sl .own [],.bool false]]]):=by kernel_rfl
theorem zFP (T:Tb):zcW [] [T]=some (Ans.mk (.h kD T.length 0) [] [T++[DS.new.cells]]):=by
  rw [ztl]
  have e:DS.new.cells=List.replicate 1664 (D.int .u8 0)++[.sl .own [],.bool false]:=by
    show uL (List.replicate 1664 0)++[.sl .own [],.bool false]=_
    rw [←zqn]
  rw [e]
  exact zBM T
section
variable {T:Tb} {i:Nat} {s:DS}
theorem ztK {β:Type} {l:List β} {n:Nat} (h:l.length=n):cut 0 n l=l:=by subst h; exact zdc l
theorem zEV (l:List Int):(uL l).map D.own0=uL l:=by
  unfold uL; rw [List.map_map]; apply List.map_congr_left; intro n _; rfl
theorem zEW (h:T[i]? =some s.cells) (hs:s.Ok):zbG [.h kD i 0] [T]=some (Ans.mk (.tup []) [] [T.set i DS.dead.cells]):=by
  rw [zmk]
  unfold zf2
  have e:List.map D.own0 (List.set (List.reverse ([D.bool false,D.sl Tag.nil []]++List.replicate 1664 (D.int IntKind.u8 (0:Int)))) 1665 (D.bool true))=DS.dead.cells:=by
    rw [List.reverse_append,List.reverse_replicate]
    show List.map D.own0 (List.set (List.replicate 1664 (D.int IntKind.u8 (0:Int))++[D.sl Tag.nil [],D.bool false]) 1665 (D.bool true))=uL (List.replicate 1664 0)++[.sl .own [],.bool true]
    rw [List.set_append_right _ _ (by rw [List.length_replicate]; omega),List.length_replicate,List.map_append,zqn,zEV]
    rfl
  have hl:DS.dead.cells.length=1666:=zsb (s:=DS.dead) (List.length_replicate ..)
  have hset:zbt T i 0 DS.dead.cells=T.set i DS.dead.cells:=by
    rw [ziN h,hl]
    rw [List.take_zero,List.nil_append,List.drop_of_length_le (by rw [zsb hs.len]; omega),List.append_nil]
  rw [e,hset,zaB h,zsb hs.len]
  simp
end
end Wf

namespace Wf
open Go Go.RowKit Go.Proofs
set_option linter.unusedSimpArgs false
set_option linter.unusedVariables false
section
variable {T0 T1:Tb} {b:Nat} {idx:List Nat} {B:Ben}
theorem At.ds (h:At T0 T1 b idx B) (hw:B.w≤1000000) (d:Int):(B.dk d).Ok∧(B.dk d).pend.length≤1000000:=by
  have:=zyj h.ok d
  exact ⟨this.1,by have:=this.2; omega⟩
theorem zBN (h:At T0 T1 b idx B):zbx [.h kB b 0] [P0 T0 b idx B]=some (Ans.mk (.int .i64 B.n) [] []):=by
  rw [zlg]
  unfold zfx
  simp [zaB h.get0,bRow,h.len,Ben.n]
theorem b_is (h:At T0 T1 b idx B) (d:Int):zal [.h kB b 0,.int .i64 d] [P0 T0 b idx B]=some (Ans.mk (.bool (B.is d)) [] []):=by
  rw [zl8]
  unfold zf0 Ben.is Ben.n
  by_cases h0:0≤d
  · simp [zaB h.get0,bRow,h0,h.len]
  · simp [h0]
theorem zBO (h:At T0 T1 b idx B) (d:Int):za6 [.h kB b 0,.int .i64 d] [P0 T0 b idx B,P1 T1 idx B]=some (Ans.mk (.bool (B.failed d)) [] []):=by
  rw [ziT]
  unfold zee Ben.failed
  cases hd:B.is d
  · simp [b_is h d,hd]
  · obtain ⟨h0,h1⟩:=zh9.1 hd
    have h1':d.toNat < idx.length:=by have:=h.len; unfold Ben.n at h1; omega
    simp (disch:=first | omega | assumption | (simp; done) | fail) [b_is h d,hd,zaB h.get0,bRow,h0,h1',zaB (h.hd hd),D.isAgg,D.width,D.cell,zBJ (h.get1 hd) (zyj h.ok d).1]
theorem zEX (h:At T0 T1 b idx B) (d:Int):zby [.h kB b 0,.int .i64 d] [P0 T0 b idx B]=some (Ans.mk (.int .i64 (B.may d)) [] []):=by
  rw [zlk]
  unfold zfy Ben.may
  cases hd:B.is d
  · simp [b_is h d,hd]
  · cases hw:B.down<;>simp [b_is h d,hd,zaB h.get0,bRow,hw]
theorem zAj (h:At T0 T1 b idx B) (hw:B.w≤1000000) (d a:Int):zaL [.h kB b 0,.int .i64 d,.int .i64 a] [P0 T0 b idx B,P1 T1 idx B]=some (Ans.mk (.tup [.sl .own (uL (B.read d a).1),.int .i64 (B.read d a).2]) [] []):=by
  rw [zki]
  unfold ze1 Ben.read
  by_cases hm:B.may d=0
  · obtain ⟨hd,hdn⟩:=may0.1 hm
    obtain ⟨h0,h1⟩:=zh9.1 hd
    have h1':d.toNat < idx.length:=by have:=h.len; unfold Ben.n at h1; omega
    have hu:=zgN ((B.dk d).read a).1
    simp only [List.all_eq_true] at hu
    simp (disch:=first | omega | assumption | (simp; done) | fail) [zEX h d,hm,zaB h.get0,bRow,h0,h1',zaB (h.hd hd),D.isAgg,D.width,D.cell,zEU (h.get1 hd) (h.ds hw d).1 (h.ds hw d).2]
  · simp [zEX h d,hm]; rfl
theorem zEY (h:At T0 T1 b idx B) (tg:Tag) (live:List Bool) {d:Int} (h0:0≤d):zbI [.h kB b 0,.sl tg (live.map D.bool),.int .i64 d] [P0 T0 b idx B,P1 T1 idx B]=some (Ans.mk (.bool (B.up live d)) [] []):=by
  have hl:D.lentL (live.map D.bool)=live.map D.bool:=by
    induction live with
    | nil=>rfl
    | cons x l ih=>simp [ih]
  rw [zrb,hl]
  unfold zl9 Ben.up
  by_cases h1:d < B.n
  · by_cases h2:d < live.length
    · have e:live[d.toNat]? =some (live[d.toNat]'(by omega)):=List.getElem?_eq_getElem (by omega)
      have e':(live.map D.bool)[d.toNat]? =some (.bool (live[d.toNat]'(by omega))):=by simp [e]
      cases hv:live[d.toNat]'(by omega)
      · rw [hv] at e e'
        simp [zBN h,h1,h2,h0,zaB e',e,hv]
      · rw [hv] at e e'
        simp [zBN h,h1,h2,h0,zaB e',e,zBO h d,hv]
    · have e:live[d.toNat]? =none:=List.getElem?_eq_none (by omega)
      simp [zBN h,h1,h2,e]
  · simp [zBN h,h1]
theorem zEZ (h:At T0 T1 b idx B) (d:Int):
    za3 [.h kB b 0,.int .i64 d] [P0 T0 b idx B,P1 T1 idx B]=some (Ans.mk (.int .i64 (B.fail d).1) [] [P1 T1 idx (B.fail d).2]):=by
  rw [zkt]
  unfold ze2 Ben.fail
  cases hd:B.is d
  · simp [b_is h d,hd]
  · obtain ⟨h0,h1⟩:=zh9.1 hd
    have h1':d.toNat < idx.length:=by have:=h.len; unfold Ben.n at h1; omega
    simp (disch:=first | omega | assumption | (simp; done) | fail) [b_is h d,hd,zaB h.get0,bRow,h0,h1',zaB (h.hd hd),D.isAgg,D.width,D.cell,zEW (h.get1 hd) (zyj h.ok d).1,h.set1 hd]
theorem zBP (h:At T0 T1 b idx B) (hw:B.w≤1000000) (d:Int) {a:Int} (hc:∀ w∈(B.dk d).pend,w.1≠a) (tg:Tag) (x:List Int):
    za7 [.h kB b 0,.int .i64 d,.int .i64 a,.sl tg (uL x)] [P0 T0 b idx B,P1 T1 idx B]=some (Ans.mk (.int .i64 (B.damage d a x).1) [] [P1 T1 idx (B.damage d a x).2]):=by
  rw [zi6,zds]
  unfold zek Ben.damage
  cases hd:B.is d
  · simp [b_is h d,hd]
  · obtain ⟨h0,h1⟩:=zh9.1 hd
    obtain ⟨ho,hp⟩:=h.ds hw d
    have h1':d.toNat < idx.length:=by have:=h.len; unfold Ben.n at h1; omega
    simp (disch:=first | omega | assumption | (simp; done) | fail) [b_is h d,hd,zaB h.get0,bRow,h0,h1',zaB (h.hd hd),D.isAgg,D.width,D.cell,zBL (h.get1 hd) ho hp hc,h.set1 hd]
end
end Wf

namespace Wf
open Go Go.RowKit Go.Proofs
set_option linter.unusedSimpArgs false
set_option linter.unusedVariables false
theorem gf_double (a:Int):zaZ [.int .u8 a]=some (.int .u8 (dbl a)):=by
  rw [zrg]
  unfold zmf dbl
  by_cases h:128≤a
  · simp [h]
  · simp [h]
theorem zE0 (a b:Int) (h0:0≤b) (h1:b < 256):zet [.int .u8 a,.int .u8 b]=some (.int .u8 (mul8 a b)):=by
  rw [zwl]
  unfold ztp
  refine zgx (fun x=>x.1.2.1.toNat) (fun _=>some (D.int .u8 (mul8 a b)))
    (fun x=>∃ (n:Nat) (a' b' o:Int),0≤b'∧b' < 2 ^ n∧n≤8∧mulA n a' b' o=mul8 a b∧x=((a',b',o,PUnit.unit),PUnit.unit)) ?_ ⟨8,a,b,0,h0,h1,Nat.le_refl _,rfl,rfl⟩ (by simp; omega)
  rintro again _ ⟨n,a',b',o,p0,p1,p2,p3,rfl⟩ hag
  dsimp only
  by_cases hb:b' > 0
  · have hd:decide (b' > 0)=true:=by simp [hb]
    rw [hd,zaY,zaI]
    cases n with
    | zero=>simp at p1; omega
    | succ n=>
      have hdiv:b'.fdiv 2=b' / 2:=Int.fdiv_eq_ediv_of_nonneg _ (by omega)
      have hlt:b' / 2 < 2 ^ n:=by
        have:(2:Int) ^ (n+1)=2 ^ n*2:=Int.pow_succ ..
        omega
      by_cases hone:bits .and .u8 b' 1=1
      · have hbo:(bits .and .u8 b' 1 == 1)=true:=by simp [hone]
        rw [hbo,zaY,zaI,gf_double,zae,zaU,zaI,hdiv]
        refine hag _ ⟨n,_,_,_,by omega,hlt,by omega,?_,rfl⟩ (by simp; omega)
        rw [←p3]
        show _=mulA n (dbl a') (b' / 2) (if bits .and .u8 b' 1=1 then xor8 o a' else o)
        rw [if_pos hone]
      · have hbo:(bits .and .u8 b' 1 == 1)=false:=by simp [hone]
        rw [hbo,zas,gf_double,zae,zaU,zaI,hdiv]
        refine hag _ ⟨n,_,_,_,by omega,hlt,by omega,?_,rfl⟩ (by simp; omega)
        rw [←p3]
        show _=mulA n (dbl a') (b' / 2) (if bits .and .u8 b' 1=1 then xor8 o a' else o)
        rw [if_neg hone]
  · have hd:decide (b' > 0)=false:=by simp [hb]
    have:b'=0:=by omega
    subst this
    rw [hd,zas,←p3,zzL]
theorem zBQ {a b:List Int} {k:Nat} {x y:Int} (h1:a[k]? =some x) (h2:b[k]? =some y):(List.zipWith xor8 a b).take (k+1)=(List.zipWith xor8 a b).take k++[xor8 x y]:=by
  rw [List.take_add_one]
  congr 1
  simp [List.getElem?_zipWith,h1,h2]
theorem zhw (t t':Tag) (a b:List Int) (ha:a.length < 100000):zaG [.sl t (uL a),.sl t' (uL b)]=some (.sl .own (uL (addL a b))):=by
  rw [ztq,zds,zds]
  unfold zod addL
  by_cases hl:a.length=b.length
  · have hb:(((uL a).length:Int) != ((uL b).length:Int))=false:=by simp [hl]
    rw [hb,zas,if_pos hl]
    let st:Nat→(List D×List D×List D×Int×Int×PUnit)×PUnit:=fun k=>((uL b,uL ((List.zipWith xor8 a b).take k),uL a,(a.length:Int),(k:Int),PUnit.unit),PUnit.unit)
    have hst:st 0=((uL b,[],uL a,((uL a).length:Int),0,PUnit.unit),PUnit.unit):=by simp [st,uL]
    rw [←hst]
    refine zb2 st a.length ha ?_ ?_
    · intro again k hk
      dsimp only [st]
      have h1:a[k]? =some a[k]:=List.getElem?_eq_getElem hk
      have h2:b[k]? =some (b[k]'(by omega)):=List.getElem?_eq_getElem (by omega)
      have hd:decide ((k:Int) < (a.length:Int))=true:=by simp; omega
      rw [hd,zaY,zab (by omega),zaB (by simpa using zje h1),zaU,zab (by omega),zaB (by simpa using zje h2),zaU,zaI,zab (by simp; omega),zab (by rfl),zaI,zah (by omega) (by omega),zab (by simp)]
      rw [zBQ h1 h2,←zzV]
      rfl
    · intro again
      dsimp only [st]
      have hd:decide ((a.length:Int) < (a.length:Int))=false:=by simp
      have ht:(List.zipWith xor8 a b).take a.length=List.zipWith xor8 a b:=List.take_of_length_le (by simp; omega)
      rw [hd,zas,zab (by rfl),zab (zgN _),ht]
  · have hb:(((uL a).length:Int) != ((uL b).length:Int))=true:=by simp; omega
    rw [hb,zaY,if_neg hl]
    rfl
theorem ziz (t:Tag) (a:List Int) (ha:a.length < 100000) {f:Int} (h0:0≤f) (h1:f < 256):zaE [.sl t (uL a),.int .u8 f]=some (.sl .own (uL (a.map (mul8 · f)))):=by
  rw [zqB,zds]
  unfold zko
  let st:Nat→(Int×List D×List D×Int×Int×PUnit)×PUnit:=fun k=>((f,uL ((a.map (mul8 · f)).take k),uL a,(a.length:Int),(k:Int),PUnit.unit),PUnit.unit)
  have hst:st 0=((f,[],uL a,((uL a).length:Int),0,PUnit.unit),PUnit.unit):=by simp [st,uL]
  rw [←hst]
  refine zb2 st a.length ha ?_ ?_
  · intro again k hk
    dsimp only [st]
    have h2:a[k]? =some a[k]:=List.getElem?_eq_getElem hk
    have hd:decide ((k:Int) < (a.length:Int))=true:=by simp; omega
    rw [hd,zaY,zab (by omega),zaB (by simpa using zje h2),zaU,zE0 _ _ h0 h1,zae,zaU,zab (by simp; omega),zab (by rfl),zaI,zah (by omega) (by omega),zab (by simp)]
    have:(a.map (mul8 · f)).take (k+1)=(a.map (mul8 · f)).take k++[mul8 a[k] f]:=by rw [List.take_add_one]; simp [h2]
    rw [this,←zzV]
    rfl
  · intro again
    dsimp only [st]
    have hd:decide ((a.length:Int) < (a.length:Int))=false:=by simp
    have ht:(a.map (mul8 · f)).take a.length=a.map (mul8 · f):=List.take_of_length_le (by simp)
    rw [hd,zas,zab (by rfl),zab (zgN _),ht]
abbrev Part:=Tag×List Int
def pL (ps:List Part):List D:=ps.map fun x=>.sl x.1 (uL x.2)
def zcp (t:Tag) (l:List Int):Tag:=match t,l with
  | .nil,_=>.nil
  | .nn,[]=>.nn
  | .nul,[]=>.nul
  | _,_=>.lent
theorem zDC (t:Tag) (l:List Int):D.lent (.sl t (uL l))=.sl (zcp t l) (uL l):=by
  have h:=zds l
  cases l with
  | nil=>cases t<;>rfl
  | cons n l=>
    have e:uL (n::l)=.int .u8 n::uL l:=rfl
    rw [e] at h ⊢
    cases t<;>simp only [D.lent,h,zcp]<;>simp [D.lentL,D.lent,zds]
theorem zdX (ps:List Part):D.lentL (pL ps)=pL (ps.map fun x=>(zcp x.1 x.2,x.2)):=by
  unfold pL
  rw [zpU,List.map_map,List.map_map]
  apply List.map_congr_left
  intro x _
  exact zDC x.1 x.2
@[simp] theorem zAk (ps:List Part):(pL ps).length=ps.length:=by simp [pL]
theorem zdh {ps:List Part} {k:Nat} {x:Part} (h:ps[k]? =some x):(pL ps)[k]? =some (.sl x.1 (uL x.2)):=by simp [pL,h]
theorem zAl (ps:List Part) (t:Tag) (l:List Int):pL ps++[.sl t (uL l)]=pL (ps++[(t,l)]):=by simp [pL]
theorem zvp (ps:List Part) (i:Nat) (t:Tag) (l:List Int):(pL ps).set i (.sl t (uL l))=pL (ps.set i (t,l)):=by simp [pL,List.map_set]
def Part.free (x:Part):Bool:=x.1=.fresh || x.1=.full || x.1=.nil
theorem zqW {ps:List Part} (h:∀ x∈ps,x.free=true):(pL ps).all D.free=true:=by
  unfold pL
  rw [List.all_map,List.all_eq_true]
  intro x hx
  have:=h x hx
  obtain ⟨t,l⟩:=x
  cases t<;>first | (exact zpn l) | (exact absurd this (by simp [Part.free]))
theorem zvq (k:Nat) (hk:k < 255):zaR [.int .i64 k]=some (.int .u8 (pow8 k)):=by
  rw [zqC]
  unfold zpo
  have e1:Int.tmod (k:Int) 255=k:=by rw [Int.tmod_eq_emod_of_nonneg (by omega),Int.emod_eq_of_lt (by omega) (by omega)]
  have e2:Int.tmod ((k:Int)+255) 255=k:=by
    rw [Int.tmod_eq_emod_of_nonneg (by omega),Int.add_emod_right,Int.emod_eq_of_lt (by omega) (by omega)]
  rw [zaI,e1,zaI,zah (by omega) (by omega),zaI,e2]
  refine zb2 (fun j=>((pow8 j,(k:Int),(j:Int),PUnit.unit),PUnit.unit)) k (by omega) ?_ ?_
  · intro again j hj
    dsimp only
    have hd:decide ((j:Int) < (k:Int))=true:=by simp; omega
    rw [hd,zaY,gf_double,zae,zaU,zaI,zah (by omega) (by omega)]
    rfl
  · intro again
    have hd:decide ((k:Int) < (k:Int))=false:=by simp
    dsimp only
    rw [hd,zas]
theorem zCv (tg:Tag) {ps:List Part} {n:Nat} (hn:n < 100000) (h0:0 < ps.length) (h1:ps.length < 255) (h:∀ x∈ps,x.2.length=n):
    zcy [.sl tg (pL ps)]=some (.sl .own (uL (sumP n (ps.map (·.2))))):=by
  rw [zwm,zdX]
  unfold ztu
  have hsum:∀ {qs:List Part},0 < qs.length→qs.length < 255→(∀ x∈qs,x.2.length=n)→∀ tg,zbM [.sl tg (pL qs),.fn ID.synd_P_1 [] []]=some (.sl .own (uL (sumP n (qs.map (·.2))))):=by
    intro qs h0 h1 h tg
    rw [zo4,zdX]
    have hl':∀ x∈(qs.map fun x=>(zcp x.1 x.2,x.2)),x.2.length=n:=by
      intro x hx; obtain ⟨y,hy,rfl⟩:=List.mem_map.1 hx; exact h y hy
    have hm:(qs.map fun x=>(zcp x.1 x.2,x.2)).map (·.2)=qs.map (·.2):=by rw [List.map_map]; rfl
    rw [←hm]
    have hlen:(qs.map fun x=>(zcp x.1 x.2,x.2)).length=qs.length:=by simp
    rw [←hlen] at h0 h1
    generalize (qs.map fun x=>(zcp x.1 x.2,x.2))=rs at*
    clear hm hlen h qs
    unfold ziW
    have hb:(((pL rs).length:Int) == 0)=false:=by simp; intro e; rw [e] at h0; simp at h0
    obtain ⟨x0,hx0⟩:∃ x,rs[0]? =some x:=⟨_,List.getElem?_eq_getElem h0⟩
    have hx0l:=hl' x0 (List.mem_of_getElem? hx0)
    rw [hb,zas,zaB (zdh hx0),zex,zab (by rfl),zd8,hx0l,zab (by omega),zab (by omega),zab (by simp),Int.toNat_natCast,zqn]
    have hls:∀ l∈rs.map (·.2),l.length=n:=by intro l hl; obtain ⟨y,hy,rfl⟩:=List.mem_map.1 hl; exact hl' y hy
    let st:Nat→(List D×List D×Int×Int×PUnit)×PUnit:=fun k=>((uL (sumK (fun _=>1) n (rs.map (·.2)) k),pL rs,((pL rs).length:Int),(k:Int),PUnit.unit),PUnit.unit)
    have hst:st 0=((uL (List.replicate n 0),pL rs,((pL rs).length:Int),0,PUnit.unit),PUnit.unit):=rfl
    rw [←hst]
    refine zb2 st rs.length (by omega) ?_ ?_
    · intro again k hk
      dsimp only [st]
      obtain ⟨x,hx⟩:∃ x,rs[k]? =some x:=⟨_,List.getElem?_eq_getElem hk⟩
      have hxl:=hl' x (List.mem_of_getElem? hx)
      have hd:decide ((k:Int) < ((pL rs).length:Int))=true:=by simp; omega
      have hsl:=zm0 (f:=fun _=>1) hls (k:=k) (by simp; omega)
      rw [hd,zaY,zab (by omega),zaB (by simpa using zdh hx),zex,zab (by omega)]
      have hb2:(((uL x.2).length:Int) != ((uL (sumK (fun _=>1) n (rs.map (·.2)) k)).length:Int))=false:=by simp [hxl,hsl]
      have hone:zbz [.int .i64 (k:Int)]=some (.int .u8 1):=by rw [ztr]; rfl
      rw [hb2,zas,hone,zae,zaU,ziz _ _ (by omega) (by omega) (by omega),zae,zbL,zab (by omega),zab (by omega),zdc,zdc,zhw _ _ _ _ (by omega),zae,zbL,zaI,
        zah (by omega) (by omega),zab (by rfl)]
      have he:addL (sumK (fun _=>1) n (rs.map (·.2)) k) (x.2.map (mul8 · 1))=sumK (fun _=>1) n (rs.map (·.2)) (k+1):=by
        unfold addL
        rw [if_pos (by simp [hsl,hxl])]
        have:(rs.map (·.2)).getD k []=x.2:=by simp [List.getD_eq_getElem?_getD,hx]
        simp only [sumK,this]
      rw [he]
      rfl
    · intro again
      dsimp only [st]
      have hd:decide ((rs.length:Int) < ((pL rs).length:Int))=false:=by simp
      rw [hd,zas,zab (by rfl),zab (zgN _)]
      simp [sumP]
  rw [hsum (by simpa using h0) (by simpa using h1) (by intro x hx; obtain ⟨y,hy,rfl⟩:=List.mem_map.1 hx; exact h y hy),zae,zbL,zab (by rfl),zab (zgN _),List.map_map]
  rfl
theorem zCw (tg:Tag) {ps:List Part} {n:Nat} (hn:n < 100000) (h0:0 < ps.length) (h1:ps.length < 255) (h:∀ x∈ps,x.2.length=n):
    zcz [.sl tg (pL ps)]=some (.sl .own (uL (sumQ n (ps.map (·.2))))):=by
  rw [zwn,zdX]
  unfold ztv
  have hsum:∀ {qs:List Part},0 < qs.length→qs.length < 255→(∀ x∈qs,x.2.length=n)→∀ tg,zbM [.sl tg (pL qs),.fn ID.gf_Pow [] []]=some (.sl .own (uL (sumQ n (qs.map (·.2))))):=by
    intro qs h0 h1 h tg
    rw [zo5,zdX]
    have hl':∀ x∈(qs.map fun x=>(zcp x.1 x.2,x.2)),x.2.length=n:=by
      intro x hx; obtain ⟨y,hy,rfl⟩:=List.mem_map.1 hx; exact h y hy
    have hm:(qs.map fun x=>(zcp x.1 x.2,x.2)).map (·.2)=qs.map (·.2):=by rw [List.map_map]; rfl
    rw [←hm]
    have hlen:(qs.map fun x=>(zcp x.1 x.2,x.2)).length=qs.length:=by simp
    rw [←hlen] at h0 h1
    generalize (qs.map fun x=>(zcp x.1 x.2,x.2))=rs at*
    clear hm hlen h qs
    unfold ziX
    have hb:(((pL rs).length:Int) == 0)=false:=by simp; intro e; rw [e] at h0; simp at h0
    obtain ⟨x0,hx0⟩:∃ x,rs[0]? =some x:=⟨_,List.getElem?_eq_getElem h0⟩
    have hx0l:=hl' x0 (List.mem_of_getElem? hx0)
    rw [hb,zas,zaB (zdh hx0),zex,zab (by rfl),zd8,hx0l,zab (by omega),zab (by omega),zab (by simp),Int.toNat_natCast,zqn]
    have hls:∀ l∈rs.map (·.2),l.length=n:=by intro l hl; obtain ⟨y,hy,rfl⟩:=List.mem_map.1 hl; exact hl' y hy
    let st:Nat→(List D×List D×Int×Int×PUnit)×PUnit:=fun k=>((uL (sumK pow8 n (rs.map (·.2)) k),pL rs,((pL rs).length:Int),(k:Int),PUnit.unit),PUnit.unit)
    have hst:st 0=((uL (List.replicate n 0),pL rs,((pL rs).length:Int),0,PUnit.unit),PUnit.unit):=rfl
    rw [←hst]
    refine zb2 st rs.length (by omega) ?_ ?_
    · intro again k hk
      dsimp only [st]
      obtain ⟨x,hx⟩:∃ x,rs[k]? =some x:=⟨_,List.getElem?_eq_getElem hk⟩
      have hxl:=hl' x (List.mem_of_getElem? hx)
      have hd:decide ((k:Int) < ((pL rs).length:Int))=true:=by simp; omega
      have hsl:=zm0 (f:=pow8) hls (k:=k) (by simp; omega)
      rw [hd,zaY,zab (by omega),zaB (by simpa using zdh hx),zex,zab (by omega)]
      have hb2:(((uL x.2).length:Int) != ((uL (sumK pow8 n (rs.map (·.2)) k)).length:Int))=false:=by simp [hxl,hsl]
      have hone:=zvq k (by omega)
      rw [hb2,zas,hone,zae,zaU,ziz _ _ (by omega) (zh7 k).1 (zh7 k).2,zae,zbL,zab (by omega),zab (by omega),zdc,zdc,zhw _ _ _ _ (by omega),zae,zbL,zaI,
        zah (by omega) (by omega),zab (by rfl)]
      have he:addL (sumK pow8 n (rs.map (·.2)) k) (x.2.map (mul8 · (pow8 k)))=sumK pow8 n (rs.map (·.2)) (k+1):=by
        unfold addL
        rw [if_pos (by simp [hsl,hxl])]
        have:(rs.map (·.2)).getD k []=x.2:=by simp [List.getD_eq_getElem?_getD,hx]
        simp only [sumK,this]
      rw [he]
      rfl
    · intro again
      dsimp only [st]
      have hd:decide ((rs.length:Int) < ((pL rs).length:Int))=false:=by simp
      rw [hd,zas,zab (by rfl),zab (zgN _)]
      simp [sumQ]
  rw [hsum (by simpa using h0) (by simpa using h1) (by intro x hx; obtain ⟨y,hy,rfl⟩:=List.mem_map.1 hx; exact h y hy),zae,zbL,zab (by rfl),zab (zgN _),List.map_map]
  rfl
end Wf

