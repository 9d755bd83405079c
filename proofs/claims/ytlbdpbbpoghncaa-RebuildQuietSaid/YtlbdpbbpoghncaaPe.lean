/- A part of the proof: lemmas that the law's row leans on. -/
import Derived.Test.YtlbdpbbpoghncaaPd
set_option linter.all false
namespace Wf
open Go Go.RowKit Go.Proofs
set_option linter.unusedVariables false
set_option maxRecDepth 100000
def zf6:Ann:={ loops:=[] }
noncomputable def zab:List D→Option D:=denP Try.prog (zay []) zf6 [0] ID.wattlekeep_Within
theorem zjo:za9 Try.prog ID.wattlekeep_Within (.pure [0] zab):=zav (zaz []) zbz ⟨Try.f16,by kernel_rfl,by kernel_rfl,by kernel_rfl⟩
noncomputable def zc0:Fact Try.prog:=⟨ID.wattlekeep_Within,(.pure [0] zab),zjo⟩
noncomputable def zeL (a0:Int) (a1:Int):Option D:=
 brK (decide (a1 < (1:Int)))
  (some (D.int IntKind.i64 (0:Int)))
  (sif (a1≠(0:Int)) <|
  letN (Int.tmod a0 a1) fun n1=>
  brK (decide (n1 < (0:Int)))
   (letN (IntKind.wrap IntKind.i64 (n1+a1)) fun n2=>
   some (D.int IntKind.i64 n2))
   (some (D.int IntKind.i64 n1)))
theorem zm8 (a0:Int) (a1:Int):denP Try.prog (zay []) zf6 [0] ID.wattlekeep_Within [.int .i64 a0,.int .i64 a1]=zeL a0 a1:=by kernel_rfl
theorem zj7 (a0:Int) (a1:Int):zab [.int .i64 a0,.int .i64 a1]=zeL a0 a1:=zm8 a0 a1
def zf7:Ann:={ loops:=[] }
noncomputable def zah:List D→Option D:=denP Try.prog (zay []) zf7 [0] ID.wattleref01_Check
theorem zjp:za9 Try.prog ID.wattleref01_Check (.pure [0] zah):=zav (zaz []) zbz ⟨Try.f53,by kernel_rfl,by kernel_rfl,by kernel_rfl⟩
noncomputable def zc1:Fact Try.prog:=⟨ID.wattleref01_Check,(.pure [0] zah),zjp⟩
noncomputable def zeM (a0_0:Int) (a0_1:Int) (a0_2:Int):Option D:=
 brK (a0_0 == (6:Int))
  (brK (a0_0 == (5:Int))
   (brK (decide (a0_1≥(4:Int)))
    (brK (decide (a0_1≤(8:Int)))
     (brK (a0_2 == (1:Int))
      (some (D.bool true))
      (brK (a0_2 == (2:Int))
       (some (D.bool true))
       (some (D.bool (a0_2 == (4:Int))))))
     (some (D.bool false)))
    (some (D.bool false)))
   (brK (a0_0 == (6:Int))
    (brK (decide (a0_1≥(4:Int)))
     (brK (decide (a0_1≤(8:Int)))
      (brK (a0_2 == (1:Int))
       (some (D.bool true))
       (brK (a0_2 == (2:Int))
        (some (D.bool true))
        (some (D.bool (a0_2 == (4:Int))))))
      (some (D.bool false)))
     (some (D.bool false)))
    (some (D.bool false))))
  (brK (a0_0 == (5:Int))
   (brK (decide (a0_1≥(3:Int)))
    (brK (decide (a0_1≤(8:Int)))
     (brK (a0_2 == (1:Int))
      (some (D.bool true))
      (brK (a0_2 == (2:Int))
       (some (D.bool true))
       (some (D.bool (a0_2 == (4:Int))))))
     (some (D.bool false)))
    (some (D.bool false)))
   (brK (a0_0 == (6:Int))
    (brK (decide (a0_1≥(3:Int)))
     (brK (decide (a0_1≤(8:Int)))
      (brK (a0_2 == (1:Int))
       (some (D.bool true))
       (brK (a0_2 == (2:Int))
        (some (D.bool true))
        (some (D.bool (a0_2 == (4:Int))))))
      (some (D.bool false)))
     (some (D.bool false)))
    (some (D.bool false))))
theorem zm9 (a0_0:Int) (a0_1:Int) (a0_2:Int):denP Try.prog (zay []) zf7 [0] ID.wattleref01_Check [.agg [.int .i64 a0_0,.int .i64 a0_1,.int .i64 a0_2]]=zeM a0_0 a0_1 a0_2:=by kernel_rfl
theorem zj8 (a0_0:Int) (a0_1:Int) (a0_2:Int):zah [.agg [.int .i64 a0_0,.int .i64 a0_1,.int .i64 a0_2]]=zeM a0_0 a0_1 a0_2:=zm9 a0_0 a0_1 a0_2
def zfw:Ann:={ loops:=[] }
noncomputable def zaD:List D→Option D:=denP Try.prog (zay [(ID.wattleref01_Check,(.pure [0] zah))]) zfw [0] ID.wattleref01_Budget
theorem ziG:za9 Try.prog ID.wattleref01_Budget (.pure [0] zaD):=zav (zaz [zc1]) zbz ⟨Try.f76,by kernel_rfl,by kernel_rfl,by kernel_rfl⟩
noncomputable def zfb:Fact Try.prog:=⟨ID.wattleref01_Budget,(.pure [0] zaD),ziG⟩
noncomputable def zer (zah:List D→Option D) (a0_0:Int) (a0_1:Int) (a0_2:Int):Option D:=
 zaq (zah [D.agg [D.int IntKind.i64 a0_0,D.int IntKind.i64 a0_1,D.int IntKind.i64 a0_2]]) fun r1=>
 asB r1 fun b2=>
 brK (!b2)
  (some (D.int IntKind.i64 (0:Int)))
  (letN (IntKind.wrap IntKind.i64 (a0_0 - (4:Int))) fun n3=>
  some (D.int IntKind.i64 n3))
theorem zl8 (zah:List D→Option D) (a0_0:Int) (a0_1:Int) (a0_2:Int):denP Try.prog (zay [(ID.wattleref01_Check,(.pure [0] zah))]) zfw [0] ID.wattleref01_Budget [.agg [.int .i64 a0_0,.int .i64 a0_1,.int .i64 a0_2]]=zer zah a0_0 a0_1 a0_2:=by kernel_rfl
theorem zjq (a0_0:Int) (a0_1:Int) (a0_2:Int):zaD [.agg [.int .i64 a0_0,.int .i64 a0_1,.int .i64 a0_2]]=zer zah a0_0 a0_1 a0_2:=zl8 zah a0_0 a0_1 a0_2
def zf8:Ann:={ loops:=[] }
noncomputable def zaf:List D→Option D:=denP Try.prog (zay [(ID.wattleref01_Check,(.pure [0] zah)),(ID.wattleref01_Budget,(.pure [0] zaD))]) zf8 [0] ID.wattleref01_Width
theorem zjr:za9 Try.prog ID.wattleref01_Width (.pure [0] zaf):=zav (zaz [zc1,zfb]) zbz ⟨Try.f32,by kernel_rfl,by kernel_rfl,by kernel_rfl⟩
noncomputable def zc2:Fact Try.prog:=⟨ID.wattleref01_Width,(.pure [0] zaf),zjr⟩
noncomputable def zeN (zah:List D→Option D) (zaD:List D→Option D) (a0_0:Int) (a0_1:Int) (a0_2:Int):Option D:=
 zaq (zah [D.agg [D.int IntKind.i64 a0_0,D.int IntKind.i64 a0_1,D.int IntKind.i64 a0_2]]) fun r1=>
 asB r1 fun b2=>
 brK (!b2)
  (some (D.int IntKind.i64 (0:Int)))
  (zaq (zaD [D.agg [D.int IntKind.i64 a0_0,D.int IntKind.i64 a0_1,D.int IntKind.i64 a0_2]]) fun r3=>
  asI IntKind.i64 r3 fun i4=>
  letN (IntKind.wrap IntKind.i64 (a0_1 - i4)) fun n5=>
  some (D.int IntKind.i64 n5))
theorem zna (zah:List D→Option D) (zaD:List D→Option D) (a0_0:Int) (a0_1:Int) (a0_2:Int):denP Try.prog (zay [(ID.wattleref01_Check,(.pure [0] zah)),(ID.wattleref01_Budget,(.pure [0] zaD))]) zf8 [0] ID.wattleref01_Width [.agg [.int .i64 a0_0,.int .i64 a0_1,.int .i64 a0_2]]=zeN zah zaD a0_0 a0_1 a0_2:=by kernel_rfl
theorem zj9 (a0_0:Int) (a0_1:Int) (a0_2:Int):zaf [.agg [.int .i64 a0_0,.int .i64 a0_1,.int .i64 a0_2]]=zeN zah zaD a0_0 a0_1 a0_2:=zna zah zaD a0_0 a0_1 a0_2
def zhd:Ann:={ loops:=[] }
noncomputable def zbo:List D→Option D:=denP Try.prog (zay [(ID.wattleref01_Check,(.pure [0] zah)),(ID.wattleref01_Width,(.pure [0] zaf))]) zhd [0] ID.wattleref01_Can
theorem zkY:za9 Try.prog ID.wattleref01_Can (.pure [0] zbo):=zav (zaz [zc1,zc2]) zbz ⟨Try.f61,by kernel_rfl,by kernel_rfl,by kernel_rfl⟩
noncomputable def zl9:Fact Try.prog:=⟨ID.wattleref01_Can,(.pure [0] zbo),zkY⟩
noncomputable def zfJ (zah:List D→Option D) (zaf:List D→Option D) (a0_0:Int) (a0_1:Int) (a0_2:Int) (a1_0:Int) (a1_1:Int) (a1_2:Int):Option D:=
 zaq (zah [D.agg [D.int IntKind.i64 a0_0,D.int IntKind.i64 a0_1,D.int IntKind.i64 a0_2]]) fun r1=>
 asB r1 fun b2=>
 brK b2
  (zaq (zah [D.agg [D.int IntKind.i64 a1_0,D.int IntKind.i64 a1_1,D.int IntKind.i64 a1_2]]) fun r3=>
  asB r3 fun b4=>
  brK b4
   (brK (!(a0_0 == a1_0 && (a0_1 == a1_1 && (a0_2 == a1_2 && true))))
    (brK (decide (a1_1≥a0_1))
     (brK (decide (a1_0≥a0_0))
      (zaq (zaf [D.agg [D.int IntKind.i64 a1_0,D.int IntKind.i64 a1_1,D.int IntKind.i64 a1_2]]) fun r5=>
      asI IntKind.i64 r5 fun i6=>
      zaq (zaf [D.agg [D.int IntKind.i64 a0_0,D.int IntKind.i64 a0_1,D.int IntKind.i64 a0_2]]) fun r7=>
      asI IntKind.i64 r7 fun i8=>
      some (D.bool (decide (i6≥i8))))
      (some (D.bool false)))
     (some (D.bool false)))
    (some (D.bool false)))
   (some (D.bool false)))
  (some (D.bool false))
theorem zo5 (zah:List D→Option D) (zaf:List D→Option D) (a0_0:Int) (a0_1:Int) (a0_2:Int) (a1_0:Int) (a1_1:Int) (a1_2:Int):denP Try.prog (zay [(ID.wattleref01_Check,(.pure [0] zah)),(ID.wattleref01_Width,(.pure [0] zaf))]) zhd [0] ID.wattleref01_Can [.agg [.int .i64 a0_0,.int .i64 a0_1,.int .i64 a0_2],.agg [.int .i64 a1_0,.int .i64 a1_1,.int .i64 a1_2]]=zfJ zah zaf a0_0 a0_1 a0_2 a1_0 a1_1 a1_2:=by kernel_rfl
theorem zma (a0_0:Int) (a0_1:Int) (a0_2:Int) (a1_0:Int) (a1_1:Int) (a1_2:Int):zbo [.agg [.int .i64 a0_0,.int .i64 a0_1,.int .i64 a0_2],.agg [.int .i64 a1_0,.int .i64 a1_1,.int .i64 a1_2]]=zfJ zah zaf a0_0 a0_1 a0_2 a1_0 a1_1 a1_2:=zo5 zah zaf a0_0 a0_1 a0_2 a1_0 a1_1 a1_2
def zhe:Ann:={ loops:=[] }
noncomputable def zbD:List D→Option D:=denP Try.prog (zay [(ID.wattlekeep_Within,(.pure [0] zab)),(ID.wattleref01_Can,(.pure [0] zbo))]) zhe [0,0] ID.wattleplay_Pair
theorem zkZ:za9 Try.prog ID.wattleplay_Pair (.pure [0,0] zbD):=zav (zaz [zc0,zl9]) zbz ⟨Try.f47,by kernel_rfl,by kernel_rfl,by kernel_rfl⟩
noncomputable def zmb:Fact Try.prog:=⟨ID.wattleplay_Pair,(.pure [0,0] zbD),zkZ⟩
noncomputable def zfK (zab:List D→Option D) (zbo:List D→Option D) (a0:Int) (a1:Int):Option D:=
 zaq (zab [D.int IntKind.i64 a0,D.int IntKind.i64 (2:Int)]) fun r1=>
 asI IntKind.i64 r1 fun i2=>
 letN (IntKind.wrap IntKind.i64 ((3:Int)+i2)) fun n3=>
 letN (IntKind.wrap IntKind.i64 (Int.tdiv a0 (2:Int))) fun n4=>
 zaq (zab [D.int IntKind.i64 n4,D.int IntKind.i64 (3:Int)]) fun r5=>
 asI IntKind.i64 r5 fun i6=>
 sif ((0:Int)≤i6) <|
 getK ([D.int IntKind.i64 (1:Int),D.int IntKind.i64 (2:Int),D.int IntKind.i64 (4:Int)]) (Int.toNat i6) fun d7=>
 asI IntKind.i64 d7 fun i8=>
 letN (IntKind.wrap IntKind.i64 (Int.tdiv a0 (6:Int))) fun n9=>
 zaq (zab [D.int IntKind.i64 n9,D.int IntKind.i64 (4:Int)]) fun r10=>
 asI IntKind.i64 r10 fun i11=>
 brK (i11 == (3:Int))
  (zaq (zab [D.int IntKind.i64 a0,D.int IntKind.i64 (2:Int)]) fun r12=>
  asI IntKind.i64 r12 fun i13=>
  letN (IntKind.wrap IntKind.i64 ((4:Int)+i13)) fun n14=>
  zaq (zab [D.int IntKind.i64 a1,D.int IntKind.i64 (3:Int)]) fun r15=>
  asI IntKind.i64 r15 fun i16=>
  letN (IntKind.wrap IntKind.i64 (n14+i16)) fun n17=>
  letN (IntKind.wrap IntKind.i64 (Int.tdiv a1 (3:Int))) fun n18=>
  zaq (zab [D.int IntKind.i64 n18,D.int IntKind.i64 (3:Int)]) fun r19=>
  asI IntKind.i64 r19 fun i20=>
  sif ((0:Int)≤i20) <|
  getK ([D.int IntKind.i64 (1:Int),D.int IntKind.i64 (2:Int),D.int IntKind.i64 (4:Int)]) (Int.toNat i20) fun d21=>
  asI IntKind.i64 d21 fun i22=>
  zaq (zbo [D.agg [D.int IntKind.i64 (6:Int),D.int IntKind.i64 n14,D.int IntKind.i64 i8],D.agg [D.int IntKind.i64 (6:Int),D.int IntKind.i64 n17,D.int IntKind.i64 i22]]) fun r23=>
  asB r23 fun b24=>
  brK (!b24)
   (letN (IntKind.wrap IntKind.i64 (n17+(1:Int))) fun n25=>
   some (D.tup [D.agg [D.int IntKind.i64 (6:Int),D.int IntKind.i64 n14,D.int IntKind.i64 i8],D.agg [D.int IntKind.i64 (6:Int),D.int IntKind.i64 n25,D.int IntKind.i64 i22]]))
   (some (D.tup [D.agg [D.int IntKind.i64 (6:Int),D.int IntKind.i64 n14,D.int IntKind.i64 i8],D.agg [D.int IntKind.i64 (6:Int),D.int IntKind.i64 n17,D.int IntKind.i64 i22]])))
  (zaq (zab [D.int IntKind.i64 a1,D.int IntKind.i64 (3:Int)]) fun r26=>
  asI IntKind.i64 r26 fun i27=>
  letN (IntKind.wrap IntKind.i64 (n3+i27)) fun n28=>
  letN (IntKind.wrap IntKind.i64 (Int.tdiv a1 (3:Int))) fun n29=>
  zaq (zab [D.int IntKind.i64 n29,D.int IntKind.i64 (3:Int)]) fun r30=>
  asI IntKind.i64 r30 fun i31=>
  sif ((0:Int)≤i31) <|
  getK ([D.int IntKind.i64 (1:Int),D.int IntKind.i64 (2:Int),D.int IntKind.i64 (4:Int)]) (Int.toNat i31) fun d32=>
  asI IntKind.i64 d32 fun i33=>
  letN (IntKind.wrap IntKind.i64 (Int.tdiv a1 (9:Int))) fun n34=>
  zaq (zab [D.int IntKind.i64 n34,D.int IntKind.i64 (2:Int)]) fun r35=>
  asI IntKind.i64 r35 fun i36=>
  brK (i36 == (1:Int))
   (letN (IntKind.wrap IntKind.i64 (n3+(1:Int))) fun n37=>
   letN (max n28 n37) fun n38=>
   zaq (zbo [D.agg [D.int IntKind.i64 (5:Int),D.int IntKind.i64 n3,D.int IntKind.i64 i8],D.agg [D.int IntKind.i64 (6:Int),D.int IntKind.i64 n38,D.int IntKind.i64 i33]]) fun r39=>
   asB r39 fun b40=>
   brK (!b40)
    (letN (IntKind.wrap IntKind.i64 (n38+(1:Int))) fun n41=>
    some (D.tup [D.agg [D.int IntKind.i64 (5:Int),D.int IntKind.i64 n3,D.int IntKind.i64 i8],D.agg [D.int IntKind.i64 (6:Int),D.int IntKind.i64 n41,D.int IntKind.i64 i33]]))
    (some (D.tup [D.agg [D.int IntKind.i64 (5:Int),D.int IntKind.i64 n3,D.int IntKind.i64 i8],D.agg [D.int IntKind.i64 (6:Int),D.int IntKind.i64 n38,D.int IntKind.i64 i33]])))
   (zaq (zbo [D.agg [D.int IntKind.i64 (5:Int),D.int IntKind.i64 n3,D.int IntKind.i64 i8],D.agg [D.int IntKind.i64 (5:Int),D.int IntKind.i64 n28,D.int IntKind.i64 i33]]) fun r42=>
   asB r42 fun b43=>
   brK (!b43)
    (letN (IntKind.wrap IntKind.i64 (n28+(1:Int))) fun n44=>
    some (D.tup [D.agg [D.int IntKind.i64 (5:Int),D.int IntKind.i64 n3,D.int IntKind.i64 i8],D.agg [D.int IntKind.i64 (5:Int),D.int IntKind.i64 n44,D.int IntKind.i64 i33]]))
    (some (D.tup [D.agg [D.int IntKind.i64 (5:Int),D.int IntKind.i64 n3,D.int IntKind.i64 i8],D.agg [D.int IntKind.i64 (5:Int),D.int IntKind.i64 n28,D.int IntKind.i64 i33]]))))
theorem zo6 (zab:List D→Option D) (zbo:List D→Option D) (a0:Int) (a1:Int):denP Try.prog (zay [(ID.wattlekeep_Within,(.pure [0] zab)),(ID.wattleref01_Can,(.pure [0] zbo))]) zhe [0,0] ID.wattleplay_Pair [.int .i64 a0,.int .i64 a1]=zfK zab zbo a0 a1:=by kernel_rfl
theorem zmc (a0:Int) (a1:Int):zbD [.int .i64 a0,.int .i64 a1]=zfK zab zbo a0 a1:=zo6 zab zbo a0 a1
def zpY:Ann:={ loops:=[],pubs:=[(1,[(0,119,7649)])],ks:=[(7649,true)] }
noncomputable def zbX:List D→List Tb→Option Ans:=denS Try.prog (zay []) zpY [0] ID.disk_New
theorem zso:za9 Try.prog ID.disk_New (.st [] [0] [(7649,true)] zbX):=za2 (zaz []) zbz ⟨Try.f80,by kernel_rfl,by kernel_rfl,by kernel_rfl⟩
noncomputable def zod:Fact Try.prog:=⟨ID.disk_New,(.st [] [0] [(7649,true)] zbX),zso⟩
noncomputable def zo7 (T0:Tb):Option Ans:=
 letT (T0++[List.map D.own0 (List.reverse ([D.bool false,D.sl Tag.nil []]++List.replicate 1664 (D.int IntKind.u8 (0:Int))))]) fun U1=>
 some (Ans.mk (D.h (7649:Nat) (List.length T0) (0:Nat)) [] [U1])
theorem zzN (T0:Tb):denS Try.prog (zay []) zpY [0] ID.disk_New [] [T0]=zo7 T0:=by kernel_rfl
theorem zuM (T0:Tb):zbX [] [T0]=zo7 T0:=zzN T0
def zoe:Ann:={ loops:=[(1,[.dead,.dead,.dead,.dead,.val (.cell (.hnd (3840:Nat))),.dead,.dead,.dead,.dead,.dead,.dead,.dead,.dead,.dead,.val (.cell (.int .i64)),.val (.cell (.int .i64))])],pubs:=[(3,[(4,63,3840)])],ks:=[(3840,true),(7649,true)] }
noncomputable def zby:List D→List Tb→Option Ans:=denS Try.prog (zay [(ID.disk_New,(.st [] [0] [(7649,true)] zbX))]) zoe [0,0] ID.bench_New
theorem zrH:za9 Try.prog ID.bench_New (.st [] [0,0] [(3840,true),(7649,true)] zby):=za2 (zaz [zod]) zbz ⟨Try.f35,by kernel_rfl,by kernel_rfl,by kernel_rfl⟩
noncomputable def zmG:Fact Try.prog:=⟨ID.bench_New,(.st [] [0,0] [(3840,true),(7649,true)] zby),zrH⟩
noncomputable def znb (zbX:List D→List Tb→Option Ans) (a0:Int) (T0:Tb) (T1:Tb):Option Ans:=
 brK (decide (a0 < (1:Int)))
  (some (Ans.mk (D.tup [D.nilp,D.int IntKind.i64 (1:Int)]) [] [T0,T1]))
  (brK (decide (a0 > (8:Int)))
   (some (Ans.mk (D.tup [D.nilp,D.int IntKind.i64 (1:Int)]) [] [T0,T1]))
   (letT (T0++[[D.own0 (D.int IntKind.i64 (0:Int)),D.own0 (D.int IntKind.i64 (-1:Int)),D.own0 (D.bool false),D.own0 (D.sl Tag.nil [])]]) fun U1=>
   zb7 (α:=(Nat×Int×Int×PUnit)×List (List D)×List (List D)×PUnit) (fun again2 ((x3,(i4,(i5,_))),(U6,(U7,_)))=>
    brK (decide (i5 < i4))
     (getK U6 x3 fun d8=>
     getK d8 ((3:Nat)) fun d9=>
     za0 d9 fun l10=>
     zaq (zbX [] [U7]) fun r11=>
     nilK r11.outs <|
     zb8 r11.tbs fun c12 q13=>
     nilK q13 <|
     sif (zha r11.r=true) <|
     sif (zdT (1:Nat) [r11.r]=true) <|
     getK U6 x3 fun d14=>
     getK d14 ((3:Nat)) fun d15=>
     za0 d15 fun l16=>
     sif (List.length l10+(1:Nat)≤(4294967296:Nat)) <|
     sif (zdT (1:Nat) [r11.r]=true) <|
     sif (List.length l10=List.length l16) <|
     letT (setT U6 x3 (3:Nat) D.undef) fun U17=>
     getK U17 x3 fun d18=>
     sif ((4:Nat)≤List.length d18) <|
     sif (List.length l10+(1:Nat)=List.length (l16++[r11.r])) <|
     sif (zdj (l16++[r11.r])=true) <|
     sif (zfv (1:Nat) (l16++[r11.r])=true) <|
     letT (zaQ U17 x3 (3:Nat) [D.sl Tag.own (l16++[r11.r])]) fun U19=>
     letN (IntKind.wrap IntKind.i64 (i5+(1:Int))) fun n20=>
     again2 (((x3,i4,n20,PUnit.unit),U19,c12,PUnit.unit)))
     (some (Ans.mk (D.tup [D.h (3840) x3 (0:Nat),D.int IntKind.i64 (0:Int)]) [] [U6,U7])))
    (((List.length T0,a0,(0:Int),PUnit.unit),U1,T1,PUnit.unit))))
theorem zxE (zbX:List D→List Tb→Option Ans) (a0:Int) (T0:Tb) (T1:Tb):denS Try.prog (zay [(ID.disk_New,(.st [] [0] [(7649,true)] zbX))]) zoe [0,0] ID.bench_New [.int .i64 a0] [T0,T1]=znb zbX a0 T0 T1:=by kernel_rfl
theorem zsp (a0:Int) (T0:Tb) (T1:Tb):zby [.int .i64 a0] [T0,T1]=znb zbX a0 T0 T1:=zxE zbX a0 T0 T1
def zhf:Ann:={ loops:=[(0,[.val (.cell (.int .i64)),.val (.cell (.int .i64)),.dead,.dead,.dead,.own 1,.dead,.dead,.dead,.dead,.val (.cell (.int .i64)),.val (.cell (.int .i64))])] }
noncomputable def zbE:List D→Option D:=denP Try.prog (zay [(ID.wattlekeep_Within,(.pure [0] zab))]) zhf [1] ID.wattleplay_Live
theorem zk0:za9 Try.prog ID.wattleplay_Live (.pure [1] zbE):=zav (zaz [zc0]) zbz ⟨Try.f18,by kernel_rfl,by kernel_rfl,by kernel_rfl⟩
noncomputable def zmd:Fact Try.prog:=⟨ID.wattleplay_Live,(.pure [1] zbE),zk0⟩
noncomputable def zfL (zab:List D→Option D) (a0:Int) (a1:Int):Option D:=
 sif ((0:Int)≤a1) <|
 sif (a1=a1) <|
 sif (a1*(1:Int)≤(140737488355328:Int)) <|
 sif (a1≤(140737488355328:Int)) <|
 sif ((0:Nat)+Int.toNat a1≤List.length (List.replicate (Int.toNat a1) (D.bool false))) <|
 sif (Int.toNat a1=List.length (List.replicate (Int.toNat a1) (D.bool false))) <|
 zb7 (α:=(Int×Int×List D×Int×Int×PUnit)×PUnit) (fun again1 ((i2,(i3,(l4,(i5,(i6,_))))),_)=>
  brK (decide (i6 < i5))
   (sif ((0:Int)≤i6) <|
   sif (Int.toNat i6 < List.length l4) <|
   getK l4 ((0:Nat)+Int.toNat i6) fun d7=>
   sif (D.isAgg d7=false) <|
   letN (IntKind.wrap IntKind.i64 (i6+(1:Int))) fun n8=>
   sif (List.length l4=List.length (List.set l4 ((0:Nat)+Int.toNat i6) (D.bool true))) <|
   again1 (((i2,i3,List.set l4 ((0:Nat)+Int.toNat i6) (D.bool true),i5,n8,PUnit.unit),PUnit.unit)))
   (brK (decide (i3 > (0:Int)))
    (zaq (zab [D.int IntKind.i64 i2,D.int IntKind.i64 (3:Int)]) fun r9=>
    asI IntKind.i64 r9 fun i10=>
    brK (decide (i10 > (0:Int)))
     (letN (IntKind.wrap IntKind.i64 (Int.tdiv i2 (3:Int))) fun n11=>
     zaq (zab [D.int IntKind.i64 n11,D.int IntKind.i64 i3]) fun r12=>
     asI IntKind.i64 r12 fun i13=>
     sif ((0:Int)≤i13) <|
     sif (Int.toNat i13 < List.length l4) <|
     getK l4 ((0:Nat)+Int.toNat i13) fun d14=>
     sif (D.isAgg d14=false) <|
     brK (decide (i3 > (0:Int)))
      (zaq (zab [D.int IntKind.i64 i2,D.int IntKind.i64 (9:Int)]) fun r15=>
      asI IntKind.i64 r15 fun i16=>
      brK (i16 == (8:Int))
       (letN (IntKind.wrap IntKind.i64 (Int.tdiv i2 (27:Int))) fun n17=>
       zaq (zab [D.int IntKind.i64 n17,D.int IntKind.i64 i3]) fun r18=>
       asI IntKind.i64 r18 fun i19=>
       sif ((0:Int)≤i19) <|
       sif (Int.toNat i19 < List.length l4) <|
       getK (List.set l4 ((0:Nat)+Int.toNat i13) (D.bool false)) ((0:Nat)+Int.toNat i19) fun d20=>
       sif (D.isAgg d20=false) <|
       sif (List.length l4=List.length (List.set (List.set l4 ((0:Nat)+Int.toNat i13) (D.bool false)) ((0:Nat)+Int.toNat i19) (D.bool false))) <|
       sif (List.all (List.set (List.set l4 ((0:Nat)+Int.toNat i13) (D.bool false)) ((0:Nat)+Int.toNat i19) (D.bool false)) D.free=true) <|
       some (D.sl Tag.own (List.set (List.set l4 ((0:Nat)+Int.toNat i13) (D.bool false)) ((0:Nat)+Int.toNat i19) (D.bool false))))
       (sif (List.length l4=List.length (List.set l4 ((0:Nat)+Int.toNat i13) (D.bool false))) <|
       sif (List.all (List.set l4 ((0:Nat)+Int.toNat i13) (D.bool false)) D.free=true) <|
       some (D.sl Tag.own (List.set l4 ((0:Nat)+Int.toNat i13) (D.bool false)))))
      (sif (List.length l4=List.length (List.set l4 ((0:Nat)+Int.toNat i13) (D.bool false))) <|
      sif (List.all (List.set l4 ((0:Nat)+Int.toNat i13) (D.bool false)) D.free=true) <|
      some (D.sl Tag.own (List.set l4 ((0:Nat)+Int.toNat i13) (D.bool false)))))
     (brK (decide (i3 > (0:Int)))
      (zaq (zab [D.int IntKind.i64 i2,D.int IntKind.i64 (9:Int)]) fun r21=>
      asI IntKind.i64 r21 fun i22=>
      brK (i22 == (8:Int))
       (letN (IntKind.wrap IntKind.i64 (Int.tdiv i2 (27:Int))) fun n23=>
       zaq (zab [D.int IntKind.i64 n23,D.int IntKind.i64 i3]) fun r24=>
       asI IntKind.i64 r24 fun i25=>
       sif ((0:Int)≤i25) <|
       sif (Int.toNat i25 < List.length l4) <|
       getK l4 ((0:Nat)+Int.toNat i25) fun d26=>
       sif (D.isAgg d26=false) <|
       sif (List.length l4=List.length (List.set l4 ((0:Nat)+Int.toNat i25) (D.bool false))) <|
       sif (List.all (List.set l4 ((0:Nat)+Int.toNat i25) (D.bool false)) D.free=true) <|
       some (D.sl Tag.own (List.set l4 ((0:Nat)+Int.toNat i25) (D.bool false))))
       (sif (List.length l4=List.length l4) <|
       sif (List.all l4 D.free=true) <|
       some (D.sl Tag.own l4)))
      (sif (List.length l4=List.length l4) <|
      sif (List.all l4 D.free=true) <|
      some (D.sl Tag.own l4))))
    (brK (decide (i3 > (0:Int)))
     (zaq (zab [D.int IntKind.i64 i2,D.int IntKind.i64 (9:Int)]) fun r27=>
     asI IntKind.i64 r27 fun i28=>
     brK (i28 == (8:Int))
      (letN (IntKind.wrap IntKind.i64 (Int.tdiv i2 (27:Int))) fun n29=>
      zaq (zab [D.int IntKind.i64 n29,D.int IntKind.i64 i3]) fun r30=>
      asI IntKind.i64 r30 fun i31=>
      sif ((0:Int)≤i31) <|
      sif (Int.toNat i31 < List.length l4) <|
      getK l4 ((0:Nat)+Int.toNat i31) fun d32=>
      sif (D.isAgg d32=false) <|
      sif (List.length l4=List.length (List.set l4 ((0:Nat)+Int.toNat i31) (D.bool false))) <|
      sif (List.all (List.set l4 ((0:Nat)+Int.toNat i31) (D.bool false)) D.free=true) <|
      some (D.sl Tag.own (List.set l4 ((0:Nat)+Int.toNat i31) (D.bool false))))
      (sif (List.length l4=List.length l4) <|
      sif (List.all l4 D.free=true) <|
      some (D.sl Tag.own l4)))
     (sif (List.length l4=List.length l4) <|
     sif (List.all l4 D.free=true) <|
     some (D.sl Tag.own l4)))))
  (((a0,a1,List.replicate (Int.toNat a1) (D.bool false),(↑(Int.toNat a1):Int),(0:Int),PUnit.unit),PUnit.unit))
theorem zo8 (zab:List D→Option D) (a0:Int) (a1:Int):denP Try.prog (zay [(ID.wattlekeep_Within,(.pure [0] zab))]) zhf [1] ID.wattleplay_Live [.int .i64 a0,.int .i64 a1]=zfL zab a0 a1:=by kernel_rfl
theorem zme (a0:Int) (a1:Int):zbE [.int .i64 a0,.int .i64 a1]=zfL zab a0 a1:=zo8 zab a0 a1
def zhg:Ann:={ loops:=[],ks:=[(3840,false)] }
noncomputable def zaw:List D→List Tb→Option Ans:=denS Try.prog (zay []) zhg [0] ID.bench_Bench_Len
theorem zk1:za9 Try.prog ID.bench_Bench_Len (.st [] [0] [(3840,false)] zaw):=za2 (zaz []) zbz ⟨Try.f68,by kernel_rfl,by kernel_rfl,by kernel_rfl⟩
noncomputable def zgw:Fact Try.prog:=⟨ID.bench_Bench_Len,(.st [] [0] [(3840,false)] zaw),zk1⟩
noncomputable def zfM (a0:Nat) (T0:Tb):Option Ans:=
 getK T0 a0 fun d1=>
 getK d1 ((3:Nat)) fun d2=>
 za0 d2 fun l3=>
 getK T0 a0 fun d4=>
 getK d4 ((3:Nat)) fun d5=>
 za0 d5 fun l6=>
 sif ((0:Nat)+List.length l3≤List.length l6) <|
 some (Ans.mk (D.int IntKind.i64 (↑(List.length l3):Int)) [] [])
theorem zo9 (a0:Nat) (T0:Tb):denS Try.prog (zay []) zhg [0] ID.bench_Bench_Len [.h 3840 a0 0] [T0]=zfM a0 T0:=by kernel_rfl
theorem zmf (a0:Nat) (T0:Tb):zaw [.h 3840 a0 0] [T0]=zfM a0 T0:=zo9 a0 T0
def zeZ:Ann:={ loops:=[(0,[.val (.cell .lent),.val (.cell (.int .i64)),.dead,.dead,.dead,.dead,.dead,.val (.cell (.int .i64)),.val (.cell (.int .i64))])] }
noncomputable def zbe:List D→Option D:=denP Try.prog (zay []) zeZ [0] ID.slices_Index_int_int
theorem zhB:za9 Try.prog ID.slices_Index_int_int (.pure [0] zbe):=zav (zaz []) zbz ⟨Try.f87,by kernel_rfl,by kernel_rfl,by kernel_rfl⟩
noncomputable def zh3:Fact Try.prog:=⟨ID.slices_Index_int_int,(.pure [0] zbe),zhB⟩
noncomputable def zdO (a0:List D) (a1:Int):Option D:=
 zb7 (α:=(List D×Int×Int×Int×PUnit)×PUnit) (fun again1 ((l2,(i3,(i4,(i5,_)))),_)=>
  brK (decide (i5 < i4))
   (sif ((0:Int)≤i5) <|
   getK l2 (Int.toNat i5) fun d6=>
   asI IntKind.i64 d6 fun i7=>
   brK (i3 == i7)
    (some (D.int IntKind.i64 i5))
    (letN (IntKind.wrap IntKind.i64 (i5+(1:Int))) fun n8=>
    again1 (((l2,i3,i4,n8,PUnit.unit),PUnit.unit))))
   (some (D.int IntKind.i64 (-1:Int))))
  (((a0,a1,(↑(List.length a0):Int),(0:Int),PUnit.unit),PUnit.unit))
theorem zka (tga0:Tag) (a0:List D) (a1:Int):denP Try.prog (zay []) zeZ [0] ID.slices_Index_int_int [.sl tga0 a0,.int .i64 a1]=zdO (D.lentL a0) a1:=by kernel_rfl
theorem zh4 (tga0:Tag) (a0:List D) (a1:Int):zbe [.sl tga0 a0,.int .i64 a1]=zdO (D.lentL a0) a1:=zka tga0 a0 a1
def zd6:Ann:={ loops:=[] }
noncomputable def zaT:List D→Option D:=denP Try.prog (zay [(ID.slices_Index_int_int,(.pure [0] zbe))]) zd6 [0] ID.slices_Contains_int_int
theorem zgm:za9 Try.prog ID.slices_Contains_int_int (.pure [0] zaT):=zav (zaz [zh3]) zbz ⟨Try.f101,by kernel_rfl,by kernel_rfl,by kernel_rfl⟩
noncomputable def zgQ:Fact Try.prog:=⟨ID.slices_Contains_int_int,(.pure [0] zaT),zgm⟩
noncomputable def zdl (zbe:List D→Option D) (a0:List D) (a1:Int):Option D:=
 zaq (zbe [D.sl Tag.lent a0,D.int IntKind.i64 a1]) fun r1=>
 asI IntKind.i64 r1 fun i2=>
 some (D.bool (decide (i2≥(0:Int))))
theorem zh5 (zbe:List D→Option D) (tga0:Tag) (a0:List D) (a1:Int):denP Try.prog (zay [(ID.slices_Index_int_int,(.pure [0] zbe))]) zd6 [0] ID.slices_Contains_int_int [.sl tga0 a0,.int .i64 a1]=zdl zbe (D.lentL a0) a1:=by kernel_rfl
theorem zgR (tga0:Tag) (a0:List D) (a1:Int):zaT [.sl tga0 a0,.int .i64 a1]=zdl zbe (D.lentL a0) a1:=zh5 zbe tga0 a0 a1
def zmH:Ann:={ loops:=[] }
noncomputable def zak:List D→Option D:=denP Try.prog (zay [(ID.slices_Contains_int_int,(.pure [0] zaT))]) zmH [0] ID.geom_Check
theorem zp7:za9 Try.prog ID.geom_Check (.pure [0] zak):=zav (zaz [zgQ]) zbz ⟨Try.f69,by kernel_rfl,by kernel_rfl,by kernel_rfl⟩
noncomputable def zdr:Fact Try.prog:=⟨ID.geom_Check,(.pure [0] zak),zp7⟩
noncomputable def zk2 (zaT:List D→Option D) (a0_0:Int) (a0_1:Int) (a0_2:Int):Option D:=
 asI IntKind.i64 (zzz a0_0 (D.int IntKind.i64 (0:Int)) (setD (6:Int) (D.int IntKind.i64 (4:Int)) (setD (5:Int) (D.int IntKind.i64 (3:Int)) []))) fun i1=>
 brK (i1 == (0:Int))
  (some (D.int IntKind.i64 (1:Int)))
  (brK (decide (a0_1 < i1))
   (some (D.int IntKind.i64 (1:Int)))
   (brK (decide (a0_1 > (8:Int)))
    (some (D.int IntKind.i64 (1:Int)))
    (zaq (zaT [D.sl Tag.full [D.int IntKind.i64 (1:Int),D.int IntKind.i64 (2:Int),D.int IntKind.i64 (4:Int)],D.int IntKind.i64 a0_2]) fun r2=>
    asB r2 fun b3=>
    brK (!b3)
     (some (D.int IntKind.i64 (1:Int)))
     (some (D.int IntKind.i64 (0:Int))))))
theorem zwo (zaT:List D→Option D) (a0_0:Int) (a0_1:Int) (a0_2:Int):denP Try.prog (zay [(ID.slices_Contains_int_int,(.pure [0] zaT))]) zmH [0] ID.geom_Check [.agg [.int .i64 a0_0,.int .i64 a0_1,.int .i64 a0_2]]=zk2 zaT a0_0 a0_1 a0_2:=by kernel_rfl
theorem zrI (a0_0:Int) (a0_1:Int) (a0_2:Int):zak [.agg [.int .i64 a0_0,.int .i64 a0_1,.int .i64 a0_2]]=zk2 zaT a0_0 a0_1 a0_2:=zwo zaT a0_0 a0_1 a0_2
def zk3:Ann:={ loops:=[] }
noncomputable def zb4:List D→Option D:=denP Try.prog (zay [(ID.geom_Check,(.pure [0] zak))]) zk3 [0] ID.rebuild_may
theorem zpa:za9 Try.prog ID.rebuild_may (.pure [0] zb4):=zav (zaz [zdr]) zbz ⟨Try.f91,by kernel_rfl,by kernel_rfl,by kernel_rfl⟩
noncomputable def zp8:Fact Try.prog:=⟨ID.rebuild_may,(.pure [0] zb4),zpa⟩
noncomputable def zjs (zak:List D→Option D) (a0_0:Int) (a0_1:Int) (a0_2:Int) (a1_0:Int) (a1_1:Int) (a1_2:Int) (a2:Int):Option D:=
 zaq (zak [D.agg [D.int IntKind.i64 a0_0,D.int IntKind.i64 a0_1,D.int IntKind.i64 a0_2]]) fun r1=>
 asI IntKind.i64 r1 fun i2=>
 brK (i2 == (0:Int))
  (brK (decide (a2≥(0:Int)))
   (brK (decide (a2≤(16:Int)))
    (brK (a2 == (0:Int))
     (some (D.bool true))
     (zaq (zak [D.agg [D.int IntKind.i64 a1_0,D.int IntKind.i64 a1_1,D.int IntKind.i64 a1_2]]) fun r3=>
     asI IntKind.i64 r3 fun i4=>
     some (D.bool (i4 == (0:Int)))))
    (some (D.bool false)))
   (some (D.bool false)))
  (some (D.bool false))
theorem zuN (zak:List D→Option D) (a0_0:Int) (a0_1:Int) (a0_2:Int) (a1_0:Int) (a1_1:Int) (a1_2:Int) (a2:Int):denP Try.prog (zay [(ID.geom_Check,(.pure [0] zak))]) zk3 [0] ID.rebuild_may [.agg [.int .i64 a0_0,.int .i64 a0_1,.int .i64 a0_2],.agg [.int .i64 a1_0,.int .i64 a1_1,.int .i64 a1_2],.int .i64 a2]=zjs zak a0_0 a0_1 a0_2 a1_0 a1_1 a1_2 a2:=by kernel_rfl
theorem zp9 (a0_0:Int) (a0_1:Int) (a0_2:Int) (a1_0:Int) (a1_1:Int) (a1_2:Int) (a2:Int):zb4 [.agg [.int .i64 a0_0,.int .i64 a0_1,.int .i64 a0_2],.agg [.int .i64 a1_0,.int .i64 a1_1,.int .i64 a1_2],.int .i64 a2]=zjs zak a0_0 a0_1 a0_2 a1_0 a1_1 a1_2 a2:=zuN zak a0_0 a0_1 a0_2 a1_0 a1_1 a1_2 a2
def zhR:Ann:={ loops:=[],ks:=[(3840,false)] }
noncomputable def zai:List D→List Tb→Option Ans:=denS Try.prog (zay []) zhR [0] ID.bench_Bench_is
theorem zmg:za9 Try.prog ID.bench_Bench_is (.st [] [0] [(3840,false)] zai):=za2 (zaz []) zbz ⟨Try.f66,by kernel_rfl,by kernel_rfl,by kernel_rfl⟩
noncomputable def zcX:Fact Try.prog:=⟨ID.bench_Bench_is,(.st [] [0] [(3840,false)] zai),zmg⟩
noncomputable def zgn (a0:Nat) (a1:Int) (T0:Tb):Option Ans:=
 brK (decide (a1≥(0:Int)))
  (getK T0 a0 fun d1=>
  getK d1 ((3:Nat)) fun d2=>
  za0 d2 fun l3=>
  getK T0 a0 fun d4=>
  getK d4 ((3:Nat)) fun d5=>
  za0 d5 fun l6=>
  sif ((0:Nat)+List.length l3≤List.length l6) <|
  some (Ans.mk (D.bool (decide (a1 < (↑(List.length l3):Int)))) [] []))
  (some (Ans.mk (D.bool false) [] []))
theorem zqa (a0:Nat) (a1:Int) (T0:Tb):denS Try.prog (zay []) zhR [0] ID.bench_Bench_is [.h 3840 a0 0,.int .i64 a1] [T0]=zgn a0 a1 T0:=by kernel_rfl
theorem znc (a0:Nat) (a1:Int) (T0:Tb):zai [.h 3840 a0 0,.int .i64 a1] [T0]=zgn a0 a1 T0:=zqa a0 a1 T0
def zgx:Ann:={ loops:=[],ks:=[(7649,false)] }
noncomputable def zaN:List D→List Tb→Option Ans:=denS Try.prog (zay []) zgx [0] ID.disk_Disk_Failed
theorem zkb:za9 Try.prog ID.disk_Disk_Failed (.st [] [0] [(7649,false)] zaN):=za2 (zaz []) zbz ⟨Try.f84,by kernel_rfl,by kernel_rfl,by kernel_rfl⟩
noncomputable def zf9:Fact Try.prog:=⟨ID.disk_Disk_Failed,(.st [] [0] [(7649,false)] zaN),zkb⟩
noncomputable def zfc (a0:Nat) (T0:Tb):Option Ans:=
 getK T0 a0 fun d1=>
 getK d1 ((1665:Nat)) fun d2=>
 asB d2 fun b3=>
 some (Ans.mk (D.bool b3) [] [])
theorem zof (a0:Nat) (T0:Tb):denS Try.prog (zay []) zgx [0] ID.disk_Disk_Failed [.h 7649 a0 0] [T0]=zfc a0 T0:=by kernel_rfl
theorem zk4 (a0:Nat) (T0:Tb):zaN [.h 7649 a0 0] [T0]=zfc a0 T0:=zof a0 T0
def zfx:Ann:={ loops:=[],ks:=[(3840,false),(7649,false)] }
noncomputable def zaA:List D→List Tb→Option Ans:=denS Try.prog (zay [(ID.bench_Bench_is,(.st [] [0] [(3840,false)] zai)),(ID.disk_Disk_Failed,(.st [] [0] [(7649,false)] zaN))]) zfx [0] ID.bench_Bench_Failed
theorem ziH:za9 Try.prog ID.bench_Bench_Failed (.st [] [0] [(3840,false),(7649,false)] zaA):=za2 (zaz [zcX,zf9]) zbz ⟨Try.f41,by kernel_rfl,by kernel_rfl,by kernel_rfl⟩
noncomputable def zfd:Fact Try.prog:=⟨ID.bench_Bench_Failed,(.st [] [0] [(3840,false),(7649,false)] zaA),ziH⟩
noncomputable def zes (zai:List D→List Tb→Option Ans) (zaN:List D→List Tb→Option Ans) (a0:Nat) (a1:Int) (T0:Tb) (T1:Tb):Option Ans:=
 zaq (zai [D.h (3840:Nat) a0 (0:Nat),D.int IntKind.i64 a1] [T0]) fun r1=>
 nilK r1.outs <|
 nilK r1.tbs <|
 asB r1.r fun b2=>
 brK b2
  (getK T0 a0 fun d3=>
  getK d3 ((3:Nat)) fun d4=>
  za0 d4 fun l5=>
  getK T0 a0 fun d6=>
  getK d6 ((3:Nat)) fun d7=>
  za0 d7 fun l8=>
  sif ((0:Int)≤a1) <|
  sif (Int.toNat a1 < List.length l5) <|
  getK T0 a0 fun d9=>
  getK d9 ((3:Nat)) fun d10=>
  za0 d10 fun l11=>
  getK l11 ((0:Nat)+Int.toNat a1) fun d12=>
  sif (D.isAgg d12=false) <|
  sif (D.width d12=(1:Nat)) <|
  sif (D.cell d12=true) <|
  zaq (zaN [d12] [T1]) fun r13=>
  nilK r13.outs <|
  nilK r13.tbs <|
  asB r13.r fun b14=>
  some (Ans.mk (D.bool b14) [] []))
  (some (Ans.mk (D.bool false) [] []))
theorem zmh (zai:List D→List Tb→Option Ans) (zaN:List D→List Tb→Option Ans) (a0:Nat) (a1:Int) (T0:Tb) (T1:Tb):denS Try.prog (zay [(ID.bench_Bench_is,(.st [] [0] [(3840,false)] zai)),(ID.disk_Disk_Failed,(.st [] [0] [(7649,false)] zaN))]) zfx [0] ID.bench_Bench_Failed [.h 3840 a0 0,.int .i64 a1] [T0,T1]=zes zai zaN a0 a1 T0 T1:=by kernel_rfl
theorem zjt (a0:Nat) (a1:Int) (T0:Tb) (T1:Tb):zaA [.h 3840 a0 0,.int .i64 a1] [T0,T1]=zes zai zaN a0 a1 T0 T1:=zmh zai zaN a0 a1 T0 T1
def zog:Ann:={ loops:=[],ks:=[(3840,false),(7649,false)] }
noncomputable def zbd:List D→List Tb→Option Ans:=denS Try.prog (zay [(ID.bench_Bench_Len,(.st [] [0] [(3840,false)] zaw)),(ID.bench_Bench_Failed,(.st [] [0] [(3840,false),(7649,false)] zaA))]) zog [0] ID.stripe_up
theorem zrJ:za9 Try.prog ID.stripe_up (.st [] [0] [(3840,false),(7649,false)] zbd):=za2 (zaz [zgw,zfd]) zbz ⟨Try.f70,by kernel_rfl,by kernel_rfl,by kernel_rfl⟩
noncomputable def zsq:Fact Try.prog:=⟨ID.stripe_up,(.st [] [0] [(3840,false),(7649,false)] zbd),zrJ⟩
noncomputable def znd (zaw:List D→List Tb→Option Ans) (zaA:List D→List Tb→Option Ans) (a0:Nat) (a1:List D) (a2:Int) (T0:Tb) (T1:Tb):Option Ans:=
 zaq (zaw [D.h (3840:Nat) a0 (0:Nat)] [T0]) fun r1=>
 nilK r1.outs <|
 nilK r1.tbs <|
 asI IntKind.i64 r1.r fun i2=>
 brK (decide (a2 < i2))
  (brK (decide (a2 < (↑(List.length a1):Int)))
   (sif ((0:Int)≤a2) <|
   getK a1 (Int.toNat a2) fun d3=>
   asB d3 fun b4=>
   brK b4
    (zaq (zaA [D.h (3840:Nat) a0 (0:Nat),D.int IntKind.i64 a2] [T0,T1]) fun r5=>
    nilK r5.outs <|
    nilK r5.tbs <|
    asB r5.r fun b6=>
    some (Ans.mk (D.bool !b6) [] []))
    (some (Ans.mk (D.bool false) [] [])))
   (some (Ans.mk (D.bool false) [] [])))
  (some (Ans.mk (D.bool false) [] []))
theorem zxF (zaw:List D→List Tb→Option Ans) (zaA:List D→List Tb→Option Ans) (tga1:Tag) (a0:Nat) (a1:List D) (a2:Int) (T0:Tb) (T1:Tb):denS Try.prog (zay [(ID.bench_Bench_Len,(.st [] [0] [(3840,false)] zaw)),(ID.bench_Bench_Failed,(.st [] [0] [(3840,false),(7649,false)] zaA))]) zog [0] ID.stripe_up [.h 3840 a0 0,.sl tga1 a1,.int .i64 a2] [T0,T1]=znd zaw zaA a0 (D.lentL a1) a2 T0 T1:=by kernel_rfl
theorem zsr (tga1:Tag) (a0:Nat) (a1:List D) (a2:Int) (T0:Tb) (T1:Tb):zbd [.h 3840 a0 0,.sl tga1 a1,.int .i64 a2] [T0,T1]=znd zaw zaA a0 (D.lentL a1) a2 T0 T1:=zxF zaw zaA tga1 a0 a1 a2 T0 T1
def zhh:Ann:={ loops:=[],ks:=[(3840,false)] }
noncomputable def zax:List D→List Tb→Option Ans:=denS Try.prog (zay [(ID.bench_Bench_is,(.st [] [0] [(3840,false)] zai))]) zhh [0] ID.bench_Bench_may
theorem zk5:za9 Try.prog ID.bench_Bench_may (.st [] [0] [(3840,false)] zax):=za2 (zaz [zcX]) zbz ⟨Try.f85,by kernel_rfl,by kernel_rfl,by kernel_rfl⟩
noncomputable def zet:Fact Try.prog:=⟨ID.bench_Bench_may,(.st [] [0] [(3840,false)] zax),zk5⟩
noncomputable def zfN (zai:List D→List Tb→Option Ans) (a0:Nat) (a1:Int) (T0:Tb):Option Ans:=
 zaq (zai [D.h (3840:Nat) a0 (0:Nat),D.int IntKind.i64 a1] [T0]) fun r1=>
 nilK r1.outs <|
 nilK r1.tbs <|
 asB r1.r fun b2=>
 brK (!b2)
  (some (Ans.mk (D.int IntKind.i64 (1:Int)) [] []))
  (getK T0 a0 fun d3=>
  getK d3 ((2:Nat)) fun d4=>
  asB d4 fun b5=>
  brK b5
   (some (Ans.mk (D.int IntKind.i64 (6:Int)) [] []))
   (some (Ans.mk (D.int IntKind.i64 (0:Int)) [] [])))
theorem zpb (zai:List D→List Tb→Option Ans) (a0:Nat) (a1:Int) (T0:Tb):denS Try.prog (zay [(ID.bench_Bench_is,(.st [] [0] [(3840,false)] zai))]) zhh [0] ID.bench_Bench_may [.h 3840 a0 0,.int .i64 a1] [T0]=zfN zai a0 a1 T0:=by kernel_rfl
theorem zmi (a0:Nat) (a1:Int) (T0:Tb):zax [.h 3840 a0 0,.int .i64 a1] [T0]=zfN zai a0 a1 T0:=zpb zai a0 a1 T0
def ziI:Ann:={ loops:=[],ks:=[(7649,false)] }
noncomputable def za3:List D→List Tb→Option Ans:=denS Try.prog (zay []) ziI [0] ID.disk_Disk_may
theorem zne:za9 Try.prog ID.disk_Disk_may (.st [] [0] [(7649,false)] za3):=za2 (zaz []) zbz ⟨Try.f118,by kernel_rfl,by kernel_rfl,by kernel_rfl⟩
noncomputable def zhS:Fact Try.prog:=⟨ID.disk_Disk_may,(.st [] [0] [(7649,false)] za3),zne⟩
noncomputable def zhi (a0:Nat) (a1:Int) (T0:Tb):Option Ans:=
 getK T0 a0 fun d1=>
 getK d1 ((1665:Nat)) fun d2=>
 asB d2 fun b3=>
 brK b3
  (some (Ans.mk (D.int IntKind.i64 (5:Int)) [] []))
  (brK (decide (a1 < (0:Int)))
   (some (Ans.mk (D.int IntKind.i64 (4:Int)) [] []))
   (brK (decide (a1≥(52:Int)))
    (some (Ans.mk (D.int IntKind.i64 (4:Int)) [] []))
    (some (Ans.mk (D.int IntKind.i64 (0:Int)) [] []))))
theorem zrK (a0:Nat) (a1:Int) (T0:Tb):denS Try.prog (zay []) ziI [0] ID.disk_Disk_may [.h 7649 a0 0,.int .i64 a1] [T0]=zhi a0 a1 T0:=by kernel_rfl
theorem zoh (a0:Nat) (a1:Int) (T0:Tb):za3 [.h 7649 a0 0,.int .i64 a1] [T0]=zhi a0 a1 T0:=zrK a0 a1 T0
def zeo:Ann:={ loops:=[] }
noncomputable def zan:List D→Option D:=denE Try.prog (zay []) zeo [1] ID.slices_Clone_byte_byte
theorem zgS:za9 Try.prog ID.slices_Clone_byte_byte (.pure [1] zan):=ztj (zaz []) zbz ⟨Try.f109,by kernel_rfl,by kernel_rfl,by kernel_rfl⟩
noncomputable def zd7:Fact Try.prog:=⟨ID.slices_Clone_byte_byte,(.pure [1] zan),zgS⟩
noncomputable def zds (a0:D) (b0:List D):Option D:=
 sif (List.length (a0::b0)≤(4294967296:Nat)) <|
 sif (zdT (1:Nat) (a0::b0)=true) <|
 sif (List.length (a0::b0)=List.length (a0::b0)) <|
 sif (List.all (a0::b0) D.free=true) <|
 some (D.sl Tag.own (a0::b0))
theorem ziJ (tga0:Tag) (a0:D) (b0:List D):denE Try.prog (zay []) zeo [1] ID.slices_Clone_byte_byte [.sl tga0 (a0::b0)]=zds (D.lent a0) (D.lentL b0):=by kernel_rfl
theorem zhj (tga0:Tag) (a0:D) (b0:List D):zan [.sl tga0 (a0::b0)]=zds (D.lent a0) (D.lentL b0):=ziJ tga0 a0 b0
theorem zgT (tg:Tag):zan [.sl tg []]=some (.sl .own []):=(zpV (some (.sl .own [])))
def zhT:Ann:={ loops:=[(1,[.dead,.val (.cell (.int .i64)),.dead,.dead,.dead,.dead,.dead,.box true [(.arr 32)],.dead,.dead,.dead,.dead,.dead,.dead,.dead,.dead,.dead,.dead,.dead,.dead,.dead,.dead,.dead,.dead,.dead,.view 7649 1664,.val (.cell (.int .i64)),.val (.cell (.int .i64))])],ks:=[(7649,false)] }
noncomputable def zbN:List D→List Tb→Option Ans:=denS Try.prog (zay [(ID.disk_Disk_may,(.st [] [0] [(7649,false)] za3)),(ID.slices_Clone_byte_byte,(.pure [1] zan))]) zhT [1,0] ID.disk_Disk_Read
theorem zmj:za9 Try.prog ID.disk_Disk_Read (.st [] [1,0] [(7649,false)] zbN):=za2 (zaz [zhS,zd7]) zbz ⟨Try.f86,by kernel_rfl,by kernel_rfl,by kernel_rfl⟩
noncomputable def znf:Fact Try.prog:=⟨ID.disk_Disk_Read,(.st [] [1,0] [(7649,false)] zbN),zmj⟩
noncomputable def zgo (za3:List D→List Tb→Option Ans) (zan:List D→Option D) (a0:Nat) (a1:Int) (T0:Tb):Option Ans:=
 zaq (za3 [D.h (7649:Nat) a0 (0:Nat),D.int IntKind.i64 a1] [T0]) fun r1=>
 nilK r1.outs <|
 nilK r1.tbs <|
 asI IntKind.i64 r1.r fun i2=>
 brK (i2 != (0:Int))
  (some (Ans.mk (D.tup [D.sl Tag.own [],D.int IntKind.i64 i2]) [] []))
  (sif ((0:Int)≤a1) <|
  sif (Int.toNat a1 < (52:Nat)) <|
  getK T0 a0 fun d3=>
  sif ((0:Nat)+Int.toNat a1*(32:Nat)+(32:Nat)≤List.length d3) <|
  sif (ze3 (List.take (32:Nat) (List.drop ((0:Nat)+Int.toNat a1*(32:Nat)) d3))=true) <|
  sif (List.length (List.take (32:Nat) (List.drop ((0:Nat)+Int.toNat a1*(32:Nat)) d3))=(32:Nat)) <|
  sif (List.length (List.take (32:Nat) (List.drop ((0:Nat)+Int.toNat a1*(32:Nat)) d3))=(32:Nat)) <|
  getK T0 a0 fun d4=>
  getK d4 ((1664:Nat)) fun d5=>
  za0 d5 fun l6=>
  getK T0 a0 fun d7=>
  getK d7 ((1664:Nat)) fun d8=>
  za0 d8 fun l9=>
  sif ((0:Nat)+List.length l6≤List.length l9) <|
  zat ([Lf.arr (32)]) (List.take (32:Nat) (List.drop ((0:Nat)+Int.toNat a1*(32:Nat)) d3)) fun c10=>
  zb7 (α:=(Int×(List D×PUnit)×(Nat×Nat×Nat)×Int×Int×PUnit)×List (List D)×PUnit) (fun again11 ((i12,((l13,_),((x14,(x15,x16)),(i17,(i18,_))))),(U19,_))=>
   brK (decide (i18 < i17))
    (getK U19 x14 fun d20=>
    getK d20 ((1664:Nat)) fun d21=>
    za0 d21 fun l22=>
    sif ((0:Int)≤i18) <|
    sif (Int.toNat i18 < x16) <|
    getK U19 x14 fun d23=>
    getK d23 ((1664:Nat)) fun d24=>
    za0 d24 fun l25=>
    getK l25 (x15+Int.toNat i18) fun d26=>
    asAgg d26 fun cs27=>
    zat ([Lf.int IntKind.i64,Lf.arr (32)]) cs27 fun c28=>
    sif (D.width (D.agg ([D.int IntKind.i64 c28.fst]++(c28.snd.fst++[])))=(33:Nat)) <|
    sif (List.length ([D.int IntKind.i64 c28.fst]++(c28.snd.fst++[]))=(33:Nat)) <|
    brK (c28.fst == i12)
     (sif ((33:Nat)≤List.length ([D.int IntKind.i64 c28.fst]++(c28.snd.fst++[]))) <|
     sif (List.length (List.take (32:Nat) (List.drop (1:Nat) ([D.int IntKind.i64 c28.fst]++(c28.snd.fst++[]))))=(32:Nat)) <|
     sif (List.length (List.take (32:Nat) (List.drop (1:Nat) ([D.int IntKind.i64 c28.fst]++(c28.snd.fst++[]))))=(32:Nat)) <|
     sif ((32:Nat)≤List.length (l13++[])) <|
     letN (IntKind.wrap IntKind.i64 (i18+(1:Int))) fun n29=>
     zat ([Lf.arr (32)]) (spl (0:Nat) (32:Nat) (l13++[]) (List.take (32:Nat) (List.drop (1:Nat) ([D.int IntKind.i64 c28.fst]++(c28.snd.fst++[]))))) fun c30=>
     again11 (((i12,c30,(x14,x15,x16),i17,n29,PUnit.unit),U19,PUnit.unit)))
     (letN (IntKind.wrap IntKind.i64 (i18+(1:Int))) fun n31=>
     zat ([Lf.arr (32)]) (l13++[]) fun c32=>
     again11 (((i12,c32,(x14,x15,x16),i17,n31,PUnit.unit),U19,PUnit.unit))))
    (sif ((32:Nat)≤List.length (l13++[])) <|
    sif ((32:Nat)≤List.length (l13++[])) <|
    zaq (zan [D.sl Tag.lent (cut (0:Nat) (32:Nat) (l13++[]))]) fun r33=>
    za0 r33 fun l34=>
    sif (List.length l34=List.length l34) <|
    sif (List.all l34 D.free=true) <|
    some (Ans.mk (D.tup [D.sl Tag.own l34,D.int IntKind.i64 (0:Int)]) [] [])))
   (((a1,c10,(a0,(0:Nat),List.length l6),(↑(List.length l6):Int),(0:Int),PUnit.unit),T0,PUnit.unit)))
theorem zqb (za3:List D→List Tb→Option Ans) (zan:List D→Option D) (a0:Nat) (a1:Int) (T0:Tb):denS Try.prog (zay [(ID.disk_Disk_may,(.st [] [0] [(7649,false)] za3)),(ID.slices_Clone_byte_byte,(.pure [1] zan))]) zhT [1,0] ID.disk_Disk_Read [.h 7649 a0 0,.int .i64 a1] [T0]=zgo za3 zan a0 a1 T0:=by kernel_rfl
theorem zng (a0:Nat) (a1:Int) (T0:Tb):zbN [.h 7649 a0 0,.int .i64 a1] [T0]=zgo za3 zan a0 a1 T0:=zqb za3 zan a0 a1 T0
def zgy:Ann:={ loops:=[],ks:=[(3840,false),(7649,false)] }
noncomputable def zau:List D→List Tb→Option Ans:=denS Try.prog (zay [(ID.bench_Bench_may,(.st [] [0] [(3840,false)] zax)),(ID.disk_Disk_Read,(.st [] [1,0] [(7649,false)] zbN))]) zgy [1,0] ID.bench_Bench_Read
theorem zkc:za9 Try.prog ID.bench_Bench_Read (.st [] [1,0] [(3840,false),(7649,false)] zau):=za2 (zaz [zet,znf]) zbz ⟨Try.f42,by kernel_rfl,by kernel_rfl,by kernel_rfl⟩
noncomputable def zga:Fact Try.prog:=⟨ID.bench_Bench_Read,(.st [] [1,0] [(3840,false),(7649,false)] zau),zkc⟩
noncomputable def zfe (zax:List D→List Tb→Option Ans) (zbN:List D→List Tb→Option Ans) (a0:Nat) (a1:Int) (a2:Int) (T0:Tb) (T1:Tb):Option Ans:=
 zaq (zax [D.h (3840:Nat) a0 (0:Nat),D.int IntKind.i64 a1] [T0]) fun r1=>
 nilK r1.outs <|
 nilK r1.tbs <|
 asI IntKind.i64 r1.r fun i2=>
 brK (i2 != (0:Int))
  (some (Ans.mk (D.tup [D.sl Tag.own [],D.int IntKind.i64 i2]) [] []))
  (getK T0 a0 fun d3=>
  getK d3 ((3:Nat)) fun d4=>
  za0 d4 fun l5=>
  getK T0 a0 fun d6=>
  getK d6 ((3:Nat)) fun d7=>
  za0 d7 fun l8=>
  sif ((0:Int)≤a1) <|
  sif (Int.toNat a1 < List.length l5) <|
  getK T0 a0 fun d9=>
  getK d9 ((3:Nat)) fun d10=>
  za0 d10 fun l11=>
  getK l11 ((0:Nat)+Int.toNat a1) fun d12=>
  sif (D.isAgg d12=false) <|
  sif (D.width d12=(1:Nat)) <|
  sif (D.cell d12=true) <|
  zaq (zbN [d12,D.int IntKind.i64 a2] [T1]) fun r13=>
  nilK r13.outs <|
  nilK r13.tbs <|
  zdG r13.r fun ts14=>
  zat ([Lf.any,Lf.any]) ts14 fun c15=>
  za0 c15.fst fun l16=>
  asI IntKind.i64 c15.snd.fst fun i17=>
  sif (List.length l16=List.length l16) <|
  sif (List.all l16 D.free=true) <|
  some (Ans.mk (D.tup [D.sl Tag.own l16,D.int IntKind.i64 i17]) [] []))
theorem zoi (zax:List D→List Tb→Option Ans) (zbN:List D→List Tb→Option Ans) (a0:Nat) (a1:Int) (a2:Int) (T0:Tb) (T1:Tb):denS Try.prog (zay [(ID.bench_Bench_may,(.st [] [0] [(3840,false)] zax)),(ID.disk_Disk_Read,(.st [] [1,0] [(7649,false)] zbN))]) zgy [1,0] ID.bench_Bench_Read [.h 3840 a0 0,.int .i64 a1,.int .i64 a2] [T0,T1]=zfe zax zbN a0 a1 a2 T0 T1:=by kernel_rfl
theorem zk6 (a0:Nat) (a1:Int) (a2:Int) (T0:Tb) (T1:Tb):zau [.h 3840 a0 0,.int .i64 a1,.int .i64 a2] [T0,T1]=zfe zax zbN a0 a1 a2 T0 T1:=zoi zax zbN a0 a1 a2 T0 T1
def ztt:Ann:={ loops:=[] }
noncomputable def zcG:List D→Option D:=denP Try.prog (zay [(ID.geom_Check,(.pure [0] zak))]) ztt [0] ID.row_in
theorem zwp:za9 Try.prog ID.row_in (.pure [0] zcG):=zav (zaz [zdr]) zbz ⟨Try.f102,by kernel_rfl,by kernel_rfl,by kernel_rfl⟩
noncomputable def zrL:Fact Try.prog:=⟨ID.row_in,(.pure [0] zcG),zwp⟩
noncomputable def zuO (zak:List D→Option D) (a0_0:Int) (a0_1:Int) (a0_2:Int) (a1:Int):Option D:=
 zaq (zak [D.agg [D.int IntKind.i64 a0_0,D.int IntKind.i64 a0_1,D.int IntKind.i64 a0_2]]) fun r1=>
 asI IntKind.i64 r1 fun i2=>
 brK (i2 == (0:Int))
  (brK (decide (a1≥(0:Int)))
   (some (D.bool (decide (a1 < (16:Int)))))
   (some (D.bool false)))
  (some (D.bool false))
theorem zDh (zak:List D→Option D) (a0_0:Int) (a0_1:Int) (a0_2:Int) (a1:Int):denP Try.prog (zay [(ID.geom_Check,(.pure [0] zak))]) ztt [0] ID.row_in [.agg [.int .i64 a0_0,.int .i64 a0_1,.int .i64 a0_2],.int .i64 a1]=zuO zak a0_0 a0_1 a0_2 a1:=by kernel_rfl
theorem zxG (a0_0:Int) (a0_1:Int) (a0_2:Int) (a1:Int):zcG [.agg [.int .i64 a0_0,.int .i64 a0_1,.int .i64 a0_2],.int .i64 a1]=zuO zak a0_0 a0_1 a0_2 a1:=zDh zak a0_0 a0_1 a0_2 a1
def zk7:Ann:={ loops:=[] }
noncomputable def zbp:List D→Option D:=denP Try.prog (zay [(ID.geom_Check,(.pure [0] zak))]) zk7 [0] ID.geom_Budget
theorem zpc:za9 Try.prog ID.geom_Budget (.pure [0] zbp):=zav (zaz [zdr]) zbz ⟨Try.f127,by kernel_rfl,by kernel_rfl,by kernel_rfl⟩
noncomputable def zjX:Fact Try.prog:=⟨ID.geom_Budget,(.pure [0] zbp),zpc⟩
noncomputable def zju (zak:List D→Option D) (a0_0:Int) (a0_1:Int) (a0_2:Int):Option D:=
 zaq (zak [D.agg [D.int IntKind.i64 a0_0,D.int IntKind.i64 a0_1,D.int IntKind.i64 a0_2]]) fun r1=>
 asI IntKind.i64 r1 fun i2=>
 brK (i2 != (0:Int))
  (some (D.int IntKind.i64 (0:Int)))
  (letN (IntKind.wrap IntKind.i64 (a0_0 - (4:Int))) fun n3=>
  some (D.int IntKind.i64 n3))
theorem zuP (zak:List D→Option D) (a0_0:Int) (a0_1:Int) (a0_2:Int):denP Try.prog (zay [(ID.geom_Check,(.pure [0] zak))]) zk7 [0] ID.geom_Budget [.agg [.int .i64 a0_0,.int .i64 a0_1,.int .i64 a0_2]]=zju zak a0_0 a0_1 a0_2:=by kernel_rfl
theorem zqc (a0_0:Int) (a0_1:Int) (a0_2:Int):zbp [.agg [.int .i64 a0_0,.int .i64 a0_1,.int .i64 a0_2]]=zju zak a0_0 a0_1 a0_2:=zuP zak a0_0 a0_1 a0_2
def zmI:Ann:={ loops:=[] }
noncomputable def zaV:List D→Option D:=denP Try.prog (zay [(ID.geom_Check,(.pure [0] zak)),(ID.geom_Budget,(.pure [0] zbp))]) zmI [0] ID.geom_Width
theorem zqd:za9 Try.prog ID.geom_Width (.pure [0] zaV):=zav (zaz [zdr,zjX]) zbz ⟨Try.f103,by kernel_rfl,by kernel_rfl,by kernel_rfl⟩
noncomputable def zhk:Fact Try.prog:=⟨ID.geom_Width,(.pure [0] zaV),zqd⟩
noncomputable def zk8 (zak:List D→Option D) (zbp:List D→Option D) (a0_0:Int) (a0_1:Int) (a0_2:Int):Option D:=
 zaq (zak [D.agg [D.int IntKind.i64 a0_0,D.int IntKind.i64 a0_1,D.int IntKind.i64 a0_2]]) fun r1=>
 asI IntKind.i64 r1 fun i2=>
 brK (i2 != (0:Int))
  (some (D.int IntKind.i64 (0:Int)))
  (zaq (zbp [D.agg [D.int IntKind.i64 a0_0,D.int IntKind.i64 a0_1,D.int IntKind.i64 a0_2]]) fun r3=>
  asI IntKind.i64 r3 fun i4=>
  letN (IntKind.wrap IntKind.i64 (a0_1 - i4)) fun n5=>
  some (D.int IntKind.i64 n5))
theorem zwq (zak:List D→Option D) (zbp:List D→Option D) (a0_0:Int) (a0_1:Int) (a0_2:Int):denP Try.prog (zay [(ID.geom_Check,(.pure [0] zak)),(ID.geom_Budget,(.pure [0] zbp))]) zmI [0] ID.geom_Width [.agg [.int .i64 a0_0,.int .i64 a0_1,.int .i64 a0_2]]=zk8 zak zbp a0_0 a0_1 a0_2:=by kernel_rfl
theorem zrM (a0_0:Int) (a0_1:Int) (a0_2:Int):zaV [.agg [.int .i64 a0_0,.int .i64 a0_1,.int .i64 a0_2]]=zk8 zak zbp a0_0 a0_1 a0_2:=zwq zak zbp a0_0 a0_1 a0_2
def zpZ:Ann:={ loops:=[] }
noncomputable def zbY:List D→Option D:=denP Try.prog (zay [(ID.geom_Check,(.pure [0] zak))]) zpZ [0] ID.place_in
theorem zss:za9 Try.prog ID.place_in (.pure [0] zbY):=zav (zaz [zdr]) zbz ⟨Try.f106,by kernel_rfl,by kernel_rfl,by kernel_rfl⟩
noncomputable def zoj:Fact Try.prog:=⟨ID.place_in,(.pure [0] zbY),zss⟩
noncomputable def zpd (zak:List D→Option D) (a0_0:Int) (a0_1:Int) (a0_2:Int) (a1:Int):Option D:=
 zaq (zak [D.agg [D.int IntKind.i64 a0_0,D.int IntKind.i64 a0_1,D.int IntKind.i64 a0_2]]) fun r1=>
 asI IntKind.i64 r1 fun i2=>
 brK (i2 == (0:Int))
  (brK (decide (a1≥(0:Int)))
   (some (D.bool (decide (a1 < (16:Int)))))
   (some (D.bool false)))
  (some (D.bool false))
theorem zzO (zak:List D→Option D) (a0_0:Int) (a0_1:Int) (a0_2:Int) (a1:Int):denP Try.prog (zay [(ID.geom_Check,(.pure [0] zak))]) zpZ [0] ID.place_in [.agg [.int .i64 a0_0,.int .i64 a0_1,.int .i64 a0_2],.int .i64 a1]=zpd zak a0_0 a0_1 a0_2 a1:=by kernel_rfl
theorem zuQ (a0_0:Int) (a0_1:Int) (a0_2:Int) (a1:Int):zbY [.agg [.int .i64 a0_0,.int .i64 a0_1,.int .i64 a0_2],.int .i64 a1]=zpd zak a0_0 a0_1 a0_2 a1:=zzO zak a0_0 a0_1 a0_2 a1
def zjY:Ann:={ loops:=[] }
noncomputable def zaK:List D→Option D:=denP Try.prog (zay [(ID.place_in,(.pure [0] zbY))]) zjY [0,0] ID.place_Parity
theorem zok:za9 Try.prog ID.place_Parity (.pure [0,0] zaK):=zav (zaz [zoj]) zbz ⟨Try.f88,by kernel_rfl,by kernel_rfl,by kernel_rfl⟩
noncomputable def zfO:Fact Try.prog:=⟨ID.place_Parity,(.pure [0,0] zaK),zok⟩
noncomputable def zh6 (zbY:List D→Option D) (a0_0:Int) (a0_1:Int) (a0_2:Int) (a1:Int):Option D:=
 zaq (zbY [D.agg [D.int IntKind.i64 a0_0,D.int IntKind.i64 a0_1,D.int IntKind.i64 a0_2],D.int IntKind.i64 a1]) fun r1=>
 asB r1 fun b2=>
 brK (!b2)
  (some (D.tup [D.int IntKind.i64 (-1:Int),D.int IntKind.i64 (-1:Int)]))
  (letN (IntKind.wrap IntKind.i64 (a0_1 - (1:Int))) fun n3=>
  sif (a0_2≠(0:Int)) <|
  letN (IntKind.wrap IntKind.i64 (Int.tdiv a1 a0_2)) fun n4=>
  sif (a0_1≠(0:Int)) <|
  letN (Int.tmod n4 a0_1) fun n5=>
  letN (IntKind.wrap IntKind.i64 (n3 - n5)) fun n6=>
  brK (a0_0 == (5:Int))
   (some (D.tup [D.int IntKind.i64 n6,D.int IntKind.i64 (-1:Int)]))
   (letN (IntKind.wrap IntKind.i64 (n6+(1:Int))) fun n7=>
   sif (a0_1≠(0:Int)) <|
   letN (Int.tmod n7 a0_1) fun n8=>
   some (D.tup [D.int IntKind.i64 n6,D.int IntKind.i64 n8])))
theorem zst (zbY:List D→Option D) (a0_0:Int) (a0_1:Int) (a0_2:Int) (a1:Int):denP Try.prog (zay [(ID.place_in,(.pure [0] zbY))]) zjY [0,0] ID.place_Parity [.agg [.int .i64 a0_0,.int .i64 a0_1,.int .i64 a0_2],.int .i64 a1]=zh6 zbY a0_0 a0_1 a0_2 a1:=by kernel_rfl
theorem zpe (a0_0:Int) (a0_1:Int) (a0_2:Int) (a1:Int):zaK [.agg [.int .i64 a0_0,.int .i64 a0_1,.int .i64 a0_2],.int .i64 a1]=zh6 zbY a0_0 a0_1 a0_2 a1:=zst zbY a0_0 a0_1 a0_2 a1
def zmJ:Ann:={ loops:=[] }
noncomputable def zbt:List D→Option D:=denP Try.prog (zay [(ID.place_in,(.pure [0] zbY)),(ID.geom_Width,(.pure [0] zaV)),(ID.place_Parity,(.pure [0,0] zaK)),(ID.geom_Budget,(.pure [0] zbp))]) zmJ [0] ID.place_Disk
theorem zqe:za9 Try.prog ID.place_Disk (.pure [0] zbt):=zav (zaz [zoj,zhk,zfO,zjX]) zbz ⟨Try.f104,by kernel_rfl,by kernel_rfl,by kernel_rfl⟩
noncomputable def zk9:Fact Try.prog:=⟨ID.place_Disk,(.pure [0] zbt),zqe⟩
noncomputable def zla (zbY:List D→Option D) (zaV:List D→Option D) (zaK:List D→Option D) (zbp:List D→Option D) (a0_0:Int) (a0_1:Int) (a0_2:Int) (a1:Int) (a2:Int):Option D:=
 zaq (zbY [D.agg [D.int IntKind.i64 a0_0,D.int IntKind.i64 a0_1,D.int IntKind.i64 a0_2],D.int IntKind.i64 a1]) fun r1=>
 asB r1 fun b2=>
 brK (!b2)
  (some (D.int IntKind.i64 (-1:Int)))
  (brK (decide (a2 < (0:Int)))
   (some (D.int IntKind.i64 (-1:Int)))
   (zaq (zaV [D.agg [D.int IntKind.i64 a0_0,D.int IntKind.i64 a0_1,D.int IntKind.i64 a0_2]]) fun r3=>
   asI IntKind.i64 r3 fun i4=>
   brK (decide (a2≥i4))
    (some (D.int IntKind.i64 (-1:Int)))
    (zaq (zaK [D.agg [D.int IntKind.i64 a0_0,D.int IntKind.i64 a0_1,D.int IntKind.i64 a0_2],D.int IntKind.i64 a1]) fun r5=>
    zdG r5 fun ts6=>
    zat ([Lf.any,Lf.any]) ts6 fun c7=>
    asI IntKind.i64 c7.fst fun i8=>
    asI IntKind.i64 c7.snd.fst fun i9=>
    zaq (zbp [D.agg [D.int IntKind.i64 a0_0,D.int IntKind.i64 a0_1,D.int IntKind.i64 a0_2]]) fun r10=>
    asI IntKind.i64 r10 fun i11=>
    letN (IntKind.wrap IntKind.i64 (i8+i11)) fun n12=>
    letN (IntKind.wrap IntKind.i64 (n12+a2)) fun n13=>
    sif (a0_1≠(0:Int)) <|
    letN (Int.tmod n13 a0_1) fun n14=>
    some (D.int IntKind.i64 n14))))
theorem zwr (zbY:List D→Option D) (zaV:List D→Option D) (zaK:List D→Option D) (zbp:List D→Option D) (a0_0:Int) (a0_1:Int) (a0_2:Int) (a1:Int) (a2:Int):denP Try.prog (zay [(ID.place_in,(.pure [0] zbY)),(ID.geom_Width,(.pure [0] zaV)),(ID.place_Parity,(.pure [0,0] zaK)),(ID.geom_Budget,(.pure [0] zbp))]) zmJ [0] ID.place_Disk [.agg [.int .i64 a0_0,.int .i64 a0_1,.int .i64 a0_2],.int .i64 a1,.int .i64 a2]=zla zbY zaV zaK zbp a0_0 a0_1 a0_2 a1 a2:=by kernel_rfl
theorem zrN (a0_0:Int) (a0_1:Int) (a0_2:Int) (a1:Int) (a2:Int):zbt [.agg [.int .i64 a0_0,.int .i64 a0_1,.int .i64 a0_2],.int .i64 a1,.int .i64 a2]=zla zbY zaV zaK zbp a0_0 a0_1 a0_2 a1 a2:=zwr zbY zaV zaK zbp a0_0 a0_1 a0_2 a1 a2
def ziK:Ann:={ loops:=[(0,[.dead,.dead,.dead,.own 1,.dead,.dead,.val (.cell .lent),.val (.cell (.int .i64)),.val (.cell (.int .i64))])] }
noncomputable def zbJ:List D→Option D:=denP Try.prog (zay []) ziK [1] ID.erase_Missing
theorem znh:za9 Try.prog ID.erase_Missing (.pure [1] zbJ):=zav (zaz []) zbz ⟨Try.f128,by kernel_rfl,by kernel_rfl,by kernel_rfl⟩
noncomputable def zol:Fact Try.prog:=⟨ID.erase_Missing,(.pure [1] zbJ),znh⟩
noncomputable def zhl (a0:List D):Option D:=
 zb7 (α:=(List D×List D×Int×Int×PUnit)×PUnit) (fun again1 ((l2,(l3,(i4,(i5,_)))),_)=>
  brK (decide (i5 < i4))
   (sif ((0:Int)≤i5) <|
   getK l3 (Int.toNat i5) fun d6=>
   asSl d6 fun t7 l8=>
   brK ((↑(List.length l8):Int) == (0:Int))
    (sif (List.length l2+(1:Nat)≤(4294967296:Nat)) <|
    sif (List.length l2=List.length l2) <|
    letN (IntKind.wrap IntKind.i64 (i5+(1:Int))) fun n9=>
    sif (List.length l2+(1:Nat)=List.length (l2++[D.int IntKind.i64 i5])) <|
    again1 (((l2++[D.int IntKind.i64 i5],l3,i4,n9,PUnit.unit),PUnit.unit)))
    (letN (IntKind.wrap IntKind.i64 (i5+(1:Int))) fun n10=>
    sif (List.length l2=List.length l2) <|
    again1 (((l2,l3,i4,n10,PUnit.unit),PUnit.unit))))
   (sif (List.length l2=List.length l2) <|
   sif (List.all l2 D.free=true) <|
   some (D.sl Tag.own l2)))
  ((([],a0,(↑(List.length a0):Int),(0:Int),PUnit.unit),PUnit.unit))
theorem zrO (tga0:Tag) (a0:List D):denP Try.prog (zay []) ziK [1] ID.erase_Missing [.sl tga0 a0]=zhl (D.lentL a0):=by kernel_rfl
theorem zom (tga0:Tag) (a0:List D):zbJ [.sl tga0 a0]=zhl (D.lentL a0):=zrO tga0 a0
def zjZ:Ann:={ loops:=[],hints:=[(1,.at1 (.int .i64))] }
noncomputable def zaE:List D→Option D:=denP Try.prog (zay []) zjZ [0] ID.erase_fits_1
theorem zon:za9 Try.prog ID.erase_fits_1 (.pure [0] zaE):=zav (zaz []) zbz ⟨Try.f140,by kernel_rfl,by kernel_rfl,by kernel_rfl⟩
noncomputable def ziL:Fact Try.prog:=⟨ID.erase_fits_1,(.pure [0] zaE),zon⟩
noncomputable def zh7 (a0:List D) (c0:Int):Option D:=
 brK (decide ((↑(List.length a0):Int) > (0:Int)))
  (some (D.bool ((↑(List.length a0):Int) != c0)))
  (some (D.bool false))
theorem zsu (tga0:Tag) (a0:List D) (c0:Int):denP Try.prog (zay []) zjZ [0] ID.erase_fits_1 [.sl tga0 a0,.at_ (.int .i64 c0)]=zh7 (D.lentL a0) c0:=by kernel_rfl
theorem zpf (tga0:Tag) (a0:List D) (c0:Int):zaE [.sl tga0 a0,.at_ (.int .i64 c0)]=zh7 (D.lentL a0) c0:=zsu tga0 a0 c0
def ziM:Ann:={ loops:=[] }
noncomputable def zap:List D→Option D:=denP Try.prog (zay []) ziM [0] ID.row_sectors_1
theorem zni:za9 Try.prog ID.row_sectors_1 (.pure [0] zap):=zav (zaz []) zbz ⟨Try.f135,by kernel_rfl,by kernel_rfl,by kernel_rfl⟩
noncomputable def zff:Fact Try.prog:=⟨ID.row_sectors_1,(.pure [0] zap),zni⟩
noncomputable def zhm (a0:List D):Option D:=
 some (D.bool ((↑(List.length a0):Int) != (32:Int)))
theorem zrP (tga0:Tag) (a0:List D):denP Try.prog (zay []) ziM [0] ID.row_sectors_1 [.sl tga0 a0]=zhm (D.lentL a0):=by kernel_rfl
theorem zoo (tga0:Tag) (a0:List D):zap [.sl tga0 a0]=zhm (D.lentL a0):=zrP tga0 a0
def zcC:List (Nat×Ann):=[(140,{ loops:=[(0,[.val (.cell .lent),.val (.fn1 (140:FuncId) (.int .i64)),.dead,.dead,.dead,.dead,.dead,.val (.cell (.int .i64)),.val (.cell (.int .i64))])] }),(135,{ loops:=[(0,[.val (.cell .lent),.fnc 135,.dead,.dead,.dead,.dead,.dead,.val (.cell (.int .i64)),.val (.cell (.int .i64))])] })]
noncomputable def zaj:List D→Option D:=denA Try.prog (zay [(ID.erase_fits_1,(.pure [0] zaE)),(ID.row_sectors_1,(.pure [0] zap))]) zcC [0] ID.slices_IndexFunc_byte_byte
theorem zfu:za9 Try.prog ID.slices_IndexFunc_byte_byte (.pure [0] zaj):=ztk (zaz [ziL,zff]) zbz ⟨Try.f143,by kernel_rfl,by kernel_rfl,by kernel_rfl⟩
noncomputable def zfP:Fact Try.prog:=⟨ID.slices_IndexFunc_byte_byte,(.pure [0] zaj),zfu⟩
noncomputable def zcm (zaE:List D→Option D) (zap:List D→Option D) (a0:List D) (c0:Int):Option D:=
 zb7 (α:=(List D×Int×Int×Int×PUnit)×PUnit) (fun again1 ((l2,(i3,(i4,(i5,_)))),_)=>
  brK (decide (i5 < i4))
   (sif ((0:Int)≤i5) <|
   getK l2 (Int.toNat i5) fun d6=>
   asSl d6 fun t7 l8=>
   zaq (zaE [D.sl t7 l8,D.at_ (D.int IntKind.i64 i3)]) fun r9=>
   asB r9 fun b10=>
   brK b10
    (some (D.int IntKind.i64 i5))
    (letN (IntKind.wrap IntKind.i64 (i5+(1:Int))) fun n11=>
    again1 (((l2,i3,i4,n11,PUnit.unit),PUnit.unit))))
   (some (D.int IntKind.i64 (-1:Int))))
  (((a0,c0,(↑(List.length a0):Int),(0:Int),PUnit.unit),PUnit.unit))
theorem ze4 (zaE:List D→Option D) (zap:List D→Option D) (tga0:Tag) (a0:List D) (c0:Int):denA Try.prog (zay [(ID.erase_fits_1,(.pure [0] zaE)),(ID.row_sectors_1,(.pure [0] zap))]) zcC [0] ID.slices_IndexFunc_byte_byte [.sl tga0 a0,.fn 140 [] [.at_ (.int .i64 c0)]]=zcm zaE zap (D.lentL a0) c0:=by kernel_rfl
theorem zeu (tga0:Tag) (a0:List D) (c0:Int):zaj [.sl tga0 a0,.fn 140 [] [.at_ (.int .i64 c0)]]=zcm zaE zap (D.lentL a0) c0:=ze4 zaE zap tga0 a0 c0
noncomputable def zcb (zaE:List D→Option D) (zap:List D→Option D) (a0:List D):Option D:=
 zb7 (α:=(List D×Int×Int×PUnit)×PUnit) (fun again1 ((l2,(i3,(i4,_))),_)=>
  brK (decide (i4 < i3))
   (sif ((0:Int)≤i4) <|
   getK l2 (Int.toNat i4) fun d5=>
   asSl d5 fun t6 l7=>
   zaq (zap [D.sl t6 l7]) fun r8=>
   asB r8 fun b9=>
   brK b9
    (some (D.int IntKind.i64 i4))
    (letN (IntKind.wrap IntKind.i64 (i4+(1:Int))) fun n10=>
    again1 (((l2,i3,n10,PUnit.unit),PUnit.unit))))
   (some (D.int IntKind.i64 (-1:Int))))
  (((a0,(↑(List.length a0):Int),(0:Int),PUnit.unit),PUnit.unit))
theorem zev (zaE:List D→Option D) (zap:List D→Option D) (tga0:Tag) (a0:List D):denA Try.prog (zay [(ID.erase_fits_1,(.pure [0] zaE)),(ID.row_sectors_1,(.pure [0] zap))]) zcC [0] ID.slices_IndexFunc_byte_byte [.sl tga0 a0,.fn 135 [] []]=zcb zaE zap (D.lentL a0):=by kernel_rfl
theorem zdV (tga0:Tag) (a0:List D):zaj [.sl tga0 a0,.fn 135 [] []]=zcb zaE zap (D.lentL a0):=zev zaE zap tga0 a0
def zcq:Ann:={ loops:=[] }
noncomputable def zae:List D→Option D:=denP Try.prog (zay [(ID.slices_IndexFunc_byte_byte,(.pure [0] zaj)),(ID.erase_fits_1,(.pure [0] zaE)),(ID.row_sectors_1,(.pure [0] zap))]) zcq [0] ID.slices_ContainsFunc_byte_byte
theorem zeO:za9 Try.prog ID.slices_ContainsFunc_byte_byte (.pure [0] zae):=zav (zaz [zfP,ziL,zff]) zbz ⟨Try.f134,by kernel_rfl,by kernel_rfl,by kernel_rfl⟩
noncomputable def zc5:Fact Try.prog:=⟨ID.slices_ContainsFunc_byte_byte,(.pure [0] zae),zeO⟩
noncomputable def zcc (zaj:List D→Option D) (zaE:List D→Option D) (zap:List D→Option D) (a0:List D) (c0:Int):Option D:=
 zaq (zaj [D.sl Tag.lent a0,D.fn (140:FuncId) [] [D.at_ (D.int IntKind.i64 c0)]]) fun r1=>
 asI IntKind.i64 r1 fun i2=>
 some (D.bool (decide (i2≥(0:Int))))
theorem zew (zaj:List D→Option D) (zaE:List D→Option D) (zap:List D→Option D) (tga0:Tag) (a0:List D) (c0:Int):denP Try.prog (zay [(ID.slices_IndexFunc_byte_byte,(.pure [0] zaj)),(ID.erase_fits_1,(.pure [0] zaE)),(ID.row_sectors_1,(.pure [0] zap))]) zcq [0] ID.slices_ContainsFunc_byte_byte [.sl tga0 a0,.fn 140 [] [.at_ (.int .i64 c0)]]=zcc zaj zaE zap (D.lentL a0) c0:=by kernel_rfl
theorem zdW (tga0:Tag) (a0:List D) (c0:Int):zae [.sl tga0 a0,.fn 140 [] [.at_ (.int .i64 c0)]]=zcc zaj zaE zap (D.lentL a0) c0:=zew zaj zaE zap tga0 a0 c0
noncomputable def zbW (zaj:List D→Option D) (zaE:List D→Option D) (zap:List D→Option D) (a0:List D):Option D:=
 zaq (zaj [D.sl Tag.lent a0,D.fn (135:FuncId) [] []]) fun r1=>
 asI IntKind.i64 r1 fun i2=>
 some (D.bool (decide (i2≥(0:Int))))
theorem zdX (zaj:List D→Option D) (zaE:List D→Option D) (zap:List D→Option D) (tga0:Tag) (a0:List D):denP Try.prog (zay [(ID.slices_IndexFunc_byte_byte,(.pure [0] zaj)),(ID.erase_fits_1,(.pure [0] zaE)),(ID.row_sectors_1,(.pure [0] zap))]) zcq [0] ID.slices_ContainsFunc_byte_byte [.sl tga0 a0,.fn 135 [] []]=zbW zaj zaE zap (D.lentL a0):=by kernel_rfl
theorem zdC (tga0:Tag) (a0:List D):zae [.sl tga0 a0,.fn 135 [] []]=zbW zaj zaE zap (D.lentL a0):=zdX zaj zaE zap tga0 a0
def zmK:Ann:={ loops:=[] }
noncomputable def zce:List D→Option D:=denP Try.prog (zay [(ID.slices_ContainsFunc_byte_byte,(.pure [0] zae))]) zmK [0] ID.erase_fits
theorem zqf:za9 Try.prog ID.erase_fits (.pure [0] zce):=zav (zaz [zc5]) zbz ⟨Try.f129,by kernel_rfl,by kernel_rfl,by kernel_rfl⟩
noncomputable def zrQ:Fact Try.prog:=⟨ID.erase_fits,(.pure [0] zce),zqf⟩
noncomputable def zlb (zae:List D→Option D) (a0:Int) (a1:List D):Option D:=
 zaq (zae [D.sl Tag.lent a1,D.fn (140:Nat) [] [D.at_ (D.int IntKind.i64 a0)]]) fun r1=>
 asB r1 fun b2=>
 some (D.bool !b2)
theorem zws (zae:List D→Option D) (tga1:Tag) (a0:Int) (a1:List D):denP Try.prog (zay [(ID.slices_ContainsFunc_byte_byte,(.pure [0] zae))]) zmK [0] ID.erase_fits [.int .i64 a0,.sl tga1 a1]=zlb zae a0 (D.lentL a1):=by kernel_rfl
theorem zrR (tga1:Tag) (a0:Int) (a1:List D):zce [.int .i64 a0,.sl tga1 a1]=zlb zae a0 (D.lentL a1):=zws zae tga1 a0 a1
def zj0:Ann:={ loops:=[(0,[.val (.cell (.int .i64)),.dead,.dead,.dead,.dead,.own 1,.dead,.dead,.dead,.val (.cell .lent),.val (.cell (.int .i64)),.val (.cell (.int .i64))])] }
noncomputable def zbT:List D→Option D:=denP Try.prog (zay []) zj0 [1] ID.erase_filled
theorem zop:za9 Try.prog ID.erase_filled (.pure [1] zbT):=zav (zaz []) zbz ⟨Try.f130,by kernel_rfl,by kernel_rfl,by kernel_rfl⟩
noncomputable def zpg:Fact Try.prog:=⟨ID.erase_filled,(.pure [1] zbT),zop⟩
noncomputable def zh8 (a0:Int) (a1:List D):Option D:=
 zb7 (α:=(Int×List D×List D×Int×Int×PUnit)×PUnit) (fun again1 ((i2,(l3,(l4,(i5,(i6,_))))),_)=>
  brK (decide (i6 < i5))
   (sif ((0:Int)≤i6) <|
   getK l4 (Int.toNat i6) fun d7=>
   asSl d7 fun t8 l9=>
   sif ((0:Int)≤i2) <|
   sif (i2=i2) <|
   sif (i2*(1:Int)≤(140737488355328:Int)) <|
   sif (i2≤(140737488355328:Int)) <|
   sif ((0:Nat)+Int.toNat i2≤List.length (List.replicate (Int.toNat i2) (D.int IntKind.u8 (0:Int)))) <|
   sif (cells l9=true) <|
   sif ((0:Nat)+Int.toNat i2≤List.length ([]++List.take (Int.toNat i2) l9++List.drop ((0:Nat)+List.length (List.take (Int.toNat i2) l9)) (List.replicate (Int.toNat i2) (D.int IntKind.u8 (0:Int))))) <|
   sif (List.length l3+(1:Nat)≤(4294967296:Nat)) <|
   sif (List.length l3=List.length l3) <|
   letN (IntKind.wrap IntKind.i64 (i6+(1:Int))) fun n10=>
   sif (List.length l3+(1:Nat)=List.length (l3++[D.sl Tag.fresh (cut (0:Nat) (Int.toNat i2) ([]++List.take (Int.toNat i2) l9++List.drop ((0:Nat)+List.length (List.take (Int.toNat i2) l9)) (List.replicate (Int.toNat i2) (D.int IntKind.u8 (0:Int)))))])) <|
   again1 (((i2,l3++[D.sl Tag.fresh (cut (0:Nat) (Int.toNat i2) ([]++List.take (Int.toNat i2) l9++List.drop ((0:Nat)+List.length (List.take (Int.toNat i2) l9)) (List.replicate (Int.toNat i2) (D.int IntKind.u8 (0:Int)))))],l4,i5,n10,PUnit.unit),PUnit.unit)))
   (sif (List.length l3=List.length l3) <|
   sif (List.all l3 D.free=true) <|
   some (D.sl Tag.own l3)))
  (((a0,[],a1,(↑(List.length a1):Int),(0:Int),PUnit.unit),PUnit.unit))
theorem zsv (tga1:Tag) (a0:Int) (a1:List D):denP Try.prog (zay []) zj0 [1] ID.erase_filled [.int .i64 a0,.sl tga1 a1]=zh8 a0 (D.lentL a1):=by kernel_rfl
theorem zph (tga1:Tag) (a0:Int) (a1:List D):zbT [.int .i64 a0,.sl tga1 a1]=zh8 a0 (D.lentL a1):=zsv tga1 a0 a1
def zoq:Ann:={ loops:=[] }
noncomputable def za7:List D→Option D:=denP Try.prog (zay []) zoq [0] ID.gf_double
theorem zrS:za9 Try.prog ID.gf_double (.pure [0] za7):=zav (zaz []) zbz ⟨Try.f144,by kernel_rfl,by kernel_rfl,by kernel_rfl⟩
noncomputable def zh9:Fact Try.prog:=⟨ID.gf_double,(.pure [0] za7),zrS⟩
noncomputable def znj (a0:Int):Option D:=
 brK (decide (a0≥(128:Int)))
  (letN (IntKind.wrap IntKind.u8 (a0*(2:Int))) fun n1=>
  letN (bits BinOp.xor IntKind.u8 n1 (29:Int)) fun n2=>
  some (D.int IntKind.u8 n2))
  (letN (IntKind.wrap IntKind.u8 (a0*(2:Int))) fun n3=>
  some (D.int IntKind.u8 n3))
theorem zxH (a0:Int):denP Try.prog (zay []) zoq [0] ID.gf_double [.int .u8 a0]=znj a0:=by kernel_rfl
theorem zsw (a0:Int):za7 [.int .u8 a0]=znj a0:=zxH a0
def ztu:Ann:={ loops:=[(0,[.val (.cell (.int .u8)),.val (.cell (.int .u8)),.dead,.dead,.dead,.val (.cell (.int .u8))])] }
noncomputable def zeG:List D→Option D:=denP Try.prog (zay [(ID.gf_double,(.pure [0] za7))]) ztu [0] ID.gf_Mul
theorem zwt:za9 Try.prog ID.gf_Mul (.pure [0] zeG):=zav (zaz [zh9]) zbz ⟨Try.f146,by kernel_rfl,by kernel_rfl,by kernel_rfl⟩
noncomputable def zxI:Fact Try.prog:=⟨ID.gf_Mul,(.pure [0] zeG),zwt⟩
noncomputable def zuR (za7:List D→Option D) (a0:Int) (a1:Int):Option D:=
 zb7 (α:=(Int×Int×Int×PUnit)×PUnit) (fun again1 ((i2,(i3,(i4,_))),_)=>
  brK (decide (i3 > (0:Int)))
   (letN (bits BinOp.and IntKind.u8 i3 (1:Int)) fun n5=>
   brK (n5 == (1:Int))
    (letN (bits BinOp.xor IntKind.u8 i4 i2) fun n6=>
    zaq (za7 [D.int IntKind.u8 i2]) fun r7=>
    asI IntKind.u8 r7 fun i8=>
    letN (Int.fdiv i3 (2:Int)) fun n9=>
    again1 (((i8,n9,n6,PUnit.unit),PUnit.unit)))
    (zaq (za7 [D.int IntKind.u8 i2]) fun r10=>
    asI IntKind.u8 r10 fun i11=>
    letN (Int.fdiv i3 (2:Int)) fun n12=>
    again1 (((i11,n12,i4,PUnit.unit),PUnit.unit))))
   (some (D.int IntKind.u8 i4)))
  (((a0,a1,(0:Int),PUnit.unit),PUnit.unit))
theorem zDi (za7:List D→Option D) (a0:Int) (a1:Int):denP Try.prog (zay [(ID.gf_double,(.pure [0] za7))]) ztu [0] ID.gf_Mul [.int .u8 a0,.int .u8 a1]=zuR za7 a0 a1:=by kernel_rfl
theorem zxJ (a0:Int) (a1:Int):zeG [.int .u8 a0,.int .u8 a1]=zuR za7 a0 a1:=zDi za7 a0 a1
def zmL:Ann:={ loops:=[(0,[.dead,.val (.cell (.int .u8)),.dead,.dead,.dead,.own 1,.dead,.dead,.val (.cell .lent),.val (.cell (.int .i64)),.val (.cell (.int .i64))])] }
noncomputable def zaJ:List D→Option D:=denP Try.prog (zay [(ID.gf_Mul,(.pure [0] zeG))]) zmL [1] ID.synd_Scale
theorem zqg:za9 Try.prog ID.synd_Scale (.pure [1] zaJ):=zav (zaz [zxI]) zbz ⟨Try.f142,by kernel_rfl,by kernel_rfl,by kernel_rfl⟩
noncomputable def zhn:Fact Try.prog:=⟨ID.synd_Scale,(.pure [1] zaJ),zqg⟩
noncomputable def zlc (zeG:List D→Option D) (a0:List D) (a1:Int):Option D:=
 zb7 (α:=(Int×List D×List D×Int×Int×PUnit)×PUnit) (fun again1 ((i2,(l3,(l4,(i5,(i6,_))))),_)=>
  brK (decide (i6 < i5))
   (sif ((0:Int)≤i6) <|
   getK l4 (Int.toNat i6) fun d7=>
   asI IntKind.u8 d7 fun i8=>
   zaq (zeG [D.int IntKind.u8 i8,D.int IntKind.u8 i2]) fun r9=>
   asI IntKind.u8 r9 fun i10=>
   sif (List.length l3+(1:Nat)≤(4294967296:Nat)) <|
   sif (List.length l3=List.length l3) <|
   letN (IntKind.wrap IntKind.i64 (i6+(1:Int))) fun n11=>
   sif (List.length l3+(1:Nat)=List.length (l3++[D.int IntKind.u8 i10])) <|
   again1 (((i2,l3++[D.int IntKind.u8 i10],l4,i5,n11,PUnit.unit),PUnit.unit)))
   (sif (List.length l3=List.length l3) <|
   sif (List.all l3 D.free=true) <|
   some (D.sl Tag.own l3)))
  (((a1,[],a0,(↑(List.length a0):Int),(0:Int),PUnit.unit),PUnit.unit))
theorem zwu (zeG:List D→Option D) (tga0:Tag) (a0:List D) (a1:Int):denP Try.prog (zay [(ID.gf_Mul,(.pure [0] zeG))]) zmL [1] ID.synd_Scale [.sl tga0 a0,.int .u8 a1]=zlc zeG (D.lentL a0) a1:=by kernel_rfl
theorem zrT (tga0:Tag) (a0:List D) (a1:Int):zaJ [.sl tga0 a0,.int .u8 a1]=zlc zeG (D.lentL a0) a1:=zwu zeG tga0 a0 a1
def zp0:Ann:={ loops:=[(1,[.dead,.val (.cell .lent),.dead,.dead,.dead,.own 1,.dead,.dead,.dead,.dead,.dead,.dead,.dead,.val (.cell .lent),.val (.cell (.int .i64)),.val (.cell (.int .i64))])] }
noncomputable def zaL:List D→Option D:=denP Try.prog (zay []) zp0 [1] ID.synd_Add
theorem zsx:za9 Try.prog ID.synd_Add (.pure [1] zaL):=zav (zaz []) zbz ⟨Try.f132,by kernel_rfl,by kernel_rfl,by kernel_rfl⟩
noncomputable def zgU:Fact Try.prog:=⟨ID.synd_Add,(.pure [1] zaL),zsx⟩
noncomputable def zpi (a0:List D) (a1:List D):Option D:=
 brK ((↑(List.length a0):Int) != (↑(List.length a1):Int))
  (some (D.sl Tag.own []))
  (zb7 (α:=(List D×List D×List D×Int×Int×PUnit)×PUnit) (fun again1 ((l2,(l3,(l4,(i5,(i6,_))))),_)=>
   brK (decide (i6 < i5))
    (sif ((0:Int)≤i6) <|
    getK l4 (Int.toNat i6) fun d7=>
    asI IntKind.u8 d7 fun i8=>
    sif ((0:Int)≤i6) <|
    getK l2 (Int.toNat i6) fun d9=>
    asI IntKind.u8 d9 fun i10=>
    letN (bits BinOp.xor IntKind.u8 i8 i10) fun n11=>
    sif (List.length l3+(1:Nat)≤(4294967296:Nat)) <|
    sif (List.length l3=List.length l3) <|
    letN (IntKind.wrap IntKind.i64 (i6+(1:Int))) fun n12=>
    sif (List.length l3+(1:Nat)=List.length (l3++[D.int IntKind.u8 n11])) <|
    again1 (((l2,l3++[D.int IntKind.u8 n11],l4,i5,n12,PUnit.unit),PUnit.unit)))
    (sif (List.length l3=List.length l3) <|
    sif (List.all l3 D.free=true) <|
    some (D.sl Tag.own l3)))
   (((a1,[],a0,(↑(List.length a0):Int),(0:Int),PUnit.unit),PUnit.unit)))
theorem zzP (tga0:Tag) (tga1:Tag) (a0:List D) (a1:List D):denP Try.prog (zay []) zp0 [1] ID.synd_Add [.sl tga0 a0,.sl tga1 a1]=zpi (D.lentL a0) (D.lentL a1):=by kernel_rfl
theorem zuS (tga0:Tag) (tga1:Tag) (a0:List D) (a1:List D):zaL [.sl tga0 a0,.sl tga1 a1]=zpi (D.lentL a0) (D.lentL a1):=zzP tga0 tga1 a0 a1
def ztv:Ann:={ loops:=[(0,[.dead,.dead,.dead,.val (.cell (.int .u8)),.dead,.dead,.dead,.val (.cell (.int .i64)),.val (.cell (.int .i64))])] }
noncomputable def zaZ:List D→Option D:=denP Try.prog (zay [(ID.gf_double,(.pure [0] za7))]) ztv [0] ID.gf_Pow
theorem zwv:za9 Try.prog ID.gf_Pow (.pure [0] zaZ):=zav (zaz [zh9]) zbz ⟨Try.f138,by kernel_rfl,by kernel_rfl,by kernel_rfl⟩
noncomputable def zho:Fact Try.prog:=⟨ID.gf_Pow,(.pure [0] zaZ),zwv⟩
noncomputable def zqA (za7:List D→Option D) (a0:Int):Option D:=
 letN (Int.tmod a0 (255:Int)) fun n1=>
 letN (IntKind.wrap IntKind.i64 (n1+(255:Int))) fun n2=>
 letN (Int.tmod n2 (255:Int)) fun n3=>
 zb7 (α:=(Int×Int×Int×PUnit)×PUnit) (fun again4 ((i5,(i6,(i7,_))),_)=>
  brK (decide (i7 < i6))
   (zaq (za7 [D.int IntKind.u8 i5]) fun r8=>
   asI IntKind.u8 r8 fun i9=>
   letN (IntKind.wrap IntKind.i64 (i7+(1:Int))) fun n10=>
   again4 (((i9,i6,n10,PUnit.unit),PUnit.unit)))
   (some (D.int IntKind.u8 i5)))
  ((((1:Int),n3,(0:Int),PUnit.unit),PUnit.unit))
theorem zDj (za7:List D→Option D) (a0:Int):denP Try.prog (zay [(ID.gf_double,(.pure [0] za7))]) ztv [0] ID.gf_Pow [.int .i64 a0]=zqA za7 a0:=by kernel_rfl
theorem zrU (a0:Int):zaZ [.int .i64 a0]=zqA za7 a0:=zDj za7 a0
def zp1:Ann:={ loops:=[] }
noncomputable def zbF:List D→Option D:=denP Try.prog (zay []) zp1 [0] ID.synd_P_1
theorem zsy:za9 Try.prog ID.synd_P_1 (.pure [0] zbF):=zav (zaz []) zbz ⟨Try.f137,by kernel_rfl,by kernel_rfl,by kernel_rfl⟩
noncomputable def zor:Fact Try.prog:=⟨ID.synd_P_1,(.pure [0] zbF),zsy⟩
noncomputable def ztw (a0:Int):Option D:=
 some (D.int IntKind.u8 (1:Int))
theorem zzQ (a0:Int):denP Try.prog (zay []) zp1 [0] ID.synd_P_1 [.int .i64 a0]=ztw a0:=by kernel_rfl
theorem zuT (a0:Int):zbF [.int .i64 a0]=ztw a0:=zzQ a0
def zld:List (Nat×Ann):=[(137,{ loops:=[(1,[.dead,.fnc 137,.dead,.dead,.dead,.own 1,.dead,.dead,.dead,.dead,.dead,.dead,.dead,.dead,.dead,.dead,.val (.cell .lent),.val (.cell (.int .i64)),.val (.cell (.int .i64))])] }),(138,{ loops:=[(1,[.dead,.fnc 138,.dead,.dead,.dead,.own 1,.dead,.dead,.dead,.dead,.dead,.dead,.dead,.dead,.dead,.dead,.val (.cell .lent),.val (.cell (.int .i64)),.val (.cell (.int .i64))])] })]
noncomputable def zbQ:List D→Option D:=denA Try.prog (zay [(ID.synd_Scale,(.pure [1] zaJ)),(ID.synd_Add,(.pure [1] zaL)),(ID.gf_Pow,(.pure [0] zaZ)),(ID.synd_P_1,(.pure [0] zbF))]) zld [1] ID.synd_sum
theorem zsz:za9 Try.prog ID.synd_sum (.pure [1] zbQ):=ztk (zaz [zhn,zgU,zho,zor]) zbz ⟨Try.f136,by kernel_rfl,by kernel_rfl,by kernel_rfl⟩
noncomputable def zos:Fact Try.prog:=⟨ID.synd_sum,(.pure [1] zbQ),zsz⟩
noncomputable def zjv (zaJ:List D→Option D) (zaL:List D→Option D) (zaZ:List D→Option D) (zbF:List D→Option D) (a0:List D):Option D:=
 brK ((↑(List.length a0):Int) == (0:Int))
  (some (D.sl Tag.own []))
  (getK a0 ((0:Nat)) fun d1=>
  asSl d1 fun t2 l3=>
  sif ((↑(List.length l3):Int)=(↑(List.length l3):Int)) <|
  sif ((↑(List.length l3):Int)*(1:Int)≤(140737488355328:Int)) <|
  sif ((↑(List.length l3):Int)≤(140737488355328:Int)) <|
  sif (Int.toNat (↑(List.length l3):Int)=List.length (List.replicate (Int.toNat (↑(List.length l3):Int)) (D.int IntKind.u8 (0:Int)))) <|
  zb7 (α:=(List D×List D×Int×Int×PUnit)×PUnit) (fun again4 ((l5,(l6,(i7,(i8,_)))),_)=>
   brK (decide (i8 < i7))
    (sif ((0:Int)≤i8) <|
    getK l6 (Int.toNat i8) fun d9=>
    asSl d9 fun t10 l11=>
    sif ((0:Nat)+List.length l5≤List.length l5) <|
    brK ((↑(List.length l11):Int) != (↑(List.length l5):Int))
     (some (D.sl Tag.own []))
     (zaq (zbF [D.int IntKind.i64 i8]) fun r12=>
     asI IntKind.u8 r12 fun i13=>
     zaq (zaJ [D.sl t10 l11,D.int IntKind.u8 i13]) fun r14=>
     za0 r14 fun l15=>
     sif ((0:Nat)+List.length l5≤List.length l5) <|
     sif ((0:Nat)+List.length l15≤List.length l15) <|
     zaq (zaL [D.sl Tag.lent (cut (0:Nat) (List.length l5) l5),D.sl Tag.lent (cut (0:Nat) (List.length l15) l15)]) fun r16=>
     za0 r16 fun l17=>
     letN (IntKind.wrap IntKind.i64 (i8+(1:Int))) fun n18=>
     sif (List.length l17=List.length l17) <|
     again4 (((l17,l6,i7,n18,PUnit.unit),PUnit.unit))))
    (sif (List.length l5=List.length l5) <|
    sif (List.all l5 D.free=true) <|
    some (D.sl Tag.own l5)))
   (((List.replicate (Int.toNat (↑(List.length l3):Int)) (D.int IntKind.u8 (0:Int)),a0,(↑(List.length a0):Int),(0:Int),PUnit.unit),PUnit.unit)))
theorem zuU (zaJ:List D→Option D) (zaL:List D→Option D) (zaZ:List D→Option D) (zbF:List D→Option D) (tga0:Tag) (a0:List D):denA Try.prog (zay [(ID.synd_Scale,(.pure [1] zaJ)),(ID.synd_Add,(.pure [1] zaL)),(ID.gf_Pow,(.pure [0] zaZ)),(ID.synd_P_1,(.pure [0] zbF))]) zld [1] ID.synd_sum [.sl tga0 a0,.fn 137 [] []]=zjv zaJ zaL zaZ zbF (D.lentL a0):=by kernel_rfl
theorem zqh (tga0:Tag) (a0:List D):zbQ [.sl tga0 a0,.fn 137 [] []]=zjv zaJ zaL zaZ zbF (D.lentL a0):=zuU zaJ zaL zaZ zbF tga0 a0
noncomputable def zjw (zaJ:List D→Option D) (zaL:List D→Option D) (zaZ:List D→Option D) (zbF:List D→Option D) (a0:List D):Option D:=
 brK ((↑(List.length a0):Int) == (0:Int))
  (some (D.sl Tag.own []))
  (getK a0 ((0:Nat)) fun d1=>
  asSl d1 fun t2 l3=>
  sif ((↑(List.length l3):Int)=(↑(List.length l3):Int)) <|
  sif ((↑(List.length l3):Int)*(1:Int)≤(140737488355328:Int)) <|
  sif ((↑(List.length l3):Int)≤(140737488355328:Int)) <|
  sif (Int.toNat (↑(List.length l3):Int)=List.length (List.replicate (Int.toNat (↑(List.length l3):Int)) (D.int IntKind.u8 (0:Int)))) <|
  zb7 (α:=(List D×List D×Int×Int×PUnit)×PUnit) (fun again4 ((l5,(l6,(i7,(i8,_)))),_)=>
   brK (decide (i8 < i7))
    (sif ((0:Int)≤i8) <|
    getK l6 (Int.toNat i8) fun d9=>
    asSl d9 fun t10 l11=>
    sif ((0:Nat)+List.length l5≤List.length l5) <|
    brK ((↑(List.length l11):Int) != (↑(List.length l5):Int))
     (some (D.sl Tag.own []))
     (zaq (zaZ [D.int IntKind.i64 i8]) fun r12=>
     asI IntKind.u8 r12 fun i13=>
     zaq (zaJ [D.sl t10 l11,D.int IntKind.u8 i13]) fun r14=>
     za0 r14 fun l15=>
     sif ((0:Nat)+List.length l5≤List.length l5) <|
     sif ((0:Nat)+List.length l15≤List.length l15) <|
     zaq (zaL [D.sl Tag.lent (cut (0:Nat) (List.length l5) l5),D.sl Tag.lent (cut (0:Nat) (List.length l15) l15)]) fun r16=>
     za0 r16 fun l17=>
     letN (IntKind.wrap IntKind.i64 (i8+(1:Int))) fun n18=>
     sif (List.length l17=List.length l17) <|
     again4 (((l17,l6,i7,n18,PUnit.unit),PUnit.unit))))
    (sif (List.length l5=List.length l5) <|
    sif (List.all l5 D.free=true) <|
    some (D.sl Tag.own l5)))
   (((List.replicate (Int.toNat (↑(List.length l3):Int)) (D.int IntKind.u8 (0:Int)),a0,(↑(List.length a0):Int),(0:Int),PUnit.unit),PUnit.unit)))
theorem zuV (zaJ:List D→Option D) (zaL:List D→Option D) (zaZ:List D→Option D) (zbF:List D→Option D) (tga0:Tag) (a0:List D):denA Try.prog (zay [(ID.synd_Scale,(.pure [1] zaJ)),(ID.synd_Add,(.pure [1] zaL)),(ID.gf_Pow,(.pure [0] zaZ)),(ID.synd_P_1,(.pure [0] zbF))]) zld [1] ID.synd_sum [.sl tga0 a0,.fn 138 [] []]=zjw zaJ zaL zaZ zbF (D.lentL a0):=by kernel_rfl
theorem zqi (tga0:Tag) (a0:List D):zbQ [.sl tga0 a0,.fn 138 [] []]=zjw zaJ zaL zaZ zbF (D.lentL a0):=zuV zaJ zaL zaZ zbF tga0 a0
def ztx:Ann:={ loops:=[] }
noncomputable def zb0:List D→Option D:=denP Try.prog (zay [(ID.synd_sum,(.pure [1] zbQ)),(ID.synd_P_1,(.pure [0] zbF))]) ztx [1] ID.synd_P
theorem zww:za9 Try.prog ID.synd_P (.pure [1] zb0):=zav (zaz [zos,zor]) zbz ⟨Try.f110,by kernel_rfl,by kernel_rfl,by kernel_rfl⟩
noncomputable def znk:Fact Try.prog:=⟨ID.synd_P,(.pure [1] zb0),zww⟩
noncomputable def zuW (zbQ:List D→Option D) (zbF:List D→Option D) (a0:List D):Option D:=
 zaq (zbQ [D.sl Tag.lent a0,D.fn (137:Nat) [] []]) fun r1=>
 za0 r1 fun l2=>
 sif (List.length l2=List.length l2) <|
 sif (List.all l2 D.free=true) <|
 some (D.sl Tag.own l2)
theorem zDk (zbQ:List D→Option D) (zbF:List D→Option D) (tga0:Tag) (a0:List D):denP Try.prog (zay [(ID.synd_sum,(.pure [1] zbQ)),(ID.synd_P_1,(.pure [0] zbF))]) ztx [1] ID.synd_P [.sl tga0 a0]=zuW zbQ zbF (D.lentL a0):=by kernel_rfl
theorem zxK (tga0:Tag) (a0:List D):zb0 [.sl tga0 a0]=zuW zbQ zbF (D.lentL a0):=zDk zbQ zbF tga0 a0
def zty:Ann:={ loops:=[] }
noncomputable def zb1:List D→Option D:=denP Try.prog (zay [(ID.synd_sum,(.pure [1] zbQ)),(ID.gf_Pow,(.pure [0] zaZ))]) zty [1] ID.synd_Q
theorem zwx:za9 Try.prog ID.synd_Q (.pure [1] zb1):=zav (zaz [zos,zho]) zbz ⟨Try.f111,by kernel_rfl,by kernel_rfl,by kernel_rfl⟩
noncomputable def znl:Fact Try.prog:=⟨ID.synd_Q,(.pure [1] zb1),zwx⟩
noncomputable def zuX (zbQ:List D→Option D) (zaZ:List D→Option D) (a0:List D):Option D:=
 zaq (zbQ [D.sl Tag.lent a0,D.fn (138:Nat) [] []]) fun r1=>
 za0 r1 fun l2=>
 sif (List.length l2=List.length l2) <|
 sif (List.all l2 D.free=true) <|
 some (D.sl Tag.own l2)
theorem zDl (zbQ:List D→Option D) (zaZ:List D→Option D) (tga0:Tag) (a0:List D):denP Try.prog (zay [(ID.synd_sum,(.pure [1] zbQ)),(ID.gf_Pow,(.pure [0] zaZ))]) zty [1] ID.synd_Q [.sl tga0 a0]=zuX zbQ zaZ (D.lentL a0):=by kernel_rfl
theorem zxL (tga0:Tag) (a0:List D):zb1 [.sl tga0 a0]=zuX zbQ zaZ (D.lentL a0):=zDl zbQ zaZ tga0 a0
def ztz:Ann:={ loops:=[(0,[.val (.cell (.int .u8)),.dead,.dead,.val (.cell (.int .u8)),.dead,.val (.cell (.int .i64))])] }
noncomputable def zeH:List D→Option D:=denP Try.prog (zay [(ID.gf_double,(.pure [0] za7))]) ztz [0] ID.gf_Log
theorem zwy:za9 Try.prog ID.gf_Log (.pure [0] zeH):=zav (zaz [zh9]) zbz ⟨Try.f145,by kernel_rfl,by kernel_rfl,by kernel_rfl⟩
noncomputable def zxM:Fact Try.prog:=⟨ID.gf_Log,(.pure [0] zeH),zwy⟩
noncomputable def zuY (za7:List D→Option D) (a0:Int):Option D:=
 zb7 (α:=(Int×Int×Int×PUnit)×PUnit) (fun again1 ((i2,(i3,(i4,_))),_)=>
  brK (decide (i4 < (255:Int)))
   (brK (i3 == i2)
    (some (D.int IntKind.i64 i4))
    (zaq (za7 [D.int IntKind.u8 i3]) fun r5=>
    asI IntKind.u8 r5 fun i6=>
    letN (IntKind.wrap IntKind.i64 (i4+(1:Int))) fun n7=>
    again1 (((i2,i6,n7,PUnit.unit),PUnit.unit))))
   (some (D.int IntKind.i64 (-1:Int))))
  (((a0,(1:Int),(0:Int),PUnit.unit),PUnit.unit))
theorem zDm (za7:List D→Option D) (a0:Int):denP Try.prog (zay [(ID.gf_double,(.pure [0] za7))]) ztz [0] ID.gf_Log [.int .u8 a0]=zuY za7 a0:=by kernel_rfl
theorem zxN (a0:Int):zeH [.int .u8 a0]=zuY za7 a0:=zDm za7 a0
def ztA:Ann:={ loops:=[] }
noncomputable def zcH:List D→Option D:=denP Try.prog (zay [(ID.gf_Log,(.pure [0] zeH)),(ID.gf_Pow,(.pure [0] zaZ))]) ztA [0] ID.gf_Inv
theorem zwz:za9 Try.prog ID.gf_Inv (.pure [0] zcH):=zav (zaz [zxM,zho]) zbz ⟨Try.f141,by kernel_rfl,by kernel_rfl,by kernel_rfl⟩
noncomputable def zrV:Fact Try.prog:=⟨ID.gf_Inv,(.pure [0] zcH),zwz⟩
noncomputable def zuZ (zeH:List D→Option D) (zaZ:List D→Option D) (a0:Int):Option D:=
 brK (a0 == (0:Int))
  (some (D.int IntKind.u8 (0:Int)))
  (zaq (zeH [D.int IntKind.u8 a0]) fun r1=>
  asI IntKind.i64 r1 fun i2=>
  letN (IntKind.wrap IntKind.i64 ((255:Int) - i2)) fun n3=>
  zaq (zaZ [D.int IntKind.i64 n3]) fun r4=>
  asI IntKind.u8 r4 fun i5=>
  some (D.int IntKind.u8 i5))
theorem zDn (zeH:List D→Option D) (zaZ:List D→Option D) (a0:Int):denP Try.prog (zay [(ID.gf_Log,(.pure [0] zeH)),(ID.gf_Pow,(.pure [0] zaZ))]) ztA [0] ID.gf_Inv [.int .u8 a0]=zuZ zeH zaZ a0:=by kernel_rfl
theorem zxO (a0:Int):zcH [.int .u8 a0]=zuZ zeH zaZ a0:=zDn zeH zaZ a0
def zot:Ann:={ loops:=[] }
noncomputable def zcO:List D→Option D:=denP Try.prog (zay [(ID.synd_P,(.pure [1] zb0)),(ID.synd_Add,(.pure [1] zaL)),(ID.synd_Q,(.pure [1] zb1)),(ID.gf_Pow,(.pure [0] zaZ)),(ID.gf_Inv,(.pure [0] zcH)),(ID.synd_Scale,(.pure [1] zaJ))]) zot [1,1] ID.erase_two
theorem zrW:za9 Try.prog ID.erase_two (.pure [1,1] zcO):=zav (zaz [znk,zgU,znl,zho,zrV,zhn]) zbz ⟨Try.f131,by kernel_rfl,by kernel_rfl,by kernel_rfl⟩
noncomputable def zsA:Fact Try.prog:=⟨ID.erase_two,(.pure [1,1] zcO),zrW⟩
noncomputable def znm (zb0:List D→Option D) (zaL:List D→Option D) (zb1:List D→Option D) (zaZ:List D→Option D) (zcH:List D→Option D) (zaJ:List D→Option D) (a0:List D) (a1:List D) (a2:List D) (a3:Int) (a4:Int):Option D:=
 zaq (zb0 [D.sl Tag.lent a2]) fun r1=>
 za0 r1 fun l2=>
 sif ((0:Nat)+List.length l2≤List.length l2) <|
 zaq (zaL [D.sl Tag.lent a0,D.sl Tag.lent (cut (0:Nat) (List.length l2) l2)]) fun r3=>
 za0 r3 fun l4=>
 zaq (zb1 [D.sl Tag.lent a2]) fun r5=>
 za0 r5 fun l6=>
 sif ((0:Nat)+List.length l6≤List.length l6) <|
 zaq (zaL [D.sl Tag.lent a1,D.sl Tag.lent (cut (0:Nat) (List.length l6) l6)]) fun r7=>
 za0 r7 fun l8=>
 zaq (zaZ [D.int IntKind.i64 a3]) fun r9=>
 asI IntKind.u8 r9 fun i10=>
 zaq (zaZ [D.int IntKind.i64 a4]) fun r11=>
 asI IntKind.u8 r11 fun i12=>
 letN (bits BinOp.xor IntKind.u8 i10 i12) fun n13=>
 zaq (zcH [D.int IntKind.u8 n13]) fun r14=>
 asI IntKind.u8 r14 fun i15=>
 zaq (zaZ [D.int IntKind.i64 a4]) fun r16=>
 asI IntKind.u8 r16 fun i17=>
 sif ((0:Nat)+List.length l4≤List.length l4) <|
 zaq (zaJ [D.sl Tag.lent (cut (0:Nat) (List.length l4) l4),D.int IntKind.u8 i17]) fun r18=>
 za0 r18 fun l19=>
 sif ((0:Nat)+List.length l8≤List.length l8) <|
 sif ((0:Nat)+List.length l19≤List.length l19) <|
 zaq (zaL [D.sl Tag.lent (cut (0:Nat) (List.length l8) l8),D.sl Tag.lent (cut (0:Nat) (List.length l19) l19)]) fun r20=>
 za0 r20 fun l21=>
 sif ((0:Nat)+List.length l21≤List.length l21) <|
 zaq (zaJ [D.sl Tag.lent (cut (0:Nat) (List.length l21) l21),D.int IntKind.u8 i15]) fun r22=>
 za0 r22 fun l23=>
 sif ((0:Nat)+List.length l4≤List.length l4) <|
 sif ((0:Nat)+List.length l23≤List.length l23) <|
 zaq (zaL [D.sl Tag.lent (cut (0:Nat) (List.length l4) l4),D.sl Tag.lent (cut (0:Nat) (List.length l23) l23)]) fun r24=>
 za0 r24 fun l25=>
 sif (List.length l23=List.length l23) <|
 sif (List.all l23 D.free=true) <|
 sif (List.length l25=List.length l25) <|
 sif (List.all l25 D.free=true) <|
 some (D.tup [D.sl Tag.own l23,D.sl Tag.own l25])
theorem zxP (zb0:List D→Option D) (zaL:List D→Option D) (zb1:List D→Option D) (zaZ:List D→Option D) (zcH:List D→Option D) (zaJ:List D→Option D) (tga0:Tag) (tga1:Tag) (tga2:Tag) (a0:List D) (a1:List D) (a2:List D) (a3:Int) (a4:Int):denP Try.prog (zay [(ID.synd_P,(.pure [1] zb0)),(ID.synd_Add,(.pure [1] zaL)),(ID.synd_Q,(.pure [1] zb1)),(ID.gf_Pow,(.pure [0] zaZ)),(ID.gf_Inv,(.pure [0] zcH)),(ID.synd_Scale,(.pure [1] zaJ))]) zot [1,1] ID.erase_two [.sl tga0 a0,.sl tga1 a1,.sl tga2 a2,.int .i64 a3,.int .i64 a4]=znm zb0 zaL zb1 zaZ zcH zaJ (D.lentL a0) (D.lentL a1) (D.lentL a2) a3 a4:=by kernel_rfl
theorem zsB (tga0:Tag) (tga1:Tag) (tga2:Tag) (a0:List D) (a1:List D) (a2:List D) (a3:Int) (a4:Int):zcO [.sl tga0 a0,.sl tga1 a1,.sl tga2 a2,.int .i64 a3,.int .i64 a4]=znm zb0 zaL zb1 zaZ zcH zaJ (D.lentL a0) (D.lentL a1) (D.lentL a2) a3 a4:=zxP zb0 zaL zb1 zaZ zcH zaJ tga0 tga1 tga2 a0 a1 a2 a3 a4
def zou:Ann:={ loops:=[] }
noncomputable def zcy:List D→Option D:=denP Try.prog (zay [(ID.synd_Q,(.pure [1] zb1)),(ID.synd_Add,(.pure [1] zaL)),(ID.gf_Pow,(.pure [0] zaZ)),(ID.gf_Inv,(.pure [0] zcH)),(ID.synd_Scale,(.pure [1] zaJ))]) zou [1] ID.erase_byQ
theorem zrX:za9 Try.prog ID.erase_byQ (.pure [1] zcy):=zav (zaz [znl,zgU,zho,zrV,zhn]) zbz ⟨Try.f133,by kernel_rfl,by kernel_rfl,by kernel_rfl⟩
noncomputable def zsC:Fact Try.prog:=⟨ID.erase_byQ,(.pure [1] zcy),zrX⟩
noncomputable def znn (zb1:List D→Option D) (zaL:List D→Option D) (zaZ:List D→Option D) (zcH:List D→Option D) (zaJ:List D→Option D) (a0:List D) (a1:List D) (a2:Int):Option D:=
 zaq (zb1 [D.sl Tag.lent a1]) fun r1=>
 za0 r1 fun l2=>
 sif ((0:Nat)+List.length l2≤List.length l2) <|
 zaq (zaL [D.sl Tag.lent a0,D.sl Tag.lent (cut (0:Nat) (List.length l2) l2)]) fun r3=>
 za0 r3 fun l4=>
 zaq (zaZ [D.int IntKind.i64 a2]) fun r5=>
 asI IntKind.u8 r5 fun i6=>
 zaq (zcH [D.int IntKind.u8 i6]) fun r7=>
 asI IntKind.u8 r7 fun i8=>
 sif ((0:Nat)+List.length l4≤List.length l4) <|
 zaq (zaJ [D.sl Tag.lent (cut (0:Nat) (List.length l4) l4),D.int IntKind.u8 i8]) fun r9=>
 za0 r9 fun l10=>
 sif (List.length l10=List.length l10) <|
 sif (List.all l10 D.free=true) <|
 some (D.sl Tag.own l10)
theorem zxQ (zb1:List D→Option D) (zaL:List D→Option D) (zaZ:List D→Option D) (zcH:List D→Option D) (zaJ:List D→Option D) (tga0:Tag) (tga1:Tag) (a0:List D) (a1:List D) (a2:Int):denP Try.prog (zay [(ID.synd_Q,(.pure [1] zb1)),(ID.synd_Add,(.pure [1] zaL)),(ID.gf_Pow,(.pure [0] zaZ)),(ID.gf_Inv,(.pure [0] zcH)),(ID.synd_Scale,(.pure [1] zaJ))]) zou [1] ID.erase_byQ [.sl tga0 a0,.sl tga1 a1,.int .i64 a2]=znn zb1 zaL zaZ zcH zaJ (D.lentL a0) (D.lentL a1) a2:=by kernel_rfl
theorem zsD (tga0:Tag) (tga1:Tag) (a0:List D) (a1:List D) (a2:Int):zcy [.sl tga0 a0,.sl tga1 a1,.int .i64 a2]=znn zb1 zaL zaZ zcH zaJ (D.lentL a0) (D.lentL a1) a2:=zxQ zb1 zaL zaZ zcH zaJ tga0 tga1 a0 a1 a2
def zle:Ann:={ loops:=[] }
noncomputable def zb5:List D→Option D:=denP Try.prog (zay [(ID.erase_Missing,(.pure [1] zbJ)),(ID.erase_fits,(.pure [0] zce)),(ID.erase_filled,(.pure [1] zbT)),(ID.erase_two,(.pure [1,1] zcO)),(ID.synd_P,(.pure [1] zb0)),(ID.synd_Add,(.pure [1] zaL)),(ID.erase_byQ,(.pure [1] zcy))]) zle [1,0] ID.erase_Solve
theorem zpj:za9 Try.prog ID.erase_Solve (.pure [1,0] zb5):=zav (zaz [zol,zrQ,zpg,zsA,znk,zgU,zsC]) zbz ⟨Try.f105,by kernel_rfl,by kernel_rfl,by kernel_rfl⟩
noncomputable def zqj:Fact Try.prog:=⟨ID.erase_Solve,(.pure [1,0] zb5),zpj⟩
noncomputable def zjx (zbJ:List D→Option D) (zce:List D→Option D) (zbT:List D→Option D) (zcO:List D→Option D) (zb0:List D→Option D) (zaL:List D→Option D) (zcy:List D→Option D) (a0:Int) (a1:List D) (a2:List D) (a3:List D):Option D:=
 zaq (zbJ [D.sl Tag.lent a3]) fun r1=>
 za0 r1 fun l2=>
 brK (decide (a0 < (1:Int)))
  (some (D.tup [D.sl Tag.own [],D.bool false]))
  (brK (decide ((↑(List.length a3):Int) < (1:Int)))
   (some (D.tup [D.sl Tag.own [],D.bool false]))
   (brK (decide ((↑(List.length a3):Int) > (8:Int)))
    (some (D.tup [D.sl Tag.own [],D.bool false]))
    (zaq (zce [D.int IntKind.i64 a0,D.sl Tag.lent a3]) fun r3=>
    asB r3 fun b4=>
    brK (!b4)
     (some (D.tup [D.sl Tag.own [],D.bool false]))
     (zaq (zce [D.int IntKind.i64 a0,D.sl Tag.full [D.sl Tag.lent a1,D.sl Tag.lent a2]]) fun r5=>
     asB r5 fun b6=>
     brK (!b6)
      (some (D.tup [D.sl Tag.own [],D.bool false]))
      (sif ((0:Nat)+List.length l2≤List.length l2) <|
      zaq (zbJ [D.sl Tag.full [D.sl Tag.lent a1,D.sl Tag.lent a2]]) fun r7=>
      za0 r7 fun l8=>
      sif ((0:Nat)+List.length l8≤List.length l8) <|
      letN (IntKind.wrap IntKind.i64 ((↑(List.length l2):Int)+(↑(List.length l8):Int))) fun n9=>
      brK (decide (n9 > (2:Int)))
       (some (D.tup [D.sl Tag.own [],D.bool false]))
       (zaq (zbT [D.int IntKind.i64 a0,D.sl Tag.lent a3]) fun r10=>
       za0 r10 fun l11=>
       sif ((0:Nat)+List.length l2≤List.length l2) <|
       brK ((↑(List.length l2):Int) == (2:Int))
        (sif ((0:Nat) < List.length l2) <|
        getK l2 ((0:Nat)) fun d12=>
        asI IntKind.i64 d12 fun i13=>
        sif ((1:Nat) < List.length l2) <|
        getK l2 ((1:Nat)) fun d14=>
        asI IntKind.i64 d14 fun i15=>
        sif ((0:Nat) < List.length l2) <|
        getK l2 ((0:Nat)) fun d16=>
        asI IntKind.i64 d16 fun i17=>
        sif ((1:Nat) < List.length l2) <|
        getK l2 ((1:Nat)) fun d18=>
        asI IntKind.i64 d18 fun i19=>
        sif ((0:Nat)+List.length l11≤List.length l11) <|
        zaq (zcO [D.sl Tag.lent a1,D.sl Tag.lent a2,D.sl Tag.lent (cut (0:Nat) (List.length l11) l11),D.int IntKind.i64 i17,D.int IntKind.i64 i19]) fun r20=>
        zdG r20 fun ts21=>
        zat ([Lf.any,Lf.any]) ts21 fun c22=>
        za0 c22.fst fun l23=>
        za0 c22.snd.fst fun l24=>
        sif ((0:Int)≤i13) <|
        sif (Int.toNat i13 < List.length l11) <|
        sif ((0:Nat)+List.length l23≤List.length l23) <|
        getK l11 ((0:Nat)+Int.toNat i13) fun d25=>
        sif ((0:Nat)+List.length l23≤List.length l23) <|
        sif (D.isAgg d25=false) <|
        sif ((0:Int)≤i15) <|
        sif (Int.toNat i15 < List.length l11) <|
        sif ((0:Nat)+List.length l24≤List.length l24) <|
        getK (List.set l11 ((0:Nat)+Int.toNat i13) (D.sl Tag.fresh (cut (0:Nat) (List.length l23) l23))) ((0:Nat)+Int.toNat i15) fun d26=>
        sif ((0:Nat)+List.length l24≤List.length l24) <|
        sif (D.isAgg d26=false) <|
        sif (List.length l11=List.length (List.set (List.set l11 ((0:Nat)+Int.toNat i13) (D.sl Tag.fresh (cut (0:Nat) (List.length l23) l23))) ((0:Nat)+Int.toNat i15) (D.sl Tag.fresh (cut (0:Nat) (List.length l24) l24)))) <|
        sif (List.all (List.set (List.set l11 ((0:Nat)+Int.toNat i13) (D.sl Tag.fresh (cut (0:Nat) (List.length l23) l23))) ((0:Nat)+Int.toNat i15) (D.sl Tag.fresh (cut (0:Nat) (List.length l24) l24))) D.free=true) <|
        some (D.tup [D.sl Tag.own (List.set (List.set l11 ((0:Nat)+Int.toNat i13) (D.sl Tag.fresh (cut (0:Nat) (List.length l23) l23))) ((0:Nat)+Int.toNat i15) (D.sl Tag.fresh (cut (0:Nat) (List.length l24) l24))),D.bool true]))
        (sif ((0:Nat)+List.length l2≤List.length l2) <|
        brK ((↑(List.length l2):Int) == (1:Int))
         (brK (decide ((↑(List.length a1):Int) > (0:Int)))
          (sif ((0:Nat) < List.length l2) <|
          getK l2 ((0:Nat)) fun d27=>
          asI IntKind.i64 d27 fun i28=>
          sif ((0:Nat)+List.length l11≤List.length l11) <|
          zaq (zb0 [D.sl Tag.lent (cut (0:Nat) (List.length l11) l11)]) fun r29=>
          za0 r29 fun l30=>
          sif ((0:Nat)+List.length l30≤List.length l30) <|
          zaq (zaL [D.sl Tag.lent a1,D.sl Tag.lent (cut (0:Nat) (List.length l30) l30)]) fun r31=>
          za0 r31 fun l32=>
          sif ((0:Int)≤i28) <|
          sif (Int.toNat i28 < List.length l11) <|
          sif ((0:Nat)+List.length l32≤List.length l32) <|
          getK l11 ((0:Nat)+Int.toNat i28) fun d33=>
          sif ((0:Nat)+List.length l32≤List.length l32) <|
          sif (D.isAgg d33=false) <|
          sif (List.length l11=List.length (List.set l11 ((0:Nat)+Int.toNat i28) (D.sl Tag.fresh (cut (0:Nat) (List.length l32) l32)))) <|
          sif (List.all (List.set l11 ((0:Nat)+Int.toNat i28) (D.sl Tag.fresh (cut (0:Nat) (List.length l32) l32))) D.free=true) <|
          some (D.tup [D.sl Tag.own (List.set l11 ((0:Nat)+Int.toNat i28) (D.sl Tag.fresh (cut (0:Nat) (List.length l32) l32))),D.bool true]))
          (sif ((0:Nat)+List.length l2≤List.length l2) <|
          brK ((↑(List.length l2):Int) == (1:Int))
           (sif ((0:Nat) < List.length l2) <|
           getK l2 ((0:Nat)) fun d34=>
           asI IntKind.i64 d34 fun i35=>
           sif ((0:Nat) < List.length l2) <|
           getK l2 ((0:Nat)) fun d36=>
           asI IntKind.i64 d36 fun i37=>
           sif ((0:Nat)+List.length l11≤List.length l11) <|
           zaq (zcy [D.sl Tag.lent a2,D.sl Tag.lent (cut (0:Nat) (List.length l11) l11),D.int IntKind.i64 i37]) fun r38=>
           za0 r38 fun l39=>
           sif ((0:Int)≤i35) <|
           sif (Int.toNat i35 < List.length l11) <|
           sif ((0:Nat)+List.length l39≤List.length l39) <|
           getK l11 ((0:Nat)+Int.toNat i35) fun d40=>
           sif ((0:Nat)+List.length l39≤List.length l39) <|
           sif (D.isAgg d40=false) <|
           sif (List.length l11=List.length (List.set l11 ((0:Nat)+Int.toNat i35) (D.sl Tag.fresh (cut (0:Nat) (List.length l39) l39)))) <|
           sif (List.all (List.set l11 ((0:Nat)+Int.toNat i35) (D.sl Tag.fresh (cut (0:Nat) (List.length l39) l39))) D.free=true) <|
           some (D.tup [D.sl Tag.own (List.set l11 ((0:Nat)+Int.toNat i35) (D.sl Tag.fresh (cut (0:Nat) (List.length l39) l39))),D.bool true]))
           (sif (List.length l11=List.length l11) <|
           sif (List.all l11 D.free=true) <|
           some (D.tup [D.sl Tag.own l11,D.bool true]))))
         (sif ((0:Nat)+List.length l2≤List.length l2) <|
         brK ((↑(List.length l2):Int) == (1:Int))
          (sif ((0:Nat) < List.length l2) <|
          getK l2 ((0:Nat)) fun d41=>
          asI IntKind.i64 d41 fun i42=>
          sif ((0:Nat) < List.length l2) <|
          getK l2 ((0:Nat)) fun d43=>
          asI IntKind.i64 d43 fun i44=>
          sif ((0:Nat)+List.length l11≤List.length l11) <|
          zaq (zcy [D.sl Tag.lent a2,D.sl Tag.lent (cut (0:Nat) (List.length l11) l11),D.int IntKind.i64 i44]) fun r45=>
          za0 r45 fun l46=>
          sif ((0:Int)≤i42) <|
          sif (Int.toNat i42 < List.length l11) <|
          sif ((0:Nat)+List.length l46≤List.length l46) <|
          getK l11 ((0:Nat)+Int.toNat i42) fun d47=>
          sif ((0:Nat)+List.length l46≤List.length l46) <|
          sif (D.isAgg d47=false) <|
          sif (List.length l11=List.length (List.set l11 ((0:Nat)+Int.toNat i42) (D.sl Tag.fresh (cut (0:Nat) (List.length l46) l46)))) <|
          sif (List.all (List.set l11 ((0:Nat)+Int.toNat i42) (D.sl Tag.fresh (cut (0:Nat) (List.length l46) l46))) D.free=true) <|
          some (D.tup [D.sl Tag.own (List.set l11 ((0:Nat)+Int.toNat i42) (D.sl Tag.fresh (cut (0:Nat) (List.length l46) l46))),D.bool true]))
          (sif (List.length l11=List.length l11) <|
          sif (List.all l11 D.free=true) <|
          some (D.tup [D.sl Tag.own l11,D.bool true]))))))))))
theorem zu0 (zbJ:List D→Option D) (zce:List D→Option D) (zbT:List D→Option D) (zcO:List D→Option D) (zb0:List D→Option D) (zaL:List D→Option D) (zcy:List D→Option D) (tga1:Tag) (tga2:Tag) (tga3:Tag) (a0:Int) (a1:List D) (a2:List D) (a3:List D):denP Try.prog (zay [(ID.erase_Missing,(.pure [1] zbJ)),(ID.erase_fits,(.pure [0] zce)),(ID.erase_filled,(.pure [1] zbT)),(ID.erase_two,(.pure [1,1] zcO)),(ID.synd_P,(.pure [1] zb0)),(ID.synd_Add,(.pure [1] zaL)),(ID.erase_byQ,(.pure [1] zcy))]) zle [1,0] ID.erase_Solve [.int .i64 a0,.sl tga1 a1,.sl tga2 a2,.sl tga3 a3]=zjx zbJ zce zbT zcO zb0 zaL zcy a0 (D.lentL a1) (D.lentL a2) (D.lentL a3):=by kernel_rfl
theorem zqk (tga1:Tag) (tga2:Tag) (tga3:Tag) (a0:Int) (a1:List D) (a2:List D) (a3:List D):zb5 [.int .i64 a0,.sl tga1 a1,.sl tga2 a2,.sl tga3 a3]=zjx zbJ zce zbT zcO zb0 zaL zcy a0 (D.lentL a1) (D.lentL a2) (D.lentL a3):=zu0 zbJ zce zbT zcO zb0 zaL zcy tga1 tga2 tga3 a0 a1 a2 a3
def zp2:Ann:={ loops:=[(1,[.dead,.val (.cell (.int .i64)),.val (.cell .lent),.box true [(.int .i64),(.int .i64),(.int .i64)],.dead,.dead,.dead,.dead,.own 1,.dead,.dead,.dead,.dead,.dead,.dead,.dead,.dead,.dead,.dead,.dead,.dead,.dead,.dead,.dead,.val (.cell (.int .i64)),.val (.cell (.int .i64))])] }
noncomputable def zdc:List D→Option D:=denP Try.prog (zay [(ID.row_in,(.pure [0] zcG)),(ID.geom_Width,(.pure [0] zaV)),(ID.place_Disk,(.pure [0] zbt)),(ID.place_Parity,(.pure [0,0] zaK)),(ID.erase_Solve,(.pure [1,0] zb5))]) zp2 [1,0] ID.row_Take
theorem zsE:za9 Try.prog ID.row_Take (.pure [1,0] zdc):=zav (zaz [zrL,zhk,zk9,zfO,zqj]) zbz ⟨Try.f71,by kernel_rfl,by kernel_rfl,by kernel_rfl⟩
noncomputable def zu1:Fact Try.prog:=⟨ID.row_Take,(.pure [1,0] zdc),zsE⟩
noncomputable def zpk (zcG:List D→Option D) (zaV:List D→Option D) (zbt:List D→Option D) (zaK:List D→Option D) (zb5:List D→Option D) (a0_0:Int) (a0_1:Int) (a0_2:Int) (a1:Int) (a2:List D):Option D:=
 zaq (zcG [D.agg [D.int IntKind.i64 a0_0,D.int IntKind.i64 a0_1,D.int IntKind.i64 a0_2],D.int IntKind.i64 a1]) fun r1=>
 asB r1 fun b2=>
 brK (!b2)
  (some (D.tup [D.sl Tag.own [],D.bool false]))
  (brK ((↑(List.length a2):Int) != a0_1)
   (some (D.tup [D.sl Tag.own [],D.bool false]))
   (zaq (zaV [D.agg [D.int IntKind.i64 a0_0,D.int IntKind.i64 a0_1,D.int IntKind.i64 a0_2]]) fun r3=>
   asI IntKind.i64 r3 fun i4=>
   zb7 (α:=(Int×List D×(Int×Int×Int×PUnit)×List D×Int×Int×PUnit)×PUnit) (fun again5 ((i6,(l7,((i8,(i9,(i10,_))),(l11,(i12,(i13,_)))))),_)=>
    brK (decide (i13 < i12))
     (zaq (zbt [D.agg [D.int IntKind.i64 i8,D.int IntKind.i64 i9,D.int IntKind.i64 i10],D.int IntKind.i64 i6,D.int IntKind.i64 i13]) fun r14=>
     asI IntKind.i64 r14 fun i15=>
     sif ((0:Int)≤i15) <|
     getK l7 (Int.toNat i15) fun d16=>
     asSl d16 fun t17 l18=>
     sif (List.length l11+(1:Nat)≤(4294967296:Nat)) <|
     sif (List.length l11=List.length l11) <|
     letN (IntKind.wrap IntKind.i64 (i13+(1:Int))) fun n19=>
     sif (List.length l11+(1:Nat)=List.length (l11++[D.sl t17 l18])) <|
     again5 (((i6,l7,(i8,i9,i10,PUnit.unit),l11++[D.sl t17 l18],i12,n19,PUnit.unit),PUnit.unit)))
     (zaq (zaK [D.agg [D.int IntKind.i64 i8,D.int IntKind.i64 i9,D.int IntKind.i64 i10],D.int IntKind.i64 i6]) fun r20=>
     zdG r20 fun ts21=>
     zat ([Lf.any,Lf.any]) ts21 fun c22=>
     asI IntKind.i64 c22.fst fun i23=>
     asI IntKind.i64 c22.snd.fst fun i24=>
     brK (decide (i24 < (0:Int)))
      (sif ((0:Int)≤i23) <|
      getK l7 (Int.toNat i23) fun d25=>
      asSl d25 fun t26 l27=>
      sif ((0:Nat)+List.length l11≤List.length l11) <|
      zaq (zb5 [D.int IntKind.i64 (32:Int),D.sl t26 l27,D.sl Tag.nil [],D.sl Tag.lent (cut (0:Nat) (List.length l11) l11)]) fun r28=>
      zdG r28 fun ts29=>
      zat ([Lf.any,Lf.any]) ts29 fun c30=>
      za0 c30.fst fun l31=>
      asB c30.snd.fst fun b32=>
      sif (List.length l31=List.length l31) <|
      sif (List.all l31 D.free=true) <|
      some (D.tup [D.sl Tag.own l31,D.bool b32]))
      (sif ((0:Int)≤i23) <|
      getK l7 (Int.toNat i23) fun d33=>
      asSl d33 fun t34 l35=>
      sif ((0:Int)≤i24) <|
      getK l7 (Int.toNat i24) fun d36=>
      asSl d36 fun t37 l38=>
      sif ((0:Nat)+List.length l11≤List.length l11) <|
      zaq (zb5 [D.int IntKind.i64 (32:Int),D.sl t34 l35,D.sl t37 l38,D.sl Tag.lent (cut (0:Nat) (List.length l11) l11)]) fun r39=>
      zdG r39 fun ts40=>
      zat ([Lf.any,Lf.any]) ts40 fun c41=>
      za0 c41.fst fun l42=>
      asB c41.snd.fst fun b43=>
      sif (List.length l42=List.length l42) <|
      sif (List.all l42 D.free=true) <|
      some (D.tup [D.sl Tag.own l42,D.bool b43]))))
    (((a1,a2,(a0_0,a0_1,a0_2,PUnit.unit),[],i4,(0:Int),PUnit.unit),PUnit.unit))))
theorem zzR (zcG:List D→Option D) (zaV:List D→Option D) (zbt:List D→Option D) (zaK:List D→Option D) (zb5:List D→Option D) (tga2:Tag) (a0_0:Int) (a0_1:Int) (a0_2:Int) (a1:Int) (a2:List D):denP Try.prog (zay [(ID.row_in,(.pure [0] zcG)),(ID.geom_Width,(.pure [0] zaV)),(ID.place_Disk,(.pure [0] zbt)),(ID.place_Parity,(.pure [0,0] zaK)),(ID.erase_Solve,(.pure [1,0] zb5))]) zp2 [1,0] ID.row_Take [.agg [.int .i64 a0_0,.int .i64 a0_1,.int .i64 a0_2],.int .i64 a1,.sl tga2 a2]=zpk zcG zaV zbt zaK zb5 a0_0 a0_1 a0_2 a1 (D.lentL a2):=by kernel_rfl
theorem zu2 (tga2:Tag) (a0_0:Int) (a0_1:Int) (a0_2:Int) (a1:Int) (a2:List D):zdc [.agg [.int .i64 a0_0,.int .i64 a0_1,.int .i64 a0_2],.int .i64 a1,.sl tga2 a2]=zpk zcG zaV zbt zaK zb5 a0_0 a0_1 a0_2 a1 (D.lentL a2):=zzR zcG zaV zbt zaK zb5 tga2 a0_0 a0_1 a0_2 a1 a2
def zlf:Ann:={ loops:=[(1,[.val (.cell (.hnd (3840:Nat))),.val (.cell .lent),.dead,.val (.cell (.int .i64)),.dead,.dead,.box true [(.int .i64),(.int .i64),(.int .i64)],.dead,.dead,.dead,.own 1,.dead,.dead,.dead,.dead,.dead,.dead,.dead,.dead,.dead,.dead,.dead,.dead,.dead,.dead,.dead,.dead,.dead,.dead,.dead,.dead,.val (.cell (.int .i64)),.val (.cell (.int .i64))])],ks:=[(3840,false),(7649,false)] }
noncomputable def zb6:List D→List Tb→Option Ans:=denS Try.prog (zay [(ID.geom_Check,(.pure [0] zak)),(ID.stripe_up,(.st [] [0] [(3840,false),(7649,false)] zbd)),(ID.bench_Bench_Read,(.st [] [1,0] [(3840,false),(7649,false)] zau)),(ID.row_Take,(.pure [1,0] zdc))]) zlf [1,0] ID.stripe_Read
theorem zpl:za9 Try.prog ID.stripe_Read (.st [] [1,0] [(3840,false),(7649,false)] zb6):=za2 (zaz [zdr,zsq,zga,zu1]) zbz ⟨Try.f21,by kernel_rfl,by kernel_rfl,by kernel_rfl⟩
noncomputable def zql:Fact Try.prog:=⟨ID.stripe_Read,(.st [] [1,0] [(3840,false),(7649,false)] zb6),zpl⟩
noncomputable def zjy (zak:List D→Option D) (zbd:List D→List Tb→Option Ans) (zau:List D→List Tb→Option Ans) (zdc:List D→Option D) (a0:Nat) (a1:List D) (a2_0:Int) (a2_1:Int) (a2_2:Int) (a3:Int) (T0:Tb) (T1:Tb):Option Ans:=
 zaq (zak [D.agg [D.int IntKind.i64 a2_0,D.int IntKind.i64 a2_1,D.int IntKind.i64 a2_2]]) fun r1=>
 asI IntKind.i64 r1 fun i2=>
 brK (i2 != (0:Int))
  (some (Ans.mk (D.tup [D.sl Tag.own [],D.int IntKind.i64 (1:Int)]) [] []))
  (brK (decide (a3 < (0:Int)))
   (some (Ans.mk (D.tup [D.sl Tag.own [],D.int IntKind.i64 (1:Int)]) [] []))
   (brK (decide (a3≥(16:Int)))
    (some (Ans.mk (D.tup [D.sl Tag.own [],D.int IntKind.i64 (1:Int)]) [] []))
    (sif ((0:Int)≤a2_1) <|
    sif (a2_1=a2_1) <|
    sif (a2_1*(24:Int)≤(140737488355328:Int)) <|
    sif (a2_1≤(140737488355328:Int)) <|
    sif ((0:Nat)+Int.toNat a2_1≤List.length (List.replicate (Int.toNat a2_1) (D.sl Tag.nil []))) <|
    sif (Int.toNat a2_1=List.length (List.replicate (Int.toNat a2_1) (D.sl Tag.nil []))) <|
    zb7 (α:=(Nat×List D×Int×(Int×Int×Int×PUnit)×List D×Int×Int×PUnit)×List (List D)×List (List D)×PUnit) (fun again3 ((x4,(l5,(i6,((i7,(i8,(i9,_))),(l10,(i11,(i12,_))))))),(U13,(U14,_)))=>
     brK (decide (i12 < i11))
      (zaq (zbd [D.h (3840) x4 (0:Nat),D.sl Tag.lent l5,D.int IntKind.i64 i12] [U13,U14]) fun r15=>
      nilK r15.outs <|
      nilK r15.tbs <|
      asB r15.r fun b16=>
      brK (!b16)
       (letN (IntKind.wrap IntKind.i64 (i12+(1:Int))) fun n17=>
       sif (List.length l10=List.length l10) <|
       again3 (((x4,l5,i6,(i7,i8,i9,PUnit.unit),l10,i11,n17,PUnit.unit),U13,U14,PUnit.unit)))
       (letN (IntKind.wrap IntKind.i64 ((36:Int)+i6)) fun n18=>
       zaq (zau [D.h (3840) x4 (0:Nat),D.int IntKind.i64 i12,D.int IntKind.i64 n18] [U13,U14]) fun r19=>
       nilK r19.outs <|
       nilK r19.tbs <|
       zdG r19.r fun ts20=>
       zat ([Lf.any,Lf.any]) ts20 fun c21=>
       za0 c21.fst fun l22=>
       asI IntKind.i64 c21.snd.fst fun i23=>
       brK (i23 != (0:Int))
        (some (Ans.mk (D.tup [D.sl Tag.own [],D.int IntKind.i64 i23]) [] []))
        (sif ((0:Int)≤i12) <|
        sif (Int.toNat i12 < List.length l10) <|
        sif ((0:Nat)+List.length l22≤List.length l22) <|
        getK l10 ((0:Nat)+Int.toNat i12) fun d24=>
        sif ((0:Nat)+List.length l22≤List.length l22) <|
        sif (D.isAgg d24=false) <|
        letN (IntKind.wrap IntKind.i64 (i12+(1:Int))) fun n25=>
        sif (List.length l10=List.length (List.set l10 ((0:Nat)+Int.toNat i12) (D.sl Tag.fresh (cut (0:Nat) (List.length l22) l22)))) <|
        again3 (((x4,l5,i6,(i7,i8,i9,PUnit.unit),List.set l10 ((0:Nat)+Int.toNat i12) (D.sl Tag.fresh (cut (0:Nat) (List.length l22) l22)),i11,n25,PUnit.unit),U13,U14,PUnit.unit)))))
      (sif ((0:Nat)+List.length l10≤List.length l10) <|
      zaq (zdc [D.agg [D.int IntKind.i64 i7,D.int IntKind.i64 i8,D.int IntKind.i64 i9],D.int IntKind.i64 i6,D.sl Tag.lent (cut (0:Nat) (List.length l10) l10)]) fun r26=>
      zdG r26 fun ts27=>
      zat ([Lf.any,Lf.any]) ts27 fun c28=>
      za0 c28.fst fun l29=>
      asB c28.snd.fst fun b30=>
      brK (!b30)
       (some (Ans.mk (D.tup [D.sl Tag.own [],D.int IntKind.i64 (7:Int)]) [] []))
       (sif (List.length l29=List.length l29) <|
       sif (List.all l29 D.free=true) <|
       some (Ans.mk (D.tup [D.sl Tag.own l29,D.int IntKind.i64 (0:Int)]) [] []))))
     (((a0,a1,a3,(a2_0,a2_1,a2_2,PUnit.unit),List.replicate (Int.toNat a2_1) (D.sl Tag.nil []),(↑(Int.toNat a2_1):Int),(0:Int),PUnit.unit),T0,T1,PUnit.unit)))))
theorem zu3 (zak:List D→Option D) (zbd:List D→List Tb→Option Ans) (zau:List D→List Tb→Option Ans) (zdc:List D→Option D) (tga1:Tag) (a0:Nat) (a1:List D) (a2_0:Int) (a2_1:Int) (a2_2:Int) (a3:Int) (T0:Tb) (T1:Tb):denS Try.prog (zay [(ID.geom_Check,(.pure [0] zak)),(ID.stripe_up,(.st [] [0] [(3840,false),(7649,false)] zbd)),(ID.bench_Bench_Read,(.st [] [1,0] [(3840,false),(7649,false)] zau)),(ID.row_Take,(.pure [1,0] zdc))]) zlf [1,0] ID.stripe_Read [.h 3840 a0 0,.sl tga1 a1,.agg [.int .i64 a2_0,.int .i64 a2_1,.int .i64 a2_2],.int .i64 a3] [T0,T1]=zjy zak zbd zau zdc a0 (D.lentL a1) a2_0 a2_1 a2_2 a3 T0 T1:=by kernel_rfl
theorem zqm (tga1:Tag) (a0:Nat) (a1:List D) (a2_0:Int) (a2_1:Int) (a2_2:Int) (a3:Int) (T0:Tb) (T1:Tb):zb6 [.h 3840 a0 0,.sl tga1 a1,.agg [.int .i64 a2_0,.int .i64 a2_1,.int .i64 a2_2],.int .i64 a3] [T0,T1]=zjy zak zbd zau zdc a0 (D.lentL a1) a2_0 a2_1 a2_2 a3 T0 T1:=zu3 zak zbd zau zdc tga1 a0 a1 a2_0 a2_1 a2_2 a3 T0 T1
def zlg:Ann:={ loops:=[] }
noncomputable def zch:List D→Option D:=denP Try.prog (zay [(ID.slices_ContainsFunc_byte_byte,(.pure [0] zae)),(ID.row_sectors_1,(.pure [0] zap))]) zlg [0] ID.row_sectors
theorem zpm:za9 Try.prog ID.row_sectors (.pure [0] zch):=zav (zaz [zc5,zff]) zbz ⟨Try.f108,by kernel_rfl,by kernel_rfl,by kernel_rfl⟩
noncomputable def zqn:Fact Try.prog:=⟨ID.row_sectors,(.pure [0] zch),zpm⟩
noncomputable def zjz (zae:List D→Option D) (zap:List D→Option D) (a0:List D):Option D:=
 zaq (zae [D.sl Tag.lent a0,D.fn (135:Nat) [] []]) fun r1=>
 asB r1 fun b2=>
 some (D.bool !b2)
theorem zu4 (zae:List D→Option D) (zap:List D→Option D) (tga0:Tag) (a0:List D):denP Try.prog (zay [(ID.slices_ContainsFunc_byte_byte,(.pure [0] zae)),(ID.row_sectors_1,(.pure [0] zap))]) zlg [0] ID.row_sectors [.sl tga0 a0]=zjz zae zap (D.lentL a0):=by kernel_rfl
theorem zqo (tga0:Tag) (a0:List D):zch [.sl tga0 a0]=zjz zae zap (D.lentL a0):=zu4 zae zap tga0 a0
def zp3:Ann:={ loops:=[(1,[.dead,.val (.cell (.int .i64)),.val (.cell .lent),.box true [(.int .i64),(.int .i64),(.int .i64)],.dead,.dead,.dead,.dead,.own 1,.dead,.dead,.dead,.dead,.dead,.dead,.dead,.dead,.dead,.dead,.dead,.dead,.dead,.dead,.dead,.dead,.dead,.dead,.dead,.dead,.dead,.dead,.dead,.val (.cell .lent),.val (.cell (.int .i64)),.val (.cell (.int .i64))])] }
noncomputable def zbZ:List D→Option D:=denP Try.prog (zay [(ID.row_in,(.pure [0] zcG)),(ID.geom_Width,(.pure [0] zaV)),(ID.row_sectors,(.pure [0] zch)),(ID.place_Disk,(.pure [0] zbt)),(ID.slices_Clone_byte_byte,(.pure [1] zan)),(ID.place_Parity,(.pure [0,0] zaK)),(ID.synd_P,(.pure [1] zb0)),(ID.synd_Q,(.pure [1] zb1))]) zp3 [1,0] ID.row_Fill
theorem zsF:za9 Try.prog ID.row_Fill (.pure [1,0] zbZ):=zav (zaz [zrL,zhk,zqn,zk9,zd7,zfO,znk,znl]) zbz ⟨Try.f77,by kernel_rfl,by kernel_rfl,by kernel_rfl⟩
noncomputable def zu5:Fact Try.prog:=⟨ID.row_Fill,(.pure [1,0] zbZ),zsF⟩
noncomputable def zpn (zcG:List D→Option D) (zaV:List D→Option D) (zch:List D→Option D) (zbt:List D→Option D) (zan:List D→Option D) (zaK:List D→Option D) (zb0:List D→Option D) (zb1:List D→Option D) (a0_0:Int) (a0_1:Int) (a0_2:Int) (a1:Int) (a2:List D):Option D:=
 zaq (zcG [D.agg [D.int IntKind.i64 a0_0,D.int IntKind.i64 a0_1,D.int IntKind.i64 a0_2],D.int IntKind.i64 a1]) fun r1=>
 asB r1 fun b2=>
 brK (!b2)
  (some (D.tup [D.sl Tag.own [],D.bool false]))
  (zaq (zaV [D.agg [D.int IntKind.i64 a0_0,D.int IntKind.i64 a0_1,D.int IntKind.i64 a0_2]]) fun r3=>
  asI IntKind.i64 r3 fun i4=>
  brK ((↑(List.length a2):Int) != i4)
   (some (D.tup [D.sl Tag.own [],D.bool false]))
   (zaq (zch [D.sl Tag.lent a2]) fun r5=>
   asB r5 fun b6=>
   brK (!b6)
    (some (D.tup [D.sl Tag.own [],D.bool false]))
    (sif ((0:Int)≤a0_1) <|
    sif (a0_1=a0_1) <|
    sif (a0_1*(24:Int)≤(140737488355328:Int)) <|
    sif (a0_1≤(140737488355328:Int)) <|
    sif (Int.toNat a0_1=List.length (List.replicate (Int.toNat a0_1) (D.sl Tag.nil []))) <|
    zb7 (α:=(Int×List D×(Int×Int×Int×PUnit)×List D×List D×Int×Int×PUnit)×PUnit) (fun again7 ((i8,(l9,((i10,(i11,(i12,_))),(l13,(l14,(i15,(i16,_))))))),_)=>
     brK (decide (i16 < i15))
      (sif ((0:Int)≤i16) <|
      getK l14 (Int.toNat i16) fun d17=>
      asSl d17 fun t18 l19=>
      zaq (zbt [D.agg [D.int IntKind.i64 i10,D.int IntKind.i64 i11,D.int IntKind.i64 i12],D.int IntKind.i64 i8,D.int IntKind.i64 i16]) fun r20=>
      asI IntKind.i64 r20 fun i21=>
      zaq (zan [D.sl t18 l19]) fun r22=>
      za0 r22 fun l23=>
      sif ((0:Int)≤i21) <|
      sif (Int.toNat i21 < List.length l13) <|
      sif ((0:Nat)+List.length l23≤List.length l23) <|
      getK l13 ((0:Nat)+Int.toNat i21) fun d24=>
      sif ((0:Nat)+List.length l23≤List.length l23) <|
      sif (D.isAgg d24=false) <|
      letN (IntKind.wrap IntKind.i64 (i16+(1:Int))) fun n25=>
      sif (List.length l13=List.length (List.set l13 ((0:Nat)+Int.toNat i21) (D.sl Tag.fresh (cut (0:Nat) (List.length l23) l23)))) <|
      again7 (((i8,l9,(i10,i11,i12,PUnit.unit),List.set l13 ((0:Nat)+Int.toNat i21) (D.sl Tag.fresh (cut (0:Nat) (List.length l23) l23)),l14,i15,n25,PUnit.unit),PUnit.unit)))
      (zaq (zaK [D.agg [D.int IntKind.i64 i10,D.int IntKind.i64 i11,D.int IntKind.i64 i12],D.int IntKind.i64 i8]) fun r26=>
      zdG r26 fun ts27=>
      zat ([Lf.any,Lf.any]) ts27 fun c28=>
      asI IntKind.i64 c28.fst fun i29=>
      asI IntKind.i64 c28.snd.fst fun i30=>
      zaq (zb0 [D.sl Tag.lent l9]) fun r31=>
      za0 r31 fun l32=>
      sif ((0:Int)≤i29) <|
      sif (Int.toNat i29 < List.length l13) <|
      sif ((0:Nat)+List.length l32≤List.length l32) <|
      getK l13 ((0:Nat)+Int.toNat i29) fun d33=>
      sif ((0:Nat)+List.length l32≤List.length l32) <|
      sif (D.isAgg d33=false) <|
      brK (decide (i30≥(0:Int)))
       (zaq (zb1 [D.sl Tag.lent l9]) fun r34=>
       za0 r34 fun l35=>
       sif ((0:Int)≤i30) <|
       sif (Int.toNat i30 < List.length l13) <|
       sif ((0:Nat)+List.length l35≤List.length l35) <|
       getK (List.set l13 ((0:Nat)+Int.toNat i29) (D.sl Tag.fresh (cut (0:Nat) (List.length l32) l32))) ((0:Nat)+Int.toNat i30) fun d36=>
       sif ((0:Nat)+List.length l35≤List.length l35) <|
       sif (D.isAgg d36=false) <|
       sif (List.length l13=List.length (List.set (List.set l13 ((0:Nat)+Int.toNat i29) (D.sl Tag.fresh (cut (0:Nat) (List.length l32) l32))) ((0:Nat)+Int.toNat i30) (D.sl Tag.fresh (cut (0:Nat) (List.length l35) l35)))) <|
       sif (List.all (List.set (List.set l13 ((0:Nat)+Int.toNat i29) (D.sl Tag.fresh (cut (0:Nat) (List.length l32) l32))) ((0:Nat)+Int.toNat i30) (D.sl Tag.fresh (cut (0:Nat) (List.length l35) l35))) D.free=true) <|
       some (D.tup [D.sl Tag.own (List.set (List.set l13 ((0:Nat)+Int.toNat i29) (D.sl Tag.fresh (cut (0:Nat) (List.length l32) l32))) ((0:Nat)+Int.toNat i30) (D.sl Tag.fresh (cut (0:Nat) (List.length l35) l35))),D.bool true]))
       (sif (List.length l13=List.length (List.set l13 ((0:Nat)+Int.toNat i29) (D.sl Tag.fresh (cut (0:Nat) (List.length l32) l32)))) <|
       sif (List.all (List.set l13 ((0:Nat)+Int.toNat i29) (D.sl Tag.fresh (cut (0:Nat) (List.length l32) l32))) D.free=true) <|
       some (D.tup [D.sl Tag.own (List.set l13 ((0:Nat)+Int.toNat i29) (D.sl Tag.fresh (cut (0:Nat) (List.length l32) l32))),D.bool true]))))
     (((a1,a2,(a0_0,a0_1,a0_2,PUnit.unit),List.replicate (Int.toNat a0_1) (D.sl Tag.nil []),a2,(↑(List.length a2):Int),(0:Int),PUnit.unit),PUnit.unit)))))
theorem zzS (zcG:List D→Option D) (zaV:List D→Option D) (zch:List D→Option D) (zbt:List D→Option D) (zan:List D→Option D) (zaK:List D→Option D) (zb0:List D→Option D) (zb1:List D→Option D) (tga2:Tag) (a0_0:Int) (a0_1:Int) (a0_2:Int) (a1:Int) (a2:List D):denP Try.prog (zay [(ID.row_in,(.pure [0] zcG)),(ID.geom_Width,(.pure [0] zaV)),(ID.row_sectors,(.pure [0] zch)),(ID.place_Disk,(.pure [0] zbt)),(ID.slices_Clone_byte_byte,(.pure [1] zan)),(ID.place_Parity,(.pure [0,0] zaK)),(ID.synd_P,(.pure [1] zb0)),(ID.synd_Q,(.pure [1] zb1))]) zp3 [1,0] ID.row_Fill [.agg [.int .i64 a0_0,.int .i64 a0_1,.int .i64 a0_2],.int .i64 a1,.sl tga2 a2]=zpn zcG zaV zch zbt zan zaK zb0 zb1 a0_0 a0_1 a0_2 a1 (D.lentL a2):=by kernel_rfl
theorem zu6 (tga2:Tag) (a0_0:Int) (a0_1:Int) (a0_2:Int) (a1:Int) (a2:List D):zbZ [.agg [.int .i64 a0_0,.int .i64 a0_1,.int .i64 a0_2],.int .i64 a1,.sl tga2 a2]=zpn zcG zaV zch zbt zan zaK zb0 zb1 a0_0 a0_1 a0_2 a1 (D.lentL a2):=zzS zcG zaV zch zbt zan zaK zb0 zb1 tga2 a0_0 a0_1 a0_2 a1 a2
def zcI:Ann:={ loops:=[] }
noncomputable def zad:List D→Option D:=denE Try.prog (zay []) zcI [33] ID.slices_Clone_disk_write_disk_write
theorem zdY:za9 Try.prog ID.slices_Clone_disk_write_disk_write (.pure [33] zad):=ztj (zaz []) zbz ⟨Try.f121,by kernel_rfl,by kernel_rfl,by kernel_rfl⟩
noncomputable def zcD:Fact Try.prog:=⟨ID.slices_Clone_disk_write_disk_write,(.pure [33] zad),zdY⟩
noncomputable def zcg (a0:D) (b0:List D):Option D:=
 sif (List.length (a0::b0)≤(4294967296:Nat)) <|
 sif (zdT (33:Nat) (a0::b0)=true) <|
 sif (List.length (a0::b0)=List.length (a0::b0)) <|
 sif (List.all (a0::b0) D.free=true) <|
 some (D.sl Tag.own (a0::b0))
theorem zeF (tga0:Tag) (a0:D) (b0:List D):denE Try.prog (zay []) zcI [33] ID.slices_Clone_disk_write_disk_write [.sl tga0 (a0::b0)]=zcg (D.lent a0) (D.lentL b0):=by kernel_rfl
theorem zd8 (tga0:Tag) (a0:D) (b0:List D):zad [.sl tga0 (a0::b0)]=zcg (D.lent a0) (D.lentL b0):=zeF tga0 a0 b0
theorem zdZ (tg:Tag):zad [.sl tg []]=some (.sl .own []):=(zpV (some (.sl .own [])))
def zhp:Ann:={ loops:=[],pubs:=[(2,[(3,119,7649)])],ks:=[(7649,true)] }
noncomputable def zaS:List D→List Tb→Option Ans:=denS Try.prog (zay [(ID.slices_Clone_disk_write_disk_write,(.pure [33] zad))]) zhp [0] ID.disk_Disk_Clone
theorem zlh:za9 Try.prog ID.disk_Disk_Clone (.st [] [0] [(7649,true)] zaS):=za2 (zaz [zcD]) zbz ⟨Try.f93,by kernel_rfl,by kernel_rfl,by kernel_rfl⟩
noncomputable def zgz:Fact Try.prog:=⟨ID.disk_Disk_Clone,(.st [] [0] [(7649,true)] zaS),zlh⟩
noncomputable def zfQ (zad:List D→Option D) (a0:Nat) (T0:Tb):Option Ans:=
 getK T0 a0 fun d1=>
 sif ((1666:Nat)≤List.length d1) <|
 sif (List.length (List.map D.hide (List.take (1666:Nat) (List.drop (0:Nat) d1)))=(1666:Nat)) <|
 getK T0 a0 fun d2=>
 getK d2 ((1664:Nat)) fun d3=>
 za0 d3 fun l4=>
 getK T0 a0 fun d5=>
 getK d5 ((1664:Nat)) fun d6=>
 za0 d6 fun l7=>
 sif ((0:Nat)+List.length l4≤List.length l7) <|
 zaq (zad [D.sl Tag.lent (cut (0:Nat) (List.length l4) l7)]) fun r8=>
 za0 r8 fun l9=>
 sif ((0:Nat)+List.length l9≤List.length l9) <|
 sif ((1664:Nat) < List.length (spl (0:Nat) (1666:Nat) (List.reverse ([D.bool false,D.sl Tag.nil []]++List.replicate 1664 (D.int IntKind.u8 (0:Int)))) (List.map D.hide (List.take (1666:Nat) (List.drop (0:Nat) d1))))) <|
 sif (some (1666:Nat)=some (List.length (spl (0:Nat) (1666:Nat) (List.reverse ([D.bool false,D.sl Tag.nil []]++List.replicate 1664 (D.int IntKind.u8 (0:Int)))) (List.map D.hide (List.take (1666:Nat) (List.drop (0:Nat) d1)))))) <|
 sif (List.length l9=List.length l9) <|
 sif (zdj l9=true) <|
 sif (zfv (33:Nat) l9=true) <|
 sif (List.all (List.set (spl (0:Nat) (1666:Nat) (List.reverse ([D.bool false,D.sl Tag.nil []]++List.replicate 1664 (D.int IntKind.u8 (0:Int)))) (List.map D.hide (List.take (1666:Nat) (List.drop (0:Nat) d1)))) (1664:Nat) D.nilp) D.own0ok=true) <|
 sif ((true && decide ((1:Nat)=(1:Nat)) && List.all [(1664:Nat)] fun k=>decide (k < List.length (spl (0:Nat) (1666:Nat) (List.reverse ([D.bool false,D.sl Tag.nil []]++List.replicate 1664 (D.int IntKind.u8 (0:Int)))) (List.map D.hide (List.take (1666:Nat) (List.drop (0:Nat) d1))))))=true) <|
 letT (T0++[List.set (List.map D.own0 (spl (0:Nat) (1666:Nat) (List.reverse ([D.bool false,D.sl Tag.nil []]++List.replicate 1664 (D.int IntKind.u8 (0:Int)))) (List.map D.hide (List.take (1666:Nat) (List.drop (0:Nat) d1))))) (1664:Nat) (D.sl Tag.own l9)]) fun U10=>
 some (Ans.mk (D.h (7649:Nat) (List.length T0) (0:Nat)) [] [U10])
theorem zpo (zad:List D→Option D) (a0:Nat) (T0:Tb):denS Try.prog (zay [(ID.slices_Clone_disk_write_disk_write,(.pure [33] zad))]) zhp [0] ID.disk_Disk_Clone [.h 7649 a0 0] [T0]=zfQ zad a0 T0:=by kernel_rfl
theorem zmk (a0:Nat) (T0:Tb):zaS [.h 7649 a0 0] [T0]=zfQ zad a0 T0:=zpo zad a0 T0
def ziN:Ann:={ loops:=[],ks:=[(7649,false)] }
noncomputable def za4:List D→List Tb→Option Ans:=denS Try.prog (zay [(ID.disk_Disk_may,(.st [] [0] [(7649,false)] za3))]) ziN [0,0] ID.disk_Disk_put
theorem zno:za9 Try.prog ID.disk_Disk_put (.st [] [0,0] [(7649,false)] za4):=za2 (zaz [zhS]) zbz ⟨Try.f124,by kernel_rfl,by kernel_rfl,by kernel_rfl⟩
noncomputable def zhU:Fact Try.prog:=⟨ID.disk_Disk_put,(.st [] [0,0] [(7649,false)] za4),zno⟩
noncomputable def zhq (za3:List D→List Tb→Option Ans) (a0:Nat) (a1:Int) (a2:List D) (T0:Tb):Option Ans:=
 zaq (za3 [D.h (7649:Nat) a0 (0:Nat),D.int IntKind.i64 a1] [T0]) fun r1=>
 nilK r1.outs <|
 nilK r1.tbs <|
 asI IntKind.i64 r1.r fun i2=>
 brK (i2 != (0:Int))
  (some (Ans.mk (D.tup [D.agg [D.int IntKind.i64 (0:Int),D.int IntKind.u8 (0:Int),D.int IntKind.u8 (0:Int),D.int IntKind.u8 (0:Int),D.int IntKind.u8 (0:Int),D.int IntKind.u8 (0:Int),D.int IntKind.u8 (0:Int),D.int IntKind.u8 (0:Int),D.int IntKind.u8 (0:Int),D.int IntKind.u8 (0:Int),D.int IntKind.u8 (0:Int),D.int IntKind.u8 (0:Int),D.int IntKind.u8 (0:Int),D.int IntKind.u8 (0:Int),D.int IntKind.u8 (0:Int),D.int IntKind.u8 (0:Int),D.int IntKind.u8 (0:Int),D.int IntKind.u8 (0:Int),D.int IntKind.u8 (0:Int),D.int IntKind.u8 (0:Int),D.int IntKind.u8 (0:Int),D.int IntKind.u8 (0:Int),D.int IntKind.u8 (0:Int),D.int IntKind.u8 (0:Int),D.int IntKind.u8 (0:Int),D.int IntKind.u8 (0:Int),D.int IntKind.u8 (0:Int),D.int IntKind.u8 (0:Int),D.int IntKind.u8 (0:Int),D.int IntKind.u8 (0:Int),D.int IntKind.u8 (0:Int),D.int IntKind.u8 (0:Int),D.int IntKind.u8 (0:Int)],D.int IntKind.i64 i2]) [] []))
  (brK ((↑(List.length a2):Int) != (32:Int))
   (some (Ans.mk (D.tup [D.agg [D.int IntKind.i64 (0:Int),D.int IntKind.u8 (0:Int),D.int IntKind.u8 (0:Int),D.int IntKind.u8 (0:Int),D.int IntKind.u8 (0:Int),D.int IntKind.u8 (0:Int),D.int IntKind.u8 (0:Int),D.int IntKind.u8 (0:Int),D.int IntKind.u8 (0:Int),D.int IntKind.u8 (0:Int),D.int IntKind.u8 (0:Int),D.int IntKind.u8 (0:Int),D.int IntKind.u8 (0:Int),D.int IntKind.u8 (0:Int),D.int IntKind.u8 (0:Int),D.int IntKind.u8 (0:Int),D.int IntKind.u8 (0:Int),D.int IntKind.u8 (0:Int),D.int IntKind.u8 (0:Int),D.int IntKind.u8 (0:Int),D.int IntKind.u8 (0:Int),D.int IntKind.u8 (0:Int),D.int IntKind.u8 (0:Int),D.int IntKind.u8 (0:Int),D.int IntKind.u8 (0:Int),D.int IntKind.u8 (0:Int),D.int IntKind.u8 (0:Int),D.int IntKind.u8 (0:Int),D.int IntKind.u8 (0:Int),D.int IntKind.u8 (0:Int),D.int IntKind.u8 (0:Int),D.int IntKind.u8 (0:Int),D.int IntKind.u8 (0:Int)],D.int IntKind.i64 (1:Int)]) [] []))
   (sif (cells a2=true) <|
   sif (List.length a2=(32:Nat)) <|
   sif ((33:Nat)≤List.length ([D.int IntKind.i64 a1]++(a2++[]))) <|
   zat ([Lf.int IntKind.i64,Lf.arr (32)]) (List.take (33:Nat) (List.drop (0:Nat) ([D.int IntKind.i64 a1]++(a2++[])))) fun c3=>
   sif (List.length ([D.int IntKind.i64 c3.fst]++(c3.snd.fst++[]))=(33:Nat)) <|
   sif ((33:Nat)≤List.length ([D.int IntKind.i64 c3.fst]++(c3.snd.fst++[]))) <|
   zat ([Lf.int IntKind.i64,Lf.arr (32)]) (List.take (33:Nat) (List.drop (0:Nat) ([D.int IntKind.i64 c3.fst]++(c3.snd.fst++[])))) fun c4=>
   sif (D.free (D.agg ([D.int IntKind.i64 c4.fst]++(c4.snd.fst++[])))=true) <|
   some (Ans.mk (D.tup [D.agg ([D.int IntKind.i64 c4.fst]++(c4.snd.fst++[])),D.int IntKind.i64 (0:Int)]) [] [])))
theorem zrY (za3:List D→List Tb→Option Ans) (tga2:Tag) (a0:Nat) (a1:Int) (a2:List D) (T0:Tb):denS Try.prog (zay [(ID.disk_Disk_may,(.st [] [0] [(7649,false)] za3))]) ziN [0,0] ID.disk_Disk_put [.h 7649 a0 0,.int .i64 a1,.sl tga2 a2] [T0]=zhq za3 a0 a1 (D.lentL a2) T0:=by kernel_rfl
theorem zov (tga2:Tag) (a0:Nat) (a1:Int) (a2:List D) (T0:Tb):za4 [.h 7649 a0 0,.int .i64 a1,.sl tga2 a2] [T0]=zhq za3 a0 a1 (D.lentL a2) T0:=zrY za3 tga2 a0 a1 a2 T0
def zhr:Ann:={ loops:=[],ks:=[(7649,true)] }
noncomputable def zbv:List D→List Tb→Option Ans:=denS Try.prog (zay [(ID.disk_Disk_put,(.st [] [0,0] [(7649,false)] za4))]) zhr [0] ID.disk_Disk_Write
theorem zli:za9 Try.prog ID.disk_Disk_Write (.st [] [0] [(7649,true)] zbv):=za2 (zaz [zhU]) zbz ⟨Try.f112,by kernel_rfl,by kernel_rfl,by kernel_rfl⟩
noncomputable def zml:Fact Try.prog:=⟨ID.disk_Disk_Write,(.st [] [0] [(7649,true)] zbv),zli⟩
noncomputable def zfR (za4:List D→List Tb→Option Ans) (a0:Nat) (a1:Int) (a2:List D) (T0:Tb):Option Ans:=
 zaq (za4 [D.h (7649:Nat) a0 (0:Nat),D.int IntKind.i64 a1,D.sl Tag.lent a2] [T0]) fun r1=>
 nilK r1.outs <|
 nilK r1.tbs <|
 zdG r1.r fun ts2=>
 zat ([Lf.any,Lf.any]) ts2 fun c3=>
 asAgg c3.fst fun cs4=>
 zat ([Lf.int IntKind.i64,Lf.arr (32)]) cs4 fun c5=>
 asI IntKind.i64 c3.snd.fst fun i6=>
 sif (List.length ([D.int IntKind.i64 c5.fst]++(c5.snd.fst++[]))=(33:Nat)) <|
 brK (i6 == (0:Int))
  (getK T0 a0 fun d7=>
  getK d7 ((1664:Nat)) fun d8=>
  za0 d8 fun l9=>
  sif ((33:Nat)≤List.length ([D.int IntKind.i64 c5.fst]++(c5.snd.fst++[]))) <|
  zat ([Lf.int IntKind.i64,Lf.arr (32)]) (List.take (33:Nat) (List.drop (0:Nat) ([D.int IntKind.i64 c5.fst]++(c5.snd.fst++[])))) fun c10=>
  sif (zdT (33:Nat) [D.agg ([D.int IntKind.i64 c10.fst]++(c10.snd.fst++[]))]=true) <|
  getK T0 a0 fun d11=>
  getK d11 ((1664:Nat)) fun d12=>
  za0 d12 fun l13=>
  sif (List.length l9+(1:Nat)≤(4294967296:Nat)) <|
  sif (zdT (33:Nat) [D.agg ([D.int IntKind.i64 c10.fst]++(c10.snd.fst++[]))]=true) <|
  sif (List.length l9=List.length l13) <|
  letT (setT T0 a0 (1664:Nat) D.undef) fun U14=>
  getK U14 a0 fun d15=>
  sif ((1665:Nat)≤List.length d15) <|
  sif (List.length l9+(1:Nat)=List.length (l13++[D.agg ([D.int IntKind.i64 c10.fst]++(c10.snd.fst++[]))])) <|
  sif (zdj (l13++[D.agg ([D.int IntKind.i64 c10.fst]++(c10.snd.fst++[]))])=true) <|
  sif (zfv (33:Nat) (l13++[D.agg ([D.int IntKind.i64 c10.fst]++(c10.snd.fst++[]))])=true) <|
  letT (zaQ U14 a0 (1664:Nat) [D.sl Tag.own (l13++[D.agg ([D.int IntKind.i64 c10.fst]++(c10.snd.fst++[]))])]) fun U16=>
  some (Ans.mk (D.int IntKind.i64 i6) [] [U16]))
  (some (Ans.mk (D.int IntKind.i64 i6) [] [T0]))
theorem zpp (za4:List D→List Tb→Option Ans) (tga2:Tag) (a0:Nat) (a1:Int) (a2:List D) (T0:Tb):denS Try.prog (zay [(ID.disk_Disk_put,(.st [] [0,0] [(7649,false)] za4))]) zhr [0] ID.disk_Disk_Write [.h 7649 a0 0,.int .i64 a1,.sl tga2 a2] [T0]=zfR za4 a0 a1 (D.lentL a2) T0:=by kernel_rfl
theorem zmm (tga2:Tag) (a0:Nat) (a1:Int) (a2:List D) (T0:Tb):zbv [.h 7649 a0 0,.int .i64 a1,.sl tga2 a2] [T0]=zfR za4 a0 a1 (D.lentL a2) T0:=zpp za4 tga2 a0 a1 a2 T0
def zfg:Ann:={ loops:=[],ks:=[(3840,true)] }
noncomputable def zbb:List D→List Tb→Option Ans:=denS Try.prog (zay []) zfg [0] ID.bench_counter_count
theorem zia:za9 Try.prog ID.bench_counter_count (.st [] [0] [(3840,true)] zbb):=za2 (zaz []) zbz ⟨Try.f113,by kernel_rfl,by kernel_rfl,by kernel_rfl⟩
noncomputable def ziO:Fact Try.prog:=⟨ID.bench_counter_count,(.st [] [0] [(3840,true)] zbb),zia⟩
noncomputable def zd9 (a0:Nat) (T0:Tb):Option Ans:=
 getK T0 a0 fun d1=>
 getK d1 ((1:Nat)) fun d2=>
 asI IntKind.i64 d2 fun i3=>
 brK (i3 == (0:Int))
  (getK T0 a0 fun d4=>
  sif ((3:Nat)≤List.length d4) <|
  sif (ze3 (List.take (1:Nat) (List.drop (2:Nat) d4))=true) <|
  letT (zaQ T0 a0 (2:Nat) [D.bool true]) fun U5=>
  some (Ans.mk (D.bool false) [] [U5]))
  (getK T0 a0 fun d6=>
  getK d6 ((1:Nat)) fun d7=>
  asI IntKind.i64 d7 fun i8=>
  brK (decide (i8 > (0:Int)))
   (getK T0 a0 fun d9=>
   getK d9 ((1:Nat)) fun d10=>
   asI IntKind.i64 d10 fun i11=>
   letN (IntKind.wrap IntKind.i64 (i11 - (1:Int))) fun n12=>
   getK T0 a0 fun d13=>
   sif ((2:Nat)≤List.length d13) <|
   sif (ze3 (List.take (1:Nat) (List.drop (1:Nat) d13))=true) <|
   letT (zaQ T0 a0 (1:Nat) [D.int IntKind.i64 n12]) fun U14=>
   getK U14 a0 fun d15=>
   getK d15 ((0:Nat)) fun d16=>
   asI IntKind.i64 d16 fun i17=>
   letN (IntKind.wrap IntKind.i64 (i17+(1:Int))) fun n18=>
   getK U14 a0 fun d19=>
   sif ((1:Nat)≤List.length d19) <|
   sif (ze3 (List.take (1:Nat) (List.drop (0:Nat) d19))=true) <|
   letT (zaQ U14 a0 (0:Nat) [D.int IntKind.i64 n18]) fun U20=>
   some (Ans.mk (D.bool true) [] [U20]))
   (getK T0 a0 fun d21=>
   getK d21 ((0:Nat)) fun d22=>
   asI IntKind.i64 d22 fun i23=>
   letN (IntKind.wrap IntKind.i64 (i23+(1:Int))) fun n24=>
   getK T0 a0 fun d25=>
   sif ((1:Nat)≤List.length d25) <|
   sif (ze3 (List.take (1:Nat) (List.drop (0:Nat) d25))=true) <|
   letT (zaQ T0 a0 (0:Nat) [D.int IntKind.i64 n24]) fun U26=>
   some (Ans.mk (D.bool true) [] [U26])))
theorem zlj (a0:Nat) (T0:Tb):denS Try.prog (zay []) zfg [0] ID.bench_counter_count [.h 3840 a0 0] [T0]=zd9 a0 T0:=by kernel_rfl
theorem ziP (a0:Nat) (T0:Tb):zbb [.h 3840 a0 0] [T0]=zd9 a0 T0:=zlj a0 T0
def zgb:Ann:={ loops:=[],ks:=[(3840,true),(7649,true)] }
noncomputable def zaG:List D→List Tb→Option Ans:=denS Try.prog (zay [(ID.bench_Bench_may,(.st [] [0] [(3840,false)] zax)),(ID.disk_Disk_Clone,(.st [] [0] [(7649,true)] zaS)),(ID.disk_Disk_Write,(.st [] [0] [(7649,true)] zbv)),(ID.bench_counter_count,(.st [] [0] [(3840,true)] zbb))]) zgb [0] ID.bench_Bench_Write
theorem zjA:za9 Try.prog ID.bench_Bench_Write (.st [] [0] [(3840,true),(7649,true)] zaG):=za2 (zaz [zet,zgz,zml,ziO]) zbz ⟨Try.f78,by kernel_rfl,by kernel_rfl,by kernel_rfl⟩
noncomputable def zkd:Fact Try.prog:=⟨ID.bench_Bench_Write,(.st [] [0] [(3840,true),(7649,true)] zaG),zjA⟩
noncomputable def zeP (zax:List D→List Tb→Option Ans) (zaS:List D→List Tb→Option Ans) (zbv:List D→List Tb→Option Ans) (zbb:List D→List Tb→Option Ans) (a0:Nat) (a1:Int) (a2:Int) (a3:List D) (T0:Tb) (T1:Tb):Option Ans:=
 zaq (zax [D.h (3840:Nat) a0 (0:Nat),D.int IntKind.i64 a1] [T0]) fun r1=>
 nilK r1.outs <|
 nilK r1.tbs <|
 asI IntKind.i64 r1.r fun i2=>
 brK (i2 != (0:Int))
  (some (Ans.mk (D.int IntKind.i64 i2) [] [T0,T1]))
  (getK T0 a0 fun d3=>
  getK d3 ((3:Nat)) fun d4=>
  za0 d4 fun l5=>
  getK T0 a0 fun d6=>
  getK d6 ((3:Nat)) fun d7=>
  za0 d7 fun l8=>
  sif ((0:Int)≤a1) <|
  sif (Int.toNat a1 < List.length l5) <|
  getK T0 a0 fun d9=>
  getK d9 ((3:Nat)) fun d10=>
  za0 d10 fun l11=>
  getK l11 ((0:Nat)+Int.toNat a1) fun d12=>
  sif (D.isAgg d12=false) <|
  sif (D.width d12=(1:Nat)) <|
  sif (D.cell d12=true) <|
  zaq (zaS [d12] [T1]) fun r13=>
  nilK r13.outs <|
  zb8 r13.tbs fun c14 q15=>
  nilK q15 <|
  sif (zha r13.r=true) <|
  zaq (zbv [r13.r,D.int IntKind.i64 a2,D.sl Tag.lent a3] [c14]) fun r16=>
  nilK r16.outs <|
  zb8 r16.tbs fun c17 q18=>
  nilK q18 <|
  asI IntKind.i64 r16.r fun i19=>
  brK (i19 != (0:Int))
   (some (Ans.mk (D.int IntKind.i64 i19) [] [T0,c17]))
   (zaq (zbb [D.h (3840:Nat) a0 (0:Nat)] [T0]) fun r20=>
   nilK r20.outs <|
   zb8 r20.tbs fun c21 q22=>
   nilK q22 <|
   asB r20.r fun b23=>
   brK (!b23)
    (some (Ans.mk (D.int IntKind.i64 (6:Int)) [] [c21,c17]))
    (getK c21 a0 fun d24=>
    getK d24 ((3:Nat)) fun d25=>
    za0 d25 fun l26=>
    getK c21 a0 fun d27=>
    getK d27 ((3:Nat)) fun d28=>
    za0 d28 fun l29=>
    sif ((0:Int)≤a1) <|
    sif (Int.toNat a1 < List.length l26) <|
    getK c21 a0 fun d30=>
    getK d30 ((3:Nat)) fun d31=>
    za0 d31 fun l32=>
    getK l32 ((0:Nat)+Int.toNat a1) fun d33=>
    sif (D.isAgg d33=false) <|
    sif (D.width d33=(1:Nat)) <|
    sif (D.cell d33=true) <|
    zaq (zbv [d33,D.int IntKind.i64 a2,D.sl Tag.lent a3] [c17]) fun r34=>
    nilK r34.outs <|
    zb8 r34.tbs fun c35 q36=>
    nilK q36 <|
    asI IntKind.i64 r34.r fun i37=>
    some (Ans.mk (D.int IntKind.i64 i37) [] [c21,c35]))))
theorem znp (zax:List D→List Tb→Option Ans) (zaS:List D→List Tb→Option Ans) (zbv:List D→List Tb→Option Ans) (zbb:List D→List Tb→Option Ans) (tga3:Tag) (a0:Nat) (a1:Int) (a2:Int) (a3:List D) (T0:Tb) (T1:Tb):denS Try.prog (zay [(ID.bench_Bench_may,(.st [] [0] [(3840,false)] zax)),(ID.disk_Disk_Clone,(.st [] [0] [(7649,true)] zaS)),(ID.disk_Disk_Write,(.st [] [0] [(7649,true)] zbv)),(ID.bench_counter_count,(.st [] [0] [(3840,true)] zbb))]) zgb [0] ID.bench_Bench_Write [.h 3840 a0 0,.int .i64 a1,.int .i64 a2,.sl tga3 a3] [T0,T1]=zeP zax zaS zbv zbb a0 a1 a2 (D.lentL a3) T0 T1:=by kernel_rfl
theorem zke (tga3:Tag) (a0:Nat) (a1:Int) (a2:Int) (a3:List D) (T0:Tb) (T1:Tb):zaG [.h 3840 a0 0,.int .i64 a1,.int .i64 a2,.sl tga3 a3] [T0,T1]=zeP zax zaS zbv zbb a0 a1 a2 (D.lentL a3) T0 T1:=znp zax zaS zbv zbb tga3 a0 a1 a2 a3 T0 T1
def zlk:Ann:={ loops:=[],ks:=[(3840,true),(7649,true)] }
noncomputable def zbK:List D→List Tb→Option Ans:=denS Try.prog (zay [(ID.stripe_Read,(.st [] [1,0] [(3840,false),(7649,false)] zb6)),(ID.row_Fill,(.pure [1,0] zbZ)),(ID.bench_Bench_Write,(.st [] [0] [(3840,true),(7649,true)] zaG))]) zlk [0] ID.rebuild_one
theorem zpq:za9 Try.prog ID.rebuild_one (.st [] [0] [(3840,true),(7649,true)] zbK):=za2 (zaz [zql,zu5,zkd]) zbz ⟨Try.f92,by kernel_rfl,by kernel_rfl,by kernel_rfl⟩
noncomputable def zqp:Fact Try.prog:=⟨ID.rebuild_one,(.st [] [0] [(3840,true),(7649,true)] zbK),zpq⟩
noncomputable def zjB (zb6:List D→List Tb→Option Ans) (zbZ:List D→Option D) (zaG:List D→List Tb→Option Ans) (a0:Nat) (a1:List D) (a2:Int) (a3_0:Int) (a3_1:Int) (a3_2:Int) (a4:Int) (T0:Tb) (T1:Tb):Option Ans:=
 zaq (zb6 [D.h (3840:Nat) a0 (0:Nat),D.sl Tag.lent a1,D.agg [D.int IntKind.i64 a3_0,D.int IntKind.i64 a3_1,D.int IntKind.i64 a3_2],D.int IntKind.i64 a4] [T0,T1]) fun r1=>
 nilK r1.outs <|
 nilK r1.tbs <|
 zdG r1.r fun ts2=>
 zat ([Lf.any,Lf.any]) ts2 fun c3=>
 za0 c3.fst fun l4=>
 asI IntKind.i64 c3.snd.fst fun i5=>
 brK (i5 != (0:Int))
  (some (Ans.mk (D.int IntKind.i64 i5) [] [T0,T1]))
  (sif ((0:Nat)+List.length l4≤List.length l4) <|
  zaq (zbZ [D.agg [D.int IntKind.i64 a3_0,D.int IntKind.i64 a3_1,D.int IntKind.i64 a3_2],D.int IntKind.i64 a4,D.sl Tag.lent (cut (0:Nat) (List.length l4) l4)]) fun r6=>
  zdG r6 fun ts7=>
  zat ([Lf.any,Lf.any]) ts7 fun c8=>
  za0 c8.fst fun l9=>
  asB c8.snd.fst fun b10=>
  letN (IntKind.wrap IntKind.i64 ((36:Int)+a4)) fun n11=>
  sif ((0:Int)≤a2) <|
  sif (Int.toNat a2 < List.length l9) <|
  getK l9 ((0:Nat)+Int.toNat a2) fun d12=>
  asSl d12 fun t13 l14=>
  zaq (zaG [D.h (3840:Nat) a0 (0:Nat),D.int IntKind.i64 a2,D.int IntKind.i64 n11,D.sl t13 l14] [T0,T1]) fun r15=>
  nilK r15.outs <|
  zb8 r15.tbs fun c16 q17=>
  zb8 q17 fun c18 q19=>
  nilK q19 <|
  asI IntKind.i64 r15.r fun i20=>
  some (Ans.mk (D.int IntKind.i64 i20) [] [c16,c18]))
theorem zu7 (zb6:List D→List Tb→Option Ans) (zbZ:List D→Option D) (zaG:List D→List Tb→Option Ans) (tga1:Tag) (a0:Nat) (a1:List D) (a2:Int) (a3_0:Int) (a3_1:Int) (a3_2:Int) (a4:Int) (T0:Tb) (T1:Tb):denS Try.prog (zay [(ID.stripe_Read,(.st [] [1,0] [(3840,false),(7649,false)] zb6)),(ID.row_Fill,(.pure [1,0] zbZ)),(ID.bench_Bench_Write,(.st [] [0] [(3840,true),(7649,true)] zaG))]) zlk [0] ID.rebuild_one [.h 3840 a0 0,.sl tga1 a1,.int .i64 a2,.agg [.int .i64 a3_0,.int .i64 a3_1,.int .i64 a3_2],.int .i64 a4] [T0,T1]=zjB zb6 zbZ zaG a0 (D.lentL a1) a2 a3_0 a3_1 a3_2 a4 T0 T1:=by kernel_rfl
theorem zqq (tga1:Tag) (a0:Nat) (a1:List D) (a2:Int) (a3_0:Int) (a3_1:Int) (a3_2:Int) (a4:Int) (T0:Tb) (T1:Tb):zbK [.h 3840 a0 0,.sl tga1 a1,.int .i64 a2,.agg [.int .i64 a3_0,.int .i64 a3_1,.int .i64 a3_2],.int .i64 a4] [T0,T1]=zjB zb6 zbZ zaG a0 (D.lentL a1) a2 a3_0 a3_1 a3_2 a4 T0 T1:=zu7 zb6 zbZ zaG tga1 a0 a1 a2 a3_0 a3_1 a3_2 a4 T0 T1
def zhs:Ann:={ loops:=[(1,[.val (.cell (.hnd (7649:Nat))),.dead,.dead,.dead,.dead,.dead,.dead,.dead,.dead,.dead,.dead,.dead,.view 7649 1664,.val (.cell (.int .i64)),.val (.cell (.int .i64))])],ks:=[(7649,true)] }
noncomputable def zbG:List D→List Tb→Option Ans:=denS Try.prog (zay []) zhs [0] ID.disk_Disk_Flush
theorem zll:za9 Try.prog ID.disk_Disk_Flush (.st [] [0] [(7649,true)] zbG):=za2 (zaz []) zbz ⟨Try.f114,by kernel_rfl,by kernel_rfl,by kernel_rfl⟩
noncomputable def zmn:Fact Try.prog:=⟨ID.disk_Disk_Flush,(.st [] [0] [(7649,true)] zbG),zll⟩
noncomputable def zfS (a0:Nat) (T0:Tb):Option Ans:=
 getK T0 a0 fun d1=>
 getK d1 ((1665:Nat)) fun d2=>
 asB d2 fun b3=>
 brK b3
  (some (Ans.mk (D.int IntKind.i64 (5:Int)) [] [T0]))
  (getK T0 a0 fun d4=>
  getK d4 ((1664:Nat)) fun d5=>
  za0 d5 fun l6=>
  getK T0 a0 fun d7=>
  getK d7 ((1664:Nat)) fun d8=>
  za0 d8 fun l9=>
  sif ((0:Nat)+List.length l6≤List.length l9) <|
  zb7 (α:=(Nat×(Nat×Nat×Nat)×Int×Int×PUnit)×List (List D)×PUnit) (fun again10 ((x11,((x12,(x13,x14)),(i15,(i16,_)))),(U17,_))=>
   brK (decide (i16 < i15))
    (getK U17 x12 fun d18=>
    getK d18 ((1664:Nat)) fun d19=>
    za0 d19 fun l20=>
    sif ((0:Int)≤i16) <|
    sif (Int.toNat i16 < x14) <|
    getK U17 x12 fun d21=>
    getK d21 ((1664:Nat)) fun d22=>
    za0 d22 fun l23=>
    getK l23 (x13+Int.toNat i16) fun d24=>
    asAgg d24 fun cs25=>
    zat ([Lf.int IntKind.i64,Lf.arr (32)]) cs25 fun c26=>
    sif (D.width (D.agg ([D.int IntKind.i64 c26.fst]++(c26.snd.fst++[])))=(33:Nat)) <|
    sif (List.length ([D.int IntKind.i64 c26.fst]++(c26.snd.fst++[]))=(33:Nat)) <|
    sif ((33:Nat)≤List.length ([D.int IntKind.i64 c26.fst]++(c26.snd.fst++[]))) <|
    sif (List.length (List.take (32:Nat) (List.drop (1:Nat) ([D.int IntKind.i64 c26.fst]++(c26.snd.fst++[]))))=(32:Nat)) <|
    sif ((0:Int)≤c26.fst) <|
    sif (Int.toNat c26.fst < (52:Nat)) <|
    getK U17 x11 fun d27=>
    sif ((0:Nat)+Int.toNat c26.fst*(32:Nat)+(32:Nat)≤List.length d27) <|
    sif (List.length (List.take (32:Nat) (List.drop (1:Nat) ([D.int IntKind.i64 c26.fst]++(c26.snd.fst++[]))))=(32:Nat)) <|
    sif (ze3 (List.take (32:Nat) (List.drop (1:Nat) ([D.int IntKind.i64 c26.fst]++(c26.snd.fst++[]))))=true) <|
    sif (ze3 (List.take (32:Nat) (List.drop ((0:Nat)+Int.toNat c26.fst*(32:Nat)) d27))=true) <|
    letT (zaQ U17 x11 ((0:Nat)+Int.toNat c26.fst*(32:Nat)) (List.take (32:Nat) (List.drop (1:Nat) ([D.int IntKind.i64 c26.fst]++(c26.snd.fst++[]))))) fun U28=>
    letN (IntKind.wrap IntKind.i64 (i16+(1:Int))) fun n29=>
    again10 (((x11,(x12,x13,x14),i15,n29,PUnit.unit),U28,PUnit.unit)))
    (getK U17 x11 fun d30=>
    sif ((1665:Nat)≤List.length d30) <|
    letT (zaQ U17 x11 (1664:Nat) [D.sl Tag.own []]) fun U31=>
    some (Ans.mk (D.int IntKind.i64 (0:Int)) [] [U31])))
   (((a0,(a0,(0:Nat),List.length l6),(↑(List.length l6):Int),(0:Int),PUnit.unit),T0,PUnit.unit)))
theorem zpr (a0:Nat) (T0:Tb):denS Try.prog (zay []) zhs [0] ID.disk_Disk_Flush [.h 7649 a0 0] [T0]=zfS a0 T0:=by kernel_rfl
theorem zmo (a0:Nat) (T0:Tb):zbG [.h 7649 a0 0] [T0]=zfS a0 T0:=zpr a0 T0
def zgc:Ann:={ loops:=[],ks:=[(3840,false),(7649,true)] }
noncomputable def zaC:List D→List Tb→Option Ans:=denS Try.prog (zay [(ID.bench_Bench_may,(.st [] [0] [(3840,false)] zax)),(ID.disk_Disk_Flush,(.st [] [0] [(7649,true)] zbG))]) zgc [0] ID.bench_Bench_Flush
theorem zjC:za9 Try.prog ID.bench_Bench_Flush (.st [] [0] [(3840,false),(7649,true)] zaC):=za2 (zaz [zet,zmn]) zbz ⟨Try.f79,by kernel_rfl,by kernel_rfl,by kernel_rfl⟩
noncomputable def zkf:Fact Try.prog:=⟨ID.bench_Bench_Flush,(.st [] [0] [(3840,false),(7649,true)] zaC),zjC⟩
noncomputable def zeQ (zax:List D→List Tb→Option Ans) (zbG:List D→List Tb→Option Ans) (a0:Nat) (a1:Int) (T0:Tb) (T1:Tb):Option Ans:=
 zaq (zax [D.h (3840:Nat) a0 (0:Nat),D.int IntKind.i64 a1] [T0]) fun r1=>
 nilK r1.outs <|
 nilK r1.tbs <|
 asI IntKind.i64 r1.r fun i2=>
 brK (i2 != (0:Int))
  (some (Ans.mk (D.int IntKind.i64 i2) [] [T1]))
  (getK T0 a0 fun d3=>
  getK d3 ((3:Nat)) fun d4=>
  za0 d4 fun l5=>
  getK T0 a0 fun d6=>
  getK d6 ((3:Nat)) fun d7=>
  za0 d7 fun l8=>
  sif ((0:Int)≤a1) <|
  sif (Int.toNat a1 < List.length l5) <|
  getK T0 a0 fun d9=>
  getK d9 ((3:Nat)) fun d10=>
  za0 d10 fun l11=>
  getK l11 ((0:Nat)+Int.toNat a1) fun d12=>
  sif (D.isAgg d12=false) <|
  sif (D.width d12=(1:Nat)) <|
  sif (D.cell d12=true) <|
  zaq (zbG [d12] [T1]) fun r13=>
  nilK r13.outs <|
  zb8 r13.tbs fun c14 q15=>
  nilK q15 <|
  asI IntKind.i64 r13.r fun i16=>
  some (Ans.mk (D.int IntKind.i64 i16) [] [c14]))
theorem znq (zax:List D→List Tb→Option Ans) (zbG:List D→List Tb→Option Ans) (a0:Nat) (a1:Int) (T0:Tb) (T1:Tb):denS Try.prog (zay [(ID.bench_Bench_may,(.st [] [0] [(3840,false)] zax)),(ID.disk_Disk_Flush,(.st [] [0] [(7649,true)] zbG))]) zgc [0] ID.bench_Bench_Flush [.h 3840 a0 0,.int .i64 a1] [T0,T1]=zeQ zax zbG a0 a1 T0 T1:=by kernel_rfl
theorem zkg (a0:Nat) (a1:Int) (T0:Tb) (T1:Tb):zaC [.h 3840 a0 0,.int .i64 a1] [T0,T1]=zeQ zax zbG a0 a1 T0 T1:=znq zax zbG a0 a1 T0 T1
def zj1:Ann:={ loops:=[(2,[.val (.cell (.hnd (3840:Nat))),.val (.cell .lent),.val (.cell (.int .i64)),.dead,.dead,.val (.cell (.int .i64)),.dead,.dead,.dead,.box true [(.int .i64),(.int .i64),(.int .i64)],.box true [(.int .i64),(.int .i64),(.int .i64)],.dead,.dead,.dead,.dead,.dead,.dead,.dead,.dead,.dead,.dead,.dead,.dead,.dead,.dead,.dead,.dead,.dead,.dead,.dead,.dead,.dead,.dead,.dead,.dead,.dead,.dead,.dead,.dead,.dead,.dead,.dead,.dead,.dead,.dead,.dead,.dead,.dead,.val (.cell (.int .i64))])],ks:=[(3840,true),(7649,true)] }
noncomputable def zaO:List D→List Tb→Option Ans:=denS Try.prog (zay [(ID.bench_Bench_Len,(.st [] [0] [(3840,false)] zaw)),(ID.rebuild_may,(.pure [0] zb4)),(ID.bench_Bench_Failed,(.st [] [0] [(3840,false),(7649,false)] zaA)),(ID.rebuild_one,(.st [] [0] [(3840,true),(7649,true)] zbK)),(ID.bench_Bench_Flush,(.st [] [0] [(3840,false),(7649,true)] zaC))]) zj1 [0] ID.rebuild_Disk
theorem zow:za9 Try.prog ID.rebuild_Disk (.st [] [0] [(3840,true),(7649,true)] zaO):=za2 (zaz [zgw,zp8,zfd,zqp,zkf]) zbz ⟨Try.f48,by kernel_rfl,by kernel_rfl,by kernel_rfl⟩
noncomputable def ziQ:Fact Try.prog:=⟨ID.rebuild_Disk,(.st [] [0] [(3840,true),(7649,true)] zaO),zow⟩
noncomputable def zib (zaw:List D→List Tb→Option Ans) (zb4:List D→Option D) (zaA:List D→List Tb→Option Ans) (zbK:List D→List Tb→Option Ans) (zaC:List D→List Tb→Option Ans) (a0:Nat) (a1:List D) (a2:Int) (a3_0:Int) (a3_1:Int) (a3_2:Int) (a4_0:Int) (a4_1:Int) (a4_2:Int) (a5:Int) (T0:Tb) (T1:Tb):Option Ans:=
 brK (decide (a2 < (0:Int)))
  (some (Ans.mk (D.int IntKind.i64 (1:Int)) [] [T0,T1]))
  (zaq (zaw [D.h (3840:Nat) a0 (0:Nat)] [T0]) fun r1=>
  nilK r1.outs <|
  nilK r1.tbs <|
  asI IntKind.i64 r1.r fun i2=>
  brK (decide (a2≥i2))
   (some (Ans.mk (D.int IntKind.i64 (1:Int)) [] [T0,T1]))
   (brK (decide (a2 < (↑(List.length a1):Int)))
    (sif ((0:Int)≤a2) <|
    getK a1 (Int.toNat a2) fun d3=>
    asB d3 fun b4=>
    brK b4
     (some (Ans.mk (D.int IntKind.i64 (1:Int)) [] [T0,T1]))
     (zaq (zb4 [D.agg [D.int IntKind.i64 a3_0,D.int IntKind.i64 a3_1,D.int IntKind.i64 a3_2],D.agg [D.int IntKind.i64 a4_0,D.int IntKind.i64 a4_1,D.int IntKind.i64 a4_2],D.int IntKind.i64 a5]) fun r5=>
     asB r5 fun b6=>
     brK (!b6)
      (some (Ans.mk (D.int IntKind.i64 (1:Int)) [] [T0,T1]))
      (zaq (zaA [D.h (3840:Nat) a0 (0:Nat),D.int IntKind.i64 a2] [T0,T1]) fun r7=>
      nilK r7.outs <|
      nilK r7.tbs <|
      asB r7.r fun b8=>
      brK b8
       (some (Ans.mk (D.int IntKind.i64 (5:Int)) [] [T0,T1]))
       (zb7 (α:=(Nat×List D×Int×Int×(Int×Int×Int×PUnit)×(Int×Int×Int×PUnit)×Int×PUnit)×List (List D)×List (List D)×PUnit) (fun again9 ((x10,(l11,(i12,(i13,((i14,(i15,(i16,_))),((i17,(i18,(i19,_))),(i20,_))))))),(U21,(U22,_)))=>
        brK (decide (i20 < (16:Int)))
         (brK (decide (i20 < i13))
          (brK (decide (i12≥i18))
           (letN (IntKind.wrap IntKind.i64 (i20+(1:Int))) fun n23=>
           again9 (((x10,l11,i12,i13,(i14,i15,i16,PUnit.unit),(i17,i18,i19,PUnit.unit),n23,PUnit.unit),U21,U22,PUnit.unit)))
           (zaq (zbK [D.h (3840) x10 (0:Nat),D.sl Tag.lent l11,D.int IntKind.i64 i12,D.agg [D.int IntKind.i64 i17,D.int IntKind.i64 i18,D.int IntKind.i64 i19],D.int IntKind.i64 i20] [U21,U22]) fun r24=>
           nilK r24.outs <|
           zb8 r24.tbs fun c25 q26=>
           zb8 q26 fun c27 q28=>
           nilK q28 <|
           asI IntKind.i64 r24.r fun i29=>
           brK (i29 != (0:Int))
            (some (Ans.mk (D.int IntKind.i64 i29) [] [c25,c27]))
            (letN (IntKind.wrap IntKind.i64 (i20+(1:Int))) fun n30=>
            again9 (((x10,l11,i12,i13,(i14,i15,i16,PUnit.unit),(i17,i18,i19,PUnit.unit),n30,PUnit.unit),c25,c27,PUnit.unit)))))
          (brK (decide (i12≥i15))
           (letN (IntKind.wrap IntKind.i64 (i20+(1:Int))) fun n31=>
           again9 (((x10,l11,i12,i13,(i14,i15,i16,PUnit.unit),(i17,i18,i19,PUnit.unit),n31,PUnit.unit),U21,U22,PUnit.unit)))
           (zaq (zbK [D.h (3840) x10 (0:Nat),D.sl Tag.lent l11,D.int IntKind.i64 i12,D.agg [D.int IntKind.i64 i14,D.int IntKind.i64 i15,D.int IntKind.i64 i16],D.int IntKind.i64 i20] [U21,U22]) fun r32=>
           nilK r32.outs <|
           zb8 r32.tbs fun c33 q34=>
           zb8 q34 fun c35 q36=>
           nilK q36 <|
           asI IntKind.i64 r32.r fun i37=>
           brK (i37 != (0:Int))
            (some (Ans.mk (D.int IntKind.i64 i37) [] [c33,c35]))
            (letN (IntKind.wrap IntKind.i64 (i20+(1:Int))) fun n38=>
            again9 (((x10,l11,i12,i13,(i14,i15,i16,PUnit.unit),(i17,i18,i19,PUnit.unit),n38,PUnit.unit),c33,c35,PUnit.unit))))))
         (zaq (zaC [D.h (3840) x10 (0:Nat),D.int IntKind.i64 i12] [U21,U22]) fun r39=>
         nilK r39.outs <|
         zb8 r39.tbs fun c40 q41=>
         nilK q41 <|
         asI IntKind.i64 r39.r fun i42=>
         some (Ans.mk (D.int IntKind.i64 i42) [] [U21,c40])))
        (((a0,a1,a2,a5,(a3_0,a3_1,a3_2,PUnit.unit),(a4_0,a4_1,a4_2,PUnit.unit),(0:Int),PUnit.unit),T0,T1,PUnit.unit))))))
    (zaq (zb4 [D.agg [D.int IntKind.i64 a3_0,D.int IntKind.i64 a3_1,D.int IntKind.i64 a3_2],D.agg [D.int IntKind.i64 a4_0,D.int IntKind.i64 a4_1,D.int IntKind.i64 a4_2],D.int IntKind.i64 a5]) fun r43=>
    asB r43 fun b44=>
    brK (!b44)
     (some (Ans.mk (D.int IntKind.i64 (1:Int)) [] [T0,T1]))
     (zaq (zaA [D.h (3840:Nat) a0 (0:Nat),D.int IntKind.i64 a2] [T0,T1]) fun r45=>
     nilK r45.outs <|
     nilK r45.tbs <|
     asB r45.r fun b46=>
     brK b46
      (some (Ans.mk (D.int IntKind.i64 (5:Int)) [] [T0,T1]))
      (zb7 (α:=(Nat×List D×Int×Int×(Int×Int×Int×PUnit)×(Int×Int×Int×PUnit)×Int×PUnit)×List (List D)×List (List D)×PUnit) (fun again47 ((x48,(l49,(i50,(i51,((i52,(i53,(i54,_))),((i55,(i56,(i57,_))),(i58,_))))))),(U59,(U60,_)))=>
       brK (decide (i58 < (16:Int)))
        (brK (decide (i58 < i51))
         (brK (decide (i50≥i56))
          (letN (IntKind.wrap IntKind.i64 (i58+(1:Int))) fun n61=>
          again47 (((x48,l49,i50,i51,(i52,i53,i54,PUnit.unit),(i55,i56,i57,PUnit.unit),n61,PUnit.unit),U59,U60,PUnit.unit)))
          (zaq (zbK [D.h (3840) x48 (0:Nat),D.sl Tag.lent l49,D.int IntKind.i64 i50,D.agg [D.int IntKind.i64 i55,D.int IntKind.i64 i56,D.int IntKind.i64 i57],D.int IntKind.i64 i58] [U59,U60]) fun r62=>
          nilK r62.outs <|
          zb8 r62.tbs fun c63 q64=>
          zb8 q64 fun c65 q66=>
          nilK q66 <|
          asI IntKind.i64 r62.r fun i67=>
          brK (i67 != (0:Int))
           (some (Ans.mk (D.int IntKind.i64 i67) [] [c63,c65]))
           (letN (IntKind.wrap IntKind.i64 (i58+(1:Int))) fun n68=>
           again47 (((x48,l49,i50,i51,(i52,i53,i54,PUnit.unit),(i55,i56,i57,PUnit.unit),n68,PUnit.unit),c63,c65,PUnit.unit)))))
         (brK (decide (i50≥i53))
          (letN (IntKind.wrap IntKind.i64 (i58+(1:Int))) fun n69=>
          again47 (((x48,l49,i50,i51,(i52,i53,i54,PUnit.unit),(i55,i56,i57,PUnit.unit),n69,PUnit.unit),U59,U60,PUnit.unit)))
          (zaq (zbK [D.h (3840) x48 (0:Nat),D.sl Tag.lent l49,D.int IntKind.i64 i50,D.agg [D.int IntKind.i64 i52,D.int IntKind.i64 i53,D.int IntKind.i64 i54],D.int IntKind.i64 i58] [U59,U60]) fun r70=>
          nilK r70.outs <|
          zb8 r70.tbs fun c71 q72=>
          zb8 q72 fun c73 q74=>
          nilK q74 <|
          asI IntKind.i64 r70.r fun i75=>
          brK (i75 != (0:Int))
           (some (Ans.mk (D.int IntKind.i64 i75) [] [c71,c73]))
           (letN (IntKind.wrap IntKind.i64 (i58+(1:Int))) fun n76=>
           again47 (((x48,l49,i50,i51,(i52,i53,i54,PUnit.unit),(i55,i56,i57,PUnit.unit),n76,PUnit.unit),c71,c73,PUnit.unit))))))
        (zaq (zaC [D.h (3840) x48 (0:Nat),D.int IntKind.i64 i50] [U59,U60]) fun r77=>
        nilK r77.outs <|
        zb8 r77.tbs fun c78 q79=>
        nilK q79 <|
        asI IntKind.i64 r77.r fun i80=>
        some (Ans.mk (D.int IntKind.i64 i80) [] [U59,c78])))
       (((a0,a1,a2,a5,(a3_0,a3_1,a3_2,PUnit.unit),(a4_0,a4_1,a4_2,PUnit.unit),(0:Int),PUnit.unit),T0,T1,PUnit.unit)))))))
theorem zsG (zaw:List D→List Tb→Option Ans) (zb4:List D→Option D) (zaA:List D→List Tb→Option Ans) (zbK:List D→List Tb→Option Ans) (zaC:List D→List Tb→Option Ans) (tga1:Tag) (a0:Nat) (a1:List D) (a2:Int) (a3_0:Int) (a3_1:Int) (a3_2:Int) (a4_0:Int) (a4_1:Int) (a4_2:Int) (a5:Int) (T0:Tb) (T1:Tb):denS Try.prog (zay [(ID.bench_Bench_Len,(.st [] [0] [(3840,false)] zaw)),(ID.rebuild_may,(.pure [0] zb4)),(ID.bench_Bench_Failed,(.st [] [0] [(3840,false),(7649,false)] zaA)),(ID.rebuild_one,(.st [] [0] [(3840,true),(7649,true)] zbK)),(ID.bench_Bench_Flush,(.st [] [0] [(3840,false),(7649,true)] zaC))]) zj1 [0] ID.rebuild_Disk [.h 3840 a0 0,.sl tga1 a1,.int .i64 a2,.agg [.int .i64 a3_0,.int .i64 a3_1,.int .i64 a3_2],.agg [.int .i64 a4_0,.int .i64 a4_1,.int .i64 a4_2],.int .i64 a5] [T0,T1]=zib zaw zb4 zaA zbK zaC a0 (D.lentL a1) a2 a3_0 a3_1 a3_2 a4_0 a4_1 a4_2 a5 T0 T1:=by kernel_rfl
theorem zps (tga1:Tag) (a0:Nat) (a1:List D) (a2:Int) (a3_0:Int) (a3_1:Int) (a3_2:Int) (a4_0:Int) (a4_1:Int) (a4_2:Int) (a5:Int) (T0:Tb) (T1:Tb):zaO [.h 3840 a0 0,.sl tga1 a1,.int .i64 a2,.agg [.int .i64 a3_0,.int .i64 a3_1,.int .i64 a3_2],.agg [.int .i64 a4_0,.int .i64 a4_1,.int .i64 a4_2],.int .i64 a5] [T0,T1]=zib zaw zb4 zaA zbK zaC a0 (D.lentL a1) a2 a3_0 a3_1 a3_2 a4_0 a4_1 a4_2 a5 T0 T1:=zsG zaw zb4 zaA zbK zaC tga1 a0 a1 a2 a3_0 a3_1 a3_2 a4_0 a4_1 a4_2 a5 T0 T1
def zhV:Ann:={ loops:=[],ks:=[(7649,true)] }
noncomputable def zbO:List D→List Tb→Option Ans:=denS Try.prog (zay []) zhV [] ID.disk_Disk_Fail
theorem zmp:za9 Try.prog ID.disk_Disk_Fail (.st [] [] [(7649,true)] zbO):=za2 (zaz []) zbz ⟨Try.f67,by kernel_rfl,by kernel_rfl,by kernel_rfl⟩
noncomputable def znr:Fact Try.prog:=⟨ID.disk_Disk_Fail,(.st [] [] [(7649,true)] zbO),zmp⟩
noncomputable def zgp (a0:Nat) (T0:Tb):Option Ans:=
 getK T0 a0 fun d1=>
 sif ((1666:Nat)≤List.length d1) <|
 letT (zaQ T0 a0 (0:Nat) (List.map D.own0 (List.set (List.reverse ([D.bool false,D.sl Tag.nil []]++List.replicate 1664 (D.int IntKind.u8 (0:Int)))) (1665:Nat) (D.bool true)))) fun U2=>
 some (Ans.mk (D.tup []) [] [U2])
theorem zqr (a0:Nat) (T0:Tb):denS Try.prog (zay []) zhV [] ID.disk_Disk_Fail [.h 7649 a0 0] [T0]=zgp a0 T0:=by kernel_rfl
theorem zns (a0:Nat) (T0:Tb):zbO [.h 7649 a0 0] [T0]=zgp a0 T0:=zqr a0 T0
def zgA:Ann:={ loops:=[],ks:=[(3840,false),(7649,true)] }
noncomputable def zbf:List D→List Tb→Option Ans:=denS Try.prog (zay [(ID.bench_Bench_is,(.st [] [0] [(3840,false)] zai)),(ID.disk_Disk_Fail,(.st [] [] [(7649,true)] zbO))]) zgA [0] ID.bench_Bench_Fail
theorem zkh:za9 Try.prog ID.bench_Bench_Fail (.st [] [0] [(3840,false),(7649,true)] zbf):=za2 (zaz [zcX,znr]) zbz ⟨Try.f19,by kernel_rfl,by kernel_rfl,by kernel_rfl⟩
noncomputable def zlm:Fact Try.prog:=⟨ID.bench_Bench_Fail,(.st [] [0] [(3840,false),(7649,true)] zbf),zkh⟩
noncomputable def zfh (zai:List D→List Tb→Option Ans) (zbO:List D→List Tb→Option Ans) (a0:Nat) (a1:Int) (T0:Tb) (T1:Tb):Option Ans:=
 zaq (zai [D.h (3840:Nat) a0 (0:Nat),D.int IntKind.i64 a1] [T0]) fun r1=>
 nilK r1.outs <|
 nilK r1.tbs <|
 asB r1.r fun b2=>
 brK (!b2)
  (some (Ans.mk (D.int IntKind.i64 (1:Int)) [] [T1]))
  (getK T0 a0 fun d3=>
  getK d3 ((3:Nat)) fun d4=>
  za0 d4 fun l5=>
  getK T0 a0 fun d6=>
  getK d6 ((3:Nat)) fun d7=>
  za0 d7 fun l8=>
  sif ((0:Int)≤a1) <|
  sif (Int.toNat a1 < List.length l5) <|
  getK T0 a0 fun d9=>
  getK d9 ((3:Nat)) fun d10=>
  za0 d10 fun l11=>
  getK l11 ((0:Nat)+Int.toNat a1) fun d12=>
  sif (D.isAgg d12=false) <|
  sif (D.width d12=(1:Nat)) <|
  sif (D.cell d12=true) <|
  zaq (zbO [d12] [T1]) fun r13=>
  nilK r13.outs <|
  zb8 r13.tbs fun c14 q15=>
  nilK q15 <|
  zdG r13.r fun ts16=>
  nilK ts16 <|
  some (Ans.mk (D.int IntKind.i64 (0:Int)) [] [c14]))
theorem zox (zai:List D→List Tb→Option Ans) (zbO:List D→List Tb→Option Ans) (a0:Nat) (a1:Int) (T0:Tb) (T1:Tb):denS Try.prog (zay [(ID.bench_Bench_is,(.st [] [0] [(3840,false)] zai)),(ID.disk_Disk_Fail,(.st [] [] [(7649,true)] zbO))]) zgA [0] ID.bench_Bench_Fail [.h 3840 a0 0,.int .i64 a1] [T0,T1]=zfh zai zbO a0 a1 T0 T1:=by kernel_rfl
theorem zln (a0:Nat) (a1:Int) (T0:Tb) (T1:Tb):zbf [.h 3840 a0 0,.int .i64 a1] [T0,T1]=zfh zai zbO a0 a1 T0 T1:=zox zai zbO a0 a1 T0 T1
def zgd:Ann:={ loops:=[],ks:=[(3840,true),(7649,true)] }
noncomputable def zbh:List D→Option D:=denT Try.prog (zay [(ID.bench_New,(.st [] [0,0] [(3840,true),(7649,true)] zby)),(ID.rebuild_Disk,(.st [] [0] [(3840,true),(7649,true)] zaO))]) zgd [0] ID.wattlelaw16_wakes
theorem zjD:za9 Try.prog ID.wattlelaw16_wakes (.pure [0] zbh):=ztl (zaz [zmG,ziQ]) zbz ⟨Try.f49,by kernel_rfl,by kernel_rfl,by kernel_rfl⟩
noncomputable def zki:Fact Try.prog:=⟨ID.wattlelaw16_wakes,(.pure [0] zbh),zjD⟩
noncomputable def zeR (zby:List D→List Tb→Option Ans) (zaO:List D→List Tb→Option Ans):Option D:=
 zaq (zby [D.int IntKind.i64 (3:Int)] [[],[]]) fun r1=>
 nilK r1.outs <|
 zb8 r1.tbs fun c2 q3=>
 zb8 q3 fun c4 q5=>
 nilK q5 <|
 zdG r1.r fun ts6=>
 zat ([Lf.any,Lf.any]) ts6 fun c7=>
 sif (zha c7.fst=true) <|
 asI IntKind.i64 c7.snd.fst fun i8=>
 brK (i8 != (0:Int))
  (some (D.bool false))
  (znV c7.fst fun b9=>
  brK b9
   (some (D.bool false))
   (zaq (zaO [c7.fst,D.sl Tag.full [D.bool true,D.bool true,D.bool true],D.int IntKind.i64 (1:Int),D.agg [D.int IntKind.i64 (5:Int),D.int IntKind.i64 (3:Int),D.int IntKind.i64 (1:Int)],D.agg [D.int IntKind.i64 (0:Int),D.int IntKind.i64 (0:Int),D.int IntKind.i64 (0:Int)],D.int IntKind.i64 (0:Int)] [c2,c4]) fun r10=>
   nilK r10.outs <|
   zb8 r10.tbs fun c11 q12=>
   zb8 q12 fun c13 q14=>
   nilK q14 <|
   asI IntKind.i64 r10.r fun i15=>
   brK (i15 == (1:Int))
    (zaq (zaO [c7.fst,D.sl Tag.full [D.bool true,D.bool false,D.bool true],D.int IntKind.i64 (1:Int),D.agg [D.int IntKind.i64 (5:Int),D.int IntKind.i64 (3:Int),D.int IntKind.i64 (1:Int)],D.agg [D.int IntKind.i64 (0:Int),D.int IntKind.i64 (0:Int),D.int IntKind.i64 (0:Int)],D.int IntKind.i64 (0:Int)] [c11,c13]) fun r16=>
    nilK r16.outs <|
    zb8 r16.tbs fun c17 q18=>
    zb8 q18 fun c19 q20=>
    nilK q20 <|
    asI IntKind.i64 r16.r fun i21=>
    some (D.bool (i21 == (0:Int))))
    (some (D.bool false))))
theorem znt (zby:List D→List Tb→Option Ans) (zaO:List D→List Tb→Option Ans):denT Try.prog (zay [(ID.bench_New,(.st [] [0,0] [(3840,true),(7649,true)] zby)),(ID.rebuild_Disk,(.st [] [0] [(3840,true),(7649,true)] zaO))]) zgd [0] ID.wattlelaw16_wakes []=sif (D.nohL []=true) (zeR zby zaO ):=by kernel_rfl
theorem zkj:zbh []=sif (D.nohL []=true) (zeR zby zaO ):=znt zby zaO
def zge:Ann:={ loops:=[(1,[.val (.cell (.int .i64)),.dead,.dead,.own 1,.dead,.dead,.dead,.dead,.dead,.dead,.dead,.val (.cell (.int .i64)),.val (.cell (.int .i64))])] }
noncomputable def zbi:List D→Option D:=denP Try.prog (zay [(ID.wattlekeep_Within,(.pure [0] zab))]) zge [1] ID.wattleplay_Sector
theorem zjE:za9 Try.prog ID.wattleplay_Sector (.pure [1] zbi):=zav (zaz [zc0]) zbz ⟨Try.f36,by kernel_rfl,by kernel_rfl,by kernel_rfl⟩
noncomputable def zkk:Fact Try.prog:=⟨ID.wattleplay_Sector,(.pure [1] zbi),zjE⟩
noncomputable def zeS (zab:List D→Option D) (a0:Int):Option D:=
 zaq (zab [D.int IntKind.i64 a0,D.int IntKind.i64 (11:Int)]) fun r1=>
 asI IntKind.i64 r1 fun i2=>
 brK (i2 == (10:Int))
  (some (D.sl Tag.own [D.int IntKind.u8 (0:Int),D.int IntKind.u8 (0:Int),D.int IntKind.u8 (0:Int),D.int IntKind.u8 (0:Int),D.int IntKind.u8 (0:Int),D.int IntKind.u8 (0:Int),D.int IntKind.u8 (0:Int),D.int IntKind.u8 (0:Int),D.int IntKind.u8 (0:Int),D.int IntKind.u8 (0:Int),D.int IntKind.u8 (0:Int),D.int IntKind.u8 (0:Int),D.int IntKind.u8 (0:Int),D.int IntKind.u8 (0:Int),D.int IntKind.u8 (0:Int),D.int IntKind.u8 (0:Int),D.int IntKind.u8 (0:Int),D.int IntKind.u8 (0:Int),D.int IntKind.u8 (0:Int),D.int IntKind.u8 (0:Int),D.int IntKind.u8 (0:Int),D.int IntKind.u8 (0:Int),D.int IntKind.u8 (0:Int),D.int IntKind.u8 (0:Int),D.int IntKind.u8 (0:Int),D.int IntKind.u8 (0:Int),D.int IntKind.u8 (0:Int),D.int IntKind.u8 (0:Int),D.int IntKind.u8 (0:Int),D.int IntKind.u8 (0:Int),D.int IntKind.u8 (0:Int),D.int IntKind.u8 (0:Int)]))
  (zb7 (α:=(Int×List D×Int×Int×PUnit)×PUnit) (fun again3 ((i4,(l5,(i6,(i7,_)))),_)=>
   brK (decide (i7 < i6))
    (letN (IntKind.wrap IntKind.i64 (Int.tdiv i4 (7:Int))) fun n8=>
    letN (bits BinOp.or IntKind.i64 n8 (1:Int)) fun n9=>
    letN (IntKind.wrap IntKind.i64 (i7*n9)) fun n10=>
    letN (IntKind.wrap IntKind.i64 (i4+n10)) fun n11=>
    letN (IntKind.wrap IntKind.u8 n11) fun n12=>
    sif ((0:Int)≤i7) <|
    sif (Int.toNat i7 < List.length l5) <|
    getK l5 ((0:Nat)+Int.toNat i7) fun d13=>
    sif (D.isAgg d13=false) <|
    letN (IntKind.wrap IntKind.i64 (i7+(1:Int))) fun n14=>
    sif (List.length l5=List.length (List.set l5 ((0:Nat)+Int.toNat i7) (D.int IntKind.u8 n12))) <|
    again3 (((i4,List.set l5 ((0:Nat)+Int.toNat i7) (D.int IntKind.u8 n12),i6,n14,PUnit.unit),PUnit.unit)))
    (sif (List.length l5=List.length l5) <|
    sif (List.all l5 D.free=true) <|
    some (D.sl Tag.own l5)))
   (((a0,[D.int IntKind.u8 (0:Int),D.int IntKind.u8 (0:Int),D.int IntKind.u8 (0:Int),D.int IntKind.u8 (0:Int),D.int IntKind.u8 (0:Int),D.int IntKind.u8 (0:Int),D.int IntKind.u8 (0:Int),D.int IntKind.u8 (0:Int),D.int IntKind.u8 (0:Int),D.int IntKind.u8 (0:Int),D.int IntKind.u8 (0:Int),D.int IntKind.u8 (0:Int),D.int IntKind.u8 (0:Int),D.int IntKind.u8 (0:Int),D.int IntKind.u8 (0:Int),D.int IntKind.u8 (0:Int),D.int IntKind.u8 (0:Int),D.int IntKind.u8 (0:Int),D.int IntKind.u8 (0:Int),D.int IntKind.u8 (0:Int),D.int IntKind.u8 (0:Int),D.int IntKind.u8 (0:Int),D.int IntKind.u8 (0:Int),D.int IntKind.u8 (0:Int),D.int IntKind.u8 (0:Int),D.int IntKind.u8 (0:Int),D.int IntKind.u8 (0:Int),D.int IntKind.u8 (0:Int),D.int IntKind.u8 (0:Int),D.int IntKind.u8 (0:Int),D.int IntKind.u8 (0:Int),D.int IntKind.u8 (0:Int)],(32:Int),(0:Int),PUnit.unit),PUnit.unit)))
theorem znu (zab:List D→Option D) (a0:Int):denP Try.prog (zay [(ID.wattlekeep_Within,(.pure [0] zab))]) zge [1] ID.wattleplay_Sector [.int .i64 a0]=zeS zab a0:=by kernel_rfl
theorem zkl (a0:Int):zbi [.int .i64 a0]=zeS zab a0:=znu zab a0
def zfy:Ann:={ loops:=[(0,[.val (.cell .lent),.val (.cell (.int .i64)),.dead,.dead,.dead,.own 1,.val (.cell (.int .i64))])] }
noncomputable def zbk:List D→Option D:=denP Try.prog (zay [(ID.wattleplay_Sector,(.pure [1] zbi))]) zfy [1] ID.wattleplay_Sectors
theorem ziR:za9 Try.prog ID.wattleplay_Sectors (.pure [1] zbk):=zav (zaz [zkk]) zbz ⟨Try.f31,by kernel_rfl,by kernel_rfl,by kernel_rfl⟩
noncomputable def zjF:Fact Try.prog:=⟨ID.wattleplay_Sectors,(.pure [1] zbk),ziR⟩
noncomputable def zex (zbi:List D→Option D) (a0:List D) (a1:Int):Option D:=
 zb7 (α:=(List D×Int×List D×Int×PUnit)×PUnit) (fun again1 ((l2,(i3,(l4,(i5,_)))),_)=>
  brK (decide (i5 < i3))
   (letN (IntKind.wrap IntKind.i64 ((3:Int)*i5)) fun n6=>
   brK (decide (i5 < (↑(List.length l2):Int)))
    (sif ((0:Int)≤i5) <|
    getK l2 (Int.toNat i5) fun d7=>
    asI IntKind.i64 d7 fun i8=>
    zaq (zbi [D.int IntKind.i64 i8]) fun r9=>
    za0 r9 fun l10=>
    sif ((0:Nat)+List.length l10≤List.length l10) <|
    sif (List.length l4+(1:Nat)≤(4294967296:Nat)) <|
    sif (List.length l4=List.length l4) <|
    letN (IntKind.wrap IntKind.i64 (i5+(1:Int))) fun n11=>
    sif (List.length l4+(1:Nat)=List.length (l4++[D.sl Tag.fresh (cut (0:Nat) (List.length l10) l10)])) <|
    again1 (((l2,i3,l4++[D.sl Tag.fresh (cut (0:Nat) (List.length l10) l10)],n11,PUnit.unit),PUnit.unit)))
    (zaq (zbi [D.int IntKind.i64 n6]) fun r12=>
    za0 r12 fun l13=>
    sif ((0:Nat)+List.length l13≤List.length l13) <|
    sif (List.length l4+(1:Nat)≤(4294967296:Nat)) <|
    sif (List.length l4=List.length l4) <|
    letN (IntKind.wrap IntKind.i64 (i5+(1:Int))) fun n14=>
    sif (List.length l4+(1:Nat)=List.length (l4++[D.sl Tag.fresh (cut (0:Nat) (List.length l13) l13)])) <|
    again1 (((l2,i3,l4++[D.sl Tag.fresh (cut (0:Nat) (List.length l13) l13)],n14,PUnit.unit),PUnit.unit))))
   (sif (List.length l4=List.length l4) <|
   sif (List.all l4 D.free=true) <|
   some (D.sl Tag.own l4)))
  (((a0,a1,[],(0:Int),PUnit.unit),PUnit.unit))
theorem zmq (zbi:List D→Option D) (tga0:Tag) (a0:List D) (a1:Int):denP Try.prog (zay [(ID.wattleplay_Sector,(.pure [1] zbi))]) zfy [1] ID.wattleplay_Sectors [.sl tga0 a0,.int .i64 a1]=zex zbi (D.lentL a0) a1:=by kernel_rfl
theorem zjG (tga0:Tag) (a0:List D) (a1:Int):zbk [.sl tga0 a0,.int .i64 a1]=zex zbi (D.lentL a0) a1:=zmq zbi tga0 a0 a1
def zgB:Ann:={ loops:=[] }
noncomputable def zas:List D→Option D:=denP Try.prog (zay [(ID.wattleref01_Check,(.pure [0] zah))]) zgB [0] ID.wattleref01_fine
theorem zkm:za9 Try.prog ID.wattleref01_fine (.pure [0] zas):=zav (zaz [zc1]) zbz ⟨Try.f75,by kernel_rfl,by kernel_rfl,by kernel_rfl⟩
noncomputable def zea:Fact Try.prog:=⟨ID.wattleref01_fine,(.pure [0] zas),zkm⟩
noncomputable def zfi (zah:List D→Option D) (a0_0:Int) (a0_1:Int) (a0_2:Int) (a1:Int):Option D:=
 zaq (zah [D.agg [D.int IntKind.i64 a0_0,D.int IntKind.i64 a0_1,D.int IntKind.i64 a0_2]]) fun r1=>
 asB r1 fun b2=>
 brK b2
  (brK (decide (a1≥(0:Int)))
   (some (D.bool (decide (a1 < (16:Int)))))
   (some (D.bool false)))
  (some (D.bool false))
theorem zoy (zah:List D→Option D) (a0_0:Int) (a0_1:Int) (a0_2:Int) (a1:Int):denP Try.prog (zay [(ID.wattleref01_Check,(.pure [0] zah))]) zgB [0] ID.wattleref01_fine [.agg [.int .i64 a0_0,.int .i64 a0_1,.int .i64 a0_2],.int .i64 a1]=zfi zah a0_0 a0_1 a0_2 a1:=by kernel_rfl
theorem zlo (a0_0:Int) (a0_1:Int) (a0_2:Int) (a1:Int):zas [.agg [.int .i64 a0_0,.int .i64 a0_1,.int .i64 a0_2],.int .i64 a1]=zfi zah a0_0 a0_1 a0_2 a1:=zoy zah a0_0 a0_1 a0_2 a1
def zfz:Ann:={ loops:=[] }
noncomputable def zaB:List D→Option D:=denP Try.prog (zay [(ID.wattleref01_fine,(.pure [0] zas))]) zfz [0,0] ID.wattleref01_Parity
theorem ziS:za9 Try.prog ID.wattleref01_Parity (.pure [0,0] zaB):=zav (zaz [zea]) zbz ⟨Try.f46,by kernel_rfl,by kernel_rfl,by kernel_rfl⟩
noncomputable def zfj:Fact Try.prog:=⟨ID.wattleref01_Parity,(.pure [0,0] zaB),ziS⟩
noncomputable def zey (zas:List D→Option D) (a0_0:Int) (a0_1:Int) (a0_2:Int) (a1:Int):Option D:=
 zaq (zas [D.agg [D.int IntKind.i64 a0_0,D.int IntKind.i64 a0_1,D.int IntKind.i64 a0_2],D.int IntKind.i64 a1]) fun r1=>
 asB r1 fun b2=>
 brK (!b2)
  (some (D.tup [D.int IntKind.i64 (-1:Int),D.int IntKind.i64 (-1:Int)]))
  (letN (IntKind.wrap IntKind.i64 (a0_1 - (1:Int))) fun n3=>
  sif (a0_2≠(0:Int)) <|
  letN (IntKind.wrap IntKind.i64 (Int.tdiv a1 a0_2)) fun n4=>
  sif (a0_1≠(0:Int)) <|
  letN (Int.tmod n4 a0_1) fun n5=>
  letN (IntKind.wrap IntKind.i64 (n3 - n5)) fun n6=>
  brK (a0_0 == (5:Int))
   (some (D.tup [D.int IntKind.i64 n6,D.int IntKind.i64 (-1:Int)]))
   (letN (IntKind.wrap IntKind.i64 (n6+(1:Int))) fun n7=>
   sif (a0_1≠(0:Int)) <|
   letN (Int.tmod n7 a0_1) fun n8=>
   some (D.tup [D.int IntKind.i64 n6,D.int IntKind.i64 n8])))
theorem zmr (zas:List D→Option D) (a0_0:Int) (a0_1:Int) (a0_2:Int) (a1:Int):denP Try.prog (zay [(ID.wattleref01_fine,(.pure [0] zas))]) zfz [0,0] ID.wattleref01_Parity [.agg [.int .i64 a0_0,.int .i64 a0_1,.int .i64 a0_2],.int .i64 a1]=zey zas a0_0 a0_1 a0_2 a1:=by kernel_rfl
theorem zjH (a0_0:Int) (a0_1:Int) (a0_2:Int) (a1:Int):zaB [.agg [.int .i64 a0_0,.int .i64 a0_1,.int .i64 a0_2],.int .i64 a1]=zey zas a0_0 a0_1 a0_2 a1:=zmr zas a0_0 a0_1 a0_2 a1
def zgC:Ann:={ loops:=[] }
noncomputable def zbq:List D→Option D:=denP Try.prog (zay [(ID.wattleref01_fine,(.pure [0] zas)),(ID.wattleref01_Width,(.pure [0] zaf)),(ID.wattleref01_Parity,(.pure [0,0] zaB)),(ID.wattleref01_Budget,(.pure [0] zaD))]) zgC [0] ID.wattleref01_Disk
theorem zkn:za9 Try.prog ID.wattleref01_Disk (.pure [0] zbq):=zav (zaz [zea,zc2,zfj,zfb]) zbz ⟨Try.f74,by kernel_rfl,by kernel_rfl,by kernel_rfl⟩
noncomputable def zlp:Fact Try.prog:=⟨ID.wattleref01_Disk,(.pure [0] zbq),zkn⟩
noncomputable def zfk (zas:List D→Option D) (zaf:List D→Option D) (zaB:List D→Option D) (zaD:List D→Option D) (a0_0:Int) (a0_1:Int) (a0_2:Int) (a1:Int) (a2:Int):Option D:=
 zaq (zas [D.agg [D.int IntKind.i64 a0_0,D.int IntKind.i64 a0_1,D.int IntKind.i64 a0_2],D.int IntKind.i64 a1]) fun r1=>
 asB r1 fun b2=>
 brK (!b2)
  (some (D.int IntKind.i64 (-1:Int)))
  (brK (decide (a2 < (0:Int)))
   (some (D.int IntKind.i64 (-1:Int)))
   (zaq (zaf [D.agg [D.int IntKind.i64 a0_0,D.int IntKind.i64 a0_1,D.int IntKind.i64 a0_2]]) fun r3=>
   asI IntKind.i64 r3 fun i4=>
   brK (decide (a2≥i4))
    (some (D.int IntKind.i64 (-1:Int)))
    (zaq (zaB [D.agg [D.int IntKind.i64 a0_0,D.int IntKind.i64 a0_1,D.int IntKind.i64 a0_2],D.int IntKind.i64 a1]) fun r5=>
    zdG r5 fun ts6=>
    zat ([Lf.any,Lf.any]) ts6 fun c7=>
    asI IntKind.i64 c7.fst fun i8=>
    asI IntKind.i64 c7.snd.fst fun i9=>
    zaq (zaD [D.agg [D.int IntKind.i64 a0_0,D.int IntKind.i64 a0_1,D.int IntKind.i64 a0_2]]) fun r10=>
    asI IntKind.i64 r10 fun i11=>
    letN (IntKind.wrap IntKind.i64 (i8+i11)) fun n12=>
    letN (IntKind.wrap IntKind.i64 (n12+a2)) fun n13=>
    sif (a0_1≠(0:Int)) <|
    letN (Int.tmod n13 a0_1) fun n14=>
    some (D.int IntKind.i64 n14))))
theorem zoz (zas:List D→Option D) (zaf:List D→Option D) (zaB:List D→Option D) (zaD:List D→Option D) (a0_0:Int) (a0_1:Int) (a0_2:Int) (a1:Int) (a2:Int):denP Try.prog (zay [(ID.wattleref01_fine,(.pure [0] zas)),(ID.wattleref01_Width,(.pure [0] zaf)),(ID.wattleref01_Parity,(.pure [0,0] zaB)),(ID.wattleref01_Budget,(.pure [0] zaD))]) zgC [0] ID.wattleref01_Disk [.agg [.int .i64 a0_0,.int .i64 a0_1,.int .i64 a0_2],.int .i64 a1,.int .i64 a2]=zfk zas zaf zaB zaD a0_0 a0_1 a0_2 a1 a2:=by kernel_rfl
theorem zlq (a0_0:Int) (a0_1:Int) (a0_2:Int) (a1:Int) (a2:Int):zbq [.agg [.int .i64 a0_0,.int .i64 a0_1,.int .i64 a0_2],.int .i64 a1,.int .i64 a2]=zfk zas zaf zaB zaD a0_0 a0_1 a0_2 a1 a2:=zoz zas zaf zaB zaD a0_0 a0_1 a0_2 a1 a2
def zgf:Ann:={ loops:=[(0,[.val (.cell .lent),.dead,.dead,.dead,.dead,.val (.cell .lent),.val (.cell (.int .i64)),.val (.cell (.int .i64))])] }
noncomputable def zaH:List D→Option D:=denP Try.prog (zay []) zgf [0] ID.wattleref01_alike
theorem zjI:za9 Try.prog ID.wattleref01_alike (.pure [0] zaH):=zav (zaz []) zbz ⟨Try.f115,by kernel_rfl,by kernel_rfl,by kernel_rfl⟩
noncomputable def zfA:Fact Try.prog:=⟨ID.wattleref01_alike,(.pure [0] zaH),zjI⟩
noncomputable def zeT (a0:List D):Option D:=
 zb7 (α:=(List D×List D×Int×Int×PUnit)×PUnit) (fun again1 ((l2,(l3,(i4,(i5,_)))),_)=>
  brK (decide (i5 < i4))
   (sif ((0:Int)≤i5) <|
   getK l3 (Int.toNat i5) fun d6=>
   asSl d6 fun t7 l8=>
   getK l2 ((0:Nat)) fun d9=>
   asSl d9 fun t10 l11=>
   brK ((↑(List.length l8):Int) != (↑(List.length l11):Int))
    (some (D.bool false))
    (letN (IntKind.wrap IntKind.i64 (i5+(1:Int))) fun n12=>
    again1 (((l2,l3,i4,n12,PUnit.unit),PUnit.unit))))
   (some (D.bool (decide ((↑(List.length l2):Int) > (0:Int))))))
  (((a0,a0,(↑(List.length a0):Int),(0:Int),PUnit.unit),PUnit.unit))
theorem znv (tga0:Tag) (a0:List D):denP Try.prog (zay []) zgf [0] ID.wattleref01_alike [.sl tga0 a0]=zeT (D.lentL a0):=by kernel_rfl
theorem zko (tga0:Tag) (a0:List D):zaH [.sl tga0 a0]=zeT (D.lentL a0):=znv tga0 a0
def ziT:Ann:={ loops:=[(1,[.dead,.dead,.dead,.own 1,.dead,.dead,.dead,.dead,.dead,.dead,.dead,.dead,.dead,.dead,.dead,.dead,.val (.cell .lent),.val (.cell (.int .i64)),.val (.cell (.int .i64))]),(3,[.dead,.dead,.dead,.own 1,.dead,.dead,.dead,.dead,.dead,.dead,.dead,.dead,.dead,.dead,.dead,.dead,.val (.cell .lent),.val (.cell (.int .i64)),.val (.cell (.int .i64)),.dead,.dead,.dead,.val (.cell .sl),.val (.cell (.int .i64)),.val (.cell (.int .i64))])] }
noncomputable def zbR:List D→Option D:=denP Try.prog (zay [(ID.wattleref01_alike,(.pure [0] zaH))]) ziT [1] ID.wattleref01_P
theorem znw:za9 Try.prog ID.wattleref01_P (.pure [1] zbR):=zav (zaz [zfA]) zbz ⟨Try.f81,by kernel_rfl,by kernel_rfl,by kernel_rfl⟩
noncomputable def zoA:Fact Try.prog:=⟨ID.wattleref01_P,(.pure [1] zbR),znw⟩
noncomputable def zht (zaH:List D→Option D) (a0:List D):Option D:=
 zaq (zaH [D.sl Tag.lent a0]) fun r1=>
 asB r1 fun b2=>
 brK (!b2)
  (some (D.sl Tag.own []))
  (getK a0 ((0:Nat)) fun d3=>
  asSl d3 fun t4 l5=>
  sif ((↑(List.length l5):Int)=(↑(List.length l5):Int)) <|
  sif ((↑(List.length l5):Int)*(1:Int)≤(140737488355328:Int)) <|
  sif ((↑(List.length l5):Int)≤(140737488355328:Int)) <|
  sif (Int.toNat (↑(List.length l5):Int)=List.length (List.replicate (Int.toNat (↑(List.length l5):Int)) (D.int IntKind.u8 (0:Int)))) <|
  zb7 (α:=(List D×List D×Int×Int×PUnit)×PUnit) (fun again6 ((l7,(l8,(i9,(i10,_)))),_)=>
   brK (decide (i10 < i9))
    (sif ((0:Int)≤i10) <|
    getK l8 (Int.toNat i10) fun d11=>
    asSl d11 fun t12 l13=>
    sif (List.length l7=List.length l7) <|
    zb7 (α:=(List D×List D×Int×Int×(Tag×List D)×Int×Int×PUnit)×PUnit) (fun again14 ((l15,(l16,(i17,(i18,((t19,l20),(i21,(i22,_))))))),_)=>
     brK (decide (i22 < i21))
      (sif ((0:Int)≤i22) <|
      getK l20 (Int.toNat i22) fun d23=>
      asI IntKind.u8 d23 fun i24=>
      sif ((0:Int)≤i22) <|
      sif (Int.toNat i22 < List.length l15) <|
      getK l15 ((0:Nat)+Int.toNat i22) fun d25=>
      asI IntKind.u8 d25 fun i26=>
      letN (bits BinOp.xor IntKind.u8 i26 i24) fun n27=>
      sif ((0:Int)≤i22) <|
      sif (Int.toNat i22 < List.length l15) <|
      getK l15 ((0:Nat)+Int.toNat i22) fun d28=>
      sif (D.isAgg d28=false) <|
      letN (IntKind.wrap IntKind.i64 (i22+(1:Int))) fun n29=>
      sif (List.length l15=List.length (List.set l15 ((0:Nat)+Int.toNat i22) (D.int IntKind.u8 n27))) <|
      again14 (((List.set l15 ((0:Nat)+Int.toNat i22) (D.int IntKind.u8 n27),l16,i17,i18,(t19,l20),i21,n29,PUnit.unit),PUnit.unit)))
      (letN (IntKind.wrap IntKind.i64 (i18+(1:Int))) fun n30=>
      sif (List.length l15=List.length l15) <|
      again6 (((l15,l16,i17,n30,PUnit.unit),PUnit.unit))))
     (((l7,l8,i9,i10,(t12,l13),(↑(List.length l13):Int),(0:Int),PUnit.unit),PUnit.unit)))
    (sif (List.length l7=List.length l7) <|
    sif (List.all l7 D.free=true) <|
    some (D.sl Tag.own l7)))
   (((List.replicate (Int.toNat (↑(List.length l5):Int)) (D.int IntKind.u8 (0:Int)),a0,(↑(List.length a0):Int),(0:Int),PUnit.unit),PUnit.unit)))
theorem zrZ (zaH:List D→Option D) (tga0:Tag) (a0:List D):denP Try.prog (zay [(ID.wattleref01_alike,(.pure [0] zaH))]) ziT [1] ID.wattleref01_P [.sl tga0 a0]=zht zaH (D.lentL a0):=by kernel_rfl
theorem zoB (tga0:Tag) (a0:List D):zbR [.sl tga0 a0]=zht zaH (D.lentL a0):=zrZ zaH tga0 a0
def zhu:Ann:={ loops:=[(0,[.dead,.val (.cell (.int .u8)),.dead,.dead,.dead,.val (.cell (.int .i64)),.val (.cell (.int .i64)),.val (.cell (.int .i64))])] }
noncomputable def zaP:List D→Option D:=denP Try.prog (zay []) zhu [0] ID.wattleref01_Mul
theorem zlr:za9 Try.prog ID.wattleref01_Mul (.pure [0] zaP):=zav (zaz []) zbz ⟨Try.f117,by kernel_rfl,by kernel_rfl,by kernel_rfl⟩
noncomputable def zgD:Fact Try.prog:=⟨ID.wattleref01_Mul,(.pure [0] zaP),zlr⟩
noncomputable def zfT (a0:Int) (a1:Int):Option D:=
 letN (IntKind.wrap IntKind.i64 a0) fun n1=>
 zb7 (α:=(Int×Int×Int×Int×PUnit)×PUnit) (fun again2 ((i3,(i4,(i5,(i6,_)))),_)=>
  brK (decide (i6 < (8:Int)))
   (letN (IntKind.wrap IntKind.u64 i6) fun n7=>
   sif ((0:Int)≤n7) <|
   letN (Int.fdiv i3 ((2:Int) ^ min (Int.toNat n7) (8:Nat))) fun n8=>
   letN (bits BinOp.and IntKind.u8 n8 (1:Int)) fun n9=>
   brK (n9 == (1:Int))
    (letN (bits BinOp.xor IntKind.i64 i5 i4) fun n10=>
    letN (IntKind.wrap IntKind.i64 (i4*(2:Int))) fun n11=>
    brK (decide (n11 > (255:Int)))
     (letN (bits BinOp.xor IntKind.i64 n11 (285:Int)) fun n12=>
     letN (IntKind.wrap IntKind.i64 (i6+(1:Int))) fun n13=>
     again2 (((i3,n12,n10,n13,PUnit.unit),PUnit.unit)))
     (letN (IntKind.wrap IntKind.i64 (i6+(1:Int))) fun n14=>
     again2 (((i3,n11,n10,n14,PUnit.unit),PUnit.unit))))
    (letN (IntKind.wrap IntKind.i64 (i4*(2:Int))) fun n15=>
    brK (decide (n15 > (255:Int)))
     (letN (bits BinOp.xor IntKind.i64 n15 (285:Int)) fun n16=>
     letN (IntKind.wrap IntKind.i64 (i6+(1:Int))) fun n17=>
     again2 (((i3,n16,i5,n17,PUnit.unit),PUnit.unit)))
     (letN (IntKind.wrap IntKind.i64 (i6+(1:Int))) fun n18=>
     again2 (((i3,n15,i5,n18,PUnit.unit),PUnit.unit)))))
   (letN (IntKind.wrap IntKind.u8 i5) fun n19=>
   some (D.int IntKind.u8 n19)))
  (((a1,n1,(0:Int),(0:Int),PUnit.unit),PUnit.unit))
theorem zpt (a0:Int) (a1:Int):denP Try.prog (zay []) zhu [0] ID.wattleref01_Mul [.int .u8 a0,.int .u8 a1]=zfT a0 a1:=by kernel_rfl
theorem zms (a0:Int) (a1:Int):zaP [.int .u8 a0,.int .u8 a1]=zfT a0 a1:=zpt a0 a1
def zhv:Ann:={ loops:=[(1,[.val (.cell (.int .i64)),.dead,.dead,.val (.cell (.int .u8))])] }
noncomputable def zbH:List D→Option D:=denP Try.prog (zay [(ID.wattleref01_Mul,(.pure [0] zaP))]) zhv [0] ID.wattleref01_Pow
theorem zls:za9 Try.prog ID.wattleref01_Pow (.pure [0] zbH):=zav (zaz [zgD]) zbz ⟨Try.f116,by kernel_rfl,by kernel_rfl,by kernel_rfl⟩
noncomputable def zmt:Fact Try.prog:=⟨ID.wattleref01_Pow,(.pure [0] zbH),zls⟩
noncomputable def zfU (zaP:List D→Option D) (a0:Int):Option D:=
 letN (Int.tmod a0 (255:Int)) fun n1=>
 brK (decide (n1 < (0:Int)))
  (letN (IntKind.wrap IntKind.i64 (n1+(255:Int))) fun n2=>
  zb7 (α:=(Int×Int×PUnit)×PUnit) (fun again3 ((i4,(i5,_)),_)=>
   brK (decide (i4 > (0:Int)))
    (zaq (zaP [D.int IntKind.u8 i5,D.int IntKind.u8 (2:Int)]) fun r6=>
    asI IntKind.u8 r6 fun i7=>
    letN (IntKind.wrap IntKind.i64 (i4 - (1:Int))) fun n8=>
    again3 (((n8,i7,PUnit.unit),PUnit.unit)))
    (some (D.int IntKind.u8 i5)))
   (((n2,(1:Int),PUnit.unit),PUnit.unit)))
  (zb7 (α:=(Int×Int×PUnit)×PUnit) (fun again9 ((i10,(i11,_)),_)=>
   brK (decide (i10 > (0:Int)))
    (zaq (zaP [D.int IntKind.u8 i11,D.int IntKind.u8 (2:Int)]) fun r12=>
    asI IntKind.u8 r12 fun i13=>
    letN (IntKind.wrap IntKind.i64 (i10 - (1:Int))) fun n14=>
    again9 (((n14,i13,PUnit.unit),PUnit.unit)))
    (some (D.int IntKind.u8 i11)))
   (((n1,(1:Int),PUnit.unit),PUnit.unit)))
theorem zpu (zaP:List D→Option D) (a0:Int):denP Try.prog (zay [(ID.wattleref01_Mul,(.pure [0] zaP))]) zhv [0] ID.wattleref01_Pow [.int .i64 a0]=zfU zaP a0:=by kernel_rfl
theorem zmu (a0:Int):zbH [.int .i64 a0]=zfU zaP a0:=zpu zaP a0
def ziU:Ann:={ loops:=[(1,[.dead,.dead,.dead,.own 1,.dead,.dead,.dead,.dead,.dead,.dead,.dead,.dead,.dead,.dead,.dead,.dead,.dead,.val (.cell .lent),.val (.cell (.int .i64)),.val (.cell (.int .i64))]),(3,[.dead,.dead,.dead,.own 1,.dead,.dead,.val (.cell (.int .u8)),.dead,.dead,.dead,.dead,.dead,.dead,.dead,.dead,.dead,.dead,.val (.cell .lent),.val (.cell (.int .i64)),.val (.cell (.int .i64)),.dead,.dead,.dead,.dead,.dead,.dead,.val (.cell .sl),.val (.cell (.int .i64)),.val (.cell (.int .i64))])] }
noncomputable def zbS:List D→Option D:=denP Try.prog (zay [(ID.wattleref01_alike,(.pure [0] zaH)),(ID.wattleref01_Pow,(.pure [0] zbH)),(ID.wattleref01_Mul,(.pure [0] zaP))]) ziU [1] ID.wattleref01_Q
theorem znx:za9 Try.prog ID.wattleref01_Q (.pure [1] zbS):=zav (zaz [zfA,zmt,zgD]) zbz ⟨Try.f82,by kernel_rfl,by kernel_rfl,by kernel_rfl⟩
noncomputable def zoC:Fact Try.prog:=⟨ID.wattleref01_Q,(.pure [1] zbS),znx⟩
noncomputable def zhw (zaH:List D→Option D) (zbH:List D→Option D) (zaP:List D→Option D) (a0:List D):Option D:=
 zaq (zaH [D.sl Tag.lent a0]) fun r1=>
 asB r1 fun b2=>
 brK (!b2)
  (some (D.sl Tag.own []))
  (getK a0 ((0:Nat)) fun d3=>
  asSl d3 fun t4 l5=>
  sif ((↑(List.length l5):Int)=(↑(List.length l5):Int)) <|
  sif ((↑(List.length l5):Int)*(1:Int)≤(140737488355328:Int)) <|
  sif ((↑(List.length l5):Int)≤(140737488355328:Int)) <|
  sif (Int.toNat (↑(List.length l5):Int)=List.length (List.replicate (Int.toNat (↑(List.length l5):Int)) (D.int IntKind.u8 (0:Int)))) <|
  zb7 (α:=(List D×List D×Int×Int×PUnit)×PUnit) (fun again6 ((l7,(l8,(i9,(i10,_)))),_)=>
   brK (decide (i10 < i9))
    (sif ((0:Int)≤i10) <|
    getK l8 (Int.toNat i10) fun d11=>
    asSl d11 fun t12 l13=>
    zaq (zbH [D.int IntKind.i64 i10]) fun r14=>
    asI IntKind.u8 r14 fun i15=>
    sif (List.length l7=List.length l7) <|
    zb7 (α:=(List D×Int×List D×Int×Int×(Tag×List D)×Int×Int×PUnit)×PUnit) (fun again16 ((l17,(i18,(l19,(i20,(i21,((t22,l23),(i24,(i25,_)))))))),_)=>
     brK (decide (i25 < i24))
      (sif ((0:Int)≤i25) <|
      getK l23 (Int.toNat i25) fun d26=>
      asI IntKind.u8 d26 fun i27=>
      sif ((0:Int)≤i25) <|
      sif (Int.toNat i25 < List.length l17) <|
      getK l17 ((0:Nat)+Int.toNat i25) fun d28=>
      asI IntKind.u8 d28 fun i29=>
      zaq (zaP [D.int IntKind.u8 i27,D.int IntKind.u8 i18]) fun r30=>
      asI IntKind.u8 r30 fun i31=>
      letN (bits BinOp.xor IntKind.u8 i29 i31) fun n32=>
      sif ((0:Int)≤i25) <|
      sif (Int.toNat i25 < List.length l17) <|
      getK l17 ((0:Nat)+Int.toNat i25) fun d33=>
      sif (D.isAgg d33=false) <|
      letN (IntKind.wrap IntKind.i64 (i25+(1:Int))) fun n34=>
      sif (List.length l17=List.length (List.set l17 ((0:Nat)+Int.toNat i25) (D.int IntKind.u8 n32))) <|
      again16 (((List.set l17 ((0:Nat)+Int.toNat i25) (D.int IntKind.u8 n32),i18,l19,i20,i21,(t22,l23),i24,n34,PUnit.unit),PUnit.unit)))
      (letN (IntKind.wrap IntKind.i64 (i21+(1:Int))) fun n35=>
      sif (List.length l17=List.length l17) <|
      again6 (((l17,l19,i20,n35,PUnit.unit),PUnit.unit))))
     (((l7,i15,l8,i9,i10,(t12,l13),(↑(List.length l13):Int),(0:Int),PUnit.unit),PUnit.unit)))
    (sif (List.length l7=List.length l7) <|
    sif (List.all l7 D.free=true) <|
    some (D.sl Tag.own l7)))
   (((List.replicate (Int.toNat (↑(List.length l5):Int)) (D.int IntKind.u8 (0:Int)),a0,(↑(List.length a0):Int),(0:Int),PUnit.unit),PUnit.unit)))
theorem zr0 (zaH:List D→Option D) (zbH:List D→Option D) (zaP:List D→Option D) (tga0:Tag) (a0:List D):denP Try.prog (zay [(ID.wattleref01_alike,(.pure [0] zaH)),(ID.wattleref01_Pow,(.pure [0] zbH)),(ID.wattleref01_Mul,(.pure [0] zaP))]) ziU [1] ID.wattleref01_Q [.sl tga0 a0]=zhw zaH zbH zaP (D.lentL a0):=by kernel_rfl
theorem zoD (tga0:Tag) (a0:List D):zbS [.sl tga0 a0]=zhw zaH zbH zaP (D.lentL a0):=zr0 zaH zbH zaP tga0 a0
def zgE:Ann:={ loops:=[(1,[.dead,.val (.cell (.int .i64)),.val (.cell .lent),.box true [(.int .i64),(.int .i64),(.int .i64)],.dead,.dead,.dead,.dead,.own 1,.dead,.dead,.dead,.dead,.dead,.dead,.dead,.dead,.dead,.dead,.dead,.dead,.dead,.dead,.dead,.dead,.dead,.dead,.val (.cell .lent),.val (.cell (.int .i64)),.val (.cell (.int .i64))])] }
noncomputable def zbw:List D→Option D:=denP Try.prog (zay [(ID.wattleref01_fine,(.pure [0] zas)),(ID.wattleref01_Width,(.pure [0] zaf)),(ID.wattleref01_Disk,(.pure [0] zbq)),(ID.wattleref01_Parity,(.pure [0,0] zaB)),(ID.wattleref01_P,(.pure [1] zbR)),(ID.wattleref01_Q,(.pure [1] zbS))]) zgE [1,0] ID.wattleref01_Fill
theorem zkp:za9 Try.prog ID.wattleref01_Fill (.pure [1,0] zbw):=zav (zaz [zea,zc2,zlp,zfj,zoA,zoC]) zbz ⟨Try.f39,by kernel_rfl,by kernel_rfl,by kernel_rfl⟩
noncomputable def zlt:Fact Try.prog:=⟨ID.wattleref01_Fill,(.pure [1,0] zbw),zkp⟩
noncomputable def zfl (zas:List D→Option D) (zaf:List D→Option D) (zbq:List D→Option D) (zaB:List D→Option D) (zbR:List D→Option D) (zbS:List D→Option D) (a0_0:Int) (a0_1:Int) (a0_2:Int) (a1:Int) (a2:List D):Option D:=
 zaq (zas [D.agg [D.int IntKind.i64 a0_0,D.int IntKind.i64 a0_1,D.int IntKind.i64 a0_2],D.int IntKind.i64 a1]) fun r1=>
 asB r1 fun b2=>
 brK (!b2)
  (some (D.tup [D.sl Tag.own [],D.bool false]))
  (zaq (zaf [D.agg [D.int IntKind.i64 a0_0,D.int IntKind.i64 a0_1,D.int IntKind.i64 a0_2]]) fun r3=>
  asI IntKind.i64 r3 fun i4=>
  brK ((↑(List.length a2):Int) != i4)
   (some (D.tup [D.sl Tag.own [],D.bool false]))
   (sif ((0:Int)≤a0_1) <|
   sif (a0_1=a0_1) <|
   sif (a0_1*(24:Int)≤(140737488355328:Int)) <|
   sif (a0_1≤(140737488355328:Int)) <|
   sif (Int.toNat a0_1=List.length (List.replicate (Int.toNat a0_1) (D.sl Tag.nil []))) <|
   zb7 (α:=(Int×List D×(Int×Int×Int×PUnit)×List D×List D×Int×Int×PUnit)×PUnit) (fun again5 ((i6,(l7,((i8,(i9,(i10,_))),(l11,(l12,(i13,(i14,_))))))),_)=>
    brK (decide (i14 < i13))
     (sif ((0:Int)≤i14) <|
     getK l12 (Int.toNat i14) fun d15=>
     asSl d15 fun t16 l17=>
     brK ((↑(List.length l17):Int) != (32:Int))
      (some (D.tup [D.sl Tag.own [],D.bool false]))
      (zaq (zbq [D.agg [D.int IntKind.i64 i8,D.int IntKind.i64 i9,D.int IntKind.i64 i10],D.int IntKind.i64 i6,D.int IntKind.i64 i14]) fun r18=>
      asI IntKind.i64 r18 fun i19=>
      sif (List.length l17≤(4294967296:Nat)) <|
      sif (zdT (1:Nat) l17=true) <|
      sif ((0:Int)≤i19) <|
      sif (Int.toNat i19 < List.length l11) <|
      sif ((0:Nat)+List.length l17≤List.length l17) <|
      getK l11 ((0:Nat)+Int.toNat i19) fun d20=>
      sif ((0:Nat)+List.length l17≤List.length l17) <|
      sif (D.isAgg d20=false) <|
      letN (IntKind.wrap IntKind.i64 (i14+(1:Int))) fun n21=>
      sif (List.length l11=List.length (List.set l11 ((0:Nat)+Int.toNat i19) (D.sl Tag.fresh (cut (0:Nat) (List.length l17) l17)))) <|
      again5 (((i6,l7,(i8,i9,i10,PUnit.unit),List.set l11 ((0:Nat)+Int.toNat i19) (D.sl Tag.fresh (cut (0:Nat) (List.length l17) l17)),l12,i13,n21,PUnit.unit),PUnit.unit))))
     (zaq (zaB [D.agg [D.int IntKind.i64 i8,D.int IntKind.i64 i9,D.int IntKind.i64 i10],D.int IntKind.i64 i6]) fun r22=>
     zdG r22 fun ts23=>
     zat ([Lf.any,Lf.any]) ts23 fun c24=>
     asI IntKind.i64 c24.fst fun i25=>
     asI IntKind.i64 c24.snd.fst fun i26=>
     zaq (zbR [D.sl Tag.lent l7]) fun r27=>
     za0 r27 fun l28=>
     sif ((0:Int)≤i25) <|
     sif (Int.toNat i25 < List.length l11) <|
     sif ((0:Nat)+List.length l28≤List.length l28) <|
     getK l11 ((0:Nat)+Int.toNat i25) fun d29=>
     sif ((0:Nat)+List.length l28≤List.length l28) <|
     sif (D.isAgg d29=false) <|
     brK (decide (i26≥(0:Int)))
      (zaq (zbS [D.sl Tag.lent l7]) fun r30=>
      za0 r30 fun l31=>
      sif ((0:Int)≤i26) <|
      sif (Int.toNat i26 < List.length l11) <|
      sif ((0:Nat)+List.length l31≤List.length l31) <|
      getK (List.set l11 ((0:Nat)+Int.toNat i25) (D.sl Tag.fresh (cut (0:Nat) (List.length l28) l28))) ((0:Nat)+Int.toNat i26) fun d32=>
      sif ((0:Nat)+List.length l31≤List.length l31) <|
      sif (D.isAgg d32=false) <|
      sif (List.length l11=List.length (List.set (List.set l11 ((0:Nat)+Int.toNat i25) (D.sl Tag.fresh (cut (0:Nat) (List.length l28) l28))) ((0:Nat)+Int.toNat i26) (D.sl Tag.fresh (cut (0:Nat) (List.length l31) l31)))) <|
      sif (List.all (List.set (List.set l11 ((0:Nat)+Int.toNat i25) (D.sl Tag.fresh (cut (0:Nat) (List.length l28) l28))) ((0:Nat)+Int.toNat i26) (D.sl Tag.fresh (cut (0:Nat) (List.length l31) l31))) D.free=true) <|
      some (D.tup [D.sl Tag.own (List.set (List.set l11 ((0:Nat)+Int.toNat i25) (D.sl Tag.fresh (cut (0:Nat) (List.length l28) l28))) ((0:Nat)+Int.toNat i26) (D.sl Tag.fresh (cut (0:Nat) (List.length l31) l31))),D.bool true]))
      (sif (List.length l11=List.length (List.set l11 ((0:Nat)+Int.toNat i25) (D.sl Tag.fresh (cut (0:Nat) (List.length l28) l28)))) <|
      sif (List.all (List.set l11 ((0:Nat)+Int.toNat i25) (D.sl Tag.fresh (cut (0:Nat) (List.length l28) l28))) D.free=true) <|
      some (D.tup [D.sl Tag.own (List.set l11 ((0:Nat)+Int.toNat i25) (D.sl Tag.fresh (cut (0:Nat) (List.length l28) l28))),D.bool true]))))
    (((a1,a2,(a0_0,a0_1,a0_2,PUnit.unit),List.replicate (Int.toNat a0_1) (D.sl Tag.nil []),a2,(↑(List.length a2):Int),(0:Int),PUnit.unit),PUnit.unit))))
theorem zoE (zas:List D→Option D) (zaf:List D→Option D) (zbq:List D→Option D) (zaB:List D→Option D) (zbR:List D→Option D) (zbS:List D→Option D) (tga2:Tag) (a0_0:Int) (a0_1:Int) (a0_2:Int) (a1:Int) (a2:List D):denP Try.prog (zay [(ID.wattleref01_fine,(.pure [0] zas)),(ID.wattleref01_Width,(.pure [0] zaf)),(ID.wattleref01_Disk,(.pure [0] zbq)),(ID.wattleref01_Parity,(.pure [0,0] zaB)),(ID.wattleref01_P,(.pure [1] zbR)),(ID.wattleref01_Q,(.pure [1] zbS))]) zgE [1,0] ID.wattleref01_Fill [.agg [.int .i64 a0_0,.int .i64 a0_1,.int .i64 a0_2],.int .i64 a1,.sl tga2 a2]=zfl zas zaf zbq zaB zbR zbS a0_0 a0_1 a0_2 a1 (D.lentL a2):=by kernel_rfl
theorem zlu (tga2:Tag) (a0_0:Int) (a0_1:Int) (a0_2:Int) (a1:Int) (a2:List D):zbw [.agg [.int .i64 a0_0,.int .i64 a0_1,.int .i64 a0_2],.int .i64 a1,.sl tga2 a2]=zfl zas zaf zbq zaB zbR zbS a0_0 a0_1 a0_2 a1 (D.lentL a2):=zoE zas zaf zbq zaB zbR zbS tga2 a0_0 a0_1 a0_2 a1 a2
def zfB:Ann:={ loops:=[],hints:=[(1,.at1 (.int .i64))] }
noncomputable def zaF:List D→Option D:=denP Try.prog (zay []) zfB [0] ID.disk_Disk_Damage_1
theorem ziV:za9 Try.prog ID.disk_Disk_Damage_1 (.pure [0] zaF):=zav (zaz []) zbz ⟨Try.f126,by kernel_rfl,by kernel_rfl,by kernel_rfl⟩
noncomputable def zfm:Fact Try.prog:=⟨ID.disk_Disk_Damage_1,(.pure [0] zaF),ziV⟩
noncomputable def zez (a0:List D) (c0:Int):Option D:=
 zat ([Lf.int IntKind.i64,Lf.arr (32)]) a0 fun c1=>
 some (D.bool (c1.fst == c0))
theorem zmv (a0:List D) (c0:Int):denP Try.prog (zay []) zfB [0] ID.disk_Disk_Damage_1 [.agg a0,.at_ (.int .i64 c0)]=zez (D.lentL a0) c0:=by kernel_rfl
theorem zjJ (a0:List D) (c0:Int):zaF [.agg a0,.at_ (.int .i64 c0)]=zez (D.lentL a0) c0:=zmv a0 c0
def zcs:Ann:={ loops:=[(0,[.val (.cell .lent),.val (.fn1 (126:FuncId) (.int .i64)),.dead,.dead,.dead,.dead,.dead,.val (.cell (.int .i64)),.val (.cell (.int .i64))])] }
noncomputable def zao:List D→Option D:=denP Try.prog (zay [(ID.disk_Disk_Damage_1,(.pure [0] zaF))]) zcs [0] ID.slices_IndexFunc_disk_write_disk_write
theorem zdv:za9 Try.prog ID.slices_IndexFunc_disk_write_disk_write (.pure [0] zao):=zav (zaz [zfm]) zbz ⟨Try.f139,by kernel_rfl,by kernel_rfl,by kernel_rfl⟩
noncomputable def zdD:Fact Try.prog:=⟨ID.slices_IndexFunc_disk_write_disk_write,(.pure [0] zao),zdv⟩
noncomputable def zbL (zaF:List D→Option D) (a0:List D) (c0:Int):Option D:=
 zb7 (α:=(List D×Int×Int×Int×PUnit)×PUnit) (fun again1 ((l2,(i3,(i4,(i5,_)))),_)=>
  brK (decide (i5 < i4))
   (sif ((0:Int)≤i5) <|
   getK l2 (Int.toNat i5) fun d6=>
   asAgg d6 fun cs7=>
   zat ([Lf.int IntKind.i64,Lf.arr (32)]) cs7 fun c8=>
   sif (D.width (D.agg ([D.int IntKind.i64 c8.fst]++(c8.snd.fst++[])))=(33:Nat)) <|
   zat ([Lf.int IntKind.i64,Lf.arr (32)]) ([D.int IntKind.i64 c8.fst]++(c8.snd.fst++[])) fun c9=>
   sif (D.width (D.agg ([D.int IntKind.i64 c9.fst]++(c9.snd.fst++[])))=(33:Nat)) <|
   zaq (zaF [D.agg ([D.int IntKind.i64 c9.fst]++(c9.snd.fst++[])),D.at_ (D.int IntKind.i64 i3)]) fun r10=>
   asB r10 fun b11=>
   brK b11
    (some (D.int IntKind.i64 i5))
    (letN (IntKind.wrap IntKind.i64 (i5+(1:Int))) fun n12=>
    again1 (((l2,i3,i4,n12,PUnit.unit),PUnit.unit))))
   (some (D.int IntKind.i64 (-1:Int))))
  (((a0,c0,(↑(List.length a0):Int),(0:Int),PUnit.unit),PUnit.unit))
theorem zdg (zaF:List D→Option D) (tga0:Tag) (a0:List D) (c0:Int):denP Try.prog (zay [(ID.disk_Disk_Damage_1,(.pure [0] zaF))]) zcs [0] ID.slices_IndexFunc_disk_write_disk_write [.sl tga0 a0,.fn 126 [] [.at_ (.int .i64 c0)]]=zbL zaF (D.lentL a0) c0:=by kernel_rfl
theorem zcY (tga0:Tag) (a0:List D) (c0:Int):zao [.sl tga0 a0,.fn 126 [] [.at_ (.int .i64 c0)]]=zbL zaF (D.lentL a0) c0:=zdg zaF tga0 a0 c0
def zcr:Ann:={ loops:=[(1,[.own 33,.val (.fn1 (126:FuncId) (.int .i64)),.dead,.dead,.dead,.val (.cell (.int .i64)),.val (.cell (.int .i64))])],pms:=[(.own,33)] }
noncomputable def zam:List D→List Tb→Option Ans:=denS Try.prog (zay [(ID.slices_IndexFunc_disk_write_disk_write,(.pure [0] zao)),(ID.disk_Disk_Damage_1,(.pure [0] zaF))]) zcr [33] ID.slices_DeleteFunc_disk_write_disk_write
theorem zdt:za9 Try.prog ID.slices_DeleteFunc_disk_write_disk_write (.st [(.own,33)] [33] [] zam):=za2 (zaz [zdD,zfm]) zbz ⟨Try.f125,by kernel_rfl,by kernel_rfl,by kernel_rfl⟩
noncomputable def zdw:Fact Try.prog:=⟨ID.slices_DeleteFunc_disk_write_disk_write,(.st [(.own,33)] [33] [] zam),zdt⟩
noncomputable def zbC (zao:List D→Option D) (zaF:List D→Option D) (a0:List D) (c0:Int):Option Ans:=
 sif ((0:Nat)+List.length a0≤List.length a0) <|
 zaq (zao [D.sl Tag.lent (cut (0:Nat) (List.length a0) a0),D.fn (126:FuncId) [] [D.at_ (D.int IntKind.i64 c0)]]) fun r1=>
 asI IntKind.i64 r1 fun i2=>
 brK (i2 == (-1:Int))
  (sif (List.length a0=List.length a0) <|
  sif (List.all a0 D.free=true) <|
  some (Ans.mk (D.sl Tag.own a0) [] []))
  (letN (IntKind.wrap IntKind.i64 (i2+(1:Int))) fun n3=>
  none)
theorem zc8 (zao:List D→Option D) (zaF:List D→Option D) (a0:List D) (c0:Int):denS Try.prog (zay [(ID.slices_IndexFunc_disk_write_disk_write,(.pure [0] zao)),(ID.disk_Disk_Damage_1,(.pure [0] zaF))]) zcr [33] ID.slices_DeleteFunc_disk_write_disk_write [.sl .own a0,.fn 126 [] [.at_ (.int .i64 c0)]] []=zbC zao zaF a0 c0:=by kernel_rfl
theorem zcT (a0:List D) (c0:Int):zam [.sl .own a0,.fn 126 [] [.at_ (.int .i64 c0)]] []=zbC zao zaF a0 c0:=zc8 zao zaF a0 c0
def zgF:Ann:={ loops:=[],ks:=[(7649,true)] }
noncomputable def zbx:List D→List Tb→Option Ans:=denS Try.prog (zay [(ID.disk_Disk_put,(.st [] [0,0] [(7649,false)] za4)),(ID.slices_Clone_disk_write_disk_write,(.pure [33] zad)),(ID.slices_DeleteFunc_disk_write_disk_write,(.st [(.own,33)] [33] [] zam))]) zgF [0] ID.disk_Disk_Damage
theorem zkq:za9 Try.prog ID.disk_Disk_Damage (.st [] [0] [(7649,true)] zbx):=za2 (zaz [zhU,zcD,zdw]) zbz ⟨Try.f100,by kernel_rfl,by kernel_rfl,by kernel_rfl⟩
noncomputable def zlv:Fact Try.prog:=⟨ID.disk_Disk_Damage,(.st [] [0] [(7649,true)] zbx),zkq⟩
noncomputable def zfn (za4:List D→List Tb→Option Ans) (zad:List D→Option D) (zam:List D→List Tb→Option Ans) (a0:Nat) (a1:Int) (a2:List D) (T0:Tb):Option Ans:=
 zaq (za4 [D.h (7649:Nat) a0 (0:Nat),D.int IntKind.i64 a1,D.sl Tag.lent a2] [T0]) fun r1=>
 nilK r1.outs <|
 nilK r1.tbs <|
 zdG r1.r fun ts2=>
 zat ([Lf.any,Lf.any]) ts2 fun c3=>
 asAgg c3.fst fun cs4=>
 zat ([Lf.int IntKind.i64,Lf.arr (32)]) cs4 fun c5=>
 asI IntKind.i64 c3.snd.fst fun i6=>
 sif (List.length ([D.int IntKind.i64 c5.fst]++(c5.snd.fst++[]))=(33:Nat)) <|
 brK (i6 != (0:Int))
  (some (Ans.mk (D.int IntKind.i64 i6) [] [T0]))
  (sif ((33:Nat)≤List.length ([D.int IntKind.i64 c5.fst]++(c5.snd.fst++[]))) <|
  sif (List.length (List.take (32:Nat) (List.drop (1:Nat) ([D.int IntKind.i64 c5.fst]++(c5.snd.fst++[]))))=(32:Nat)) <|
  sif ((0:Int)≤a1) <|
  sif (Int.toNat a1 < (52:Nat)) <|
  getK T0 a0 fun d7=>
  sif ((0:Nat)+Int.toNat a1*(32:Nat)+(32:Nat)≤List.length d7) <|
  sif (List.length (List.take (32:Nat) (List.drop (1:Nat) ([D.int IntKind.i64 c5.fst]++(c5.snd.fst++[]))))=(32:Nat)) <|
  sif (ze3 (List.take (32:Nat) (List.drop (1:Nat) ([D.int IntKind.i64 c5.fst]++(c5.snd.fst++[]))))=true) <|
  sif (ze3 (List.take (32:Nat) (List.drop ((0:Nat)+Int.toNat a1*(32:Nat)) d7))=true) <|
  letT (zaQ T0 a0 ((0:Nat)+Int.toNat a1*(32:Nat)) (List.take (32:Nat) (List.drop (1:Nat) ([D.int IntKind.i64 c5.fst]++(c5.snd.fst++[]))))) fun U8=>
  getK U8 a0 fun d9=>
  getK d9 ((1664:Nat)) fun d10=>
  za0 d10 fun l11=>
  getK U8 a0 fun d12=>
  getK d12 ((1664:Nat)) fun d13=>
  za0 d13 fun l14=>
  sif ((0:Nat)+List.length l11≤List.length l14) <|
  zaq (zad [D.sl Tag.lent (cut (0:Nat) (List.length l11) l14)]) fun r15=>
  za0 r15 fun l16=>
  sif (List.length l16=List.length l16) <|
  sif (zdj l16=true) <|
  zaq (zam [D.sl Tag.own l16,D.fn (126:Nat) [] [D.at_ (D.int IntKind.i64 a1)]] []) fun r17=>
  nilK r17.outs <|
  nilK r17.tbs <|
  za0 r17.r fun l18=>
  sif ((0:Nat)+List.length l18≤List.length l18) <|
  getK U8 a0 fun d19=>
  sif ((1665:Nat)≤List.length d19) <|
  sif (List.length l18=List.length l18) <|
  sif (zdj l18=true) <|
  sif (zfv (33:Nat) l18=true) <|
  letT (zaQ U8 a0 (1664:Nat) [D.sl Tag.own l18]) fun U20=>
  some (Ans.mk (D.int IntKind.i64 (0:Int)) [] [U20]))
theorem zoF (za4:List D→List Tb→Option Ans) (zad:List D→Option D) (zam:List D→List Tb→Option Ans) (tga2:Tag) (a0:Nat) (a1:Int) (a2:List D) (T0:Tb):denS Try.prog (zay [(ID.disk_Disk_put,(.st [] [0,0] [(7649,false)] za4)),(ID.slices_Clone_disk_write_disk_write,(.pure [33] zad)),(ID.slices_DeleteFunc_disk_write_disk_write,(.st [(.own,33)] [33] [] zam))]) zgF [0] ID.disk_Disk_Damage [.h 7649 a0 0,.int .i64 a1,.sl tga2 a2] [T0]=zfn za4 zad zam a0 a1 (D.lentL a2) T0:=by kernel_rfl
theorem zlw (tga2:Tag) (a0:Nat) (a1:Int) (a2:List D) (T0:Tb):zbx [.h 7649 a0 0,.int .i64 a1,.sl tga2 a2] [T0]=zfn za4 zad zam a0 a1 (D.lentL a2) T0:=zoF za4 zad zam tga2 a0 a1 a2 T0
def zfC:Ann:={ loops:=[],ks:=[(3840,false),(7649,true)] }
noncomputable def zbl:List D→List Tb→Option Ans:=denS Try.prog (zay [(ID.bench_Bench_is,(.st [] [0] [(3840,false)] zai)),(ID.disk_Disk_Damage,(.st [] [0] [(7649,true)] zbx))]) zfC [0] ID.bench_Bench_Damage
theorem ziW:za9 Try.prog ID.bench_Bench_Damage (.st [] [0] [(3840,false),(7649,true)] zbl):=za2 (zaz [zcX,zlv]) zbz ⟨Try.f65,by kernel_rfl,by kernel_rfl,by kernel_rfl⟩
noncomputable def zjK:Fact Try.prog:=⟨ID.bench_Bench_Damage,(.st [] [0] [(3840,false),(7649,true)] zbl),ziW⟩
noncomputable def zeA (zai:List D→List Tb→Option Ans) (zbx:List D→List Tb→Option Ans) (a0:Nat) (a1:Int) (a2:Int) (a3:List D) (T0:Tb) (T1:Tb):Option Ans:=
 zaq (zai [D.h (3840:Nat) a0 (0:Nat),D.int IntKind.i64 a1] [T0]) fun r1=>
 nilK r1.outs <|
 nilK r1.tbs <|
 asB r1.r fun b2=>
 brK (!b2)
  (some (Ans.mk (D.int IntKind.i64 (1:Int)) [] [T1]))
  (getK T0 a0 fun d3=>
  getK d3 ((3:Nat)) fun d4=>
  za0 d4 fun l5=>
  getK T0 a0 fun d6=>
  getK d6 ((3:Nat)) fun d7=>
  za0 d7 fun l8=>
  sif ((0:Int)≤a1) <|
  sif (Int.toNat a1 < List.length l5) <|
  getK T0 a0 fun d9=>
  getK d9 ((3:Nat)) fun d10=>
  za0 d10 fun l11=>
  getK l11 ((0:Nat)+Int.toNat a1) fun d12=>
  sif (D.isAgg d12=false) <|
  sif (D.width d12=(1:Nat)) <|
  sif (D.cell d12=true) <|
  zaq (zbx [d12,D.int IntKind.i64 a2,D.sl Tag.lent a3] [T1]) fun r13=>
  nilK r13.outs <|
  zb8 r13.tbs fun c14 q15=>
  nilK q15 <|
  asI IntKind.i64 r13.r fun i16=>
  some (Ans.mk (D.int IntKind.i64 i16) [] [c14]))
theorem zmw (zai:List D→List Tb→Option Ans) (zbx:List D→List Tb→Option Ans) (tga3:Tag) (a0:Nat) (a1:Int) (a2:Int) (a3:List D) (T0:Tb) (T1:Tb):denS Try.prog (zay [(ID.bench_Bench_is,(.st [] [0] [(3840,false)] zai)),(ID.disk_Disk_Damage,(.st [] [0] [(7649,true)] zbx))]) zfC [0] ID.bench_Bench_Damage [.h 3840 a0 0,.int .i64 a1,.int .i64 a2,.sl tga3 a3] [T0,T1]=zeA zai zbx a0 a1 a2 (D.lentL a3) T0 T1:=by kernel_rfl
theorem zjL (tga3:Tag) (a0:Nat) (a1:Int) (a2:Int) (a3:List D) (T0:Tb) (T1:Tb):zbl [.h 3840 a0 0,.int .i64 a1,.int .i64 a2,.sl tga3 a3] [T0,T1]=zeA zai zbx a0 a1 a2 (D.lentL a3) T0 T1:=zmw zai zbx tga3 a0 a1 a2 a3 T0 T1
def ze0:Ann:={ loops:=[(1,[.val (.cell .lent),.val (.cell .lent),.dead,.dead,.dead,.val (.cell (.int .i64))])] }
noncomputable def zaU:List D→Option D:=denP Try.prog (zay []) ze0 [0] ID.wattlekeep_Same_byte
theorem zhC:za9 Try.prog ID.wattlekeep_Same_byte (.pure [0] zaU):=zav (zaz []) zbz ⟨Try.f30,by kernel_rfl,by kernel_rfl,by kernel_rfl⟩
noncomputable def zic:Fact Try.prog:=⟨ID.wattlekeep_Same_byte,(.pure [0] zaU),zhC⟩
noncomputable def zdP (a0:List D) (a1:List D):Option D:=
 brK ((↑(List.length a0):Int) != (↑(List.length a1):Int))
  (some (D.bool false))
  (zb7 (α:=(List D×List D×Int×PUnit)×PUnit) (fun again1 ((l2,(l3,(i4,_))),_)=>
   brK (decide (i4 < (↑(List.length l2):Int)))
    (sif ((0:Int)≤i4) <|
    getK l2 (Int.toNat i4) fun d5=>
    asI IntKind.u8 d5 fun i6=>
    sif ((0:Int)≤i4) <|
    getK l3 (Int.toNat i4) fun d7=>
    asI IntKind.u8 d7 fun i8=>
    brK (i6 != i8)
     (some (D.bool false))
     (letN (IntKind.wrap IntKind.i64 (i4+(1:Int))) fun n9=>
     again1 (((l2,l3,n9,PUnit.unit),PUnit.unit))))
    (some (D.bool true)))
   (((a0,a1,(0:Int),PUnit.unit),PUnit.unit)))
theorem zkr (tga0:Tag) (tga1:Tag) (a0:List D) (a1:List D):denP Try.prog (zay []) ze0 [0] ID.wattlekeep_Same_byte [.sl tga0 a0,.sl tga1 a1]=zdP (D.lentL a0) (D.lentL a1):=by kernel_rfl
theorem zid (tga0:Tag) (tga1:Tag) (a0:List D) (a1:List D):zaU [.sl tga0 a0,.sl tga1 a1]=zdP (D.lentL a0) (D.lentL a1):=zkr tga0 tga1 a0 a1
def zj2:Ann:={ loops:=[(1,[.val (.cell (.hnd (3840:Nat))),.val (.cell .lent),.dead,.val (.cell (.int .i64)),.dead,.dead,.dead,.dead,.dead,.dead,.dead,.dead,.dead,.dead,.dead,.dead,.dead,.dead,.dead,.dead,.dead,.dead,.dead,.dead,.dead,.own 1,.val (.cell (.int .i64)),.val (.cell (.int .i64))])],ks:=[(3840,true),(7649,true)] }
noncomputable def zie:List D→List Tb→Option Ans:=denS Try.prog (zay [(ID.row_Fill,(.pure [1,0] zbZ)),(ID.stripe_up,(.st [] [0] [(3840,false),(7649,false)] zbd)),(ID.bench_Bench_Write,(.st [] [0] [(3840,true),(7649,true)] zaG))]) zj2 [0] ID.stripe_Write
noncomputable def zif (zbZ:List D→Option D) (zbd:List D→List Tb→Option Ans) (zaG:List D→List Tb→Option Ans) (a0:Nat) (a1:List D) (a2_0:Int) (a2_1:Int) (a2_2:Int) (a3:Int) (a4:List D) (T0:Tb) (T1:Tb):Option Ans:=
 zaq (zbZ [D.agg [D.int IntKind.i64 a2_0,D.int IntKind.i64 a2_1,D.int IntKind.i64 a2_2],D.int IntKind.i64 a3,D.sl Tag.lent a4]) fun r1=>
 zdG r1 fun ts2=>
 zat ([Lf.any,Lf.any]) ts2 fun c3=>
 za0 c3.fst fun l4=>
 asB c3.snd.fst fun b5=>
 brK (!b5)
  (some (Ans.mk (D.int IntKind.i64 (1:Int)) [] [T0,T1]))
  (sif ((0:Nat)+List.length l4≤List.length l4) <|
  sif (List.length l4=List.length l4) <|
  zb7 (α:=(Nat×List D×Int×List D×Int×Int×PUnit)×List (List D)×List (List D)×PUnit) (fun again6 ((x7,(l8,(i9,(l10,(i11,(i12,_)))))),(U13,(U14,_)))=>
   brK (decide (i12 < i11))
    (sif ((0:Int)≤i12) <|
    sif (Int.toNat i12 < List.length l10) <|
    getK l10 ((0:Nat)+Int.toNat i12) fun d15=>
    asSl d15 fun t16 l17=>
    zaq (zbd [D.h (3840) x7 (0:Nat),D.sl Tag.lent l8,D.int IntKind.i64 i12] [U13,U14]) fun r18=>
    nilK r18.outs <|
    nilK r18.tbs <|
    asB r18.r fun b19=>
    brK (!b19)
     (letN (IntKind.wrap IntKind.i64 (i12+(1:Int))) fun n20=>
     sif (List.length l10=List.length l10) <|
     again6 (((x7,l8,i9,l10,i11,n20,PUnit.unit),U13,U14,PUnit.unit)))
     (letN (IntKind.wrap IntKind.i64 ((36:Int)+i9)) fun n21=>
     zaq (zaG [D.h (3840) x7 (0:Nat),D.int IntKind.i64 i12,D.int IntKind.i64 n21,D.sl t16 l17] [U13,U14]) fun r22=>
     nilK r22.outs <|
     zb8 r22.tbs fun c23 q24=>
     zb8 q24 fun c25 q26=>
     nilK q26 <|
     asI IntKind.i64 r22.r fun i27=>
     brK (i27 != (0:Int))
      (some (Ans.mk (D.int IntKind.i64 i27) [] [c23,c25]))
      (letN (IntKind.wrap IntKind.i64 (i12+(1:Int))) fun n28=>
      sif (List.length l10=List.length l10) <|
      again6 (((x7,l8,i9,l10,i11,n28,PUnit.unit),c23,c25,PUnit.unit)))))
    (some (Ans.mk (D.int IntKind.i64 (0:Int)) [] [U13,U14])))
   (((a0,a1,a3,l4,(↑(List.length l4):Int),(0:Int),PUnit.unit),T0,T1,PUnit.unit)))
theorem zsH (zbZ:List D→Option D) (zbd:List D→List Tb→Option Ans) (zaG:List D→List Tb→Option Ans) (tga1:Tag) (tga4:Tag) (a0:Nat) (a1:List D) (a2_0:Int) (a2_1:Int) (a2_2:Int) (a3:Int) (a4:List D) (T0:Tb) (T1:Tb):denS Try.prog (zay [(ID.row_Fill,(.pure [1,0] zbZ)),(ID.stripe_up,(.st [] [0] [(3840,false),(7649,false)] zbd)),(ID.bench_Bench_Write,(.st [] [0] [(3840,true),(7649,true)] zaG))]) zj2 [0] ID.stripe_Write [.h 3840 a0 0,.sl tga1 a1,.agg [.int .i64 a2_0,.int .i64 a2_1,.int .i64 a2_2],.int .i64 a3,.sl tga4 a4] [T0,T1]=zif zbZ zbd zaG a0 (D.lentL a1) a2_0 a2_1 a2_2 a3 (D.lentL a4) T0 T1:=by kernel_rfl
theorem zpv (tga1:Tag) (tga4:Tag) (a0:Nat) (a1:List D) (a2_0:Int) (a2_1:Int) (a2_2:Int) (a3:Int) (a4:List D) (T0:Tb) (T1:Tb):zie [.h 3840 a0 0,.sl tga1 a1,.agg [.int .i64 a2_0,.int .i64 a2_1,.int .i64 a2_2],.int .i64 a3,.sl tga4 a4] [T0,T1]=zif zbZ zbd zaG a0 (D.lentL a1) a2_0 a2_1 a2_2 a3 (D.lentL a4) T0 T1:=zsH zbZ zbd zaG tga1 tga4 a0 a1 a2_0 a2_1 a2_2 a3 a4 T0 T1
def zj3:Ann:={ loops:=[(0,[.val (.cell (.hnd (3840:Nat))),.val (.cell .lent),.dead,.dead,.dead,.dead,.dead,.dead,.val (.cell (.int .i64)),.val (.cell (.int .i64))])],ks:=[(3840,false),(7649,true)] }
noncomputable def zih:List D→List Tb→Option Ans:=denS Try.prog (zay [(ID.bench_Bench_Len,(.st [] [0] [(3840,false)] zaw)),(ID.stripe_up,(.st [] [0] [(3840,false),(7649,false)] zbd)),(ID.bench_Bench_Flush,(.st [] [0] [(3840,false),(7649,true)] zaC))]) zj3 [0] ID.stripe_Flush
noncomputable def zii (zaw:List D→List Tb→Option Ans) (zbd:List D→List Tb→Option Ans) (zaC:List D→List Tb→Option Ans) (a0:Nat) (a1:List D) (T0:Tb) (T1:Tb):Option Ans:=
 zaq (zaw [D.h (3840:Nat) a0 (0:Nat)] [T0]) fun r1=>
 nilK r1.outs <|
 nilK r1.tbs <|
 asI IntKind.i64 r1.r fun i2=>
 zb7 (α:=(Nat×List D×Int×Int×PUnit)×List (List D)×List (List D)×PUnit) (fun again3 ((x4,(l5,(i6,(i7,_)))),(U8,(U9,_)))=>
  brK (decide (i7 < i6))
   (zaq (zbd [D.h (3840) x4 (0:Nat),D.sl Tag.lent l5,D.int IntKind.i64 i7] [U8,U9]) fun r10=>
   nilK r10.outs <|
   nilK r10.tbs <|
   asB r10.r fun b11=>
   brK (!b11)
    (letN (IntKind.wrap IntKind.i64 (i7+(1:Int))) fun n12=>
    again3 (((x4,l5,i6,n12,PUnit.unit),U8,U9,PUnit.unit)))
    (zaq (zaC [D.h (3840) x4 (0:Nat),D.int IntKind.i64 i7] [U8,U9]) fun r13=>
    nilK r13.outs <|
    zb8 r13.tbs fun c14 q15=>
    nilK q15 <|
    asI IntKind.i64 r13.r fun i16=>
    brK (i16 != (0:Int))
     (some (Ans.mk (D.int IntKind.i64 i16) [] [c14]))
     (letN (IntKind.wrap IntKind.i64 (i7+(1:Int))) fun n17=>
     again3 (((x4,l5,i6,n17,PUnit.unit),U8,c14,PUnit.unit)))))
   (some (Ans.mk (D.int IntKind.i64 (0:Int)) [] [U9])))
  (((a0,a1,i2,(0:Int),PUnit.unit),T0,T1,PUnit.unit))
theorem zsI (zaw:List D→List Tb→Option Ans) (zbd:List D→List Tb→Option Ans) (zaC:List D→List Tb→Option Ans) (tga1:Tag) (a0:Nat) (a1:List D) (T0:Tb) (T1:Tb):denS Try.prog (zay [(ID.bench_Bench_Len,(.st [] [0] [(3840,false)] zaw)),(ID.stripe_up,(.st [] [0] [(3840,false),(7649,false)] zbd)),(ID.bench_Bench_Flush,(.st [] [0] [(3840,false),(7649,true)] zaC))]) zj3 [0] ID.stripe_Flush [.h 3840 a0 0,.sl tga1 a1] [T0,T1]=zii zaw zbd zaC a0 (D.lentL a1) T0 T1:=by kernel_rfl
theorem zpw (tga1:Tag) (a0:Nat) (a1:List D) (T0:Tb) (T1:Tb):zih [.h 3840 a0 0,.sl tga1 a1] [T0,T1]=zii zaw zbd zaC a0 (D.lentL a1) T0 T1:=zsI zaw zbd zaC tga1 a0 a1 T0 T1
def zgG:Ann:={ loops:=[(1,[.dead,.dead,.val (.cell (.int .i64)),.val (.cell (.int .i64)),.val (.cell .lent),.box true [(.int .i64),(.int .i64),(.int .i64)],.box true [(.int .i64),(.int .i64),(.int .i64)],.dead,.dead,.dead,.dead,.ptr 3840,.dead,.val (.cell (.int .i64))]),(3,[.dead,.dead,.val (.cell (.int .i64)),.val (.cell (.int .i64)),.val (.cell .lent),.box true [(.int .i64),(.int .i64),(.int .i64)],.box true [(.int .i64),(.int .i64),(.int .i64)],.dead,.dead,.dead,.dead,.ptr 3840,.dead,.val (.cell (.int .i64)),.box true [(.int .i64),(.int .i64),(.int .i64)]]),(4,[.dead,.dead,.val (.cell (.int .i64)),.val (.cell (.int .i64)),.val (.cell .lent),.box true [(.int .i64),(.int .i64),(.int .i64)],.box true [(.int .i64),(.int .i64),(.int .i64)],.dead,.dead,.dead,.dead,.ptr 3840,.dead,.val (.cell (.int .i64)),.dead,.own 1,.val (.cell .bool),.val (.cell (.int .i64))])],ks:=[(3840,true),(7649,true)] }
noncomputable def zbr:List D→List Tb→Option Ans:=denS Try.prog (zay [(ID.bench_New,(.st [] [0,0] [(3840,true),(7649,true)] zby)),(ID.wattleref01_Width,(.pure [0] zaf)),(ID.wattleplay_Sectors,(.pure [1] zbk)),(ID.wattleref01_Fill,(.pure [1,0] zbw)),(ID.bench_Bench_Damage,(.st [] [0] [(3840,false),(7649,true)] zbl))]) zgG [0] ID.wattlelaw16_Both
theorem zks:za9 Try.prog ID.wattlelaw16_Both (.st [] [0] [(3840,true),(7649,true)] zbr):=za2 (zaz [zmG,zc2,zjF,zlt,zjK]) zbz ⟨Try.f50,by kernel_rfl,by kernel_rfl,by kernel_rfl⟩
noncomputable def zlx:Fact Try.prog:=⟨ID.wattlelaw16_Both,(.st [] [0] [(3840,true),(7649,true)] zbr),zks⟩
noncomputable def zfo (zby:List D→List Tb→Option Ans) (zaf:List D→Option D) (zbk:List D→Option D) (zbw:List D→Option D) (zbl:List D→List Tb→Option Ans) (a0_0:Int) (a0_1:Int) (a0_2:Int) (a1_0:Int) (a1_1:Int) (a1_2:Int) (a2:Int) (a3:Int) (a4:List D) (T0:Tb) (T1:Tb):Option Ans:=
 zaq (zby [D.int IntKind.i64 a3] [T0,T1]) fun r1=>
 nilK r1.outs <|
 zb8 r1.tbs fun c2 q3=>
 zb8 q3 fun c4 q5=>
 nilK q5 <|
 zdG r1.r fun ts6=>
 zat ([Lf.any,Lf.any]) ts6 fun c7=>
 sif (zha c7.fst=true) <|
 asI IntKind.i64 c7.snd.fst fun i8=>
 brK (i8 != (0:Int))
  (some (Ans.mk D.nilp [] [c2,c4]))
  (znV c7.fst fun b9=>
  brK b9
   (some (Ans.mk D.nilp [] [c2,c4]))
   (zb7 (α:=(Int×Int×List D×(Int×Int×Int×PUnit)×(Int×Int×Int×PUnit)×D×Int×PUnit)×List (List D)×List (List D)×PUnit) (fun again10 ((i11,(i12,(l13,((i14,(i15,(i16,_))),((i17,(i18,(i19,_))),(x20,(i21,_))))))),(U22,(U23,_)))=>
    brK (decide (i21 < (16:Int)))
     (jn (α:=(Int×Int×List D×(Int×Int×Int×PUnit)×(Int×Int×Int×PUnit)×D×Int×(Int×Int×Int×PUnit)×PUnit)×List (List D)×List (List D)×PUnit) (fun a24=>
       letN (min a24.fst.snd.snd.snd.snd.snd.snd.fst (↑(List.length a24.fst.snd.snd.fst):Int)) fun n25=>
       sif ((0:Int)≤n25) <|
       sif (n25≤(↑(List.length a24.fst.snd.snd.fst):Int)) <|
       sif ((↑(List.length a24.fst.snd.snd.fst):Int)≤(↑(List.length a24.fst.snd.snd.fst):Int)) <|
       sif ((↑(List.length a24.fst.snd.snd.fst):Int)=(↑(List.length a24.fst.snd.snd.fst):Int)) <|
       sif (zsl (1:Nat) a24.fst.snd.snd.fst=true) <|
       zaq (zaf [D.agg [D.int IntKind.i64 a24.fst.snd.snd.snd.snd.snd.snd.snd.fst.fst,D.int IntKind.i64 a24.fst.snd.snd.snd.snd.snd.snd.snd.fst.snd.fst,D.int IntKind.i64 a24.fst.snd.snd.snd.snd.snd.snd.snd.fst.snd.snd.fst]]) fun r26=>
       asI IntKind.i64 r26 fun i27=>
       zaq (zbk [D.sl (zeg Tag.lent false (decide ((↑(List.length a24.fst.snd.snd.fst):Int)=(↑(List.length a24.fst.snd.snd.fst):Int)))) (cutI n25 (↑(List.length a24.fst.snd.snd.fst):Int) a24.fst.snd.snd.fst),D.int IntKind.i64 i27]) fun r28=>
       za0 r28 fun l29=>
       sif ((0:Nat)+List.length l29≤List.length l29) <|
       zaq (zbw [D.agg [D.int IntKind.i64 a24.fst.snd.snd.snd.snd.snd.snd.snd.fst.fst,D.int IntKind.i64 a24.fst.snd.snd.snd.snd.snd.snd.snd.fst.snd.fst,D.int IntKind.i64 a24.fst.snd.snd.snd.snd.snd.snd.snd.fst.snd.snd.fst],D.int IntKind.i64 a24.fst.snd.snd.snd.snd.snd.snd.fst,D.sl Tag.lent (cut (0:Nat) (List.length l29) l29)]) fun r30=>
       zdG r30 fun ts31=>
       zat ([Lf.any,Lf.any]) ts31 fun c32=>
       za0 c32.fst fun l33=>
       asB c32.snd.fst fun b34=>
       sif (List.length l33=List.length l33) <|
       zb7 (α:=(Int×Int×List D×(Int×Int×Int×PUnit)×(Int×Int×Int×PUnit)×D×Int×List D×Bool×Int×PUnit)×List (List D)×List (List D)×PUnit) (fun again35 ((i36,(i37,(l38,((i39,(i40,(i41,_))),((i42,(i43,(i44,_))),(x45,(i46,(l47,(b48,(i49,_)))))))))),(U50,(U51,_)))=>
        brK b48
         (sif ((0:Nat)+List.length l47≤List.length l47) <|
         brK (decide (i49 < (↑(List.length l47):Int)))
          (brK (decide (i49 < i37))
           (letN (IntKind.wrap IntKind.i64 ((36:Int)+i46)) fun n52=>
           sif ((0:Int)≤i49) <|
           sif (Int.toNat i49 < List.length l47) <|
           getK l47 ((0:Nat)+Int.toNat i49) fun d53=>
           asSl d53 fun t54 l55=>
           zaq (zbl [x45,D.int IntKind.i64 i49,D.int IntKind.i64 n52,D.sl t54 l55] [U50,U51]) fun r56=>
           nilK r56.outs <|
           zb8 r56.tbs fun c57 q58=>
           nilK q58 <|
           asI IntKind.i64 r56.r fun i59=>
           letN (IntKind.wrap IntKind.i64 (i49+(1:Int))) fun n60=>
           sif (List.length l47=List.length l47) <|
           again35 (((i36,i37,l38,(i39,i40,i41,PUnit.unit),(i42,i43,i44,PUnit.unit),x45,i46,l47,b48,n60,PUnit.unit),U50,c57,PUnit.unit)))
           (letN (IntKind.wrap IntKind.i64 (i46+(1:Int))) fun n61=>
           again10 (((i36,i37,l38,(i39,i40,i41,PUnit.unit),(i42,i43,i44,PUnit.unit),x45,n61,PUnit.unit),U50,U51,PUnit.unit))))
          (letN (IntKind.wrap IntKind.i64 (i46+(1:Int))) fun n62=>
          again10 (((i36,i37,l38,(i39,i40,i41,PUnit.unit),(i42,i43,i44,PUnit.unit),x45,n62,PUnit.unit),U50,U51,PUnit.unit))))
         (letN (IntKind.wrap IntKind.i64 (i46+(1:Int))) fun n63=>
         again10 (((i36,i37,l38,(i39,i40,i41,PUnit.unit),(i42,i43,i44,PUnit.unit),x45,n63,PUnit.unit),U50,U51,PUnit.unit))))
        (((a24.fst.fst,a24.fst.snd.fst,a24.fst.snd.snd.fst,(a24.fst.snd.snd.snd.fst.fst,a24.fst.snd.snd.snd.fst.snd.fst,a24.fst.snd.snd.snd.fst.snd.snd.fst,PUnit.unit),(a24.fst.snd.snd.snd.snd.fst.fst,a24.fst.snd.snd.snd.snd.fst.snd.fst,a24.fst.snd.snd.snd.snd.fst.snd.snd.fst,PUnit.unit),a24.fst.snd.snd.snd.snd.snd.fst,a24.fst.snd.snd.snd.snd.snd.snd.fst,l33,b34,(0:Int),PUnit.unit),a24.snd.fst,a24.snd.snd.fst,PUnit.unit)))
      (fun j64=>
      brK (decide (i21 < i11))
       (j64 (((i11,i12,l13,(i14,i15,i16,PUnit.unit),(i17,i18,i19,PUnit.unit),x20,i21,(i17,i18,i19,PUnit.unit),PUnit.unit),U22,U23,PUnit.unit)))
       (j64 (((i11,i12,l13,(i14,i15,i16,PUnit.unit),(i17,i18,i19,PUnit.unit),x20,i21,(i14,i15,i16,PUnit.unit),PUnit.unit),U22,U23,PUnit.unit)))))
     (sif (D.free x20=true) <|
     some (Ans.mk x20 [] [U22,U23])))
    (((a2,a3,a4,(a0_0,a0_1,a0_2,PUnit.unit),(a1_0,a1_1,a1_2,PUnit.unit),c7.fst,(0:Int),PUnit.unit),c2,c4,PUnit.unit))))
theorem zoG (zby:List D→List Tb→Option Ans) (zaf:List D→Option D) (zbk:List D→Option D) (zbw:List D→Option D) (zbl:List D→List Tb→Option Ans) (tga4:Tag) (a0_0:Int) (a0_1:Int) (a0_2:Int) (a1_0:Int) (a1_1:Int) (a1_2:Int) (a2:Int) (a3:Int) (a4:List D) (T0:Tb) (T1:Tb):denS Try.prog (zay [(ID.bench_New,(.st [] [0,0] [(3840,true),(7649,true)] zby)),(ID.wattleref01_Width,(.pure [0] zaf)),(ID.wattleplay_Sectors,(.pure [1] zbk)),(ID.wattleref01_Fill,(.pure [1,0] zbw)),(ID.bench_Bench_Damage,(.st [] [0] [(3840,false),(7649,true)] zbl))]) zgG [0] ID.wattlelaw16_Both [.agg [.int .i64 a0_0,.int .i64 a0_1,.int .i64 a0_2],.agg [.int .i64 a1_0,.int .i64 a1_1,.int .i64 a1_2],.int .i64 a2,.int .i64 a3,.sl tga4 a4] [T0,T1]=zfo zby zaf zbk zbw zbl a0_0 a0_1 a0_2 a1_0 a1_1 a1_2 a2 a3 (D.lentL a4) T0 T1:=by kernel_rfl
theorem zly (tga4:Tag) (a0_0:Int) (a0_1:Int) (a0_2:Int) (a1_0:Int) (a1_1:Int) (a1_2:Int) (a2:Int) (a3:Int) (a4:List D) (T0:Tb) (T1:Tb):zbr [.agg [.int .i64 a0_0,.int .i64 a0_1,.int .i64 a0_2],.agg [.int .i64 a1_0,.int .i64 a1_1,.int .i64 a1_2],.int .i64 a2,.int .i64 a3,.sl tga4 a4] [T0,T1]=zfo zby zaf zbk zbw zbl a0_0 a0_1 a0_2 a1_0 a1_1 a1_2 a2 a3 (D.lentL a4) T0 T1:=zoG zby zaf zbk zbw zbl tga4 a0_0 a0_1 a0_2 a1_0 a1_1 a1_2 a2 a3 a4 T0 T1
def zfp:Ann:={ loops:=[],ks:=[(3840,true),(7649,true)] }
noncomputable def zaX:List D→List Tb→Option Ans:=denS Try.prog (zay [(ID.bench_Bench_is,(.st [] [0] [(3840,false)] zai)),(ID.disk_Disk_Failed,(.st [] [0] [(7649,false)] zaN)),(ID.disk_New,(.st [] [0] [(7649,true)] zbX))]) zfp [0] ID.bench_Bench_Replace
theorem zij:za9 Try.prog ID.bench_Bench_Replace (.st [] [0] [(3840,true),(7649,true)] zaX):=za2 (zaz [zcX,zf9,zod]) zbz ⟨Try.f52,by kernel_rfl,by kernel_rfl,by kernel_rfl⟩
noncomputable def ziX:Fact Try.prog:=⟨ID.bench_Bench_Replace,(.st [] [0] [(3840,true),(7649,true)] zaX),zij⟩
noncomputable def zeb (zai:List D→List Tb→Option Ans) (zaN:List D→List Tb→Option Ans) (zbX:List D→List Tb→Option Ans) (a0:Nat) (a1:Int) (T0:Tb) (T1:Tb):Option Ans:=
 zaq (zai [D.h (3840:Nat) a0 (0:Nat),D.int IntKind.i64 a1] [T0]) fun r1=>
 nilK r1.outs <|
 nilK r1.tbs <|
 asB r1.r fun b2=>
 brK (!b2)
  (some (Ans.mk (D.int IntKind.i64 (1:Int)) [] [T0,T1]))
  (getK T0 a0 fun d3=>
  getK d3 ((3:Nat)) fun d4=>
  za0 d4 fun l5=>
  getK T0 a0 fun d6=>
  getK d6 ((3:Nat)) fun d7=>
  za0 d7 fun l8=>
  sif ((0:Int)≤a1) <|
  sif (Int.toNat a1 < List.length l5) <|
  getK T0 a0 fun d9=>
  getK d9 ((3:Nat)) fun d10=>
  za0 d10 fun l11=>
  getK l11 ((0:Nat)+Int.toNat a1) fun d12=>
  sif (D.isAgg d12=false) <|
  sif (D.width d12=(1:Nat)) <|
  sif (D.cell d12=true) <|
  zaq (zaN [d12] [T1]) fun r13=>
  nilK r13.outs <|
  nilK r13.tbs <|
  asB r13.r fun b14=>
  brK (!b14)
   (some (Ans.mk (D.int IntKind.i64 (9:Int)) [] [T0,T1]))
   (getK T0 a0 fun d15=>
   getK d15 ((3:Nat)) fun d16=>
   za0 d16 fun l17=>
   zaq (zbX [] [T1]) fun r18=>
   nilK r18.outs <|
   zb8 r18.tbs fun c19 q20=>
   nilK q20 <|
   sif (zha r18.r=true) <|
   getK T0 a0 fun d21=>
   getK d21 ((3:Nat)) fun d22=>
   za0 d22 fun l23=>
   sif ((0:Int)≤a1) <|
   sif (Int.toNat a1 < List.length l17) <|
   asH ((7649:Nat)) r18.r fun h24=>
   getK T0 a0 fun d25=>
   getK d25 ((3:Nat)) fun d26=>
   za0 d26 fun l27=>
   getK l27 ((0:Nat)+Int.toNat a1) fun d28=>
   sif (D.isAgg d28=false) <|
   letT (setT T0 a0 (3:Nat) (D.sl Tag.own (List.set l27 ((0:Nat)+Int.toNat a1) (D.h (7649:Nat) h24 (0:Nat))))) fun U29=>
   some (Ans.mk (D.int IntKind.i64 (0:Int)) [] [U29,c19])))
theorem zlz (zai:List D→List Tb→Option Ans) (zaN:List D→List Tb→Option Ans) (zbX:List D→List Tb→Option Ans) (a0:Nat) (a1:Int) (T0:Tb) (T1:Tb):denS Try.prog (zay [(ID.bench_Bench_is,(.st [] [0] [(3840,false)] zai)),(ID.disk_Disk_Failed,(.st [] [0] [(7649,false)] zaN)),(ID.disk_New,(.st [] [0] [(7649,true)] zbX))]) zfp [0] ID.bench_Bench_Replace [.h 3840 a0 0,.int .i64 a1] [T0,T1]=zeb zai zaN zbX a0 a1 T0 T1:=by kernel_rfl
theorem ziY (a0:Nat) (a1:Int) (T0:Tb) (T1:Tb):zaX [.h 3840 a0 0,.int .i64 a1] [T0,T1]=zeb zai zaN zbX a0 a1 T0 T1:=zlz zai zaN zbX a0 a1 T0 T1
def zgg:Ann:={ loops:=[],ks:=[(7649,false)] }
noncomputable def zaI:List D→List Tb→Option Ans:=denS Try.prog (zay []) zgg [0] ID.disk_Disk_Pending
theorem zjM:za9 Try.prog ID.disk_Disk_Pending (.st [] [0] [(7649,false)] zaI):=za2 (zaz []) zbz ⟨Try.f83,by kernel_rfl,by kernel_rfl,by kernel_rfl⟩
noncomputable def zfD:Fact Try.prog:=⟨ID.disk_Disk_Pending,(.st [] [0] [(7649,false)] zaI),zjM⟩
noncomputable def zeU (a0:Nat) (T0:Tb):Option Ans:=
 getK T0 a0 fun d1=>
 getK d1 ((1664:Nat)) fun d2=>
 za0 d2 fun l3=>
 getK T0 a0 fun d4=>
 getK d4 ((1664:Nat)) fun d5=>
 za0 d5 fun l6=>
 sif ((0:Nat)+List.length l3≤List.length l6) <|
 some (Ans.mk (D.int IntKind.i64 (↑(List.length l3):Int)) [] [])
theorem zny (a0:Nat) (T0:Tb):denS Try.prog (zay []) zgg [0] ID.disk_Disk_Pending [.h 7649 a0 0] [T0]=zeU a0 T0:=by kernel_rfl
theorem zkt (a0:Nat) (T0:Tb):zaI [.h 7649 a0 0] [T0]=zeU a0 T0:=zny a0 T0
def zfq:Ann:={ loops:=[(0,[.dead,.dead,.dead,.val (.cell (.int .i64)),.dead,.dead,.dead,.dead,.dead,.view 3840 3,.val (.cell (.int .i64)),.val (.cell (.int .i64))])],ks:=[(3840,false),(7649,false)] }
noncomputable def zaY:List D→List Tb→Option Ans:=denS Try.prog (zay [(ID.disk_Disk_Pending,(.st [] [0] [(7649,false)] zaI))]) zfq [0] ID.bench_Bench_Pending
theorem zik:za9 Try.prog ID.bench_Bench_Pending (.st [] [0] [(3840,false),(7649,false)] zaY):=za2 (zaz [zfD]) zbz ⟨Try.f40,by kernel_rfl,by kernel_rfl,by kernel_rfl⟩
noncomputable def ziZ:Fact Try.prog:=⟨ID.bench_Bench_Pending,(.st [] [0] [(3840,false),(7649,false)] zaY),zik⟩
noncomputable def zec (zaI:List D→List Tb→Option Ans) (a0:Nat) (T0:Tb) (T1:Tb):Option Ans:=
 getK T0 a0 fun d1=>
 getK d1 ((3:Nat)) fun d2=>
 za0 d2 fun l3=>
 getK T0 a0 fun d4=>
 getK d4 ((3:Nat)) fun d5=>
 za0 d5 fun l6=>
 sif ((0:Nat)+List.length l3≤List.length l6) <|
 zb7 (α:=(Int×(Nat×Nat×Nat)×Int×Int×PUnit)×List (List D)×List (List D)×PUnit) (fun again7 ((i8,((x9,(x10,x11)),(i12,(i13,_)))),(U14,(U15,_)))=>
  brK (decide (i13 < i12))
   (getK U14 x9 fun d16=>
   getK d16 ((3:Nat)) fun d17=>
   za0 d17 fun l18=>
   sif ((0:Int)≤i13) <|
   sif (Int.toNat i13 < x11) <|
   getK U14 x9 fun d19=>
   getK d19 ((3:Nat)) fun d20=>
   za0 d20 fun l21=>
   getK l21 (x10+Int.toNat i13) fun d22=>
   sif (D.isAgg d22=false) <|
   sif (D.width d22=(1:Nat)) <|
   sif (D.cell d22=true) <|
   zaq (zaI [d22] [U15]) fun r23=>
   nilK r23.outs <|
   nilK r23.tbs <|
   asI IntKind.i64 r23.r fun i24=>
   letN (IntKind.wrap IntKind.i64 (i8+i24)) fun n25=>
   letN (IntKind.wrap IntKind.i64 (i13+(1:Int))) fun n26=>
   again7 (((n25,(x9,x10,x11),i12,n26,PUnit.unit),U14,U15,PUnit.unit)))
   (some (Ans.mk (D.int IntKind.i64 i8) [] [])))
  ((((0:Int),(a0,(0:Nat),List.length l3),(↑(List.length l3):Int),(0:Int),PUnit.unit),T0,T1,PUnit.unit))
theorem zlA (zaI:List D→List Tb→Option Ans) (a0:Nat) (T0:Tb) (T1:Tb):denS Try.prog (zay [(ID.disk_Disk_Pending,(.st [] [0] [(7649,false)] zaI))]) zfq [0] ID.bench_Bench_Pending [.h 3840 a0 0] [T0,T1]=zec zaI a0 T0 T1:=by kernel_rfl
theorem zi0 (a0:Nat) (T0:Tb) (T1:Tb):zaY [.h 3840 a0 0] [T0,T1]=zec zaI a0 T0 T1:=zlA zaI a0 T0 T1
def zgh:Ann:={ loops:=[(0,[.dead,.dead,.dead,.vbx true [(.int .i64),(.int .i64),.bool,.sl] 3 1,.dead,.dead,.dead,.dead,.dead,.dead,.dead,.dead,.dead,.dead,.dead,.view 3840 3,.val (.cell (.int .i64)),.val (.cell (.int .i64))])],pubs:=[(7,[(2,63,3840)])],ks:=[(3840,true),(7649,true)] }
noncomputable def za8:List D→List Tb→Option Ans:=denS Try.prog (zay [(ID.disk_Disk_Clone,(.st [] [0] [(7649,true)] zaS))]) zgh [0] ID.bench_Bench_Clone
theorem zjN:za9 Try.prog ID.bench_Bench_Clone (.st [] [0] [(3840,true),(7649,true)] za8):=za2 (zaz [zgz]) zbz ⟨Try.f51,by kernel_rfl,by kernel_rfl,by kernel_rfl⟩
noncomputable def zku:Fact Try.prog:=⟨ID.bench_Bench_Clone,(.st [] [0] [(3840,true),(7649,true)] za8),zjN⟩
noncomputable def zeV (zaS:List D→List Tb→Option Ans) (a0:Nat) (T0:Tb) (T1:Tb):Option Ans:=
 getK T0 a0 fun d1=>
 sif ((3:Nat)≤List.length d1) <|
 sif (ze3 (List.take (3:Nat) (List.drop (0:Nat) d1))=true) <|
 zat ([Lf.int IntKind.i64,Lf.int IntKind.i64,Lf.bool]) (List.take (3:Nat) (List.drop (0:Nat) d1)) fun c2=>
 getK T0 a0 fun d3=>
 getK d3 ((3:Nat)) fun d4=>
 za0 d4 fun l5=>
 getK T0 a0 fun d6=>
 getK d6 ((3:Nat)) fun d7=>
 za0 d7 fun l8=>
 sif ((0:Nat)+List.length l5≤List.length l8) <|
 zb7 (α:=(((Int×Int×Bool×(Tag×List D)×PUnit)×List D)×(Nat×Nat×Nat)×Int×Int×PUnit)×List (List D)×List (List D)×PUnit) (fun again9 ((((i10,(i11,(b12,((t13,l14),_)))),l15),((x16,(x17,x18)),(i19,(i20,_)))),(U21,(U22,_)))=>
  brK (decide (i20 < i19))
   (getK U21 x16 fun d23=>
   getK d23 ((3:Nat)) fun d24=>
   za0 d24 fun l25=>
   sif ((0:Int)≤i20) <|
   sif (Int.toNat i20 < x18) <|
   getK U21 x16 fun d26=>
   getK d26 ((3:Nat)) fun d27=>
   za0 d27 fun l28=>
   getK l28 (x17+Int.toNat i20) fun d29=>
   sif (D.isAgg d29=false) <|
   sif (D.width d29=(1:Nat)) <|
   sif (D.cell d29=true) <|
   zaq (zaS [d29] [U22]) fun r30=>
   nilK r30.outs <|
   zb8 r30.tbs fun c31 q32=>
   nilK q32 <|
   sif (zha r30.r=true) <|
   sif (zdT (1:Nat) [r30.r]=true) <|
   sif (List.length l15+(1:Nat)≤(4294967296:Nat)) <|
   sif (zdT (1:Nat) [r30.r]=true) <|
   sif (List.length l15=List.length l15) <|
   sif ((0:Nat)+(List.length l15+(1:Nat))≤List.length (l15++[r30.r])) <|
   letN (IntKind.wrap IntKind.i64 (i20+(1:Int))) fun n33=>
   sif (List.length l15+(1:Nat)=List.length (l15++[r30.r])) <|
   again9 (((((i10,i11,b12,(Tag.nil,[]),PUnit.unit),l15++[r30.r]),(x16,x17,x18),i19,n33,PUnit.unit),U21,c31,PUnit.unit)))
   (sif (List.length l15=List.length l15) <|
   sif (zdj l15=true) <|
   sif (zfv (1:Nat) l15=true) <|
   letT (U21++[[D.own0 (D.int IntKind.i64 i10),D.own0 (D.int IntKind.i64 i11),D.own0 (D.bool b12),D.sl Tag.own l15]]) fun U34=>
   some (Ans.mk (D.h (3840:Nat) (List.length U21) (0:Nat)) [] [U34,U22])))
  (((((c2.fst,c2.snd.fst,c2.snd.snd.fst,(Tag.nil,[]),PUnit.unit),[]),(a0,(0:Nat),List.length l5),(↑(List.length l5):Int),(0:Int),PUnit.unit),T0,T1,PUnit.unit))
theorem znz (zaS:List D→List Tb→Option Ans) (a0:Nat) (T0:Tb) (T1:Tb):denS Try.prog (zay [(ID.disk_Disk_Clone,(.st [] [0] [(7649,true)] zaS))]) zgh [0] ID.bench_Bench_Clone [.h 3840 a0 0] [T0,T1]=zeV zaS a0 T0 T1:=by kernel_rfl
theorem zkv (a0:Nat) (T0:Tb) (T1:Tb):za8 [.h 3840 a0 0] [T0,T1]=zeV zaS a0 T0 T1:=znz zaS a0 T0 T1
def zfr:Ann:={ loops:=[],ks:=[(3840,true)] }
noncomputable def zbc:List D→List Tb→Option Ans:=denS Try.prog (zay []) zfr [] ID.bench_counter_Limit
theorem zil:za9 Try.prog ID.bench_counter_Limit (.st [] [] [(3840,true)] zbc):=za2 (zaz []) zbz ⟨Try.f38,by kernel_rfl,by kernel_rfl,by kernel_rfl⟩
noncomputable def zi1:Fact Try.prog:=⟨ID.bench_counter_Limit,(.st [] [] [(3840,true)] zbc),zil⟩
noncomputable def zed (a0:Nat) (a1:Int) (T0:Tb):Option Ans:=
 letN (max (-1:Int) a1) fun n1=>
 getK T0 a0 fun d2=>
 sif ((2:Nat)≤List.length d2) <|
 sif (ze3 (List.take (1:Nat) (List.drop (1:Nat) d2))=true) <|
 letT (zaQ T0 a0 (1:Nat) [D.int IntKind.i64 n1]) fun U3=>
 some (Ans.mk (D.tup []) [] [U3])
theorem zlB (a0:Nat) (a1:Int) (T0:Tb):denS Try.prog (zay []) zfr [] ID.bench_counter_Limit [.h 3840 a0 0,.int .i64 a1] [T0]=zed a0 a1 T0:=by kernel_rfl
theorem zi2 (a0:Nat) (a1:Int) (T0:Tb):zbc [.h 3840 a0 0,.int .i64 a1] [T0]=zed a0 a1 T0:=zlB a0 a1 T0
def zfE:Ann:={ loops:=[],ks:=[(3840,false)] }
noncomputable def zba:List D→List Tb→Option Ans:=denS Try.prog (zay []) zfE [0] ID.bench_counter_Down
theorem zi3:za9 Try.prog ID.bench_counter_Down (.st [] [0] [(3840,false)] zba):=za2 (zaz []) zbz ⟨Try.f54,by kernel_rfl,by kernel_rfl,by kernel_rfl⟩
noncomputable def zjO:Fact Try.prog:=⟨ID.bench_counter_Down,(.st [] [0] [(3840,false)] zba),zi3⟩
noncomputable def zeB (a0:Nat) (T0:Tb):Option Ans:=
 getK T0 a0 fun d1=>
 getK d1 ((2:Nat)) fun d2=>
 asB d2 fun b3=>
 some (Ans.mk (D.bool b3) [] [])
theorem zmx (a0:Nat) (T0:Tb):denS Try.prog (zay []) zfE [0] ID.bench_counter_Down [.h 3840 a0 0] [T0]=zeB a0 T0:=by kernel_rfl
theorem zjP (a0:Nat) (T0:Tb):zba [.h 3840 a0 0] [T0]=zeB a0 T0:=zmx a0 T0
def zhx:Ann:={ loops:=[(0,[.val (.cell (.hnd (7649:Nat))),.val (.cell .lent),.dead,.dead,.dead,.dead,.dead,.dead,.dead,.view 7649 1664,.val (.cell (.int .i64)),.val (.cell (.int .i64))])],ks:=[(7649,true)] }
noncomputable def zbI:List D→List Tb→Option Ans:=denS Try.prog (zay []) zhx [] ID.disk_Disk_Crash
theorem zlC:za9 Try.prog ID.disk_Disk_Crash (.st [] [] [(7649,true)] zbI):=za2 (zaz []) zbz ⟨Try.f94,by kernel_rfl,by kernel_rfl,by kernel_rfl⟩
noncomputable def zmy:Fact Try.prog:=⟨ID.disk_Disk_Crash,(.st [] [] [(7649,true)] zbI),zlC⟩
noncomputable def zfV (a0:Nat) (a1:List D) (T0:Tb):Option Ans:=
 getK T0 a0 fun d1=>
 getK d1 ((1664:Nat)) fun d2=>
 za0 d2 fun l3=>
 getK T0 a0 fun d4=>
 getK d4 ((1664:Nat)) fun d5=>
 za0 d5 fun l6=>
 sif ((0:Nat)+List.length l3≤List.length l6) <|
 zb7 (α:=(Nat×List D×(Nat×Nat×Nat)×Int×Int×PUnit)×List (List D)×PUnit) (fun again7 ((x8,(l9,((x10,(x11,x12)),(i13,(i14,_))))),(U15,_))=>
  brK (decide (i14 < i13))
   (getK U15 x10 fun d16=>
   getK d16 ((1664:Nat)) fun d17=>
   za0 d17 fun l18=>
   sif ((0:Int)≤i14) <|
   sif (Int.toNat i14 < x12) <|
   getK U15 x10 fun d19=>
   getK d19 ((1664:Nat)) fun d20=>
   za0 d20 fun l21=>
   getK l21 (x11+Int.toNat i14) fun d22=>
   asAgg d22 fun cs23=>
   zat ([Lf.int IntKind.i64,Lf.arr (32)]) cs23 fun c24=>
   sif (D.width (D.agg ([D.int IntKind.i64 c24.fst]++(c24.snd.fst++[])))=(33:Nat)) <|
   sif (List.length ([D.int IntKind.i64 c24.fst]++(c24.snd.fst++[]))=(33:Nat)) <|
   brK (decide (i14 < (↑(List.length l9):Int)))
    (sif ((0:Int)≤i14) <|
    getK l9 (Int.toNat i14) fun d25=>
    asB d25 fun b26=>
    brK b26
     (sif ((33:Nat)≤List.length ([D.int IntKind.i64 c24.fst]++(c24.snd.fst++[]))) <|
     sif (List.length (List.take (32:Nat) (List.drop (1:Nat) ([D.int IntKind.i64 c24.fst]++(c24.snd.fst++[]))))=(32:Nat)) <|
     sif ((0:Int)≤c24.fst) <|
     sif (Int.toNat c24.fst < (52:Nat)) <|
     getK U15 x8 fun d27=>
     sif ((0:Nat)+Int.toNat c24.fst*(32:Nat)+(32:Nat)≤List.length d27) <|
     sif (List.length (List.take (32:Nat) (List.drop (1:Nat) ([D.int IntKind.i64 c24.fst]++(c24.snd.fst++[]))))=(32:Nat)) <|
     sif (ze3 (List.take (32:Nat) (List.drop (1:Nat) ([D.int IntKind.i64 c24.fst]++(c24.snd.fst++[]))))=true) <|
     sif (ze3 (List.take (32:Nat) (List.drop ((0:Nat)+Int.toNat c24.fst*(32:Nat)) d27))=true) <|
     letT (zaQ U15 x8 ((0:Nat)+Int.toNat c24.fst*(32:Nat)) (List.take (32:Nat) (List.drop (1:Nat) ([D.int IntKind.i64 c24.fst]++(c24.snd.fst++[]))))) fun U28=>
     letN (IntKind.wrap IntKind.i64 (i14+(1:Int))) fun n29=>
     again7 (((x8,l9,(x10,x11,x12),i13,n29,PUnit.unit),U28,PUnit.unit)))
     (letN (IntKind.wrap IntKind.i64 (i14+(1:Int))) fun n30=>
     again7 (((x8,l9,(x10,x11,x12),i13,n30,PUnit.unit),U15,PUnit.unit))))
    (letN (IntKind.wrap IntKind.i64 (i14+(1:Int))) fun n31=>
    again7 (((x8,l9,(x10,x11,x12),i13,n31,PUnit.unit),U15,PUnit.unit))))
   (getK U15 x8 fun d32=>
   sif ((1665:Nat)≤List.length d32) <|
   letT (zaQ U15 x8 (1664:Nat) [D.sl Tag.own []]) fun U33=>
   some (Ans.mk (D.tup []) [] [U33])))
  (((a0,a1,(a0,(0:Nat),List.length l3),(↑(List.length l3):Int),(0:Int),PUnit.unit),T0,PUnit.unit))
theorem zpx (tga1:Tag) (a0:Nat) (a1:List D) (T0:Tb):denS Try.prog (zay []) zhx [] ID.disk_Disk_Crash [.h 7649 a0 0,.sl tga1 a1] [T0]=zfV a0 (D.lentL a1) T0:=by kernel_rfl
theorem zmz (tga1:Tag) (a0:Nat) (a1:List D) (T0:Tb):zbI [.h 7649 a0 0,.sl tga1 a1] [T0]=zfV a0 (D.lentL a1) T0:=zpx tga1 a0 a1 T0
def zgi:Ann:={ loops:=[(0,[.val (.cell (.hnd (3840:Nat))),.val (.cell .lent),.dead,.dead,.dead,.dead,.dead,.dead,.dead,.dead,.view 3840 3,.val (.cell (.int .i64)),.val (.cell (.int .i64))])],ks:=[(3840,true),(7649,true)] }
noncomputable def zbj:List D→List Tb→Option Ans:=denS Try.prog (zay [(ID.disk_Disk_Pending,(.st [] [0] [(7649,false)] zaI)),(ID.disk_Disk_Crash,(.st [] [] [(7649,true)] zbI))]) zgi [] ID.bench_Bench_Crash
theorem zjQ:za9 Try.prog ID.bench_Bench_Crash (.st [] [] [(3840,true),(7649,true)] zbj):=za2 (zaz [zfD,zmy]) zbz ⟨Try.f55,by kernel_rfl,by kernel_rfl,by kernel_rfl⟩
noncomputable def zkw:Fact Try.prog:=⟨ID.bench_Bench_Crash,(.st [] [] [(3840,true),(7649,true)] zbj),zjQ⟩
noncomputable def zeW (zaI:List D→List Tb→Option Ans) (zbI:List D→List Tb→Option Ans) (a0:Nat) (a1:List D) (T0:Tb) (T1:Tb):Option Ans:=
 getK T0 a0 fun d1=>
 getK d1 ((3:Nat)) fun d2=>
 za0 d2 fun l3=>
 getK T0 a0 fun d4=>
 getK d4 ((3:Nat)) fun d5=>
 za0 d5 fun l6=>
 sif ((0:Nat)+List.length l3≤List.length l6) <|
 zb7 (α:=(Nat×List D×(Nat×Nat×Nat)×Int×Int×PUnit)×List (List D)×List (List D)×PUnit) (fun again7 ((x8,(l9,((x10,(x11,x12)),(i13,(i14,_))))),(U15,(U16,_)))=>
  brK (decide (i14 < i13))
   (getK U15 x10 fun d17=>
   getK d17 ((3:Nat)) fun d18=>
   za0 d18 fun l19=>
   sif ((0:Int)≤i14) <|
   sif (Int.toNat i14 < x12) <|
   getK U15 x10 fun d20=>
   getK d20 ((3:Nat)) fun d21=>
   za0 d21 fun l22=>
   getK l22 (x11+Int.toNat i14) fun d23=>
   sif (D.isAgg d23=false) <|
   sif (D.width d23=(1:Nat)) <|
   sif (D.cell d23=true) <|
   zaq (zaI [d23] [U16]) fun r24=>
   nilK r24.outs <|
   nilK r24.tbs <|
   asI IntKind.i64 r24.r fun i25=>
   letN (min i25 (↑(List.length l9):Int)) fun n26=>
   sif ((0:Int)≤n26) <|
   sif (n26≤(↑(List.length l9):Int)) <|
   sif (n26=n26) <|
   sif (zsl (1:Nat) l9=true) <|
   zaq (zbI [d23,D.sl (zeg Tag.lent false (decide (n26=(↑(List.length l9):Int)))) (cutI (0:Int) n26 l9)] [U16]) fun r27=>
   nilK r27.outs <|
   zb8 r27.tbs fun c28 q29=>
   nilK q29 <|
   zdG r27.r fun ts30=>
   nilK ts30 <|
   sif ((0:Int)≤n26) <|
   sif (n26≤(↑(List.length l9):Int)) <|
   sif ((↑(List.length l9):Int)≤(↑(List.length l9):Int)) <|
   sif ((↑(List.length l9):Int)=(↑(List.length l9):Int)) <|
   sif (zsl (1:Nat) l9=true) <|
   letN (IntKind.wrap IntKind.i64 (i14+(1:Int))) fun n31=>
   again7 (((x8,cutI n26 (↑(List.length l9):Int) l9,(x10,x11,x12),i13,n31,PUnit.unit),U15,c28,PUnit.unit)))
   (getK U15 x8 fun d32=>
   sif ((2:Nat)≤List.length d32) <|
   sif (ze3 (List.take (1:Nat) (List.drop (1:Nat) d32))=true) <|
   letT (zaQ U15 x8 (1:Nat) [D.int IntKind.i64 (-1:Int)]) fun U33=>
   getK U33 x8 fun d34=>
   sif ((3:Nat)≤List.length d34) <|
   sif (ze3 (List.take (1:Nat) (List.drop (2:Nat) d34))=true) <|
   letT (zaQ U33 x8 (2:Nat) [D.bool false]) fun U35=>
   some (Ans.mk (D.tup []) [] [U35,U16])))
  (((a0,a1,(a0,(0:Nat),List.length l3),(↑(List.length l3):Int),(0:Int),PUnit.unit),T0,T1,PUnit.unit))
theorem znA (zaI:List D→List Tb→Option Ans) (zbI:List D→List Tb→Option Ans) (tga1:Tag) (a0:Nat) (a1:List D) (T0:Tb) (T1:Tb):denS Try.prog (zay [(ID.disk_Disk_Pending,(.st [] [0] [(7649,false)] zaI)),(ID.disk_Disk_Crash,(.st [] [] [(7649,true)] zbI))]) zgi [] ID.bench_Bench_Crash [.h 3840 a0 0,.sl tga1 a1] [T0,T1]=zeW zaI zbI a0 (D.lentL a1) T0 T1:=by kernel_rfl
theorem zkx (tga1:Tag) (a0:Nat) (a1:List D) (T0:Tb) (T1:Tb):zbj [.h 3840 a0 0,.sl tga1 a1] [T0,T1]=zeW zaI zbI a0 (D.lentL a1) T0 T1:=znA zaI zbI tga1 a0 a1 T0 T1
end Wf

namespace Wf
open Go Go.RowKit Go.Proofs
set_option linter.unusedSimpArgs false
set_option linter.unusedVariables false
theorem zwA (c:Int):zaT [.sl .full [.int .i64 1,.int .i64 2,.int .i64 4],.int .i64 c]=some (.bool (c == 1 || c == 2 || c == 4)):=by
 rw [zgR];unfold zdl;rw [zh4];unfold zdO;obtain ⟨m,hm⟩:=zBF
 by_cases h1:c=1<;>by_cases h2:c=2<;>by_cases h4:c=4<;>
  simp [zb7,hm,fixN,zcp,h1,h2,h4,zal]<;>omega
theorem zfW (l d c:Int):zak [gD l d c]=some (iD (if zdR l d c then 0 else 1)):=by
 rw [zrI];unfold zk2;have hc:=zwA c;unfold zdR;obtain ⟨q,hq⟩:∃ q,(c == 1 || c == 2 || c == 4)=q:=⟨_,rfl⟩;rw [hq] at hc ⊢
 by_cases h5:l=5
 ·subst h5
  by_cases h3:d < 3<;>by_cases h8:8 < d<;>cases q<;>simp [zzz,zis,setD,hc,zcp,h3,h8]<;>omega
 ·by_cases h6:l=6
  ·subst h6
   by_cases h3:d < 4<;>by_cases h8:8 < d<;>cases q<;>simp [zzz,zis,setD,hc,zcp,h3,h8]<;>omega
  ·simp [zzz,zis,setD,hc,zcp,h5,h6]
theorem zr1 (l d c:Int):zbp [gD l d c]=some (iD (zm6 l d c)):=by
 rw [zqc];unfold zju zm6;rw [zfW];cases h:zdR l d c
 ·simp [zcp]
 ·have:=zf5.1 h;simp [zcp]
  exact zal (by omega) (by omega)
theorem zzT (l d c:Int):zaV [gD l d c]=some (iD (zkX l d c)):=by
 rw [zrM];unfold zk8 zkX;rw [zfW,zr1];unfold zm6;cases h:zdR l d c
 ·simp [zcp]
 ·have:=zf5.1 h;simp [zcp]
  exact zal (by omega) (by omega)
theorem zlD (l d c:Int):zah [gD l d c]=some (.bool (zdR l d c)):=by
 rw [zj8];unfold zeM zdR
 by_cases h5:l=5
 ·subst h5
  by_cases h3:3≤d<;>by_cases h8:d≤8<;>simp [zcp,h3,h8]<;>by_cases h1:c=1<;>by_cases h2:c=2<;>simp [h1,h2]<;>omega
 ·by_cases h6:l=6
  ·subst h6
   by_cases h3:4≤d<;>by_cases h8:d≤8<;>simp [zcp,h3,h8]<;>by_cases h1:c=1<;>by_cases h2:c=2<;>simp [h1,h2]<;>omega
  ·simp [zcp,h5,h6]
theorem ztB (l d c:Int):zaD [gD l d c]=some (iD (zm6 l d c)):=by
 rw [zjq];unfold zer zm6;rw [zlD];cases h:zdR l d c
 ·simp [zcp]
 ·have:=zf5.1 h;simp [zcp]
  exact zal (by omega) (by omega)
theorem zr2 (l d c:Int):zaf [gD l d c]=some (iD (zkX l d c)):=by
 rw [zj9];unfold zeN zkX;rw [zlD,ztB];unfold zm6;cases h:zdR l d c
 ·simp [zcp]
 ·have:=zf5.1 h;simp [zcp]
  exact zal (by omega) (by omega)
theorem zyR (a n:Int) (h:1≤n) (h9:n < 1000000000):zab [.int .i64 a,.int .i64 n]=some (iD (a % n)):=by
 rw [zj7];unfold zeL;have hm:=zzM a n h
 have hlt:=Int.lt_tmod_of_pos a (show 0 < n by omega)
 have h1:¬ n < 1:=by omega
 have h0:n≠0:=by omega
 rcases hm with ⟨k1,k2⟩ | ⟨k1,k2⟩
 ·simp [zcp,h1,h0,Int.not_lt.2 k1,k2]
 ·simp [zcp,h1,h0,k1,k2]
  exact zal (by omega) (by omega)
theorem zwB (g:Geo):zaV [gD g.l g.d g.c]=some (iD g.width):=zzT ..
theorem ztC (g:Geo):zaf [gD g.l g.d g.c]=some (iD g.width):=zr2 ..
section
variable (a b c x y z k:Int)
end
section
variable (g:Geo) (a row k:Int)
theorem zyS:zbY [g.D,.int .i64 row]=some (.bool (zcN g row)):=by
 unfold Geo.D;rw [zuQ];unfold zpd;rw [zfW];unfold zcN Geo.ok;cases zdR g.l g.d g.c<;>simp [zcp]<;>(by_cases h:0≤row<;>simp [h])
theorem zu8:zas [g.D,.int .i64 row]=some (.bool (zcN g row)):=by
 unfold Geo.D;rw [zlo];unfold zfi;rw [zlD];unfold zcN Geo.ok;cases zdR g.l g.d g.c<;>simp [zcp]<;>(by_cases h:0≤row<;>simp [h])
theorem zwC:zaK [g.D,.int .i64 row]=some (.tup [iD (parP g row).1,iD (parP g row).2]):=by
 have hi:=zyS g row;unfold Geo.D at*;rw [zpe];unfold zh6;rw [hi];unfold parP;cases h:zcN g row
 ·simp [zcp]
 ·obtain ⟨hk,h0,h1⟩:=zbV.1 h;have hd:=ok_d hk;have hv:=zGH hk h0;have hp:=zmF hk row
  have w1:IntKind.i64.wrap (g.d - 1)=g.d - 1:=zal (by omega) (by omega)
  have w2:IntKind.i64.wrap (row.tdiv g.c)=row / g.c:=by rw [zEa hk h0]; exact zal (by omega) (by omega)
  have w3:IntKind.i64.wrap (g.d - 1 - (row / g.c).tmod g.d)=parA g row:=by rw [zts hv.1]; exact zal (by unfold parA at hp; omega) (by unfold parA at hp; omega)
  have w4:IntKind.i64.wrap (parA g row+1)=parA g row+1:=zal (by omega) (by omega)
  have t4:(parA g row+1).tmod g.d=(parA g row+1) % g.d:=zts (by omega)
  by_cases h5:g.l=5
  ·simp [zcp,show g.c≠0 by omega,show g.d≠0 by omega,w1,w2,w3,h5]
  ·simp [zcp,show g.c≠0 by omega,show g.d≠0 by omega,w1,w2,w3,h5,w4,t4]
theorem zBL:zaB [g.D,.int .i64 row]=some (.tup [iD (parP g row).1,iD (parP g row).2]):=by
 have hi:=zu8 g row;unfold Geo.D at*;rw [zjH];unfold zey;rw [hi];unfold parP;cases h:zcN g row
 ·simp [zcp]
 ·obtain ⟨hk,h0,h1⟩:=zbV.1 h;have hd:=ok_d hk;have hv:=zGH hk h0;have hp:=zmF hk row
  have w1:IntKind.i64.wrap (g.d - 1)=g.d - 1:=zal (by omega) (by omega)
  have w2:IntKind.i64.wrap (row.tdiv g.c)=row / g.c:=by rw [zEa hk h0]; exact zal (by omega) (by omega)
  have w3:IntKind.i64.wrap (g.d - 1 - (row / g.c).tmod g.d)=parA g row:=by rw [zts hv.1]; exact zal (by unfold parA at hp; omega) (by unfold parA at hp; omega)
  have w4:IntKind.i64.wrap (parA g row+1)=parA g row+1:=zal (by omega) (by omega)
  have t4:(parA g row+1).tmod g.d=(parA g row+1) % g.d:=zts (by omega)
  by_cases h5:g.l=5
  ·simp [zcp,show g.c≠0 by omega,show g.d≠0 by omega,w1,w2,w3,h5]
  ·simp [zcp,show g.c≠0 by omega,show g.d≠0 by omega,w1,w2,w3,h5,w4,t4]
theorem zzU:zbt [g.D,.int .i64 row,.int .i64 k]=some (iD (zdU g row k)):=by
 have hi:=zyS g row;have hp:=zwC g row;unfold Geo.D at*;rw [zrN];unfold zla;rw [hi,hp,zwB,zr1];unfold zdU;cases h:zcN g row
 ·simp [zcp]
 ·obtain ⟨hk,h0,h1⟩:=zbV.1 h;have hd:=ok_d hk;have hw:=zdn hk;have hb:=zwl hk;have hl:=zeE.1 hk;have hpa:=zmF hk row
  by_cases k0:k < 0
  ·simp [zcp,k0,show ¬ 0≤k by omega]
  ·by_cases k1:g.width≤k
   ·simp [zcp,k0,k1,show ¬ k < g.width by omega]
   ·have w1:IntKind.i64.wrap (parA g row+(g.l - 4))=parA g row+(g.l - 4):=zal (by omega) (by omega)
    have w2:IntKind.i64.wrap (parA g row+(g.l - 4)+k)=parA g row+(g.l - 4)+k:=zal (by omega) (by omega)
    have t2:(parA g row+(g.l - 4)+k).tmod g.d=(parA g row+(g.l - 4)+k) % g.d:=zts (by omega)
    have hp1:(parP g row).1=parA g row:=by unfold parP; simp [h]
    simp [zcp,k0,k1,show 0≤k by omega,show k < g.width by omega,hb,hp1,w1,w2,t2,show g.d≠0 by omega]
theorem zDo:zbq [g.D,.int .i64 row,.int .i64 k]=some (iD (zdU g row k)):=by
 have hi:=zu8 g row;have hp:=zBL g row;unfold Geo.D at*;rw [zlq];unfold zfk;rw [hi,hp,ztC,ztB];unfold zdU;cases h:zcN g row
 ·simp [zcp]
 ·obtain ⟨hk,h0,h1⟩:=zbV.1 h;have hd:=ok_d hk;have hw:=zdn hk;have hb:=zwl hk;have hl:=zeE.1 hk;have hpa:=zmF hk row
  by_cases k0:k < 0
  ·simp [zcp,k0,show ¬ 0≤k by omega]
  ·by_cases k1:g.width≤k
   ·simp [zcp,k0,k1,show ¬ k < g.width by omega]
   ·have w1:IntKind.i64.wrap (parA g row+(g.l - 4))=parA g row+(g.l - 4):=zal (by omega) (by omega)
    have w2:IntKind.i64.wrap (parA g row+(g.l - 4)+k)=parA g row+(g.l - 4)+k:=zal (by omega) (by omega)
    have t2:(parA g row+(g.l - 4)+k).tmod g.d=(parA g row+(g.l - 4)+k) % g.d:=zts (by omega)
    have hp1:(parP g row).1=parA g row:=by unfold parP; simp [h]
    simp [zcp,k0,k1,show 0≤k by omega,show k < g.width by omega,hb,hp1,w1,w2,t2,show g.d≠0 by omega]
end
section
variable (l d c a row k:Int)
end
section
variable (g:Geo) (row k:Int)
end
section
variable (l d c row k:Int)
end
end Wf

namespace Wf
open Go Go.RowKit Go.Proofs
set_option linter.unusedSimpArgs false
set_option linter.unusedVariables false
theorem zFj (l d c x y z:Int):zbo [gD l d c,gD x y z]=some (.bool (canG l d c x y z)):=by
 rw [zma];unfold zfJ canG;rw [zlD,zlD,zr2,zr2];cases h:zdR l d c<;>cases k:zdR x y z<;>simp [zcp]
 by_cases h1:l=x<;>by_cases h2:d=y<;>by_cases h3:c=z<;>by_cases h4:d≤y<;>by_cases h5:l≤x<;>simp [h1,h2,h3,h4,h5]<;>omega
theorem zBM (m n:Int):∃ x y:Geo,zbD [.int .i64 m,.int .i64 n]=some (.tup [x.D,y.D])∧x.can y=true∧x.d≤5∧y.d≤8:=by
 rw [zmc];unfold zfK;have e2:IntKind.i64.wrap (m.tdiv 2)=qn m 2:=rfl;have e6:IntKind.i64.wrap (m.tdiv 6)=qn m 6:=rfl;have e3:IntKind.i64.wrap (n.tdiv 3)=qn n 3:=rfl;have e9:IntKind.i64.wrap (n.tdiv 9)=qn n 9:=rfl
 have w3:IntKind.i64.wrap (3+m % 2)=3+m % 2:=zal (by omega) (by omega)
 have w4:IntKind.i64.wrap (4+m % 2)=4+m % 2:=zal (by omega) (by omega)
 have w31:IntKind.i64.wrap (3+m % 2+1)=3+m % 2+1:=zal (by omega) (by omega)
 have w3n:IntKind.i64.wrap (3+m % 2+n % 3)=3+m % 2+n % 3:=zal (by omega) (by omega)
 have w4n:IntKind.i64.wrap (4+m % 2+n % 3)=4+m % 2+n % 3:=zal (by omega) (by omega)
 have w3n1:IntKind.i64.wrap (3+m % 2+n % 3+1)=3+m % 2+n % 3+1:=zal (by omega) (by omega)
 have w4n1:IntKind.i64.wrap (4+m % 2+n % 3+1)=4+m % 2+n % 3+1:=zal (by omega) (by omega)
 have wmx:IntKind.i64.wrap (max (3+m % 2+n % 3) (3+m % 2+1)+1)=max (3+m % 2+n % 3) (3+m % 2+1)+1:=zal (by omega) (by omega)
 have h0:0≤qn m 2 % 3:=by omega
 have h3:qn m 2 % 3 < 3:=by omega
 have k0:0≤qn n 3 % 3:=by omega
 have k3:qn n 3 % 3 < 3:=by omega
 simp only [zyR _ _ (show (1:Int)≤2 by decide) (show (2:Int) < 1000000000 by decide),zyR _ _ (show (1:Int)≤3 by decide) (show (3:Int) < 1000000000 by decide),zyR _ _ (show (1:Int)≤4 by decide) (show (4:Int) < 1000000000 by decide),
  zac,iD,zbg,zaR,e2,e6,e3,e9,w3,w4,w31,w3n,w4n,w3n1,w4n1,wmx,zaa h0,zaa k0,zyP _ h0 h3,zyP _ k0 k3,zFj,zck]
 obtain ⟨a,ha⟩:∃ a,(if qn m 2 % 3=0 then (1:Int) else if qn m 2 % 3=1 then 2 else 4)=a:=⟨_,rfl⟩
 obtain ⟨b,hb⟩:∃ a,(if qn n 3 % 3=0 then (1:Int) else if qn n 3 % 3=1 then 2 else 4)=a:=⟨_,rfl⟩
 have ha':a=1∨a=2∨a=4:=by rw [←ha]; (repeat' split)<;>simp
 have hb':b=1∨b=2∨b=4:=by rw [←hb]; (repeat' split)<;>simp
 rw [ha,hb]
 have hm:m % 2=0∨m % 2=1:=by omega
 have hn:n % 3=0∨n % 3=1∨n % 3=2:=by omega
 clear e2 e6 e3 e9 w3 w4 w31 w3n w4n w3n1 w4n1 wmx h0 h3 k0 k3 ha hb;generalize m % 2=p at*;generalize n % 3=q at*;generalize qn m 6 % 4=s1 at*;generalize qn n 9 % 2=s2 at*
 have key:∀ (l l' d d':Int),3≤d→d≤5→d≤d'→d'≤7→(l=5∨l=6∧4≤d)→(l'=l∨l=5∧l'=6∧d < d')→
   ∃ x y:Geo,brK (!canG l d a l' d' b) (some (D.tup [gD l d a,gD l' (d'+1) b])) (some (D.tup [gD l d a,gD l' d' b]))=some (.tup [x.D,y.D])∧x.can y=true∧x.d≤5∧y.d≤8:=by
  intro l l' d d' h1 h2 h3 h4 h5 h6
  have v1:zdR l d a=true:=by rw [zf5]; omega
  have v2:zdR l' d' b=true:=by rw [zf5]; omega
  have v3:zdR l' (d'+1) b=true:=by rw [zf5]; omega
  cases hc:canG l d a l' d' b
  ·refine ⟨⟨l,d,a⟩,⟨l',d'+1,b⟩,rfl,zrE.2 ⟨v1,v3,?_,?_,?_,?_⟩,h2,by dsimp only; omega⟩
   ·simp only [ne_eq,Geo.mk.injEq]; omega
   ·dsimp only; omega
   ·dsimp only; omega
   ·simp only [zkX,v1,v3,if_true]; omega
  ·exact ⟨⟨l,d,a⟩,⟨l',d',b⟩,rfl,hc,h2,by dsimp only; omega⟩
 by_cases q1:s1=3
 ·rw [show (s1 == 3)=true from by simp [q1],za5]
  have:=key 6 6 (4+p) (4+p+q) (by omega) (by omega) (by omega) (by omega) (by omega) (by omega)
  exact this
 ·rw [show (s1 == 3)=false from by simpa using q1,zar]
  by_cases q2:s2=1
  ·rw [show (s2 == 1)=true from by simp [q2],za5]
   have:=key 5 6 (3+p) (max (3+p+q) (3+p+1)) (by omega) (by omega) (by omega) (by omega) (by omega) (by omega)
   exact this
  ·rw [show (s2 == 1)=false from by simpa using q2,zar]
   have:=key 5 5 (3+p) (3+p+q) (by omega) (by omega) (by omega) (by omega) (by omega) (by omega)
   exact this
end Wf

namespace Wf
open Go Go.RowKit Go.Proofs
set_option linter.unusedSimpArgs false
set_option linter.unusedVariables false
theorem zpy (a n:Int) (h:1≤n) (h9:n < 1000000000):zab [.int .i64 a,.int .i64 n]=some (.int .i64 (a % n)):=zyR a n h h9
theorem zBN (t t':Tag) (l m:List Int) (hl:l.length < 1000000000):zaU [.sl t (uL l),.sl t' (uL m)]=some (.bool (decide (l=m))):=by
 rw [zid,zc6,zc6];unfold zdP
 by_cases hlen:l.length=m.length
 ·simp only [zdK,hlen,bne_self_eq_false,zar]
  refine zlS (fun a=>(m.length:Int).toNat - a.1.2.2.1.toNat) (fun _=>some (D.bool (decide (l=m))))
   (fun a=>∃ k:Nat,k≤m.length∧l.take k=m.take k∧a=((uL l,uL m,(k:Int),PUnit.unit),PUnit.unit)) ?_ ⟨0,by omega,by simp,rfl⟩ (by simp; omega)
  rintro again _ ⟨k,hk,he,rfl⟩ hag
  dsimp only;rw [zdK,hlen]
  by_cases hkm:k < m.length
  ·have h1:l[k]? =some l[k]:=List.getElem?_eq_getElem (by omega)
   have h2:m[k]? =some m[k]:=List.getElem?_eq_getElem hkm
   have hd:decide ((k:Int) < (m.length:Int))=true:=by simp; omega
   rw [hd,za5,zaa (by omega),zag (by simpa using zjW h1),zbg,zaa (by omega),zag (by simpa using zjW h2),zbg]
   by_cases hx:l[k]=m[k]
   ·have hb:(l[k] != m[k])=false:=by simp [hx]
    rw [hb,zar,zaR,zal (by omega) (by omega)]
    exact hag _ ⟨k+1,by omega,by rw [List.take_add_one,List.take_add_one,he,h1,h2,hx],rfl⟩ (by simp; omega)
   ·have hb:(l[k] != m[k])=true:=by simp [hx]
    rw [hb,za5];congr 2;symm;simp;intro e;subst e;exact hx rfl
  ·have hd:decide ((k:Int) < (m.length:Int))=false:=by simp; omega
   rw [hd,zar]
   have:l=m:=by
    have e1:l.take k=l:=List.take_of_length_le (by omega)
    have e2:m.take k=m:=List.take_of_length_le (by omega)
    rw [←e1,←e2,he]
   simp [this]
 ·have hb:((l.length:Int) != (m.length:Int))=true:=by simp; omega
  simp only [zdK,hb,za5];congr 2;symm;simp;intro e; subst e; exact hlen rfl
theorem zcU {R:Type} (a:Int) {b:List Int} (h:b.length=32) (f:LfT [.int .i64,.arr 32]→Option R):zat [.int .i64,.arr 32] (.int .i64 a::uL b) f=f (a,uL b,()):=by
 have e1:(uL b).take 32=uL b:=List.take_of_length_le (by simp [h])
 have e2:(uL b).drop 32=[]:=List.drop_of_length_le (by simp [h])
 simp [zat,zdH,Lf.get,h,e1,e2]
theorem zpz {R:Type} {b:List Int} (h:b.length=32) (f:LfT [.arr 32]→Option R):zat [.arr 32] (uL b) f=f (uL b,()):=by
 have e1:(uL b).take 32=uL b:=List.take_of_length_le (by simp [h])
 have e2:(uL b).drop 32=[]:=List.drop_of_length_le (by simp [h])
 simp [zat,zdH,Lf.get,h,e1,e2]
theorem zGI {T:Tb} {i:Nat} {s:DS} (h:T[i]? =some s.cells) (hs:s.Ok) (a:Int):za3 [.h kD i 0,.int .i64 a] [T]=some (Ans.mk (.int .i64 (s.may a)) [] []):=by
 rw [zoh];unfold zhi DS.may;rw [zag h,zag (zn9 hs.len),zck];cases hf:s.failed
 ·by_cases h0:a < 0
  ·simp [zcp,h0]
  ·by_cases h1:52≤a
   ·simp [zcp,h0,h1]
   ·simp [zcp,h0,h1]
 ·simp [zcp]
theorem zyT {T:Tb} {i:Nat} {s:DS} (h:T[i]? =some s.cells) (hs:s.Ok):zaN [.h kD i 0] [T]=some (Ans.mk (.bool s.failed) [] []):=by
 rw [zk4];unfold zfc;rw [zag h,zag (zn9 hs.len),zck]
theorem zr3 {b:List Int} (h:b.length≤4294967296) (tg:Tag):zan [.sl tg (uL b)]=some (.sl .own (uL b)):=by
 cases b with
 | nil=>exact zgT tg
 | cons n b=>
  show zan [.sl tg (.int .u8 n::uL b)]=some (.sl .own (.int .u8 n::uL b));rw [zhj,zc6];unfold zds
  have h1:(D.lent (.int .u8 n)::uL b)=uL (n::b):=by simp [uL]
  rw [h1];simp only [zdK,zC5,zhc,zaa,h];simp [uL]
theorem zEc (w:Int×List Int):(wD w).free=true:=by
 simp only [wD,D.free,D.freeL,zuE,Bool.and_self]
theorem zEd (w:Int×List Int):(wD w).lent=wD w:=by
 simp only [wD,D.lent,D.lentL,zc6]
theorem zBO (p:List (Int×List Int)):D.lentL (p.map wD)=p.map wD:=by
 induction p with
 | nil=>rfl
 | cons w p ih=>simp [ih,zEd]
theorem zFk {p:List (Int×List Int)} (h:∀ w∈p,Sec w.2):zdT 33 (p.map wD)=true:=by
 simp only [zdT,List.all_map,List.all_eq_true];intro w hw;have:=(h w hw).len;simp [wD,D.width,D.isAgg,D.cell,this]
theorem zBP {p:List (Int×List Int)} (hp:∀ w∈p,Sec w.2) (h:p.length≤4294967296) (tg:Tag):zad [.sl tg (p.map wD)]=some (.sl .own (p.map wD)):=by
 cases p with
 | nil=>exact zdZ tg
 | cons w p=>
  have hok:=zFk hp;rw [List.map_cons] at hok ⊢;rw [zd8,zBO,zEd];unfold zcg
  have hf:(wD w::p.map wD).all D.free=true:=by
   rw [←List.map_cons (f:=wD),List.all_map,List.all_eq_true]; intro w _; exact zEc w
  have hl:(wD w::p.map wD).length≤4294967296:=by simpa using h
  simp only [zaa,hl,hok,hf]
theorem ztD {p:List (Int×List Int)} {k:Nat} {w:Int×List Int} (h:p[k]? =some w):(p.map wD)[k]? =some (.agg (.int .i64 w.1::uL w.2)):=by simp [h,wD]
theorem zi4 (l:List D):D.width (.agg l)=l.length:=rfl
theorem zGJ {T:Tb} {i:Nat} {s:DS} (h:T[i]? =some s.cells) (hs:s.Ok) (hn:s.pend.length≤1000000) (a:Int):
  zbN [.h kD i 0,.int .i64 a] [T]=some (Ans.mk (.tup [.sl .own (uL (s.read a).1),.int .i64 (s.read a).2]) [] []):=by
 rw [zng];unfold zgo DS.read;rw [zGI h hs a,zac,zaW,zaW,zbg]
 by_cases hm:s.may a=0
 ·rw [hm];have hb:((0:Int) != 0)=false:=rfl
  rw [hb,zar,if_neg (by simp)]
  have ha:0≤a∧a < 52:=by
   unfold DS.may at hm;split at hm
   ·omega
   ·split at hm<;>omega
  have hp:=zjl (s:=s) hs.len
  have hbase:=zuF (s:=s) hs.len (a:=a.toNat) (by omega)
  have hsec:=zyH hs (a:=a.toNat) (by omega)
  rw [zaa ha.1,zaa (by omega),zag h,zaa (by rw [zgv hs.len]; omega),Nat.zero_add,hbase]
  rw [zaa (zuD _),zaa (by simp [hsec.len]),zaa (by simp [hsec.len]),zag h,zag hp,zbn,zag h,zag hp,zbn,zaa (by simp)]
  rw [zpz hsec.len,List.length_map]
  refine zca (R:=Ans) (α:=(Int×(List D×PUnit)×(Nat×Nat×Nat)×Int×Int×PUnit)×List (List D)×PUnit)
   (fun k=>((a,(uL (look (s.pend.take k) a (s.base a.toNat)),PUnit.unit),(i,0,s.pend.length),(s.pend.length:Int),(k:Int),PUnit.unit),T,PUnit.unit)) s.pend.length (by omega) ?_ ?_
  ·intro again k hk;dsimp only;obtain ⟨w,hw⟩:∃ w,s.pend[k]? =some w:=⟨_,List.getElem?_eq_getElem hk⟩;have hws:=hs.ps w (List.mem_of_getElem? hw)
   have hd:decide ((k:Int) < (s.pend.length:Int))=true:=by simp; omega
   have hlk:(look (s.pend.take k) a (s.base a.toNat)).length=32:=zyI (fun w hw=>(hs.ps w (List.mem_of_mem_take hw)).len) hsec.len
   rw [hd,za5,zag h,zag hp,zbn,zaa (by omega),zaa (by simpa using hk),zag h,zag hp,zbn,zag (by simpa using ztD hw),zkO,zcU _ hws.len]
   dsimp only;simp only [List.append_nil,List.cons_append,List.nil_append,zi4,List.length_cons,zdK,hws.len,hlk,zaa]
   by_cases hwa:w.1=a
   ·have hb:(w.1 == a)=true:=by simp [hwa]
    rw [hb,za5,List.drop_succ_cons,List.drop_zero]
    have et:(uL w.2).take 32=uL w.2:=List.take_of_length_le (by simp [hws.len])
    rw [et,zaa (by omega),zaa (by simp [hws.len]),zaa (by simp [hws.len]),zaa (by omega),zaR,zal (by omega) (by omega),zDX (by simp [hws.len])]
    have e3:(uL (look (s.pend.take k) a (s.base a.toNat))).take 0++uL w.2++(uL (look (s.pend.take k) a (s.base a.toNat))).drop (0+32)=uL w.2:=by
     rw [List.drop_of_length_le (by simp [hlk])]; simp
    rw [e3,zpz hws.len,zwj hw,if_pos hwa];rfl
   ·have hb:(w.1 == a)=false:=by simp [hwa]
    rw [hb,zar,zaR,zal (by omega) (by omega),zpz hlk,zwj hw,if_neg hwa]
    rfl
  ·intro again
   have hlk:=zyI (p:=s.pend) (a:=a) (fun w hw=>(hs.ps w hw).len) hsec.len
   have hd:decide ((s.pend.length:Int) < (s.pend.length:Int))=false:=by simp
   dsimp only;rw [hd,zar,List.take_length];simp only [List.append_nil,zdK,hlk,Nat.le_refl,zaa]
   have ec:cut 0 32 (uL (look s.pend a (s.base a.toNat)))=uL (look s.pend a (s.base a.toNat)):=by
    have:=zdq (uL (look s.pend a (s.base a.toNat)));rw [zdK,hlk] at this; exact this
   rw [ec,zr3 (by rw [hlk]; omega),zac,zbn]
   simp;rfl
 ·have hb:(s.may a != 0)=true:=by simp [hm]
  rw [hb,za5,if_pos hm];rfl
theorem zFl {T:Tb} {i:Nat} {s:DS} (h:T[i]? =some s.cells) (hs:s.Ok) (a:Int) (tg:Tag) (b:List Int):
  za4 [.h kD i 0,.int .i64 a,.sl tg (uL b)] [T]=some (Ans.mk (.tup [wD (putR s a b).1,.int .i64 (putR s a b).2]) [] []):=by
 rw [zov,zc6];unfold zhq putR;rw [zGI h hs a,zac,zaW,zaW,zbg]
 by_cases hm:s.may a=0
 ·rw [hm];have hb:((0:Int) != 0)=false:=rfl
  rw [hb,zar,if_neg (by simp)]
  by_cases hl:b.length=32
  ·have hb2:(((uL b).length:Int) != 32)=false:=by simp [hl]
   rw [hb2,zar,if_neg (by simp [hl]),zaa (zyG _),zaa (by simp [hl])]
   have et:(D.int .i64 a::uL b).take 33=.int .i64 a::uL b:=List.take_of_length_le (by simp [hl])
   simp only [List.append_nil,List.cons_append,List.nil_append,List.length_cons,zdK,hl,List.drop_zero,et]
   rw [zaa (by omega),zcU _ hl]
   dsimp only;simp only [zdK,hl,Nat.le_refl,zaa,List.take_of_length_le,et];rw [zcU _ hl];dsimp only
   rw [zaa (by simp only [D.free,D.freeL,zuE,Bool.and_self])]
   rfl
  ·have hb2:(((uL b).length:Int) != 32)=true:=by simp; omega
   rw [hb2,za5,if_pos hl];rfl
 ·have hb:(s.may a != 0)=true:=by simp [hm]
  rw [hb,za5,if_pos hm];rfl
theorem zFm (w:Int×List Int) (hw:Sec w.2) (c:Int):zaF [wD w,.at_ (.int .i64 c)]=some (.bool (w.1 == c)):=by
 unfold wD;rw [zjJ];unfold zez
 rw [show D.lentL (.int .i64 w.1::uL w.2)=.int .i64 w.1::uL w.2 by simp [zc6],zcU _ hw.len]
theorem zxR {p:List (Int×List Int)} (hp:∀ w∈p,Sec w.2) {c:Int} (hc:∀ w∈p,w.1≠c) (hn:p.length≤1000000) (tg:Tag):
  zao [.sl tg (p.map wD),.fn ID.disk_Disk_Damage_1 [] [.at_ (.int .i64 c)]]=some (.int .i64 (-1)):=by
 rw [zcY,zBO];unfold zbL;rw [List.length_map]
 refine zca (R:=D) (α:=(List D×Int×Int×Int×PUnit)×PUnit) (fun k=>((p.map wD,c,(p.length:Int),(k:Int),PUnit.unit),PUnit.unit)) p.length (by omega) ?_ ?_
 ·intro again k hk;dsimp only;obtain ⟨w,hw⟩:∃ w,p[k]? =some w:=⟨_,List.getElem?_eq_getElem hk⟩;have hws:=hp w (List.mem_of_getElem? hw)
  have hd:decide ((k:Int) < (p.length:Int))=true:=by simp; omega
  rw [hd,za5,zaa (by omega),zag (by simpa using ztD hw),zkO,zcU _ hws.len]
  dsimp only;simp only [List.append_nil,List.cons_append,List.nil_append,zi4,List.length_cons,zdK,hws.len,zaa];rw [zcU _ hws.len];dsimp only
  rw [zdK,hws.len,zaa (by omega)]
  have:=zFm w hws c;unfold wD at this;rw [this,zac,zck]
  have hb:(w.1 == c)=false:=by simp [hc w (List.mem_of_getElem? hw)]
  rw [hb,zar,zaR,zal (by omega) (by omega)]
  rfl
 ·intro again
  have hd:decide ((p.length:Int) < (p.length:Int))=false:=by simp
  dsimp only;rw [hd,zar]
theorem zwD {p:List (Int×List Int)} (hp:∀ w∈p,Sec w.2) {c:Int} (hc:∀ w∈p,w.1≠c) (hn:p.length≤1000000):
  zam [.sl .own (p.map wD),.fn ID.disk_Disk_Damage_1 [] [.at_ (.int .i64 c)]] []=some (Ans.mk (.sl .own (p.map wD)) [] []):=by
 rw [zcT];unfold zbC
 rw [zaa (by omega),zdq,zxR hp hc hn,zac,zbg]
 have hb:((-1:Int) == -1)=true:=rfl
 have hf:(p.map wD).all D.free=true:=by rw [List.all_map,List.all_eq_true]; intro w _; exact zEc w
 rw [hb,za5,zaa (by rfl),zaa hf]
theorem zoH (p:List (Int×List Int)):zdj (p.map wD)=true:=by
 simp only [zdj,List.all_map,List.all_eq_true];intro w _;simp [wD,D.flatEl,D.flat,uL]
theorem zu9 {p:List (Int×List Int)} (h:∀ w∈p,Sec w.2):zfv 33 (p.map wD)=true:=by
 simp only [zfv,List.all_map,List.all_eq_true];intro w hw;have:=(h w hw).len;simp [wD,D.width,this]
theorem zDp {T:Tb} {i:Nat} {s:DS} (h:T[i]? =some s.cells) (hs:s.Ok) (hn:s.pend.length≤1000000) {a:Int} (hc:∀ w∈s.pend,w.1≠a) (tg:Tag) (b:List Int):
  zbx [.h kD i 0,.int .i64 a,.sl tg (uL b)] [T]=some (Ans.mk (.int .i64 (s.damage a b).1) [] [T.set i (s.damage a b).2.cells]):=by
 rw [zlw,zc6];unfold zfn DS.damage;have hpl:=zyJ s a b;rw [zFl h hs,zac,zaW,zaW,zdp,zdf,zdf,zd4];dsimp only;unfold wD;rw [zkO,zcU _ hpl,zbg];dsimp only
 rw [zaa (by simp [hpl])]
 by_cases he:(putR s a b).2=0
 ·obtain ⟨h1,h2,h3,h4,h5⟩:=zuG he
  have hb:((putR s a b).2 != 0)=false:=by simp [he]
  rw [hb,zar,if_pos he,h3]
  try rw [he]
  dsimp only
  have et:(uL b).take 32=uL b:=List.take_of_length_le (by simp [h2])
  simp only [List.append_nil,List.cons_append,List.nil_append,List.length_cons,zdK,h2,List.drop_succ_cons,List.drop_zero,et,zuD,Nat.zero_add];have hlen:=hs.len
  have hset:zaQ T i (a.toNat*32) (uL b)=T.set i (s.setSec a.toNat b).cells:=by
   rw [zcM h,zdK,h2,zBu hlen (by omega)]
  have hlen2:=zto (s:=s) hlen (a:=a.toNat) (by omega) h2
  have hU:=zgO h (s.setSec a.toNat b).cells;have hp:=zjl hlen2;have hpe:(s.setSec a.toNat b).pend=s.pend:=rfl
  rw [zaa (by first | trivial | omega),zaa (by first | trivial | omega),zaa h4,zaa (by first | trivial | omega),zag h,zaa (by rw [zgv hlen]; omega),zaa (by first | trivial | omega),zaa (by first | trivial | rfl)]
  rw [zuF hlen (by first | trivial | omega),zaa (zuD _),zm0,hset,zag hU,zag hp,zbn,zag hU,zag hp,zbn,zaa (by first | trivial | omega),zdq,hpe]
  rw [zBP hs.ps (by first | trivial | omega),zac,zbn,zaa (by first | trivial | rfl),zaa (zoH _),zwD hs.ps hc hn,zac,zaW,zaW,zbn,zaa (by first | trivial | omega),zag hU,zaa (by rw [zgv hlen2]; omega),
   zaa (by first | trivial | rfl),zaa (zoH _),zaa (zu9 hs.ps),zm0]
  have h6:zaQ (T.set i (s.setSec a.toNat b).cells) i 1664 [.sl .own (s.pend.map wD)]=T.set i (s.setSec a.toNat b).cells:=by
   rw [zcM hU];have:=zo1 (s:=s.setSec a.toNat b) hlen2 s.pend
   rw [show (1664:Nat)+[D.sl .own (s.pend.map wD)].length=1665 from rfl,this,List.set_set]
   rfl
  rw [h6,show s.mayW a b=0 from he]
 ·have hb:((putR s a b).2 != 0)=true:=by simp [he]
  rw [hb,za5,if_neg he]
  have:T.set i s.cells=T:=by
   apply List.ext_getElem?;intro j;rw [List.getElem?_set];split
   ·rename_i e; subst e; rw [h]; simp [za1 h]
   ·rfl
  rw [this]
theorem zDq (T:Tb):zo7 T=some (Ans.mk (.h kD T.length 0) [] [T++[List.replicate 1664 (D.int .u8 0)++[.sl .own [],.bool false]]]):=by kernel_rfl
theorem zGK (T:Tb):zbX [] [T]=some (Ans.mk (.h kD T.length 0) [] [T++[DS.new.cells]]):=by
 rw [zuM]
 have e:DS.new.cells=List.replicate 1664 (D.int .u8 0)++[.sl .own [],.bool false]:=by
  show uL (List.replicate 1664 0)++[.sl .own [],.bool false]=_;rw [←zrw]
 rw [e];exact zDq T
theorem zxS {R:Type} {n:Nat} {b:List Int} (h:b.length=n) (f:LfT [.arr n]→Option R):zat [.arr n] (uL b) f=f (uL b,()):=by
 subst h
 have e1:(uL b).take b.length=uL b:=List.take_of_length_le (by simp)
 have e2:(uL b).drop b.length=[]:=List.drop_of_length_le (by simp)
 simp [zat,zdH,Lf.get,e1,e2]
theorem zi5 {n:Nat} {b:List Int} (h:b.length=n):(uL b).take n=uL b:=List.take_of_length_le (by simp [h])
theorem zDr {a:Int} {b:List Int} (h:b.length=32):zdT 33 [D.agg (D.int .i64 a::uL b)]=true:=by simp [zdT,D.width,D.isAgg,D.cell,h]
theorem zBQ {a:Int} {b:List Int} (h:b.length=32):zfv 33 [D.agg (D.int .i64 a::uL b)]=true:=by simp [zfv,D.width,h]
theorem zzV (a:Int) (b:List Int):zdj [D.agg (D.int .i64 a::uL b)]=true:=by
 have h:(uL b).all D.flat=true:=zFb b;show ((D.agg (D.int .i64 a::uL b)).flatEl && true)=true;show ((true && (uL b).all D.flat) && true)=true;rw [h]; rfl
section
variable {T:Tb} {i:Nat} {s:DS}
theorem zDs (h:T[i]? =some s.cells) (hl:s.l.length=1664) (p:List (Int×List Int)) (l:List D) (e:l=p.map wD):zaQ (setT T i 1664 .undef) i 1664 [.sl .own l]=T.set i ({ s with pend:=p }:DS).cells:=by
 subst e
 rw [zut h (by rw [zgv hl]; omega),zo1 hl]
theorem zr4 (h:T[i]? =some s.cells) (hl:s.l.length=1664) (p:List (Int×List Int)):zaQ T i 1664 [.sl .own (p.map wD)]=T.set i ({ s with pend:=p }:DS).cells:=by
 rw [zcM h];exact congrArg _ (zo1 hl p)
theorem zva (h:T[i]? =some s.cells) (hs:s.Ok) (hn:s.pend.length≤1000000) (a:Int) (tg:Tag) (b:List Int):
  zbv [.h kD i 0,.int .i64 a,.sl tg (uL b)] [T]=some (Ans.mk (.int .i64 (s.write a b).1) [] [T.set i (s.write a b).2.cells]):=by
 rw [zmm,zc6];unfold zfR DS.write;have hpl:=zyJ s a b
 by_cases he:(putR s a b).2=0
 ·obtain ⟨h1,h2,h3,h4,h5⟩:=zuG he
  simp (disch:=first | omega | assumption | (simp; done) | fail) [zFl h hs,wD,zcU _ hpl,he,h3,zag h,zag (zjl hs.len),hpl,h2,zxS h2,zi5 h2,zDr h2,zBQ h2,zBh h,zgv hs.len,zoH,zzV,zu9 hs.ps]
  exact zDs h hs.len (s.pend++[(a,b)]) _ (by simp [wD])
 ·simp (disch:=first | omega | assumption | (simp; done) | fail) [zFl h hs,wD,zcU _ hpl,he,hpl,set_same h]
theorem znB {β:Type} {l:List β} {n:Nat} (h:l.length=n):cut 0 n l=l:=by subst h; exact zdq l
theorem zGL (l:List Int):(uL l).map D.hide=uL l:=by
 unfold uL; rw [List.map_map]; apply List.map_congr_left; intro n _; rfl
theorem zEe (l:List Int):(uL l).map D.own0=uL l:=by
 unfold uL; rw [List.map_map]; apply List.map_congr_left; intro n _; rfl
theorem zvb (h:T[i]? =some s.cells) (hs:s.Ok) (hn:s.pend.length≤1000000):zaS [.h kD i 0] [T]=some (Ans.mk (.h kD T.length 0) [] [T++[s.cells]]):=by
 rw [zmk];unfold zfQ
 have e1:List.map D.hide (List.take 1666 (List.drop 0 s.cells))=uL s.l++[D.undef,D.bool s.failed]:=by
  rw [List.drop_zero,List.take_of_length_le (by rw [zgv hs.len]; omega)]
  unfold DS.cells;rw [List.map_append,zGL]; rfl
 have e2:∀ (x:List D),x.length=1666→spl 0 1666 x (uL s.l++[D.undef,D.bool s.failed])=uL s.l++[D.undef,D.bool s.failed]:=by
  intro x hx; unfold spl; rw [if_pos ⟨rfl,hx.symm⟩]
 have e3:((uL s.l++[D.undef,D.bool s.failed]).set 1664 .nilp).all D.own0ok=true:=by
  rw [List.set_append_right _ _ (by simp [hs.len]),List.all_append,zpX (fun _=>rfl)]
  simp [hs.len,D.own0ok,D.flat]
 have e4:((uL s.l++[D.undef,D.bool s.failed]).map D.own0).set 1664 (.sl .own (s.pend.map wD))=s.cells:=by
  rw [List.map_append,zEe,List.set_append_right _ _ (by simp [hs.len])]
  simp [hs.len,DS.cells,D.own0]
 have e5:(uL s.l++[D.undef,D.bool s.failed]).length=1666:=by simp [hs.len]
 have e6:(List.reverse ([D.bool false,D.sl Tag.nil []]++List.replicate 1664 (D.int IntKind.u8 (0:Int)))).length=1666:=by rw [List.length_reverse,List.length_append,List.length_replicate]; rfl
 have e7:((true && decide ((1:Nat)=(1:Nat)) && List.all [(1664:Nat)] fun k=>decide (k < 1666))=true):=by decide
 rw [zag h,e1,e2 _ e6];generalize (uL s.l++[D.undef,D.bool s.failed])=X at*
 simp (disch:=first | omega | assumption | (simp; done) | fail) [e3,e4,e5,e7,znB,zag h,zag (zjl hs.len),zgv hs.len,zBP hs.ps,zoH,zu9 hs.ps]
theorem zFn (h:T[i]? =some s.cells) (hs:s.Ok) (hn:s.pend.length≤1000000):zbG [.h kD i 0] [T]=some (Ans.mk (.int .i64 s.flush.1) [] [T.set i s.flush.2.cells]):=by
 rw [zmo];unfold zfS DS.flush;cases hf:s.failed
 ·have hlp:(s.pend.map wD).length=s.pend.length:=by simp
  simp (disch:=first | omega | assumption | (simp; done) | fail) only [zag h,zag (zn9 hs.len),zag (zjl hs.len),hf,zck,zar,zbn,zaa,Nat.zero_add,Nat.le_refl,hlp]
  let st:Nat→(Nat×(Nat×Nat×Nat)×Int×Int×PUnit)×List (List D)×PUnit:=fun k=>((i,(i,0,s.pend.length),(s.pend.length:Int),(k:Int),PUnit.unit),T.set i (s.puts (s.pend.take k)).cells,PUnit.unit)
  have hst:st 0=((i,(i,0,s.pend.length),(s.pend.length:Int),0,PUnit.unit),T,PUnit.unit):=by
   show ((i,(i,0,s.pend.length),(s.pend.length:Int),0,PUnit.unit),T.set i (s.puts []).cells,PUnit.unit)=_
   rw [show s.puts []=s from rfl,set_same h]
  rw [←hst]
  refine zca st s.pend.length (by omega) ?_ ?_
  ·intro again k hk;dsimp only [st];obtain ⟨w,hw⟩:∃ w,s.pend[k]? =some w:=⟨_,List.getElem?_eq_getElem hk⟩;obtain ⟨hws,hw0,hw1⟩:=hs.pend w (List.mem_of_getElem? hw)
   obtain ⟨pk,pf,pp⟩:=zjm hs (s.pend.take k) fun w hw=>hs.pend w (List.mem_of_mem_take hw)
   have hU:=zgO h (s.puts (s.pend.take k)).cells;have hpd:=zjl (s:=s.puts (s.pend.take k)) pk.len;rw [pp] at hpd
   have hnx:zaQ (T.set i (s.puts (s.pend.take k)).cells) i (w.1.toNat*32) (uL w.2)=T.set i (s.puts (s.pend.take (k+1))).cells:=by
    rw [zcM hU,zdK,hws.len,zBu pk.len (by omega),List.set_set,List.take_add_one,hw]
    show _=T.set i (s.puts (s.pend.take k++[w])).cells;unfold DS.puts;rw [List.foldl_append]; rfl
   simp (disch:=first | omega | assumption | (simp; done) | fail) [zag hU,zag hpd,zag (ztD hw),zcU _ hws.len,hws.len,zi5 hws.len,zgv pk.len,hk,zi4,zuF pk.len,hw0,hw1,zal,hnx]
  ·intro again;dsimp only [st];rw [List.take_length];obtain ⟨pk,pf,pp⟩:=zjm hs s.pend hs.pend;have hU:=zgO h (s.puts s.pend).cells;have hz:=zr4 hU pk.len []
   have hz':zaQ (T.set i (s.puts s.pend).cells) i 1664 [D.sl Tag.own []]=T.set i s.flushed.cells:=by
    have:=zr4 hU pk.len [];rw [List.set_set] at this; exact this
   simp (disch:=first | omega | assumption | (simp; done) | fail) [zag hU,zgv pk.len,hz']
 ·simp (disch:=first | omega | assumption | (simp; done) | fail) [zag h,zag (zn9 hs.len),hf,set_same h]
theorem zwE (h:T[i]? =some s.cells) (hs:s.Ok):zaI [.h kD i 0] [T]=some (Ans.mk (.int .i64 s.pend.length) [] []):=by
 rw [zkt];unfold zeU;simp [zag h,zag (zjl hs.len)]
theorem zGM (h:T[i]? =some s.cells) (hs:s.Ok):zbO [.h kD i 0] [T]=some (Ans.mk (.tup []) [] [T.set i DS.dead.cells]):=by
 rw [zns];unfold zgp
 have e:List.map D.own0 (List.set (List.reverse ([D.bool false,D.sl Tag.nil []]++List.replicate 1664 (D.int IntKind.u8 (0:Int)))) 1665 (D.bool true))=DS.dead.cells:=by
  rw [List.reverse_append,List.reverse_replicate];show List.map D.own0 (List.set (List.replicate 1664 (D.int IntKind.u8 (0:Int))++[D.sl Tag.nil [],D.bool false]) 1665 (D.bool true))=uL (List.replicate 1664 0)++[.sl .own [],.bool true]
  rw [List.set_append_right _ _ (by rw [List.length_replicate]; omega),List.length_replicate,List.map_append,zrw,zEe]
  rfl
 have hl:DS.dead.cells.length=1666:=zgv (s:=DS.dead) (List.length_replicate ..)
 have hset:zaQ T i 0 DS.dead.cells=T.set i DS.dead.cells:=by
  rw [zcM h,hl]
  rw [List.take_zero,List.nil_append,List.drop_of_length_le (by rw [zgv hs.len]; omega),List.append_nil]
 rw [e,hset,zag h,zgv hs.len];simp
end
end Wf

namespace Wf
open Go Go.RowKit Go.Proofs
set_option linter.unusedSimpArgs false
set_option linter.unusedVariables false
section
variable {T0 T1:Tb} {b:Nat} {idx:List Nat} {B:Ben}
theorem At.ds (h:At T0 T1 b idx B) (hw:B.w≤1000000) (d:Int):(B.dk d).Ok∧(B.dk d).pend.length≤1000000:=by
 have:=zh2 h.ok d
 exact ⟨this.1,by have:=this.2; omega⟩
theorem zzW (h:At T0 T1 b idx B):zaw [.h kB b 0] [P0 T0 b idx B]=some (Ans.mk (.int .i64 B.n) [] []):=by
 rw [zmf];unfold zfM;simp [zag h.get0,bRow,h.len,Ben.n]
theorem b_is (h:At T0 T1 b idx B) (d:Int):zai [.h kB b 0,.int .i64 d] [P0 T0 b idx B]=some (Ans.mk (.bool (B.is d)) [] []):=by
 rw [znc];unfold zgn Ben.is Ben.n
 by_cases h0:0≤d
 ·simp [zag h.get0,bRow,h0,h.len]
 ·simp [h0]
theorem zyU (h:At T0 T1 b idx B) (d:Int):zaA [.h kB b 0,.int .i64 d] [P0 T0 b idx B,P1 T1 idx B]=some (Ans.mk (.bool (B.failed d)) [] []):=by
 rw [zjt];unfold zes Ben.failed;cases hd:B.is d
 ·simp [b_is h d,hd]
 ·obtain ⟨h0,h1⟩:=zc4.1 hd
  have h1':d.toNat < idx.length:=by have:=h.len; unfold Ben.n at h1; omega
  simp (disch:=first | omega | assumption | (simp; done) | fail) [b_is h d,hd,zag h.get0,bRow,h0,h1',zag (h.hd hd),D.isAgg,D.width,D.cell,zyT (h.get1 hd) (zh2 h.ok d).1]
theorem zwF (h:At T0 T1 b idx B) (d:Int):zax [.h kB b 0,.int .i64 d] [P0 T0 b idx B]=some (Ans.mk (.int .i64 (B.may d)) [] []):=by
 rw [zmi];unfold zfN Ben.may;cases hd:B.is d
 ·simp [b_is h d,hd]
 ·cases hw:B.down<;>simp [b_is h d,hd,zag h.get0,bRow,hw]
theorem zyV (h:At T0 T1 b idx B) (hw:B.w≤1000000) (d a:Int):zau [.h kB b 0,.int .i64 d,.int .i64 a] [P0 T0 b idx B,P1 T1 idx B]=some (Ans.mk (.tup [.sl .own (uL (B.read d a).1),.int .i64 (B.read d a).2]) [] []):=by
 rw [zk6];unfold zfe Ben.read
 by_cases hm:B.may d=0
 ·obtain ⟨hd,hdn⟩:=may0.1 hm;obtain ⟨h0,h1⟩:=zc4.1 hd
  have h1':d.toNat < idx.length:=by have:=h.len; unfold Ben.n at h1; omega
  have hu:=zhc ((B.dk d).read a).1;simp only [List.all_eq_true] at hu
  simp (disch:=first | omega | assumption | (simp; done) | fail) [zwF h d,hm,zag h.get0,bRow,h0,h1',zag (h.hd hd),D.isAgg,D.width,D.cell,zGJ (h.get1 hd) (h.ds hw d).1 (h.ds hw d).2]
 ·simp [zwF h d,hm]; rfl
theorem zFo (h:At T0 T1 b idx B) (tg:Tag) (live:List Bool) {d:Int} (h0:0≤d):zbd [.h kB b 0,.sl tg (live.map D.bool),.int .i64 d] [P0 T0 b idx B,P1 T1 idx B]=some (Ans.mk (.bool (B.up live d)) [] []):=by
 have hl:D.lentL (live.map D.bool)=live.map D.bool:=by
  induction live with
  | nil=>rfl
  | cons x l ih=>simp [ih]
 rw [zsr,hl];unfold znd Ben.up
 by_cases h1:d < B.n
 ·by_cases h2:d < live.length
  ·have e:live[d.toNat]? =some (live[d.toNat]'(by omega)):=List.getElem?_eq_getElem (by omega)
   have e':(live.map D.bool)[d.toNat]? =some (.bool (live[d.toNat]'(by omega))):=by simp [e]
   cases hv:live[d.toNat]'(by omega)
   ·rw [hv] at e e';simp [zzW h,h1,h2,h0,zag e',e,hv]
   ·rw [hv] at e e';simp [zzW h,h1,h2,h0,zag e',e,zyU h d,hv]
  ·have e:live[d.toNat]? =none:=List.getElem?_eq_none (by omega)
   simp [zzW h,h1,h2,e]
 ·simp [zzW h,h1]
theorem zBR (h:At T0 T1 b idx B) (hw:B.w≤1000000):zbb [.h kB b 0] [P0 T0 b idx B]=some (Ans.mk (.bool (decide (B.left≠0))) [] [P0 T0 b idx (if B.left=0 then B.off else B.less)]):=by
 rw [ziP];unfold zd9;have hw0:=h.ok.w0;have hlf:=h.ok.lf;have hg:=h.get0
 have hset:∀ (B':Ben) (T:Tb) (cs:List D) (o:Nat) (x:D),T=P0 T0 b idx B'→cs=bRow B' idx→∀ B'':Ben,cs.take o++[x]++cs.drop (o+1)=bRow B'' idx→zaQ T b o [x]=P0 T0 b idx B'':=by
  rintro B' _ _ o x rfl rfl B'' e
  have hg':(P0 T0 b idx B')[b]? =some (bRow B' idx):=by unfold P0; rw [List.getElem?_set,if_pos rfl,if_pos h.b]
  rw [zcM hg'];show (P0 T0 b idx B').set b ((bRow B' idx).take o++[x]++(bRow B' idx).drop (o+1))=_;rw [e,zD8]
 by_cases hl:B.left=0
 ·have e1:=hset B _ _ 2 (.bool true) rfl rfl B.off rfl
  simp (disch:=first | omega | assumption | (simp; done) | fail) [zag hg,bRow,hl,e1,ze3,D.flat]
 ·by_cases hp:0 < B.left
  ·let B1:Ben:={ B with left:=B.left - 1 };have e1:=hset B _ _ 1 (.int .i64 (B.left - 1)) rfl rfl B1 rfl
   have hg1:(P0 T0 b idx B1)[b]? =some (bRow B1 idx):=by unfold P0; rw [List.getElem?_set,if_pos rfl,if_pos h.b]
   have e2:=hset B1 _ _ 0 (.int .i64 (B.w+1)) rfl rfl B.less (by unfold Ben.less; rw [if_pos hp]; rfl)
   have e3:bRow B1 idx=[.int .i64 B.w,.int .i64 (B.left - 1),.bool B.down,.sl .own (idx.map hD)]:=rfl;rw [e3] at hg1
   simp (disch:=first | omega | assumption | (simp; done) | fail) [zag hg,zag hg1,bRow,hl,hp,e1,e2,ze3,D.flat,zal]
  ·have e1:=hset B _ _ 0 (.int .i64 (B.w+1)) rfl rfl B.less (by unfold Ben.less; rw [if_neg hp]; rfl)
   simp (disch:=first | omega | assumption | (simp; done) | fail) [zag hg,bRow,hl,hp,e1,ze3,D.flat,zal]
theorem zBS (h:At T0 T1 b idx B) (hw:B.w≤1000000) (d a:Int) (tg:Tag) (x:List Int):
  zaG [.h kB b 0,.int .i64 d,.int .i64 a,.sl tg (uL x)] [P0 T0 b idx B,P1 T1 idx B]=some (Ans.mk (.int .i64 (B.write d a x).1) [] [P0 T0 b idx (B.write d a x).2,P1 T1 idx (B.write d a x).2]):=by
 rw [zke,zc6];unfold zeP Ben.write
 by_cases hm:B.may d=0
 ·obtain ⟨hd,hdn⟩:=may0.1 hm;obtain ⟨h0,h1⟩:=zc4.1 hd;obtain ⟨ho,hp⟩:=h.ds hw d
  have h1':d.toNat < idx.length:=by have:=h.len; unfold Ben.n at h1; omega
  have hT:(P1 T1 idx B++[(B.dk d).cells])[(P1 T1 idx B).length]? =some (B.dk d).cells:=by simp
  have hj:(P1 T1 idx B++[(B.dk d).cells]).set (P1 T1 idx B).length ((B.dk d).write a x).2.cells=P1 T1 idx (B.junk ((B.dk d).write a x).2):=by
   rw [List.set_append_right _ _ (Nat.le_refl _),Nat.sub_self,←zFe]; rfl
  have hJ:At T0 T1 b idx (B.junk ((B.dk d).write a x).2):=h.nx (K:=0) ⟨zrA h.ok _,rfl,by simp,by simp⟩
  have hd':(B.junk ((B.dk d).write a x).2).is d=true:=hd;have hg1:=hJ.get1 hd';have hset:=hJ.set1 hd' ((B.dk d).write a x).2;have hw1:=zva (T:=P1 T1 idx (B.junk ((B.dk d).write a x).2)) (i:=ix idx d) (s:=B.dk d) hg1 ho hp a .lent x
  have hgr:∀ B':Ben,(P0 T0 b idx B')[b]? =some [.int .i64 B'.w,.int .i64 B'.left,.bool B'.down,.sl .own (idx.map hD)]:=by
   intro B'; unfold P0; rw [List.getElem?_set,if_pos rfl,if_pos h.b]; rfl
  by_cases he:(B.dk d).mayW a x=0
  ·have e1:((B.dk d).write a x).1=0:=he
   have e2:((B.dk d).write a x).2=(B.dk d).add a x:=by unfold DS.write; rw [if_pos he]
   by_cases hl:B.left=0
   ·simp (disch:=first | omega | assumption | (simp; done) | fail) [zwF h d,hm,zag (hgr _),h0,h1',zag (h.hd hd),D.isAgg,D.width,D.cell,zvb (h.get1 hd) ho hp,zha,zva hT ho hp,hj,he,e1,zBR h hw,hl]
    exact ⟨rfl,rfl⟩
   ·simp (disch:=first | omega | assumption | (simp; done) | fail) [zwF h d,hm,zag (hgr _),h0,h1',zag (h.hd hd),D.isAgg,D.width,D.cell,zvb (h.get1 hd) ho hp,zha,zva hT ho hp,hj,he,e1,zBR h hw,hl,hw1,hset]
    rw [e2]; exact ⟨rfl,rfl⟩
  ·have e1:¬ ((B.dk d).write a x).1=0:=he
   simp (disch:=first | omega | assumption | (simp; done) | fail) [zwF h d,hm,zag (hgr _),h0,h1',zag (h.hd hd),D.isAgg,D.width,D.cell,zvb (h.get1 hd) ho hp,zha,zva hT ho hp,hj,he,e1]
   exact ⟨rfl,rfl⟩
 ·simp [zwF h d,hm]
theorem zBT (h:At T0 T1 b idx B) (hw:B.w≤1000000) (d:Int):
  zaC [.h kB b 0,.int .i64 d] [P0 T0 b idx B,P1 T1 idx B]=some (Ans.mk (.int .i64 (B.flush d).1) [] [P1 T1 idx (B.flush d).2]):=by
 rw [zkg];unfold zeQ Ben.flush
 by_cases hm:B.may d=0
 ·obtain ⟨hd,hdn⟩:=may0.1 hm;obtain ⟨h0,h1⟩:=zc4.1 hd;obtain ⟨ho,hp⟩:=h.ds hw d
  have h1':d.toNat < idx.length:=by have:=h.len; unfold Ben.n at h1; omega
  simp (disch:=first | omega | assumption | (simp; done) | fail) [zwF h d,hm,zag h.get0,bRow,h0,h1',zag (h.hd hd),D.isAgg,D.width,D.cell,zFn (h.get1 hd) ho hp,h.set1 hd]
 ·simp [zwF h d,hm]
theorem zGN (h:At T0 T1 b idx B) (d:Int):
  zbf [.h kB b 0,.int .i64 d] [P0 T0 b idx B,P1 T1 idx B]=some (Ans.mk (.int .i64 (B.fail d).1) [] [P1 T1 idx (B.fail d).2]):=by
 rw [zln];unfold zfh Ben.fail;cases hd:B.is d
 ·simp [b_is h d,hd]
 ·obtain ⟨h0,h1⟩:=zc4.1 hd
  have h1':d.toNat < idx.length:=by have:=h.len; unfold Ben.n at h1; omega
  simp (disch:=first | omega | assumption | (simp; done) | fail) [b_is h d,hd,zag h.get0,bRow,h0,h1',zag (h.hd hd),D.isAgg,D.width,D.cell,zGM (h.get1 hd) (zh2 h.ok d).1,h.set1 hd]
theorem zDt (h:At T0 T1 b idx B) (hw:B.w≤1000000) (d:Int) {a:Int} (hc:∀ w∈(B.dk d).pend,w.1≠a) (tg:Tag) (x:List Int):
  zbl [.h kB b 0,.int .i64 d,.int .i64 a,.sl tg (uL x)] [P0 T0 b idx B,P1 T1 idx B]=some (Ans.mk (.int .i64 (B.damage d a x).1) [] [P1 T1 idx (B.damage d a x).2]):=by
 rw [zjL,zc6];unfold zeA Ben.damage;cases hd:B.is d
 ·simp [b_is h d,hd]
 ·obtain ⟨h0,h1⟩:=zc4.1 hd;obtain ⟨ho,hp⟩:=h.ds hw d
  have h1':d.toNat < idx.length:=by have:=h.len; unfold Ben.n at h1; omega
  simp (disch:=first | omega | assumption | (simp; done) | fail) [b_is h d,hd,zag h.get0,bRow,h0,h1',zag (h.hd hd),D.isAgg,D.width,D.cell,zDp (h.get1 hd) ho hp hc,h.set1 hd]
def zvc (B:Ben):Nat→Int
 | 0=>0
 | k+1=>zvc B k+(B.dk k).pend.length
theorem zyW (hB:B.Ok):∀ k,0≤zvc B k∧zvc B k≤k*B.w
 | 0=>⟨Int.le_refl _,by simp [zvc]⟩
 | k+1=>by
  have:=zyW hB k;have h2:=(zh2 hB k).2
  have e:((k+1:Nat):Int)*B.w=k*B.w+B.w:=by rw [Int.natCast_add,Int.add_mul]; simp
  unfold zvc; rw [e]; omega
def Ben.pending (B:Ben):Int:=zvc B B.ds.length
theorem zBU (h:At T0 T1 b idx B) (hw:B.w≤1000000):zaY [.h kB b 0] [P0 T0 b idx B,P1 T1 idx B]=some (Ans.mk (.int .i64 B.pending) [] []):=by
 rw [zi0];unfold zec Ben.pending;have hrow:(P0 T0 b idx B)[b]? =some [.int .i64 B.w,.int .i64 B.left,.bool B.down,.sl .own (idx.map hD)]:=h.get0;have hsm:=h.ok.small
 simp (disch:=first | omega | assumption | (simp; done) | fail) only [zag hrow,zdJ,zf4,zbn,zaa,Nat.zero_add,Nat.le_refl,List.length_map,h.len]
 let st:Nat→(Int×(Nat×Nat×Nat)×Int×Int×PUnit)×List (List D)×List (List D)×PUnit:=fun k=>((zvc B k,(b,0,B.ds.length),(B.ds.length:Int),(k:Int),PUnit.unit),P0 T0 b idx B,P1 T1 idx B,PUnit.unit)
 show zb7 _ (st 0)=_
 refine zca st B.ds.length (by omega) ?_ ?_
 ·intro again k hk;dsimp only [st]
  have hd:B.is k=true:=zc4.2 ⟨by omega,by unfold Ben.n; omega⟩
  have hp:=zyW h.ok k;have h2:=(zh2 h.ok k).2
  have hkw:(k:Int)*B.w≤8*1000000:=Int.mul_le_mul (by omega) hw h.ok.w0 (by omega)
  have hhd:(idx.map hD)[k]? =some (.h kD (ix idx k) 0):=by have:=h.hd hd; simpa using this
  have hw0:=h.ok.w0
  simp (disch:=first | omega | assumption | (simp; done) | fail) [zag hrow,hk,zag hhd,D.isAgg,D.width,D.cell,zwE (h.get1 hd) (zh2 h.ok _).1,zal]
  rfl
 ·intro again;dsimp only [st];simp
def Ben.limit (B:Ben) (n:Int):Ben:={ B with left:=max (-1) n }
theorem zFp (h:At T0 T1 b idx B) (n:Int):zbc [.h kB b 0,.int .i64 n] [P0 T0 b idx B]=some (Ans.mk (.tup []) [] [P0 T0 b idx (B.limit n)]):=by
 rw [zi2];unfold zed
 have hset:zaQ (P0 T0 b idx B) b 1 [.int .i64 (max (-1) n)]=P0 T0 b idx (B.limit n):=by
  rw [zcM h.get0];show (P0 T0 b idx B).set b (bRow (B.limit n) idx)=_;rw [zD8]
 simp (disch:=first | omega | assumption | (simp; done) | fail) [zag h.get0,bRow,hset,ze3,D.flat]
end
end Wf

