/- A part of the proof: lemmas that the law's row leans on. -/
import Derived.Test.YtlbdpbbpoghncaaPd
set_option linter.all false
namespace Wf
open Go Go.RowKit Go.Proofs
set_option linter.unusedVariables false
set_option maxRecDepth 100000
def zfM:Ann:={ loops:=[] }
noncomputable def zab:List D→Option D:=denP Try.prog (zax []) zfM [0] ID.wattlekeep_Within
theorem ziL:za7 Try.prog ID.wattlekeep_Within (.pure [0] zab):=zat (zaD []) zbD ⟨Try.f16,by kernel_rfl,by kernel_rfl,by kernel_rfl⟩
noncomputable def zcT:Fact Try.prog:=⟨ID.wattlekeep_Within,(.pure [0] zab),ziL⟩
noncomputable def zex (a0:Int) (a1:Int):Option D:=
  brK (decide (a1 < (1:Int)))
    (some (D.int IntKind.i64 (0:Int)))
    (sif (a1≠(0:Int)) <|
    letN (Int.tmod a0 a1) fun n1=>
    brK (decide (n1 < (0:Int)))
      (letN (IntKind.wrap IntKind.i64 (n1+a1)) fun n2=>
      some (D.int IntKind.i64 n2))
      (some (D.int IntKind.i64 n1)))
theorem zmi (a0:Int) (a1:Int):denP Try.prog (zax []) zfM [0] ID.wattlekeep_Within [.int .i64 a0,.int .i64 a1]=zex a0 a1:=by kernel_rfl
theorem zjp (a0:Int) (a1:Int):zab [.int .i64 a0,.int .i64 a1]=zex a0 a1:=zmi a0 a1
def zfN:Ann:={ loops:=[] }
noncomputable def zad:List D→Option D:=denP Try.prog (zax []) zfN [0] ID.wattleref01_Check
theorem ziM:za7 Try.prog ID.wattleref01_Check (.pure [0] zad):=zat (zaD []) zbD ⟨Try.f53,by kernel_rfl,by kernel_rfl,by kernel_rfl⟩
noncomputable def zco:Fact Try.prog:=⟨ID.wattleref01_Check,(.pure [0] zad),ziM⟩
noncomputable def zey (a0_0:Int) (a0_1:Int) (a0_2:Int):Option D:=
  brK (a0_0 == (6:Int))
    (brK (a0_0 == (5:Int))
      (brK (decide (a0_1≥(4:Int)))
        (brK (decide (a0_1≤(8:Int)))
          (brK (a0_2 == (1:Int))
            (some (D.bool true))
            (brK (a0_2 == (2:Int))
              (some (D.bool true))
              (some (D.bool (a0_2 == (4:Int))))))
          (some (D.bool false)))
        (some (D.bool false)))
      (brK (a0_0 == (6:Int))
        (brK (decide (a0_1≥(4:Int)))
          (brK (decide (a0_1≤(8:Int)))
            (brK (a0_2 == (1:Int))
              (some (D.bool true))
              (brK (a0_2 == (2:Int))
                (some (D.bool true))
                (some (D.bool (a0_2 == (4:Int))))))
            (some (D.bool false)))
          (some (D.bool false)))
        (some (D.bool false))))
    (brK (a0_0 == (5:Int))
      (brK (decide (a0_1≥(3:Int)))
        (brK (decide (a0_1≤(8:Int)))
          (brK (a0_2 == (1:Int))
            (some (D.bool true))
            (brK (a0_2 == (2:Int))
              (some (D.bool true))
              (some (D.bool (a0_2 == (4:Int))))))
          (some (D.bool false)))
        (some (D.bool false)))
      (brK (a0_0 == (6:Int))
        (brK (decide (a0_1≥(3:Int)))
          (brK (decide (a0_1≤(8:Int)))
            (brK (a0_2 == (1:Int))
              (some (D.bool true))
              (brK (a0_2 == (2:Int))
                (some (D.bool true))
                (some (D.bool (a0_2 == (4:Int))))))
            (some (D.bool false)))
          (some (D.bool false)))
        (some (D.bool false))))
theorem zmj (a0_0:Int) (a0_1:Int) (a0_2:Int):denP Try.prog (zax []) zfN [0] ID.wattleref01_Check [.agg [.int .i64 a0_0,.int .i64 a0_1,.int .i64 a0_2]]=zey a0_0 a0_1 a0_2:=by kernel_rfl
theorem zjq (a0_0:Int) (a0_1:Int) (a0_2:Int):zad [.agg [.int .i64 a0_0,.int .i64 a0_1,.int .i64 a0_2]]=zey a0_0 a0_1 a0_2:=zmj a0_0 a0_1 a0_2
def zff:Ann:={ loops:=[] }
noncomputable def zaC:List D→Option D:=denP Try.prog (zax [(ID.wattleref01_Check,(.pure [0] zad))]) zff [0] ID.wattleref01_Budget
theorem zia:za7 Try.prog ID.wattleref01_Budget (.pure [0] zaC):=zat (zaD [zco]) zbD ⟨Try.f76,by kernel_rfl,by kernel_rfl,by kernel_rfl⟩
noncomputable def zeW:Fact Try.prog:=⟨ID.wattleref01_Budget,(.pure [0] zaC),zia⟩
noncomputable def zec (zad:List D→Option D) (a0_0:Int) (a0_1:Int) (a0_2:Int):Option D:=
  zar (zad [D.agg [D.int IntKind.i64 a0_0,D.int IntKind.i64 a0_1,D.int IntKind.i64 a0_2]]) fun r1=>
  asB r1 fun b2=>
  brK (!b2)
    (some (D.int IntKind.i64 (0:Int)))
    (letN (IntKind.wrap IntKind.i64 (a0_0 - (4:Int))) fun n3=>
    some (D.int IntKind.i64 n3))
theorem zlj (zad:List D→Option D) (a0_0:Int) (a0_1:Int) (a0_2:Int):denP Try.prog (zax [(ID.wattleref01_Check,(.pure [0] zad))]) zff [0] ID.wattleref01_Budget [.agg [.int .i64 a0_0,.int .i64 a0_1,.int .i64 a0_2]]=zec zad a0_0 a0_1 a0_2:=by kernel_rfl
theorem ziN (a0_0:Int) (a0_1:Int) (a0_2:Int):zaC [.agg [.int .i64 a0_0,.int .i64 a0_1,.int .i64 a0_2]]=zec zad a0_0 a0_1 a0_2:=zlj zad a0_0 a0_1 a0_2
def zfO:Ann:={ loops:=[] }
noncomputable def zak:List D→Option D:=denP Try.prog (zax [(ID.wattleref01_Check,(.pure [0] zad)),(ID.wattleref01_Budget,(.pure [0] zaC))]) zfO [0] ID.wattleref01_Width
theorem ziO:za7 Try.prog ID.wattleref01_Width (.pure [0] zak):=zat (zaD [zco,zeW]) zbD ⟨Try.f32,by kernel_rfl,by kernel_rfl,by kernel_rfl⟩
noncomputable def zdB:Fact Try.prog:=⟨ID.wattleref01_Width,(.pure [0] zak),ziO⟩
noncomputable def zez (zad:List D→Option D) (zaC:List D→Option D) (a0_0:Int) (a0_1:Int) (a0_2:Int):Option D:=
  zar (zad [D.agg [D.int IntKind.i64 a0_0,D.int IntKind.i64 a0_1,D.int IntKind.i64 a0_2]]) fun r1=>
  asB r1 fun b2=>
  brK (!b2)
    (some (D.int IntKind.i64 (0:Int)))
    (zar (zaC [D.agg [D.int IntKind.i64 a0_0,D.int IntKind.i64 a0_1,D.int IntKind.i64 a0_2]]) fun r3=>
    asI IntKind.i64 r3 fun i4=>
    letN (IntKind.wrap IntKind.i64 (a0_1 - i4)) fun n5=>
    some (D.int IntKind.i64 n5))
theorem zmk (zad:List D→Option D) (zaC:List D→Option D) (a0_0:Int) (a0_1:Int) (a0_2:Int):denP Try.prog (zax [(ID.wattleref01_Check,(.pure [0] zad)),(ID.wattleref01_Budget,(.pure [0] zaC))]) zfO [0] ID.wattleref01_Width [.agg [.int .i64 a0_0,.int .i64 a0_1,.int .i64 a0_2]]=zez zad zaC a0_0 a0_1 a0_2:=by kernel_rfl
theorem zjr (a0_0:Int) (a0_1:Int) (a0_2:Int):zak [.agg [.int .i64 a0_0,.int .i64 a0_1,.int .i64 a0_2]]=zez zad zaC a0_0 a0_1 a0_2:=zmk zad zaC a0_0 a0_1 a0_2
def zo5:Ann:={ loops:=[],pubs:=[(1,[(0,119,7649)])],ks:=[(7649,true)] }
noncomputable def zbQ:List D→List Tb→Option Ans:=denS Try.prog (zax []) zo5 [0] ID.disk_New
theorem zrA:za7 Try.prog ID.disk_New (.st [] [0] [(7649,true)] zbQ):=zbg (zaD []) zbD ⟨Try.f80,by kernel_rfl,by kernel_rfl,by kernel_rfl⟩
noncomputable def zni:Fact Try.prog:=⟨ID.disk_New,(.st [] [0] [(7649,true)] zbQ),zrA⟩
noncomputable def zoe (T0:Tb):Option Ans:=
  letT (T0++[List.map D.own0 (List.reverse ([D.bool false,D.sl Tag.nil []]++List.replicate 1664 (D.int IntKind.u8 (0:Int))))]) fun U1=>
  some (Ans.mk (D.h (7649:Nat) (List.length T0) (0:Nat)) [] [U1])
theorem zyR (T0:Tb):denS Try.prog (zax []) zo5 [0] ID.disk_New [] [T0]=zoe T0:=by kernel_rfl
theorem ztT (T0:Tb):zbQ [] [T0]=zoe T0:=zyR T0
def znj:Ann:={ loops:=[(1,[.dead,.dead,.dead,.dead,.val (.cell (.hnd (3840:Nat))),.dead,.dead,.dead,.dead,.dead,.dead,.dead,.dead,.dead,.val (.cell (.int .i64)),.val (.cell (.int .i64))])],pubs:=[(3,[(4,63,3840)])],ks:=[(3840,true),(7649,true)] }
noncomputable def zbq:List D→List Tb→Option Ans:=denS Try.prog (zax [(ID.disk_New,(.st [] [0] [(7649,true)] zbQ))]) znj [0,0] ID.bench_New
theorem zqV:za7 Try.prog ID.bench_New (.st [] [0,0] [(3840,true),(7649,true)] zbq):=zbg (zaD [zni]) zbD ⟨Try.f35,by kernel_rfl,by kernel_rfl,by kernel_rfl⟩
noncomputable def zlP:Fact Try.prog:=⟨ID.bench_New,(.st [] [0,0] [(3840,true),(7649,true)] zbq),zqV⟩
noncomputable def zml (zbQ:List D→List Tb→Option Ans) (a0:Int) (T0:Tb) (T1:Tb):Option Ans:=
  brK (decide (a0 < (1:Int)))
    (some (Ans.mk (D.tup [D.nilp,D.int IntKind.i64 (1:Int)]) [] [T0,T1]))
    (brK (decide (a0 > (8:Int)))
      (some (Ans.mk (D.tup [D.nilp,D.int IntKind.i64 (1:Int)]) [] [T0,T1]))
      (letT (T0++[[D.own0 (D.int IntKind.i64 (0:Int)),D.own0 (D.int IntKind.i64 (-1:Int)),D.own0 (D.bool false),D.own0 (D.sl Tag.nil [])]]) fun U1=>
      zcb (α:=(Nat×Int×Int×PUnit)×List (List D)×List (List D)×PUnit) (fun again2 ((x3,(i4,(i5,_))),(U6,(U7,_)))=>
        brK (decide (i5 < i4))
          (getK U6 x3 fun d8=>
          getK d8 ((3:Nat)) fun d9=>
          za8 d9 fun l10=>
          zar (zbQ [] [U7]) fun r11=>
          nilK r11.outs <|
          zcl r11.tbs fun c12 q13=>
          nilK q13 <|
          sif (zgL r11.r=true) <|
          sif (zdG (1:Nat) [r11.r]=true) <|
          getK U6 x3 fun d14=>
          getK d14 ((3:Nat)) fun d15=>
          za8 d15 fun l16=>
          sif (List.length l10+(1:Nat)≤(4294967296:Nat)) <|
          sif (zdG (1:Nat) [r11.r]=true) <|
          sif (List.length l10=List.length l16) <|
          letT (setT U6 x3 (3:Nat) D.undef) fun U17=>
          getK U17 x3 fun d18=>
          sif ((4:Nat)≤List.length d18) <|
          sif (List.length l10+(1:Nat)=List.length (l16++[r11.r])) <|
          sif (zc7 (l16++[r11.r])=true) <|
          sif (zfe (1:Nat) (l16++[r11.r])=true) <|
          letT (zaY U17 x3 (3:Nat) [D.sl Tag.own (l16++[r11.r])]) fun U19=>
          letN (IntKind.wrap IntKind.i64 (i5+(1:Int))) fun n20=>
          again2 (((x3,i4,n20,PUnit.unit),U19,c12,PUnit.unit)))
          (some (Ans.mk (D.tup [D.h (3840) x3 (0:Nat),D.int IntKind.i64 (0:Int)]) [] [U6,U7])))
        (((List.length T0,a0,(0:Int),PUnit.unit),U1,T1,PUnit.unit))))
theorem zwL (zbQ:List D→List Tb→Option Ans) (a0:Int) (T0:Tb) (T1:Tb):denS Try.prog (zax [(ID.disk_New,(.st [] [0] [(7649,true)] zbQ))]) znj [0,0] ID.bench_New [.int .i64 a0] [T0,T1]=zml zbQ a0 T0 T1:=by kernel_rfl
theorem zrB (a0:Int) (T0:Tb) (T1:Tb):zbq [.int .i64 a0] [T0,T1]=zml zbQ a0 T0 T1:=zwL zbQ a0 T0 T1
def zgO:Ann:={ loops:=[(0,[.val (.cell (.int .i64)),.val (.cell (.int .i64)),.dead,.dead,.dead,.own 1,.dead,.dead,.dead,.dead,.val (.cell (.int .i64)),.val (.cell (.int .i64))])] }
noncomputable def zbu:List D→Option D:=denP Try.prog (zax [(ID.wattlekeep_Within,(.pure [0] zab))]) zgO [1] ID.wattleplay_Live
theorem zkd:za7 Try.prog ID.wattleplay_Live (.pure [1] zbu):=zat (zaD [zcT]) zbD ⟨Try.f18,by kernel_rfl,by kernel_rfl,by kernel_rfl⟩
noncomputable def zlk:Fact Try.prog:=⟨ID.wattleplay_Live,(.pure [1] zbu),zkd⟩
noncomputable def zfr (zab:List D→Option D) (a0:Int) (a1:Int):Option D:=
  sif ((0:Int)≤a1) <|
  sif (a1=a1) <|
  sif (a1*(1:Int)≤(140737488355328:Int)) <|
  sif (a1≤(140737488355328:Int)) <|
  sif ((0:Nat)+Int.toNat a1≤List.length (List.replicate (Int.toNat a1) (D.bool false))) <|
  sif (Int.toNat a1=List.length (List.replicate (Int.toNat a1) (D.bool false))) <|
  zcb (α:=(Int×Int×List D×Int×Int×PUnit)×PUnit) (fun again1 ((i2,(i3,(l4,(i5,(i6,_))))),_)=>
    brK (decide (i6 < i5))
      (sif ((0:Int)≤i6) <|
      sif (Int.toNat i6 < List.length l4) <|
      getK l4 ((0:Nat)+Int.toNat i6) fun d7=>
      sif (D.isAgg d7=false) <|
      letN (IntKind.wrap IntKind.i64 (i6+(1:Int))) fun n8=>
      sif (List.length l4=List.length (List.set l4 ((0:Nat)+Int.toNat i6) (D.bool true))) <|
      again1 (((i2,i3,List.set l4 ((0:Nat)+Int.toNat i6) (D.bool true),i5,n8,PUnit.unit),PUnit.unit)))
      (brK (decide (i3 > (0:Int)))
        (zar (zab [D.int IntKind.i64 i2,D.int IntKind.i64 (3:Int)]) fun r9=>
        asI IntKind.i64 r9 fun i10=>
        brK (decide (i10 > (0:Int)))
          (letN (IntKind.wrap IntKind.i64 (Int.tdiv i2 (3:Int))) fun n11=>
          zar (zab [D.int IntKind.i64 n11,D.int IntKind.i64 i3]) fun r12=>
          asI IntKind.i64 r12 fun i13=>
          sif ((0:Int)≤i13) <|
          sif (Int.toNat i13 < List.length l4) <|
          getK l4 ((0:Nat)+Int.toNat i13) fun d14=>
          sif (D.isAgg d14=false) <|
          brK (decide (i3 > (0:Int)))
            (zar (zab [D.int IntKind.i64 i2,D.int IntKind.i64 (9:Int)]) fun r15=>
            asI IntKind.i64 r15 fun i16=>
            brK (i16 == (8:Int))
              (letN (IntKind.wrap IntKind.i64 (Int.tdiv i2 (27:Int))) fun n17=>
              zar (zab [D.int IntKind.i64 n17,D.int IntKind.i64 i3]) fun r18=>
              asI IntKind.i64 r18 fun i19=>
              sif ((0:Int)≤i19) <|
              sif (Int.toNat i19 < List.length l4) <|
              getK (List.set l4 ((0:Nat)+Int.toNat i13) (D.bool false)) ((0:Nat)+Int.toNat i19) fun d20=>
              sif (D.isAgg d20=false) <|
              sif (List.length l4=List.length (List.set (List.set l4 ((0:Nat)+Int.toNat i13) (D.bool false)) ((0:Nat)+Int.toNat i19) (D.bool false))) <|
              sif (List.all (List.set (List.set l4 ((0:Nat)+Int.toNat i13) (D.bool false)) ((0:Nat)+Int.toNat i19) (D.bool false)) D.free=true) <|
              some (D.sl Tag.own (List.set (List.set l4 ((0:Nat)+Int.toNat i13) (D.bool false)) ((0:Nat)+Int.toNat i19) (D.bool false))))
              (sif (List.length l4=List.length (List.set l4 ((0:Nat)+Int.toNat i13) (D.bool false))) <|
              sif (List.all (List.set l4 ((0:Nat)+Int.toNat i13) (D.bool false)) D.free=true) <|
              some (D.sl Tag.own (List.set l4 ((0:Nat)+Int.toNat i13) (D.bool false)))))
            (sif (List.length l4=List.length (List.set l4 ((0:Nat)+Int.toNat i13) (D.bool false))) <|
            sif (List.all (List.set l4 ((0:Nat)+Int.toNat i13) (D.bool false)) D.free=true) <|
            some (D.sl Tag.own (List.set l4 ((0:Nat)+Int.toNat i13) (D.bool false)))))
          (brK (decide (i3 > (0:Int)))
            (zar (zab [D.int IntKind.i64 i2,D.int IntKind.i64 (9:Int)]) fun r21=>
            asI IntKind.i64 r21 fun i22=>
            brK (i22 == (8:Int))
              (letN (IntKind.wrap IntKind.i64 (Int.tdiv i2 (27:Int))) fun n23=>
              zar (zab [D.int IntKind.i64 n23,D.int IntKind.i64 i3]) fun r24=>
              asI IntKind.i64 r24 fun i25=>
              sif ((0:Int)≤i25) <|
              sif (Int.toNat i25 < List.length l4) <|
              getK l4 ((0:Nat)+Int.toNat i25) fun d26=>
              sif (D.isAgg d26=false) <|
              sif (List.length l4=List.length (List.set l4 ((0:Nat)+Int.toNat i25) (D.bool false))) <|
              sif (List.all (List.set l4 ((0:Nat)+Int.toNat i25) (D.bool false)) D.free=true) <|
              some (D.sl Tag.own (List.set l4 ((0:Nat)+Int.toNat i25) (D.bool false))))
              (sif (List.length l4=List.length l4) <|
              sif (List.all l4 D.free=true) <|
              some (D.sl Tag.own l4)))
            (sif (List.length l4=List.length l4) <|
            sif (List.all l4 D.free=true) <|
            some (D.sl Tag.own l4))))
        (brK (decide (i3 > (0:Int)))
          (zar (zab [D.int IntKind.i64 i2,D.int IntKind.i64 (9:Int)]) fun r27=>
          asI IntKind.i64 r27 fun i28=>
          brK (i28 == (8:Int))
            (letN (IntKind.wrap IntKind.i64 (Int.tdiv i2 (27:Int))) fun n29=>
            zar (zab [D.int IntKind.i64 n29,D.int IntKind.i64 i3]) fun r30=>
            asI IntKind.i64 r30 fun i31=>
            sif ((0:Int)≤i31) <|
            sif (Int.toNat i31 < List.length l4) <|
            getK l4 ((0:Nat)+Int.toNat i31) fun d32=>
            sif (D.isAgg d32=false) <|
            sif (List.length l4=List.length (List.set l4 ((0:Nat)+Int.toNat i31) (D.bool false))) <|
            sif (List.all (List.set l4 ((0:Nat)+Int.toNat i31) (D.bool false)) D.free=true) <|
            some (D.sl Tag.own (List.set l4 ((0:Nat)+Int.toNat i31) (D.bool false))))
            (sif (List.length l4=List.length l4) <|
            sif (List.all l4 D.free=true) <|
            some (D.sl Tag.own l4)))
          (sif (List.length l4=List.length l4) <|
          sif (List.all l4 D.free=true) <|
          some (D.sl Tag.own l4)))))
    (((a0,a1,List.replicate (Int.toNat a1) (D.bool false),(↑(Int.toNat a1):Int),(0:Int),PUnit.unit),PUnit.unit))
theorem zof (zab:List D→Option D) (a0:Int) (a1:Int):denP Try.prog (zax [(ID.wattlekeep_Within,(.pure [0] zab))]) zgO [1] ID.wattleplay_Live [.int .i64 a0,.int .i64 a1]=zfr zab a0 a1:=by kernel_rfl
theorem zll (a0:Int) (a1:Int):zbu [.int .i64 a0,.int .i64 a1]=zfr zab a0 a1:=zof zab a0 a1
def zgP:Ann:={ loops:=[],ks:=[(3840,false)] }
noncomputable def zau:List D→List Tb→Option Ans:=denS Try.prog (zax []) zgP [0] ID.bench_Bench_Len
theorem zke:za7 Try.prog ID.bench_Bench_Len (.st [] [0] [(3840,false)] zau):=zbg (zaD []) zbD ⟨Try.f68,by kernel_rfl,by kernel_rfl,by kernel_rfl⟩
noncomputable def zf7:Fact Try.prog:=⟨ID.bench_Bench_Len,(.st [] [0] [(3840,false)] zau),zke⟩
noncomputable def zfs (a0:Nat) (T0:Tb):Option Ans:=
  getK T0 a0 fun d1=>
  getK d1 ((3:Nat)) fun d2=>
  za8 d2 fun l3=>
  getK T0 a0 fun d4=>
  getK d4 ((3:Nat)) fun d5=>
  za8 d5 fun l6=>
  sif ((0:Nat)+List.length l3≤List.length l6) <|
  some (Ans.mk (D.int IntKind.i64 (↑(List.length l3):Int)) [] [])
theorem zog (a0:Nat) (T0:Tb):denS Try.prog (zax []) zgP [0] ID.bench_Bench_Len [.h 3840 a0 0] [T0]=zfs a0 T0:=by kernel_rfl
theorem zlm (a0:Nat) (T0:Tb):zau [.h 3840 a0 0] [T0]=zfs a0 T0:=zog a0 T0
def zeL:Ann:={ loops:=[(0,[.val (.cell .lent),.val (.cell (.int .i64)),.dead,.dead,.dead,.dead,.dead,.val (.cell (.int .i64)),.val (.cell (.int .i64))])] }
noncomputable def za6:List D→Option D:=denP Try.prog (zax []) zeL [0] ID.slices_Index_int_int
theorem zhc:za7 Try.prog ID.slices_Index_int_int (.pure [0] za6):=zat (zaD []) zbD ⟨Try.f87,by kernel_rfl,by kernel_rfl,by kernel_rfl⟩
noncomputable def zhA:Fact Try.prog:=⟨ID.slices_Index_int_int,(.pure [0] za6),zhc⟩
noncomputable def zdC (a0:List D) (a1:Int):Option D:=
  zcb (α:=(List D×Int×Int×Int×PUnit)×PUnit) (fun again1 ((l2,(i3,(i4,(i5,_)))),_)=>
    brK (decide (i5 < i4))
      (sif ((0:Int)≤i5) <|
      getK l2 (Int.toNat i5) fun d6=>
      asI IntKind.i64 d6 fun i7=>
      brK (i3 == i7)
        (some (D.int IntKind.i64 i5))
        (letN (IntKind.wrap IntKind.i64 (i5+(1:Int))) fun n8=>
        again1 (((l2,i3,i4,n8,PUnit.unit),PUnit.unit))))
      (some (D.int IntKind.i64 (-1:Int))))
    (((a0,a1,(↑(List.length a0):Int),(0:Int),PUnit.unit),PUnit.unit))
theorem zjs (tga0:Tag) (a0:List D) (a1:Int):denP Try.prog (zax []) zeL [0] ID.slices_Index_int_int [.sl tga0 a0,.int .i64 a1]=zdC (D.lentL a0) a1:=by kernel_rfl
theorem zhB (tga0:Tag) (a0:List D) (a1:Int):za6 [.sl tga0 a0,.int .i64 a1]=zdC (D.lentL a0) a1:=zjs tga0 a0 a1
def zdU:Ann:={ loops:=[] }
noncomputable def zaR:List D→Option D:=denP Try.prog (zax [(ID.slices_Index_int_int,(.pure [0] za6))]) zdU [0] ID.slices_Contains_int_int
theorem zfZ:za7 Try.prog ID.slices_Contains_int_int (.pure [0] zaR):=zat (zaD [zhA]) zbD ⟨Try.f101,by kernel_rfl,by kernel_rfl,by kernel_rfl⟩
noncomputable def zgq:Fact Try.prog:=⟨ID.slices_Contains_int_int,(.pure [0] zaR),zfZ⟩
noncomputable def zc9 (za6:List D→Option D) (a0:List D) (a1:Int):Option D:=
  zar (za6 [D.sl Tag.lent a0,D.int IntKind.i64 a1]) fun r1=>
  asI IntKind.i64 r1 fun i2=>
  some (D.bool (decide (i2≥(0:Int))))
theorem zhC (za6:List D→Option D) (tga0:Tag) (a0:List D) (a1:Int):denP Try.prog (zax [(ID.slices_Index_int_int,(.pure [0] za6))]) zdU [0] ID.slices_Contains_int_int [.sl tga0 a0,.int .i64 a1]=zc9 za6 (D.lentL a0) a1:=by kernel_rfl
theorem zgr (tga0:Tag) (a0:List D) (a1:Int):zaR [.sl tga0 a0,.int .i64 a1]=zc9 za6 (D.lentL a0) a1:=zhC za6 tga0 a0 a1
def zlQ:Ann:={ loops:=[] }
noncomputable def zaj:List D→Option D:=denP Try.prog (zax [(ID.slices_Contains_int_int,(.pure [0] zaR))]) zlQ [0] ID.geom_Check
theorem zpg:za7 Try.prog ID.geom_Check (.pure [0] zaj):=zat (zaD [zgq]) zbD ⟨Try.f69,by kernel_rfl,by kernel_rfl,by kernel_rfl⟩
noncomputable def zde:Fact Try.prog:=⟨ID.geom_Check,(.pure [0] zaj),zpg⟩
noncomputable def zkf (zaR:List D→Option D) (a0_0:Int) (a0_1:Int) (a0_2:Int):Option D:=
  asI IntKind.i64 (zyC a0_0 (D.int IntKind.i64 (0:Int)) (setD (6:Int) (D.int IntKind.i64 (4:Int)) (setD (5:Int) (D.int IntKind.i64 (3:Int)) []))) fun i1=>
  brK (i1 == (0:Int))
    (some (D.int IntKind.i64 (1:Int)))
    (brK (decide (a0_1 < i1))
      (some (D.int IntKind.i64 (1:Int)))
      (brK (decide (a0_1 > (8:Int)))
        (some (D.int IntKind.i64 (1:Int)))
        (zar (zaR [D.sl Tag.full [D.int IntKind.i64 (1:Int),D.int IntKind.i64 (2:Int),D.int IntKind.i64 (4:Int)],D.int IntKind.i64 a0_2]) fun r2=>
        asB r2 fun b3=>
        brK (!b3)
          (some (D.int IntKind.i64 (1:Int)))
          (some (D.int IntKind.i64 (0:Int))))))
theorem zvx (zaR:List D→Option D) (a0_0:Int) (a0_1:Int) (a0_2:Int):denP Try.prog (zax [(ID.slices_Contains_int_int,(.pure [0] zaR))]) zlQ [0] ID.geom_Check [.agg [.int .i64 a0_0,.int .i64 a0_1,.int .i64 a0_2]]=zkf zaR a0_0 a0_1 a0_2:=by kernel_rfl
theorem zqW (a0_0:Int) (a0_1:Int) (a0_2:Int):zaj [.agg [.int .i64 a0_0,.int .i64 a0_1,.int .i64 a0_2]]=zkf zaR a0_0 a0_1 a0_2:=zvx zaR a0_0 a0_1 a0_2
def zkg:Ann:={ loops:=[] }
noncomputable def zbX:List D→Option D:=denP Try.prog (zax [(ID.geom_Check,(.pure [0] zaj))]) zkg [0] ID.rebuild_may
theorem zoh:za7 Try.prog ID.rebuild_may (.pure [0] zbX):=zat (zaD [zde]) zbD ⟨Try.f91,by kernel_rfl,by kernel_rfl,by kernel_rfl⟩
noncomputable def zph:Fact Try.prog:=⟨ID.rebuild_may,(.pure [0] zbX),zoh⟩
noncomputable def ziP (zaj:List D→Option D) (a0_0:Int) (a0_1:Int) (a0_2:Int) (a1_0:Int) (a1_1:Int) (a1_2:Int) (a2:Int):Option D:=
  zar (zaj [D.agg [D.int IntKind.i64 a0_0,D.int IntKind.i64 a0_1,D.int IntKind.i64 a0_2]]) fun r1=>
  asI IntKind.i64 r1 fun i2=>
  brK (i2 == (0:Int))
    (brK (decide (a2≥(0:Int)))
      (brK (decide (a2≤(16:Int)))
        (brK (a2 == (0:Int))
          (some (D.bool true))
          (zar (zaj [D.agg [D.int IntKind.i64 a1_0,D.int IntKind.i64 a1_1,D.int IntKind.i64 a1_2]]) fun r3=>
          asI IntKind.i64 r3 fun i4=>
          some (D.bool (i4 == (0:Int)))))
        (some (D.bool false)))
      (some (D.bool false)))
    (some (D.bool false))
theorem ztU (zaj:List D→Option D) (a0_0:Int) (a0_1:Int) (a0_2:Int) (a1_0:Int) (a1_1:Int) (a1_2:Int) (a2:Int):denP Try.prog (zax [(ID.geom_Check,(.pure [0] zaj))]) zkg [0] ID.rebuild_may [.agg [.int .i64 a0_0,.int .i64 a0_1,.int .i64 a0_2],.agg [.int .i64 a1_0,.int .i64 a1_1,.int .i64 a1_2],.int .i64 a2]=ziP zaj a0_0 a0_1 a0_2 a1_0 a1_1 a1_2 a2:=by kernel_rfl
theorem zpi (a0_0:Int) (a0_1:Int) (a0_2:Int) (a1_0:Int) (a1_1:Int) (a1_2:Int) (a2:Int):zbX [.agg [.int .i64 a0_0,.int .i64 a0_1,.int .i64 a0_2],.agg [.int .i64 a1_0,.int .i64 a1_1,.int .i64 a1_2],.int .i64 a2]=ziP zaj a0_0 a0_1 a0_2 a1_0 a1_1 a1_2 a2:=ztU zaj a0_0 a0_1 a0_2 a1_0 a1_1 a1_2 a2
def zhp:Ann:={ loops:=[],ks:=[(3840,false)] }
noncomputable def zag:List D→List Tb→Option Ans:=denS Try.prog (zax []) zhp [0] ID.bench_Bench_is
theorem zln:za7 Try.prog ID.bench_Bench_is (.st [] [0] [(3840,false)] zag):=zbg (zaD []) zbD ⟨Try.f66,by kernel_rfl,by kernel_rfl,by kernel_rfl⟩
noncomputable def zcQ:Fact Try.prog:=⟨ID.bench_Bench_is,(.st [] [0] [(3840,false)] zag),zln⟩
noncomputable def zf0 (a0:Nat) (a1:Int) (T0:Tb):Option Ans:=
  brK (decide (a1≥(0:Int)))
    (getK T0 a0 fun d1=>
    getK d1 ((3:Nat)) fun d2=>
    za8 d2 fun l3=>
    getK T0 a0 fun d4=>
    getK d4 ((3:Nat)) fun d5=>
    za8 d5 fun l6=>
    sif ((0:Nat)+List.length l3≤List.length l6) <|
    some (Ans.mk (D.bool (decide (a1 < (↑(List.length l3):Int)))) [] []))
    (some (Ans.mk (D.bool false) [] []))
theorem zpj (a0:Nat) (a1:Int) (T0:Tb):denS Try.prog (zax []) zhp [0] ID.bench_Bench_is [.h 3840 a0 0,.int .i64 a1] [T0]=zf0 a0 a1 T0:=by kernel_rfl
theorem zmm (a0:Nat) (a1:Int) (T0:Tb):zag [.h 3840 a0 0,.int .i64 a1] [T0]=zf0 a0 a1 T0:=zpj a0 a1 T0
def zf8:Ann:={ loops:=[],ks:=[(7649,false)] }
noncomputable def zaN:List D→List Tb→Option Ans:=denS Try.prog (zax []) zf8 [0] ID.disk_Disk_Failed
theorem zjt:za7 Try.prog ID.disk_Disk_Failed (.st [] [0] [(7649,false)] zaN):=zbg (zaD []) zbD ⟨Try.f84,by kernel_rfl,by kernel_rfl,by kernel_rfl⟩
noncomputable def zfP:Fact Try.prog:=⟨ID.disk_Disk_Failed,(.st [] [0] [(7649,false)] zaN),zjt⟩
noncomputable def zeX (a0:Nat) (T0:Tb):Option Ans:=
  getK T0 a0 fun d1=>
  getK d1 ((1665:Nat)) fun d2=>
  asB d2 fun b3=>
  some (Ans.mk (D.bool b3) [] [])
theorem znk (a0:Nat) (T0:Tb):denS Try.prog (zax []) zf8 [0] ID.disk_Disk_Failed [.h 7649 a0 0] [T0]=zeX a0 T0:=by kernel_rfl
theorem zkh (a0:Nat) (T0:Tb):zaN [.h 7649 a0 0] [T0]=zeX a0 T0:=znk a0 T0
def zfg:Ann:={ loops:=[],ks:=[(3840,false),(7649,false)] }
noncomputable def zay:List D→List Tb→Option Ans:=denS Try.prog (zax [(ID.bench_Bench_is,(.st [] [0] [(3840,false)] zag)),(ID.disk_Disk_Failed,(.st [] [0] [(7649,false)] zaN))]) zfg [0] ID.bench_Bench_Failed
theorem zib:za7 Try.prog ID.bench_Bench_Failed (.st [] [0] [(3840,false),(7649,false)] zay):=zbg (zaD [zcQ,zfP]) zbD ⟨Try.f41,by kernel_rfl,by kernel_rfl,by kernel_rfl⟩
noncomputable def zeY:Fact Try.prog:=⟨ID.bench_Bench_Failed,(.st [] [0] [(3840,false),(7649,false)] zay),zib⟩
noncomputable def zed (zag:List D→List Tb→Option Ans) (zaN:List D→List Tb→Option Ans) (a0:Nat) (a1:Int) (T0:Tb) (T1:Tb):Option Ans:=
  zar (zag [D.h (3840:Nat) a0 (0:Nat),D.int IntKind.i64 a1] [T0]) fun r1=>
  nilK r1.outs <|
  nilK r1.tbs <|
  asB r1.r fun b2=>
  brK b2
    (getK T0 a0 fun d3=>
    getK d3 ((3:Nat)) fun d4=>
    za8 d4 fun l5=>
    getK T0 a0 fun d6=>
    getK d6 ((3:Nat)) fun d7=>
    za8 d7 fun l8=>
    sif ((0:Int)≤a1) <|
    sif (Int.toNat a1 < List.length l5) <|
    getK T0 a0 fun d9=>
    getK d9 ((3:Nat)) fun d10=>
    za8 d10 fun l11=>
    getK l11 ((0:Nat)+Int.toNat a1) fun d12=>
    sif (D.isAgg d12=false) <|
    sif (D.width d12=(1:Nat)) <|
    sif (D.cell d12=true) <|
    zar (zaN [d12] [T1]) fun r13=>
    nilK r13.outs <|
    nilK r13.tbs <|
    asB r13.r fun b14=>
    some (Ans.mk (D.bool b14) [] []))
    (some (Ans.mk (D.bool false) [] []))
theorem zlo (zag:List D→List Tb→Option Ans) (zaN:List D→List Tb→Option Ans) (a0:Nat) (a1:Int) (T0:Tb) (T1:Tb):denS Try.prog (zax [(ID.bench_Bench_is,(.st [] [0] [(3840,false)] zag)),(ID.disk_Disk_Failed,(.st [] [0] [(7649,false)] zaN))]) zfg [0] ID.bench_Bench_Failed [.h 3840 a0 0,.int .i64 a1] [T0,T1]=zed zag zaN a0 a1 T0 T1:=by kernel_rfl
theorem ziQ (a0:Nat) (a1:Int) (T0:Tb) (T1:Tb):zay [.h 3840 a0 0,.int .i64 a1] [T0,T1]=zed zag zaN a0 a1 T0 T1:=zlo zag zaN a0 a1 T0 T1
def znl:Ann:={ loops:=[],ks:=[(3840,false),(7649,false)] }
noncomputable def za5:List D→List Tb→Option Ans:=denS Try.prog (zax [(ID.bench_Bench_Len,(.st [] [0] [(3840,false)] zau)),(ID.bench_Bench_Failed,(.st [] [0] [(3840,false),(7649,false)] zay))]) znl [0] ID.stripe_up
theorem zqX:za7 Try.prog ID.stripe_up (.st [] [0] [(3840,false),(7649,false)] za5):=zbg (zaD [zf7,zeY]) zbD ⟨Try.f70,by kernel_rfl,by kernel_rfl,by kernel_rfl⟩
noncomputable def zrC:Fact Try.prog:=⟨ID.stripe_up,(.st [] [0] [(3840,false),(7649,false)] za5),zqX⟩
noncomputable def zmn (zau:List D→List Tb→Option Ans) (zay:List D→List Tb→Option Ans) (a0:Nat) (a1:List D) (a2:Int) (T0:Tb) (T1:Tb):Option Ans:=
  zar (zau [D.h (3840:Nat) a0 (0:Nat)] [T0]) fun r1=>
  nilK r1.outs <|
  nilK r1.tbs <|
  asI IntKind.i64 r1.r fun i2=>
  brK (decide (a2 < i2))
    (brK (decide (a2 < (↑(List.length a1):Int)))
      (sif ((0:Int)≤a2) <|
      getK a1 (Int.toNat a2) fun d3=>
      asB d3 fun b4=>
      brK b4
        (zar (zay [D.h (3840:Nat) a0 (0:Nat),D.int IntKind.i64 a2] [T0,T1]) fun r5=>
        nilK r5.outs <|
        nilK r5.tbs <|
        asB r5.r fun b6=>
        some (Ans.mk (D.bool !b6) [] []))
        (some (Ans.mk (D.bool false) [] [])))
      (some (Ans.mk (D.bool false) [] [])))
    (some (Ans.mk (D.bool false) [] []))
theorem zwM (zau:List D→List Tb→Option Ans) (zay:List D→List Tb→Option Ans) (tga1:Tag) (a0:Nat) (a1:List D) (a2:Int) (T0:Tb) (T1:Tb):denS Try.prog (zax [(ID.bench_Bench_Len,(.st [] [0] [(3840,false)] zau)),(ID.bench_Bench_Failed,(.st [] [0] [(3840,false),(7649,false)] zay))]) znl [0] ID.stripe_up [.h 3840 a0 0,.sl tga1 a1,.int .i64 a2] [T0,T1]=zmn zau zay a0 (D.lentL a1) a2 T0 T1:=by kernel_rfl
theorem zrD (tga1:Tag) (a0:Nat) (a1:List D) (a2:Int) (T0:Tb) (T1:Tb):za5 [.h 3840 a0 0,.sl tga1 a1,.int .i64 a2] [T0,T1]=zmn zau zay a0 (D.lentL a1) a2 T0 T1:=zwM zau zay tga1 a0 a1 a2 T0 T1
def zgQ:Ann:={ loops:=[],ks:=[(3840,false)] }
noncomputable def zav:List D→List Tb→Option Ans:=denS Try.prog (zax [(ID.bench_Bench_is,(.st [] [0] [(3840,false)] zag))]) zgQ [0] ID.bench_Bench_may
theorem zki:za7 Try.prog ID.bench_Bench_may (.st [] [0] [(3840,false)] zav):=zbg (zaD [zcQ]) zbD ⟨Try.f85,by kernel_rfl,by kernel_rfl,by kernel_rfl⟩
noncomputable def zee:Fact Try.prog:=⟨ID.bench_Bench_may,(.st [] [0] [(3840,false)] zav),zki⟩
noncomputable def zft (zag:List D→List Tb→Option Ans) (a0:Nat) (a1:Int) (T0:Tb):Option Ans:=
  zar (zag [D.h (3840:Nat) a0 (0:Nat),D.int IntKind.i64 a1] [T0]) fun r1=>
  nilK r1.outs <|
  nilK r1.tbs <|
  asB r1.r fun b2=>
  brK (!b2)
    (some (Ans.mk (D.int IntKind.i64 (1:Int)) [] []))
    (getK T0 a0 fun d3=>
    getK d3 ((2:Nat)) fun d4=>
    asB d4 fun b5=>
    brK b5
      (some (Ans.mk (D.int IntKind.i64 (6:Int)) [] []))
      (some (Ans.mk (D.int IntKind.i64 (0:Int)) [] [])))
theorem zoi (zag:List D→List Tb→Option Ans) (a0:Nat) (a1:Int) (T0:Tb):denS Try.prog (zax [(ID.bench_Bench_is,(.st [] [0] [(3840,false)] zag))]) zgQ [0] ID.bench_Bench_may [.h 3840 a0 0,.int .i64 a1] [T0]=zft zag a0 a1 T0:=by kernel_rfl
theorem zlp (a0:Nat) (a1:Int) (T0:Tb):zav [.h 3840 a0 0,.int .i64 a1] [T0]=zft zag a0 a1 T0:=zoi zag a0 a1 T0
def zic:Ann:={ loops:=[],ks:=[(7649,false)] }
noncomputable def zaW:List D→List Tb→Option Ans:=denS Try.prog (zax []) zic [0] ID.disk_Disk_may
theorem zmo:za7 Try.prog ID.disk_Disk_may (.st [] [0] [(7649,false)] zaW):=zbg (zaD []) zbD ⟨Try.f118,by kernel_rfl,by kernel_rfl,by kernel_rfl⟩
noncomputable def zhq:Fact Try.prog:=⟨ID.disk_Disk_may,(.st [] [0] [(7649,false)] zaW),zmo⟩
noncomputable def zgR (a0:Nat) (a1:Int) (T0:Tb):Option Ans:=
  getK T0 a0 fun d1=>
  getK d1 ((1665:Nat)) fun d2=>
  asB d2 fun b3=>
  brK b3
    (some (Ans.mk (D.int IntKind.i64 (5:Int)) [] []))
    (brK (decide (a1 < (0:Int)))
      (some (Ans.mk (D.int IntKind.i64 (4:Int)) [] []))
      (brK (decide (a1≥(52:Int)))
        (some (Ans.mk (D.int IntKind.i64 (4:Int)) [] []))
        (some (Ans.mk (D.int IntKind.i64 (0:Int)) [] []))))
theorem zqY (a0:Nat) (a1:Int) (T0:Tb):denS Try.prog (zax []) zic [0] ID.disk_Disk_may [.h 7649 a0 0,.int .i64 a1] [T0]=zgR a0 a1 T0:=by kernel_rfl
theorem znm (a0:Nat) (a1:Int) (T0:Tb):zaW [.h 7649 a0 0,.int .i64 a1] [T0]=zgR a0 a1 T0:=zqY a0 a1 T0
def zd9:Ann:={ loops:=[] }
noncomputable def zan:List D→Option D:=denE Try.prog (zax []) zd9 [1] ID.slices_Clone_byte_byte
theorem zgs:za7 Try.prog ID.slices_Clone_byte_byte (.pure [1] zan):=zsv (zaD []) zbD ⟨Try.f109,by kernel_rfl,by kernel_rfl,by kernel_rfl⟩
noncomputable def zdV:Fact Try.prog:=⟨ID.slices_Clone_byte_byte,(.pure [1] zan),zgs⟩
noncomputable def zdf (a0:D) (b0:List D):Option D:=
  sif (List.length (a0::b0)≤(4294967296:Nat)) <|
  sif (zdG (1:Nat) (a0::b0)=true) <|
  sif (List.length (a0::b0)=List.length (a0::b0)) <|
  sif (List.all (a0::b0) D.free=true) <|
  some (D.sl Tag.own (a0::b0))
theorem zid (tga0:Tag) (a0:D) (b0:List D):denE Try.prog (zax []) zd9 [1] ID.slices_Clone_byte_byte [.sl tga0 (a0::b0)]=zdf (D.lent a0) (D.lentL b0):=by kernel_rfl
theorem zgS (tga0:Tag) (a0:D) (b0:List D):zan [.sl tga0 (a0::b0)]=zdf (D.lent a0) (D.lentL b0):=zid tga0 a0 b0
theorem zgt (tg:Tag):zan [.sl tg []]=some (.sl .own []):=(zo2 (some (.sl .own [])))
def zhr:Ann:={ loops:=[(1,[.dead,.val (.cell (.int .i64)),.dead,.dead,.dead,.dead,.dead,.box true [(.arr 32)],.dead,.dead,.dead,.dead,.dead,.dead,.dead,.dead,.dead,.dead,.dead,.dead,.dead,.dead,.dead,.dead,.dead,.view 7649 1664,.val (.cell (.int .i64)),.val (.cell (.int .i64))])],ks:=[(7649,false)] }
noncomputable def zbH:List D→List Tb→Option Ans:=denS Try.prog (zax [(ID.disk_Disk_may,(.st [] [0] [(7649,false)] zaW)),(ID.slices_Clone_byte_byte,(.pure [1] zan))]) zhr [1,0] ID.disk_Disk_Read
theorem zlq:za7 Try.prog ID.disk_Disk_Read (.st [] [1,0] [(7649,false)] zbH):=zbg (zaD [zhq,zdV]) zbD ⟨Try.f86,by kernel_rfl,by kernel_rfl,by kernel_rfl⟩
noncomputable def zmp:Fact Try.prog:=⟨ID.disk_Disk_Read,(.st [] [1,0] [(7649,false)] zbH),zlq⟩
noncomputable def zf1 (zaW:List D→List Tb→Option Ans) (zan:List D→Option D) (a0:Nat) (a1:Int) (T0:Tb):Option Ans:=
  zar (zaW [D.h (7649:Nat) a0 (0:Nat),D.int IntKind.i64 a1] [T0]) fun r1=>
  nilK r1.outs <|
  nilK r1.tbs <|
  asI IntKind.i64 r1.r fun i2=>
  brK (i2 != (0:Int))
    (some (Ans.mk (D.tup [D.sl Tag.own [],D.int IntKind.i64 i2]) [] []))
    (sif ((0:Int)≤a1) <|
    sif (Int.toNat a1 < (52:Nat)) <|
    getK T0 a0 fun d3=>
    sif ((0:Nat)+Int.toNat a1*(32:Nat)+(32:Nat)≤List.length d3) <|
    sif (zgK (List.take (32:Nat) (List.drop ((0:Nat)+Int.toNat a1*(32:Nat)) d3))=true) <|
    sif (List.length (List.take (32:Nat) (List.drop ((0:Nat)+Int.toNat a1*(32:Nat)) d3))=(32:Nat)) <|
    sif (List.length (List.take (32:Nat) (List.drop ((0:Nat)+Int.toNat a1*(32:Nat)) d3))=(32:Nat)) <|
    getK T0 a0 fun d4=>
    getK d4 ((1664:Nat)) fun d5=>
    za8 d5 fun l6=>
    getK T0 a0 fun d7=>
    getK d7 ((1664:Nat)) fun d8=>
    za8 d8 fun l9=>
    sif ((0:Nat)+List.length l6≤List.length l9) <|
    zaw ([Lf.arr (32)]) (List.take (32:Nat) (List.drop ((0:Nat)+Int.toNat a1*(32:Nat)) d3)) fun c10=>
    zcb (α:=(Int×(List D×PUnit)×(Nat×Nat×Nat)×Int×Int×PUnit)×List (List D)×PUnit) (fun again11 ((i12,((l13,_),((x14,(x15,x16)),(i17,(i18,_))))),(U19,_))=>
      brK (decide (i18 < i17))
        (getK U19 x14 fun d20=>
        getK d20 ((1664:Nat)) fun d21=>
        za8 d21 fun l22=>
        sif ((0:Int)≤i18) <|
        sif (Int.toNat i18 < x16) <|
        getK U19 x14 fun d23=>
        getK d23 ((1664:Nat)) fun d24=>
        za8 d24 fun l25=>
        getK l25 (x15+Int.toNat i18) fun d26=>
        asAgg d26 fun cs27=>
        zaw ([Lf.int IntKind.i64,Lf.arr (32)]) cs27 fun c28=>
        sif (D.width (D.agg ([D.int IntKind.i64 c28.fst]++(c28.snd.fst++[])))=(33:Nat)) <|
        sif (List.length ([D.int IntKind.i64 c28.fst]++(c28.snd.fst++[]))=(33:Nat)) <|
        brK (c28.fst == i12)
          (sif ((33:Nat)≤List.length ([D.int IntKind.i64 c28.fst]++(c28.snd.fst++[]))) <|
          sif (List.length (List.take (32:Nat) (List.drop (1:Nat) ([D.int IntKind.i64 c28.fst]++(c28.snd.fst++[]))))=(32:Nat)) <|
          sif (List.length (List.take (32:Nat) (List.drop (1:Nat) ([D.int IntKind.i64 c28.fst]++(c28.snd.fst++[]))))=(32:Nat)) <|
          sif ((32:Nat)≤List.length (l13++[])) <|
          letN (IntKind.wrap IntKind.i64 (i18+(1:Int))) fun n29=>
          zaw ([Lf.arr (32)]) (spl (0:Nat) (32:Nat) (l13++[]) (List.take (32:Nat) (List.drop (1:Nat) ([D.int IntKind.i64 c28.fst]++(c28.snd.fst++[]))))) fun c30=>
          again11 (((i12,c30,(x14,x15,x16),i17,n29,PUnit.unit),U19,PUnit.unit)))
          (letN (IntKind.wrap IntKind.i64 (i18+(1:Int))) fun n31=>
          zaw ([Lf.arr (32)]) (l13++[]) fun c32=>
          again11 (((i12,c32,(x14,x15,x16),i17,n31,PUnit.unit),U19,PUnit.unit))))
        (sif ((32:Nat)≤List.length (l13++[])) <|
        sif ((32:Nat)≤List.length (l13++[])) <|
        zar (zan [D.sl Tag.lent (cut (0:Nat) (32:Nat) (l13++[]))]) fun r33=>
        za8 r33 fun l34=>
        sif (List.length l34=List.length l34) <|
        sif (List.all l34 D.free=true) <|
        some (Ans.mk (D.tup [D.sl Tag.own l34,D.int IntKind.i64 (0:Int)]) [] [])))
      (((a1,c10,(a0,(0:Nat),List.length l6),(↑(List.length l6):Int),(0:Int),PUnit.unit),T0,PUnit.unit)))
theorem zpk (zaW:List D→List Tb→Option Ans) (zan:List D→Option D) (a0:Nat) (a1:Int) (T0:Tb):denS Try.prog (zax [(ID.disk_Disk_may,(.st [] [0] [(7649,false)] zaW)),(ID.slices_Clone_byte_byte,(.pure [1] zan))]) zhr [1,0] ID.disk_Disk_Read [.h 7649 a0 0,.int .i64 a1] [T0]=zf1 zaW zan a0 a1 T0:=by kernel_rfl
theorem zmq (a0:Nat) (a1:Int) (T0:Tb):zbH [.h 7649 a0 0,.int .i64 a1] [T0]=zf1 zaW zan a0 a1 T0:=zpk zaW zan a0 a1 T0
def zf9:Ann:={ loops:=[],ks:=[(3840,false),(7649,false)] }
noncomputable def zaB:List D→List Tb→Option Ans:=denS Try.prog (zax [(ID.bench_Bench_may,(.st [] [0] [(3840,false)] zav)),(ID.disk_Disk_Read,(.st [] [1,0] [(7649,false)] zbH))]) zf9 [1,0] ID.bench_Bench_Read
theorem zju:za7 Try.prog ID.bench_Bench_Read (.st [] [1,0] [(3840,false),(7649,false)] zaB):=zbg (zaD [zee,zmp]) zbD ⟨Try.f42,by kernel_rfl,by kernel_rfl,by kernel_rfl⟩
noncomputable def zfQ:Fact Try.prog:=⟨ID.bench_Bench_Read,(.st [] [1,0] [(3840,false),(7649,false)] zaB),zju⟩
noncomputable def zeZ (zav:List D→List Tb→Option Ans) (zbH:List D→List Tb→Option Ans) (a0:Nat) (a1:Int) (a2:Int) (T0:Tb) (T1:Tb):Option Ans:=
  zar (zav [D.h (3840:Nat) a0 (0:Nat),D.int IntKind.i64 a1] [T0]) fun r1=>
  nilK r1.outs <|
  nilK r1.tbs <|
  asI IntKind.i64 r1.r fun i2=>
  brK (i2 != (0:Int))
    (some (Ans.mk (D.tup [D.sl Tag.own [],D.int IntKind.i64 i2]) [] []))
    (getK T0 a0 fun d3=>
    getK d3 ((3:Nat)) fun d4=>
    za8 d4 fun l5=>
    getK T0 a0 fun d6=>
    getK d6 ((3:Nat)) fun d7=>
    za8 d7 fun l8=>
    sif ((0:Int)≤a1) <|
    sif (Int.toNat a1 < List.length l5) <|
    getK T0 a0 fun d9=>
    getK d9 ((3:Nat)) fun d10=>
    za8 d10 fun l11=>
    getK l11 ((0:Nat)+Int.toNat a1) fun d12=>
    sif (D.isAgg d12=false) <|
    sif (D.width d12=(1:Nat)) <|
    sif (D.cell d12=true) <|
    zar (zbH [d12,D.int IntKind.i64 a2] [T1]) fun r13=>
    nilK r13.outs <|
    nilK r13.tbs <|
    zev r13.r fun ts14=>
    zaw ([Lf.any,Lf.any]) ts14 fun c15=>
    za8 c15.fst fun l16=>
    asI IntKind.i64 c15.snd.fst fun i17=>
    sif (List.length l16=List.length l16) <|
    sif (List.all l16 D.free=true) <|
    some (Ans.mk (D.tup [D.sl Tag.own l16,D.int IntKind.i64 i17]) [] []))
theorem znn (zav:List D→List Tb→Option Ans) (zbH:List D→List Tb→Option Ans) (a0:Nat) (a1:Int) (a2:Int) (T0:Tb) (T1:Tb):denS Try.prog (zax [(ID.bench_Bench_may,(.st [] [0] [(3840,false)] zav)),(ID.disk_Disk_Read,(.st [] [1,0] [(7649,false)] zbH))]) zf9 [1,0] ID.bench_Bench_Read [.h 3840 a0 0,.int .i64 a1,.int .i64 a2] [T0,T1]=zeZ zav zbH a0 a1 a2 T0 T1:=by kernel_rfl
theorem zkj (a0:Nat) (a1:Int) (a2:Int) (T0:Tb) (T1:Tb):zaB [.h 3840 a0 0,.int .i64 a1,.int .i64 a2] [T0,T1]=zeZ zav zbH a0 a1 a2 T0 T1:=znn zav zbH a0 a1 a2 T0 T1
def zsF:Ann:={ loops:=[] }
noncomputable def zcz:List D→Option D:=denP Try.prog (zax [(ID.geom_Check,(.pure [0] zaj))]) zsF [0] ID.row_in
theorem zvy:za7 Try.prog ID.row_in (.pure [0] zcz):=zat (zaD [zde]) zbD ⟨Try.f102,by kernel_rfl,by kernel_rfl,by kernel_rfl⟩
noncomputable def zqZ:Fact Try.prog:=⟨ID.row_in,(.pure [0] zcz),zvy⟩
noncomputable def ztV (zaj:List D→Option D) (a0_0:Int) (a0_1:Int) (a0_2:Int) (a1:Int):Option D:=
  zar (zaj [D.agg [D.int IntKind.i64 a0_0,D.int IntKind.i64 a0_1,D.int IntKind.i64 a0_2]]) fun r1=>
  asI IntKind.i64 r1 fun i2=>
  brK (i2 == (0:Int))
    (brK (decide (a1≥(0:Int)))
      (some (D.bool (decide (a1 < (16:Int)))))
      (some (D.bool false)))
    (some (D.bool false))
theorem zCg (zaj:List D→Option D) (a0_0:Int) (a0_1:Int) (a0_2:Int) (a1:Int):denP Try.prog (zax [(ID.geom_Check,(.pure [0] zaj))]) zsF [0] ID.row_in [.agg [.int .i64 a0_0,.int .i64 a0_1,.int .i64 a0_2],.int .i64 a1]=ztV zaj a0_0 a0_1 a0_2 a1:=by kernel_rfl
theorem zwN (a0_0:Int) (a0_1:Int) (a0_2:Int) (a1:Int):zcz [.agg [.int .i64 a0_0,.int .i64 a0_1,.int .i64 a0_2],.int .i64 a1]=ztV zaj a0_0 a0_1 a0_2 a1:=zCg zaj a0_0 a0_1 a0_2 a1
def zkk:Ann:={ loops:=[] }
noncomputable def zbh:List D→Option D:=denP Try.prog (zax [(ID.geom_Check,(.pure [0] zaj))]) zkk [0] ID.geom_Budget
theorem zoj:za7 Try.prog ID.geom_Budget (.pure [0] zbh):=zat (zaD [zde]) zbD ⟨Try.f127,by kernel_rfl,by kernel_rfl,by kernel_rfl⟩
noncomputable def zjf:Fact Try.prog:=⟨ID.geom_Budget,(.pure [0] zbh),zoj⟩
noncomputable def ziR (zaj:List D→Option D) (a0_0:Int) (a0_1:Int) (a0_2:Int):Option D:=
  zar (zaj [D.agg [D.int IntKind.i64 a0_0,D.int IntKind.i64 a0_1,D.int IntKind.i64 a0_2]]) fun r1=>
  asI IntKind.i64 r1 fun i2=>
  brK (i2 != (0:Int))
    (some (D.int IntKind.i64 (0:Int)))
    (letN (IntKind.wrap IntKind.i64 (a0_0 - (4:Int))) fun n3=>
    some (D.int IntKind.i64 n3))
theorem ztW (zaj:List D→Option D) (a0_0:Int) (a0_1:Int) (a0_2:Int):denP Try.prog (zax [(ID.geom_Check,(.pure [0] zaj))]) zkk [0] ID.geom_Budget [.agg [.int .i64 a0_0,.int .i64 a0_1,.int .i64 a0_2]]=ziR zaj a0_0 a0_1 a0_2:=by kernel_rfl
theorem zpl (a0_0:Int) (a0_1:Int) (a0_2:Int):zbh [.agg [.int .i64 a0_0,.int .i64 a0_1,.int .i64 a0_2]]=ziR zaj a0_0 a0_1 a0_2:=ztW zaj a0_0 a0_1 a0_2
def zlR:Ann:={ loops:=[] }
noncomputable def zaS:List D→Option D:=denP Try.prog (zax [(ID.geom_Check,(.pure [0] zaj)),(ID.geom_Budget,(.pure [0] zbh))]) zlR [0] ID.geom_Width
theorem zpm:za7 Try.prog ID.geom_Width (.pure [0] zaS):=zat (zaD [zde,zjf]) zbD ⟨Try.f103,by kernel_rfl,by kernel_rfl,by kernel_rfl⟩
noncomputable def zgT:Fact Try.prog:=⟨ID.geom_Width,(.pure [0] zaS),zpm⟩
noncomputable def zkl (zaj:List D→Option D) (zbh:List D→Option D) (a0_0:Int) (a0_1:Int) (a0_2:Int):Option D:=
  zar (zaj [D.agg [D.int IntKind.i64 a0_0,D.int IntKind.i64 a0_1,D.int IntKind.i64 a0_2]]) fun r1=>
  asI IntKind.i64 r1 fun i2=>
  brK (i2 != (0:Int))
    (some (D.int IntKind.i64 (0:Int)))
    (zar (zbh [D.agg [D.int IntKind.i64 a0_0,D.int IntKind.i64 a0_1,D.int IntKind.i64 a0_2]]) fun r3=>
    asI IntKind.i64 r3 fun i4=>
    letN (IntKind.wrap IntKind.i64 (a0_1 - i4)) fun n5=>
    some (D.int IntKind.i64 n5))
theorem zvz (zaj:List D→Option D) (zbh:List D→Option D) (a0_0:Int) (a0_1:Int) (a0_2:Int):denP Try.prog (zax [(ID.geom_Check,(.pure [0] zaj)),(ID.geom_Budget,(.pure [0] zbh))]) zlR [0] ID.geom_Width [.agg [.int .i64 a0_0,.int .i64 a0_1,.int .i64 a0_2]]=zkl zaj zbh a0_0 a0_1 a0_2:=by kernel_rfl
theorem zq0 (a0_0:Int) (a0_1:Int) (a0_2:Int):zaS [.agg [.int .i64 a0_0,.int .i64 a0_1,.int .i64 a0_2]]=zkl zaj zbh a0_0 a0_1 a0_2:=zvz zaj zbh a0_0 a0_1 a0_2
def zo6:Ann:={ loops:=[] }
noncomputable def zbR:List D→Option D:=denP Try.prog (zax [(ID.geom_Check,(.pure [0] zaj))]) zo6 [0] ID.place_in
theorem zrE:za7 Try.prog ID.place_in (.pure [0] zbR):=zat (zaD [zde]) zbD ⟨Try.f106,by kernel_rfl,by kernel_rfl,by kernel_rfl⟩
noncomputable def zno:Fact Try.prog:=⟨ID.place_in,(.pure [0] zbR),zrE⟩
noncomputable def zok (zaj:List D→Option D) (a0_0:Int) (a0_1:Int) (a0_2:Int) (a1:Int):Option D:=
  zar (zaj [D.agg [D.int IntKind.i64 a0_0,D.int IntKind.i64 a0_1,D.int IntKind.i64 a0_2]]) fun r1=>
  asI IntKind.i64 r1 fun i2=>
  brK (i2 == (0:Int))
    (brK (decide (a1≥(0:Int)))
      (some (D.bool (decide (a1 < (16:Int)))))
      (some (D.bool false)))
    (some (D.bool false))
theorem zyS (zaj:List D→Option D) (a0_0:Int) (a0_1:Int) (a0_2:Int) (a1:Int):denP Try.prog (zax [(ID.geom_Check,(.pure [0] zaj))]) zo6 [0] ID.place_in [.agg [.int .i64 a0_0,.int .i64 a0_1,.int .i64 a0_2],.int .i64 a1]=zok zaj a0_0 a0_1 a0_2 a1:=by kernel_rfl
theorem ztX (a0_0:Int) (a0_1:Int) (a0_2:Int) (a1:Int):zbR [.agg [.int .i64 a0_0,.int .i64 a0_1,.int .i64 a0_2],.int .i64 a1]=zok zaj a0_0 a0_1 a0_2 a1:=zyS zaj a0_0 a0_1 a0_2 a1
def zjg:Ann:={ loops:=[] }
noncomputable def zaK:List D→Option D:=denP Try.prog (zax [(ID.place_in,(.pure [0] zbR))]) zjg [0,0] ID.place_Parity
theorem znp:za7 Try.prog ID.place_Parity (.pure [0,0] zaK):=zat (zaD [zno]) zbD ⟨Try.f88,by kernel_rfl,by kernel_rfl,by kernel_rfl⟩
noncomputable def zfu:Fact Try.prog:=⟨ID.place_Parity,(.pure [0,0] zaK),znp⟩
noncomputable def zhD (zbR:List D→Option D) (a0_0:Int) (a0_1:Int) (a0_2:Int) (a1:Int):Option D:=
  zar (zbR [D.agg [D.int IntKind.i64 a0_0,D.int IntKind.i64 a0_1,D.int IntKind.i64 a0_2],D.int IntKind.i64 a1]) fun r1=>
  asB r1 fun b2=>
  brK (!b2)
    (some (D.tup [D.int IntKind.i64 (-1:Int),D.int IntKind.i64 (-1:Int)]))
    (letN (IntKind.wrap IntKind.i64 (a0_1 - (1:Int))) fun n3=>
    sif (a0_2≠(0:Int)) <|
    letN (IntKind.wrap IntKind.i64 (Int.tdiv a1 a0_2)) fun n4=>
    sif (a0_1≠(0:Int)) <|
    letN (Int.tmod n4 a0_1) fun n5=>
    letN (IntKind.wrap IntKind.i64 (n3 - n5)) fun n6=>
    brK (a0_0 == (5:Int))
      (some (D.tup [D.int IntKind.i64 n6,D.int IntKind.i64 (-1:Int)]))
      (letN (IntKind.wrap IntKind.i64 (n6+(1:Int))) fun n7=>
      sif (a0_1≠(0:Int)) <|
      letN (Int.tmod n7 a0_1) fun n8=>
      some (D.tup [D.int IntKind.i64 n6,D.int IntKind.i64 n8])))
theorem zrF (zbR:List D→Option D) (a0_0:Int) (a0_1:Int) (a0_2:Int) (a1:Int):denP Try.prog (zax [(ID.place_in,(.pure [0] zbR))]) zjg [0,0] ID.place_Parity [.agg [.int .i64 a0_0,.int .i64 a0_1,.int .i64 a0_2],.int .i64 a1]=zhD zbR a0_0 a0_1 a0_2 a1:=by kernel_rfl
theorem zol (a0_0:Int) (a0_1:Int) (a0_2:Int) (a1:Int):zaK [.agg [.int .i64 a0_0,.int .i64 a0_1,.int .i64 a0_2],.int .i64 a1]=zhD zbR a0_0 a0_1 a0_2 a1:=zrF zbR a0_0 a0_1 a0_2 a1
def zlS:Ann:={ loops:=[] }
noncomputable def zbl:List D→Option D:=denP Try.prog (zax [(ID.place_in,(.pure [0] zbR)),(ID.geom_Width,(.pure [0] zaS)),(ID.place_Parity,(.pure [0,0] zaK)),(ID.geom_Budget,(.pure [0] zbh))]) zlS [0] ID.place_Disk
theorem zpn:za7 Try.prog ID.place_Disk (.pure [0] zbl):=zat (zaD [zno,zgT,zfu,zjf]) zbD ⟨Try.f104,by kernel_rfl,by kernel_rfl,by kernel_rfl⟩
noncomputable def zkm:Fact Try.prog:=⟨ID.place_Disk,(.pure [0] zbl),zpn⟩
noncomputable def zkn (zbR:List D→Option D) (zaS:List D→Option D) (zaK:List D→Option D) (zbh:List D→Option D) (a0_0:Int) (a0_1:Int) (a0_2:Int) (a1:Int) (a2:Int):Option D:=
  zar (zbR [D.agg [D.int IntKind.i64 a0_0,D.int IntKind.i64 a0_1,D.int IntKind.i64 a0_2],D.int IntKind.i64 a1]) fun r1=>
  asB r1 fun b2=>
  brK (!b2)
    (some (D.int IntKind.i64 (-1:Int)))
    (brK (decide (a2 < (0:Int)))
      (some (D.int IntKind.i64 (-1:Int)))
      (zar (zaS [D.agg [D.int IntKind.i64 a0_0,D.int IntKind.i64 a0_1,D.int IntKind.i64 a0_2]]) fun r3=>
      asI IntKind.i64 r3 fun i4=>
      brK (decide (a2≥i4))
        (some (D.int IntKind.i64 (-1:Int)))
        (zar (zaK [D.agg [D.int IntKind.i64 a0_0,D.int IntKind.i64 a0_1,D.int IntKind.i64 a0_2],D.int IntKind.i64 a1]) fun r5=>
        zev r5 fun ts6=>
        zaw ([Lf.any,Lf.any]) ts6 fun c7=>
        asI IntKind.i64 c7.fst fun i8=>
        asI IntKind.i64 c7.snd.fst fun i9=>
        zar (zbh [D.agg [D.int IntKind.i64 a0_0,D.int IntKind.i64 a0_1,D.int IntKind.i64 a0_2]]) fun r10=>
        asI IntKind.i64 r10 fun i11=>
        letN (IntKind.wrap IntKind.i64 (i8+i11)) fun n12=>
        letN (IntKind.wrap IntKind.i64 (n12+a2)) fun n13=>
        sif (a0_1≠(0:Int)) <|
        letN (Int.tmod n13 a0_1) fun n14=>
        some (D.int IntKind.i64 n14))))
theorem zvA (zbR:List D→Option D) (zaS:List D→Option D) (zaK:List D→Option D) (zbh:List D→Option D) (a0_0:Int) (a0_1:Int) (a0_2:Int) (a1:Int) (a2:Int):denP Try.prog (zax [(ID.place_in,(.pure [0] zbR)),(ID.geom_Width,(.pure [0] zaS)),(ID.place_Parity,(.pure [0,0] zaK)),(ID.geom_Budget,(.pure [0] zbh))]) zlS [0] ID.place_Disk [.agg [.int .i64 a0_0,.int .i64 a0_1,.int .i64 a0_2],.int .i64 a1,.int .i64 a2]=zkn zbR zaS zaK zbh a0_0 a0_1 a0_2 a1 a2:=by kernel_rfl
theorem zq1 (a0_0:Int) (a0_1:Int) (a0_2:Int) (a1:Int) (a2:Int):zbl [.agg [.int .i64 a0_0,.int .i64 a0_1,.int .i64 a0_2],.int .i64 a1,.int .i64 a2]=zkn zbR zaS zaK zbh a0_0 a0_1 a0_2 a1 a2:=zvA zbR zaS zaK zbh a0_0 a0_1 a0_2 a1 a2
def zie:Ann:={ loops:=[(0,[.dead,.dead,.dead,.own 1,.dead,.dead,.val (.cell .lent),.val (.cell (.int .i64)),.val (.cell (.int .i64))])] }
noncomputable def zbA:List D→Option D:=denP Try.prog (zax []) zie [1] ID.erase_Missing
theorem zmr:za7 Try.prog ID.erase_Missing (.pure [1] zbA):=zat (zaD []) zbD ⟨Try.f128,by kernel_rfl,by kernel_rfl,by kernel_rfl⟩
noncomputable def znq:Fact Try.prog:=⟨ID.erase_Missing,(.pure [1] zbA),zmr⟩
noncomputable def zgU (a0:List D):Option D:=
  zcb (α:=(List D×List D×Int×Int×PUnit)×PUnit) (fun again1 ((l2,(l3,(i4,(i5,_)))),_)=>
    brK (decide (i5 < i4))
      (sif ((0:Int)≤i5) <|
      getK l3 (Int.toNat i5) fun d6=>
      asSl d6 fun t7 l8=>
      brK ((↑(List.length l8):Int) == (0:Int))
        (sif (List.length l2+(1:Nat)≤(4294967296:Nat)) <|
        sif (List.length l2=List.length l2) <|
        letN (IntKind.wrap IntKind.i64 (i5+(1:Int))) fun n9=>
        sif (List.length l2+(1:Nat)=List.length (l2++[D.int IntKind.i64 i5])) <|
        again1 (((l2++[D.int IntKind.i64 i5],l3,i4,n9,PUnit.unit),PUnit.unit)))
        (letN (IntKind.wrap IntKind.i64 (i5+(1:Int))) fun n10=>
        sif (List.length l2=List.length l2) <|
        again1 (((l2,l3,i4,n10,PUnit.unit),PUnit.unit))))
      (sif (List.length l2=List.length l2) <|
      sif (List.all l2 D.free=true) <|
      some (D.sl Tag.own l2)))
    ((([],a0,(↑(List.length a0):Int),(0:Int),PUnit.unit),PUnit.unit))
theorem zq2 (tga0:Tag) (a0:List D):denP Try.prog (zax []) zie [1] ID.erase_Missing [.sl tga0 a0]=zgU (D.lentL a0):=by kernel_rfl
theorem znr (tga0:Tag) (a0:List D):zbA [.sl tga0 a0]=zgU (D.lentL a0):=zq2 tga0 a0
def zjh:Ann:={ loops:=[],hints:=[(1,.at1 (.int .i64))] }
noncomputable def zaE:List D→Option D:=denP Try.prog (zax []) zjh [0] ID.erase_fits_1
theorem zns:za7 Try.prog ID.erase_fits_1 (.pure [0] zaE):=zat (zaD []) zbD ⟨Try.f140,by kernel_rfl,by kernel_rfl,by kernel_rfl⟩
noncomputable def zif:Fact Try.prog:=⟨ID.erase_fits_1,(.pure [0] zaE),zns⟩
noncomputable def zhE (a0:List D) (c0:Int):Option D:=
  brK (decide ((↑(List.length a0):Int) > (0:Int)))
    (some (D.bool ((↑(List.length a0):Int) != c0)))
    (some (D.bool false))
theorem zrG (tga0:Tag) (a0:List D) (c0:Int):denP Try.prog (zax []) zjh [0] ID.erase_fits_1 [.sl tga0 a0,.at_ (.int .i64 c0)]=zhE (D.lentL a0) c0:=by kernel_rfl
theorem zom (tga0:Tag) (a0:List D) (c0:Int):zaE [.sl tga0 a0,.at_ (.int .i64 c0)]=zhE (D.lentL a0) c0:=zrG tga0 a0 c0
def zih:Ann:={ loops:=[] }
noncomputable def zap:List D→Option D:=denP Try.prog (zax []) zih [0] ID.row_sectors_1
theorem zms:za7 Try.prog ID.row_sectors_1 (.pure [0] zap):=zat (zaD []) zbD ⟨Try.f135,by kernel_rfl,by kernel_rfl,by kernel_rfl⟩
noncomputable def ze0:Fact Try.prog:=⟨ID.row_sectors_1,(.pure [0] zap),zms⟩
noncomputable def zgV (a0:List D):Option D:=
  some (D.bool ((↑(List.length a0):Int) != (32:Int)))
theorem zq3 (tga0:Tag) (a0:List D):denP Try.prog (zax []) zih [0] ID.row_sectors_1 [.sl tga0 a0]=zgV (D.lentL a0):=by kernel_rfl
theorem znt (tga0:Tag) (a0:List D):zap [.sl tga0 a0]=zgV (D.lentL a0):=zq3 tga0 a0
def zcv:List (Nat×Ann):=[(140,{ loops:=[(0,[.val (.cell .lent),.val (.fn1 (140:FuncId) (.int .i64)),.dead,.dead,.dead,.dead,.dead,.val (.cell (.int .i64)),.val (.cell (.int .i64))])] }),(135,{ loops:=[(0,[.val (.cell .lent),.fnc 135,.dead,.dead,.dead,.dead,.dead,.val (.cell (.int .i64)),.val (.cell (.int .i64))])] })]
noncomputable def zah:List D→Option D:=denA Try.prog (zax [(ID.erase_fits_1,(.pure [0] zaE)),(ID.row_sectors_1,(.pure [0] zap))]) zcv [0] ID.slices_IndexFunc_byte_byte
theorem zfd:za7 Try.prog ID.slices_IndexFunc_byte_byte (.pure [0] zah):=zsw (zaD [zif,ze0]) zbD ⟨Try.f143,by kernel_rfl,by kernel_rfl,by kernel_rfl⟩
noncomputable def zfv:Fact Try.prog:=⟨ID.slices_IndexFunc_byte_byte,(.pure [0] zah),zfd⟩
noncomputable def zce (zaE:List D→Option D) (zap:List D→Option D) (a0:List D) (c0:Int):Option D:=
  zcb (α:=(List D×Int×Int×Int×PUnit)×PUnit) (fun again1 ((l2,(i3,(i4,(i5,_)))),_)=>
    brK (decide (i5 < i4))
      (sif ((0:Int)≤i5) <|
      getK l2 (Int.toNat i5) fun d6=>
      asSl d6 fun t7 l8=>
      zar (zaE [D.sl t7 l8,D.at_ (D.int IntKind.i64 i3)]) fun r9=>
      asB r9 fun b10=>
      brK b10
        (some (D.int IntKind.i64 i5))
        (letN (IntKind.wrap IntKind.i64 (i5+(1:Int))) fun n11=>
        again1 (((l2,i3,i4,n11,PUnit.unit),PUnit.unit))))
      (some (D.int IntKind.i64 (-1:Int))))
    (((a0,c0,(↑(List.length a0):Int),(0:Int),PUnit.unit),PUnit.unit))
theorem zeO (zaE:List D→Option D) (zap:List D→Option D) (tga0:Tag) (a0:List D) (c0:Int):denA Try.prog (zax [(ID.erase_fits_1,(.pure [0] zaE)),(ID.row_sectors_1,(.pure [0] zap))]) zcv [0] ID.slices_IndexFunc_byte_byte [.sl tga0 a0,.fn 140 [] [.at_ (.int .i64 c0)]]=zce zaE zap (D.lentL a0) c0:=by kernel_rfl
theorem zef (tga0:Tag) (a0:List D) (c0:Int):zah [.sl tga0 a0,.fn 140 [] [.at_ (.int .i64 c0)]]=zce zaE zap (D.lentL a0) c0:=zeO zaE zap tga0 a0 c0
noncomputable def zb1 (zaE:List D→Option D) (zap:List D→Option D) (a0:List D):Option D:=
  zcb (α:=(List D×Int×Int×PUnit)×PUnit) (fun again1 ((l2,(i3,(i4,_))),_)=>
    brK (decide (i4 < i3))
      (sif ((0:Int)≤i4) <|
      getK l2 (Int.toNat i4) fun d5=>
      asSl d5 fun t6 l7=>
      zar (zap [D.sl t6 l7]) fun r8=>
      asB r8 fun b9=>
      brK b9
        (some (D.int IntKind.i64 i4))
        (letN (IntKind.wrap IntKind.i64 (i4+(1:Int))) fun n10=>
        again1 (((l2,i3,n10,PUnit.unit),PUnit.unit))))
      (some (D.int IntKind.i64 (-1:Int))))
    (((a0,(↑(List.length a0):Int),(0:Int),PUnit.unit),PUnit.unit))
theorem zeg (zaE:List D→Option D) (zap:List D→Option D) (tga0:Tag) (a0:List D):denA Try.prog (zax [(ID.erase_fits_1,(.pure [0] zaE)),(ID.row_sectors_1,(.pure [0] zap))]) zcv [0] ID.slices_IndexFunc_byte_byte [.sl tga0 a0,.fn 135 [] []]=zb1 zaE zap (D.lentL a0):=by kernel_rfl
theorem zdI (tga0:Tag) (a0:List D):zah [.sl tga0 a0,.fn 135 [] []]=zb1 zaE zap (D.lentL a0):=zeg zaE zap tga0 a0
def zch:Ann:={ loops:=[] }
noncomputable def zaf:List D→Option D:=denP Try.prog (zax [(ID.slices_IndexFunc_byte_byte,(.pure [0] zah)),(ID.erase_fits_1,(.pure [0] zaE)),(ID.row_sectors_1,(.pure [0] zap))]) zch [0] ID.slices_ContainsFunc_byte_byte
theorem zeA:za7 Try.prog ID.slices_ContainsFunc_byte_byte (.pure [0] zaf):=zat (zaD [zfv,zif,ze0]) zbD ⟨Try.f134,by kernel_rfl,by kernel_rfl,by kernel_rfl⟩
noncomputable def zcV:Fact Try.prog:=⟨ID.slices_ContainsFunc_byte_byte,(.pure [0] zaf),zeA⟩
noncomputable def zb2 (zah:List D→Option D) (zaE:List D→Option D) (zap:List D→Option D) (a0:List D) (c0:Int):Option D:=
  zar (zah [D.sl Tag.lent a0,D.fn (140:FuncId) [] [D.at_ (D.int IntKind.i64 c0)]]) fun r1=>
  asI IntKind.i64 r1 fun i2=>
  some (D.bool (decide (i2≥(0:Int))))
theorem zeh (zah:List D→Option D) (zaE:List D→Option D) (zap:List D→Option D) (tga0:Tag) (a0:List D) (c0:Int):denP Try.prog (zax [(ID.slices_IndexFunc_byte_byte,(.pure [0] zah)),(ID.erase_fits_1,(.pure [0] zaE)),(ID.row_sectors_1,(.pure [0] zap))]) zch [0] ID.slices_ContainsFunc_byte_byte [.sl tga0 a0,.fn 140 [] [.at_ (.int .i64 c0)]]=zb2 zah zaE zap (D.lentL a0) c0:=by kernel_rfl
theorem zdJ (tga0:Tag) (a0:List D) (c0:Int):zaf [.sl tga0 a0,.fn 140 [] [.at_ (.int .i64 c0)]]=zb2 zah zaE zap (D.lentL a0) c0:=zeh zah zaE zap tga0 a0 c0
noncomputable def zbP (zah:List D→Option D) (zaE:List D→Option D) (zap:List D→Option D) (a0:List D):Option D:=
  zar (zah [D.sl Tag.lent a0,D.fn (135:FuncId) [] []]) fun r1=>
  asI IntKind.i64 r1 fun i2=>
  some (D.bool (decide (i2≥(0:Int))))
theorem zdK (zah:List D→Option D) (zaE:List D→Option D) (zap:List D→Option D) (tga0:Tag) (a0:List D):denP Try.prog (zax [(ID.slices_IndexFunc_byte_byte,(.pure [0] zah)),(ID.erase_fits_1,(.pure [0] zaE)),(ID.row_sectors_1,(.pure [0] zap))]) zch [0] ID.slices_ContainsFunc_byte_byte [.sl tga0 a0,.fn 135 [] []]=zbP zah zaE zap (D.lentL a0):=by kernel_rfl
theorem zdq (tga0:Tag) (a0:List D):zaf [.sl tga0 a0,.fn 135 [] []]=zbP zah zaE zap (D.lentL a0):=zdK zah zaE zap tga0 a0
def zlT:Ann:={ loops:=[] }
noncomputable def zb4:List D→Option D:=denP Try.prog (zax [(ID.slices_ContainsFunc_byte_byte,(.pure [0] zaf))]) zlT [0] ID.erase_fits
theorem zpo:za7 Try.prog ID.erase_fits (.pure [0] zb4):=zat (zaD [zcV]) zbD ⟨Try.f129,by kernel_rfl,by kernel_rfl,by kernel_rfl⟩
noncomputable def zq4:Fact Try.prog:=⟨ID.erase_fits,(.pure [0] zb4),zpo⟩
noncomputable def zko (zaf:List D→Option D) (a0:Int) (a1:List D):Option D:=
  zar (zaf [D.sl Tag.lent a1,D.fn (140:Nat) [] [D.at_ (D.int IntKind.i64 a0)]]) fun r1=>
  asB r1 fun b2=>
  some (D.bool !b2)
theorem zvB (zaf:List D→Option D) (tga1:Tag) (a0:Int) (a1:List D):denP Try.prog (zax [(ID.slices_ContainsFunc_byte_byte,(.pure [0] zaf))]) zlT [0] ID.erase_fits [.int .i64 a0,.sl tga1 a1]=zko zaf a0 (D.lentL a1):=by kernel_rfl
theorem zq5 (tga1:Tag) (a0:Int) (a1:List D):zb4 [.int .i64 a0,.sl tga1 a1]=zko zaf a0 (D.lentL a1):=zvB zaf tga1 a0 a1
def zji:Ann:={ loops:=[(0,[.val (.cell (.int .i64)),.dead,.dead,.dead,.dead,.own 1,.dead,.dead,.dead,.val (.cell .lent),.val (.cell (.int .i64)),.val (.cell (.int .i64))])] }
noncomputable def zbM:List D→Option D:=denP Try.prog (zax []) zji [1] ID.erase_filled
theorem znu:za7 Try.prog ID.erase_filled (.pure [1] zbM):=zat (zaD []) zbD ⟨Try.f130,by kernel_rfl,by kernel_rfl,by kernel_rfl⟩
noncomputable def zon:Fact Try.prog:=⟨ID.erase_filled,(.pure [1] zbM),znu⟩
noncomputable def zhF (a0:Int) (a1:List D):Option D:=
  zcb (α:=(Int×List D×List D×Int×Int×PUnit)×PUnit) (fun again1 ((i2,(l3,(l4,(i5,(i6,_))))),_)=>
    brK (decide (i6 < i5))
      (sif ((0:Int)≤i6) <|
      getK l4 (Int.toNat i6) fun d7=>
      asSl d7 fun t8 l9=>
      sif ((0:Int)≤i2) <|
      sif (i2=i2) <|
      sif (i2*(1:Int)≤(140737488355328:Int)) <|
      sif (i2≤(140737488355328:Int)) <|
      sif ((0:Nat)+Int.toNat i2≤List.length (List.replicate (Int.toNat i2) (D.int IntKind.u8 (0:Int)))) <|
      sif (cells l9=true) <|
      sif ((0:Nat)+Int.toNat i2≤List.length ([]++List.take (Int.toNat i2) l9++List.drop ((0:Nat)+List.length (List.take (Int.toNat i2) l9)) (List.replicate (Int.toNat i2) (D.int IntKind.u8 (0:Int))))) <|
      sif (List.length l3+(1:Nat)≤(4294967296:Nat)) <|
      sif (List.length l3=List.length l3) <|
      letN (IntKind.wrap IntKind.i64 (i6+(1:Int))) fun n10=>
      sif (List.length l3+(1:Nat)=List.length (l3++[D.sl Tag.fresh (cut (0:Nat) (Int.toNat i2) ([]++List.take (Int.toNat i2) l9++List.drop ((0:Nat)+List.length (List.take (Int.toNat i2) l9)) (List.replicate (Int.toNat i2) (D.int IntKind.u8 (0:Int)))))])) <|
      again1 (((i2,l3++[D.sl Tag.fresh (cut (0:Nat) (Int.toNat i2) ([]++List.take (Int.toNat i2) l9++List.drop ((0:Nat)+List.length (List.take (Int.toNat i2) l9)) (List.replicate (Int.toNat i2) (D.int IntKind.u8 (0:Int)))))],l4,i5,n10,PUnit.unit),PUnit.unit)))
      (sif (List.length l3=List.length l3) <|
      sif (List.all l3 D.free=true) <|
      some (D.sl Tag.own l3)))
    (((a0,[],a1,(↑(List.length a1):Int),(0:Int),PUnit.unit),PUnit.unit))
theorem zrH (tga1:Tag) (a0:Int) (a1:List D):denP Try.prog (zax []) zji [1] ID.erase_filled [.int .i64 a0,.sl tga1 a1]=zhF a0 (D.lentL a1):=by kernel_rfl
theorem zoo (tga1:Tag) (a0:Int) (a1:List D):zbM [.int .i64 a0,.sl tga1 a1]=zhF a0 (D.lentL a1):=zrH tga1 a0 a1
def znv:Ann:={ loops:=[] }
noncomputable def za2:List D→Option D:=denP Try.prog (zax []) znv [0] ID.gf_double
theorem zq6:za7 Try.prog ID.gf_double (.pure [0] za2):=zat (zaD []) zbD ⟨Try.f144,by kernel_rfl,by kernel_rfl,by kernel_rfl⟩
noncomputable def zhG:Fact Try.prog:=⟨ID.gf_double,(.pure [0] za2),zq6⟩
noncomputable def zmt (a0:Int):Option D:=
  brK (decide (a0≥(128:Int)))
    (letN (IntKind.wrap IntKind.u8 (a0*(2:Int))) fun n1=>
    letN (bits BinOp.xor IntKind.u8 n1 (29:Int)) fun n2=>
    some (D.int IntKind.u8 n2))
    (letN (IntKind.wrap IntKind.u8 (a0*(2:Int))) fun n3=>
    some (D.int IntKind.u8 n3))
theorem zwO (a0:Int):denP Try.prog (zax []) znv [0] ID.gf_double [.int .u8 a0]=zmt a0:=by kernel_rfl
theorem zrI (a0:Int):za2 [.int .u8 a0]=zmt a0:=zwO a0
def zsG:Ann:={ loops:=[(0,[.val (.cell (.int .u8)),.val (.cell (.int .u8)),.dead,.dead,.dead,.val (.cell (.int .u8))])] }
noncomputable def zer:List D→Option D:=denP Try.prog (zax [(ID.gf_double,(.pure [0] za2))]) zsG [0] ID.gf_Mul
theorem zvC:za7 Try.prog ID.gf_Mul (.pure [0] zer):=zat (zaD [zhG]) zbD ⟨Try.f146,by kernel_rfl,by kernel_rfl,by kernel_rfl⟩
noncomputable def zwP:Fact Try.prog:=⟨ID.gf_Mul,(.pure [0] zer),zvC⟩
noncomputable def ztY (za2:List D→Option D) (a0:Int) (a1:Int):Option D:=
  zcb (α:=(Int×Int×Int×PUnit)×PUnit) (fun again1 ((i2,(i3,(i4,_))),_)=>
    brK (decide (i3 > (0:Int)))
      (letN (bits BinOp.and IntKind.u8 i3 (1:Int)) fun n5=>
      brK (n5 == (1:Int))
        (letN (bits BinOp.xor IntKind.u8 i4 i2) fun n6=>
        zar (za2 [D.int IntKind.u8 i2]) fun r7=>
        asI IntKind.u8 r7 fun i8=>
        letN (Int.fdiv i3 (2:Int)) fun n9=>
        again1 (((i8,n9,n6,PUnit.unit),PUnit.unit)))
        (zar (za2 [D.int IntKind.u8 i2]) fun r10=>
        asI IntKind.u8 r10 fun i11=>
        letN (Int.fdiv i3 (2:Int)) fun n12=>
        again1 (((i11,n12,i4,PUnit.unit),PUnit.unit))))
      (some (D.int IntKind.u8 i4)))
    (((a0,a1,(0:Int),PUnit.unit),PUnit.unit))
theorem zCh (za2:List D→Option D) (a0:Int) (a1:Int):denP Try.prog (zax [(ID.gf_double,(.pure [0] za2))]) zsG [0] ID.gf_Mul [.int .u8 a0,.int .u8 a1]=ztY za2 a0 a1:=by kernel_rfl
theorem zwQ (a0:Int) (a1:Int):zer [.int .u8 a0,.int .u8 a1]=ztY za2 a0 a1:=zCh za2 a0 a1
def zlU:Ann:={ loops:=[(0,[.dead,.val (.cell (.int .u8)),.dead,.dead,.dead,.own 1,.dead,.dead,.val (.cell .lent),.val (.cell (.int .i64)),.val (.cell (.int .i64))])] }
noncomputable def zaI:List D→Option D:=denP Try.prog (zax [(ID.gf_Mul,(.pure [0] zer))]) zlU [1] ID.synd_Scale
theorem zpp:za7 Try.prog ID.synd_Scale (.pure [1] zaI):=zat (zaD [zwP]) zbD ⟨Try.f142,by kernel_rfl,by kernel_rfl,by kernel_rfl⟩
noncomputable def zgW:Fact Try.prog:=⟨ID.synd_Scale,(.pure [1] zaI),zpp⟩
noncomputable def zkp (zer:List D→Option D) (a0:List D) (a1:Int):Option D:=
  zcb (α:=(Int×List D×List D×Int×Int×PUnit)×PUnit) (fun again1 ((i2,(l3,(l4,(i5,(i6,_))))),_)=>
    brK (decide (i6 < i5))
      (sif ((0:Int)≤i6) <|
      getK l4 (Int.toNat i6) fun d7=>
      asI IntKind.u8 d7 fun i8=>
      zar (zer [D.int IntKind.u8 i8,D.int IntKind.u8 i2]) fun r9=>
      asI IntKind.u8 r9 fun i10=>
      sif (List.length l3+(1:Nat)≤(4294967296:Nat)) <|
      sif (List.length l3=List.length l3) <|
      letN (IntKind.wrap IntKind.i64 (i6+(1:Int))) fun n11=>
      sif (List.length l3+(1:Nat)=List.length (l3++[D.int IntKind.u8 i10])) <|
      again1 (((i2,l3++[D.int IntKind.u8 i10],l4,i5,n11,PUnit.unit),PUnit.unit)))
      (sif (List.length l3=List.length l3) <|
      sif (List.all l3 D.free=true) <|
      some (D.sl Tag.own l3)))
    (((a1,[],a0,(↑(List.length a0):Int),(0:Int),PUnit.unit),PUnit.unit))
theorem zvD (zer:List D→Option D) (tga0:Tag) (a0:List D) (a1:Int):denP Try.prog (zax [(ID.gf_Mul,(.pure [0] zer))]) zlU [1] ID.synd_Scale [.sl tga0 a0,.int .u8 a1]=zkp zer (D.lentL a0) a1:=by kernel_rfl
theorem zq7 (tga0:Tag) (a0:List D) (a1:Int):zaI [.sl tga0 a0,.int .u8 a1]=zkp zer (D.lentL a0) a1:=zvD zer tga0 a0 a1
def zo7:Ann:={ loops:=[(1,[.dead,.val (.cell .lent),.dead,.dead,.dead,.own 1,.dead,.dead,.dead,.dead,.dead,.dead,.dead,.val (.cell .lent),.val (.cell (.int .i64)),.val (.cell (.int .i64))])] }
noncomputable def zaL:List D→Option D:=denP Try.prog (zax []) zo7 [1] ID.synd_Add
theorem zrJ:za7 Try.prog ID.synd_Add (.pure [1] zaL):=zat (zaD []) zbD ⟨Try.f132,by kernel_rfl,by kernel_rfl,by kernel_rfl⟩
noncomputable def zgu:Fact Try.prog:=⟨ID.synd_Add,(.pure [1] zaL),zrJ⟩
noncomputable def zop (a0:List D) (a1:List D):Option D:=
  brK ((↑(List.length a0):Int) != (↑(List.length a1):Int))
    (some (D.sl Tag.own []))
    (zcb (α:=(List D×List D×List D×Int×Int×PUnit)×PUnit) (fun again1 ((l2,(l3,(l4,(i5,(i6,_))))),_)=>
      brK (decide (i6 < i5))
        (sif ((0:Int)≤i6) <|
        getK l4 (Int.toNat i6) fun d7=>
        asI IntKind.u8 d7 fun i8=>
        sif ((0:Int)≤i6) <|
        getK l2 (Int.toNat i6) fun d9=>
        asI IntKind.u8 d9 fun i10=>
        letN (bits BinOp.xor IntKind.u8 i8 i10) fun n11=>
        sif (List.length l3+(1:Nat)≤(4294967296:Nat)) <|
        sif (List.length l3=List.length l3) <|
        letN (IntKind.wrap IntKind.i64 (i6+(1:Int))) fun n12=>
        sif (List.length l3+(1:Nat)=List.length (l3++[D.int IntKind.u8 n11])) <|
        again1 (((l2,l3++[D.int IntKind.u8 n11],l4,i5,n12,PUnit.unit),PUnit.unit)))
        (sif (List.length l3=List.length l3) <|
        sif (List.all l3 D.free=true) <|
        some (D.sl Tag.own l3)))
      (((a1,[],a0,(↑(List.length a0):Int),(0:Int),PUnit.unit),PUnit.unit)))
theorem zyT (tga0:Tag) (tga1:Tag) (a0:List D) (a1:List D):denP Try.prog (zax []) zo7 [1] ID.synd_Add [.sl tga0 a0,.sl tga1 a1]=zop (D.lentL a0) (D.lentL a1):=by kernel_rfl
theorem ztZ (tga0:Tag) (tga1:Tag) (a0:List D) (a1:List D):zaL [.sl tga0 a0,.sl tga1 a1]=zop (D.lentL a0) (D.lentL a1):=zyT tga0 tga1 a0 a1
def zsH:Ann:={ loops:=[(0,[.dead,.dead,.dead,.val (.cell (.int .u8)),.dead,.dead,.dead,.val (.cell (.int .i64)),.val (.cell (.int .i64))])] }
noncomputable def zaU:List D→Option D:=denP Try.prog (zax [(ID.gf_double,(.pure [0] za2))]) zsH [0] ID.gf_Pow
theorem zvE:za7 Try.prog ID.gf_Pow (.pure [0] zaU):=zat (zaD [zhG]) zbD ⟨Try.f138,by kernel_rfl,by kernel_rfl,by kernel_rfl⟩
noncomputable def zgX:Fact Try.prog:=⟨ID.gf_Pow,(.pure [0] zaU),zvE⟩
noncomputable def zpM (za2:List D→Option D) (a0:Int):Option D:=
  letN (Int.tmod a0 (255:Int)) fun n1=>
  letN (IntKind.wrap IntKind.i64 (n1+(255:Int))) fun n2=>
  letN (Int.tmod n2 (255:Int)) fun n3=>
  zcb (α:=(Int×Int×Int×PUnit)×PUnit) (fun again4 ((i5,(i6,(i7,_))),_)=>
    brK (decide (i7 < i6))
      (zar (za2 [D.int IntKind.u8 i5]) fun r8=>
      asI IntKind.u8 r8 fun i9=>
      letN (IntKind.wrap IntKind.i64 (i7+(1:Int))) fun n10=>
      again4 (((i9,i6,n10,PUnit.unit),PUnit.unit)))
      (some (D.int IntKind.u8 i5)))
    ((((1:Int),n3,(0:Int),PUnit.unit),PUnit.unit))
theorem zCi (za2:List D→Option D) (a0:Int):denP Try.prog (zax [(ID.gf_double,(.pure [0] za2))]) zsH [0] ID.gf_Pow [.int .i64 a0]=zpM za2 a0:=by kernel_rfl
theorem zq8 (a0:Int):zaU [.int .i64 a0]=zpM za2 a0:=zCi za2 a0
def zo8:Ann:={ loops:=[] }
noncomputable def zbv:List D→Option D:=denP Try.prog (zax []) zo8 [0] ID.synd_P_1
theorem zrK:za7 Try.prog ID.synd_P_1 (.pure [0] zbv):=zat (zaD []) zbD ⟨Try.f137,by kernel_rfl,by kernel_rfl,by kernel_rfl⟩
noncomputable def znw:Fact Try.prog:=⟨ID.synd_P_1,(.pure [0] zbv),zrK⟩
noncomputable def zsI (a0:Int):Option D:=
  some (D.int IntKind.u8 (1:Int))
theorem zyU (a0:Int):denP Try.prog (zax []) zo8 [0] ID.synd_P_1 [.int .i64 a0]=zsI a0:=by kernel_rfl
theorem zt0 (a0:Int):zbv [.int .i64 a0]=zsI a0:=zyU a0
def zkq:List (Nat×Ann):=[(137,{ loops:=[(1,[.dead,.fnc 137,.dead,.dead,.dead,.own 1,.dead,.dead,.dead,.dead,.dead,.dead,.dead,.dead,.dead,.dead,.val (.cell .lent),.val (.cell (.int .i64)),.val (.cell (.int .i64))])] }),(138,{ loops:=[(1,[.dead,.fnc 138,.dead,.dead,.dead,.own 1,.dead,.dead,.dead,.dead,.dead,.dead,.dead,.dead,.dead,.dead,.val (.cell .lent),.val (.cell (.int .i64)),.val (.cell (.int .i64))])] })]
noncomputable def zbJ:List D→Option D:=denA Try.prog (zax [(ID.synd_Scale,(.pure [1] zaI)),(ID.synd_Add,(.pure [1] zaL)),(ID.gf_Pow,(.pure [0] zaU)),(ID.synd_P_1,(.pure [0] zbv))]) zkq [1] ID.synd_sum
theorem zrL:za7 Try.prog ID.synd_sum (.pure [1] zbJ):=zsw (zaD [zgW,zgu,zgX,znw]) zbD ⟨Try.f136,by kernel_rfl,by kernel_rfl,by kernel_rfl⟩
noncomputable def znx:Fact Try.prog:=⟨ID.synd_sum,(.pure [1] zbJ),zrL⟩
noncomputable def ziS (zaI:List D→Option D) (zaL:List D→Option D) (zaU:List D→Option D) (zbv:List D→Option D) (a0:List D):Option D:=
  brK ((↑(List.length a0):Int) == (0:Int))
    (some (D.sl Tag.own []))
    (getK a0 ((0:Nat)) fun d1=>
    asSl d1 fun t2 l3=>
    sif ((↑(List.length l3):Int)=(↑(List.length l3):Int)) <|
    sif ((↑(List.length l3):Int)*(1:Int)≤(140737488355328:Int)) <|
    sif ((↑(List.length l3):Int)≤(140737488355328:Int)) <|
    sif (Int.toNat (↑(List.length l3):Int)=List.length (List.replicate (Int.toNat (↑(List.length l3):Int)) (D.int IntKind.u8 (0:Int)))) <|
    zcb (α:=(List D×List D×Int×Int×PUnit)×PUnit) (fun again4 ((l5,(l6,(i7,(i8,_)))),_)=>
      brK (decide (i8 < i7))
        (sif ((0:Int)≤i8) <|
        getK l6 (Int.toNat i8) fun d9=>
        asSl d9 fun t10 l11=>
        sif ((0:Nat)+List.length l5≤List.length l5) <|
        brK ((↑(List.length l11):Int) != (↑(List.length l5):Int))
          (some (D.sl Tag.own []))
          (zar (zbv [D.int IntKind.i64 i8]) fun r12=>
          asI IntKind.u8 r12 fun i13=>
          zar (zaI [D.sl t10 l11,D.int IntKind.u8 i13]) fun r14=>
          za8 r14 fun l15=>
          sif ((0:Nat)+List.length l5≤List.length l5) <|
          sif ((0:Nat)+List.length l15≤List.length l15) <|
          zar (zaL [D.sl Tag.lent (cut (0:Nat) (List.length l5) l5),D.sl Tag.lent (cut (0:Nat) (List.length l15) l15)]) fun r16=>
          za8 r16 fun l17=>
          letN (IntKind.wrap IntKind.i64 (i8+(1:Int))) fun n18=>
          sif (List.length l17=List.length l17) <|
          again4 (((l17,l6,i7,n18,PUnit.unit),PUnit.unit))))
        (sif (List.length l5=List.length l5) <|
        sif (List.all l5 D.free=true) <|
        some (D.sl Tag.own l5)))
      (((List.replicate (Int.toNat (↑(List.length l3):Int)) (D.int IntKind.u8 (0:Int)),a0,(↑(List.length a0):Int),(0:Int),PUnit.unit),PUnit.unit)))
theorem zt1 (zaI:List D→Option D) (zaL:List D→Option D) (zaU:List D→Option D) (zbv:List D→Option D) (tga0:Tag) (a0:List D):denA Try.prog (zax [(ID.synd_Scale,(.pure [1] zaI)),(ID.synd_Add,(.pure [1] zaL)),(ID.gf_Pow,(.pure [0] zaU)),(ID.synd_P_1,(.pure [0] zbv))]) zkq [1] ID.synd_sum [.sl tga0 a0,.fn 137 [] []]=ziS zaI zaL zaU zbv (D.lentL a0):=by kernel_rfl
theorem zpq (tga0:Tag) (a0:List D):zbJ [.sl tga0 a0,.fn 137 [] []]=ziS zaI zaL zaU zbv (D.lentL a0):=zt1 zaI zaL zaU zbv tga0 a0
noncomputable def ziT (zaI:List D→Option D) (zaL:List D→Option D) (zaU:List D→Option D) (zbv:List D→Option D) (a0:List D):Option D:=
  brK ((↑(List.length a0):Int) == (0:Int))
    (some (D.sl Tag.own []))
    (getK a0 ((0:Nat)) fun d1=>
    asSl d1 fun t2 l3=>
    sif ((↑(List.length l3):Int)=(↑(List.length l3):Int)) <|
    sif ((↑(List.length l3):Int)*(1:Int)≤(140737488355328:Int)) <|
    sif ((↑(List.length l3):Int)≤(140737488355328:Int)) <|
    sif (Int.toNat (↑(List.length l3):Int)=List.length (List.replicate (Int.toNat (↑(List.length l3):Int)) (D.int IntKind.u8 (0:Int)))) <|
    zcb (α:=(List D×List D×Int×Int×PUnit)×PUnit) (fun again4 ((l5,(l6,(i7,(i8,_)))),_)=>
      brK (decide (i8 < i7))
        (sif ((0:Int)≤i8) <|
        getK l6 (Int.toNat i8) fun d9=>
        asSl d9 fun t10 l11=>
        sif ((0:Nat)+List.length l5≤List.length l5) <|
        brK ((↑(List.length l11):Int) != (↑(List.length l5):Int))
          (some (D.sl Tag.own []))
          (zar (zaU [D.int IntKind.i64 i8]) fun r12=>
          asI IntKind.u8 r12 fun i13=>
          zar (zaI [D.sl t10 l11,D.int IntKind.u8 i13]) fun r14=>
          za8 r14 fun l15=>
          sif ((0:Nat)+List.length l5≤List.length l5) <|
          sif ((0:Nat)+List.length l15≤List.length l15) <|
          zar (zaL [D.sl Tag.lent (cut (0:Nat) (List.length l5) l5),D.sl Tag.lent (cut (0:Nat) (List.length l15) l15)]) fun r16=>
          za8 r16 fun l17=>
          letN (IntKind.wrap IntKind.i64 (i8+(1:Int))) fun n18=>
          sif (List.length l17=List.length l17) <|
          again4 (((l17,l6,i7,n18,PUnit.unit),PUnit.unit))))
        (sif (List.length l5=List.length l5) <|
        sif (List.all l5 D.free=true) <|
        some (D.sl Tag.own l5)))
      (((List.replicate (Int.toNat (↑(List.length l3):Int)) (D.int IntKind.u8 (0:Int)),a0,(↑(List.length a0):Int),(0:Int),PUnit.unit),PUnit.unit)))
theorem zt2 (zaI:List D→Option D) (zaL:List D→Option D) (zaU:List D→Option D) (zbv:List D→Option D) (tga0:Tag) (a0:List D):denA Try.prog (zax [(ID.synd_Scale,(.pure [1] zaI)),(ID.synd_Add,(.pure [1] zaL)),(ID.gf_Pow,(.pure [0] zaU)),(ID.synd_P_1,(.pure [0] zbv))]) zkq [1] ID.synd_sum [.sl tga0 a0,.fn 138 [] []]=ziT zaI zaL zaU zbv (D.lentL a0):=by kernel_rfl
theorem zpr (tga0:Tag) (a0:List D):zbJ [.sl tga0 a0,.fn 138 [] []]=ziT zaI zaL zaU zbv (D.lentL a0):=zt2 zaI zaL zaU zbv tga0 a0
def zsJ:Ann:={ loops:=[] }
noncomputable def zbT:List D→Option D:=denP Try.prog (zax [(ID.synd_sum,(.pure [1] zbJ)),(ID.synd_P_1,(.pure [0] zbv))]) zsJ [1] ID.synd_P
theorem zvF:za7 Try.prog ID.synd_P (.pure [1] zbT):=zat (zaD [znx,znw]) zbD ⟨Try.f110,by kernel_rfl,by kernel_rfl,by kernel_rfl⟩
noncomputable def zmu:Fact Try.prog:=⟨ID.synd_P,(.pure [1] zbT),zvF⟩
noncomputable def zt3 (zbJ:List D→Option D) (zbv:List D→Option D) (a0:List D):Option D:=
  zar (zbJ [D.sl Tag.lent a0,D.fn (137:Nat) [] []]) fun r1=>
  za8 r1 fun l2=>
  sif (List.length l2=List.length l2) <|
  sif (List.all l2 D.free=true) <|
  some (D.sl Tag.own l2)
theorem zCj (zbJ:List D→Option D) (zbv:List D→Option D) (tga0:Tag) (a0:List D):denP Try.prog (zax [(ID.synd_sum,(.pure [1] zbJ)),(ID.synd_P_1,(.pure [0] zbv))]) zsJ [1] ID.synd_P [.sl tga0 a0]=zt3 zbJ zbv (D.lentL a0):=by kernel_rfl
theorem zwR (tga0:Tag) (a0:List D):zbT [.sl tga0 a0]=zt3 zbJ zbv (D.lentL a0):=zCj zbJ zbv tga0 a0
def zsK:Ann:={ loops:=[] }
noncomputable def zbU:List D→Option D:=denP Try.prog (zax [(ID.synd_sum,(.pure [1] zbJ)),(ID.gf_Pow,(.pure [0] zaU))]) zsK [1] ID.synd_Q
theorem zvG:za7 Try.prog ID.synd_Q (.pure [1] zbU):=zat (zaD [znx,zgX]) zbD ⟨Try.f111,by kernel_rfl,by kernel_rfl,by kernel_rfl⟩
noncomputable def zmv:Fact Try.prog:=⟨ID.synd_Q,(.pure [1] zbU),zvG⟩
noncomputable def zt4 (zbJ:List D→Option D) (zaU:List D→Option D) (a0:List D):Option D:=
  zar (zbJ [D.sl Tag.lent a0,D.fn (138:Nat) [] []]) fun r1=>
  za8 r1 fun l2=>
  sif (List.length l2=List.length l2) <|
  sif (List.all l2 D.free=true) <|
  some (D.sl Tag.own l2)
theorem zCk (zbJ:List D→Option D) (zaU:List D→Option D) (tga0:Tag) (a0:List D):denP Try.prog (zax [(ID.synd_sum,(.pure [1] zbJ)),(ID.gf_Pow,(.pure [0] zaU))]) zsK [1] ID.synd_Q [.sl tga0 a0]=zt4 zbJ zaU (D.lentL a0):=by kernel_rfl
theorem zwS (tga0:Tag) (a0:List D):zbU [.sl tga0 a0]=zt4 zbJ zaU (D.lentL a0):=zCk zbJ zaU tga0 a0
def zsL:Ann:={ loops:=[(0,[.val (.cell (.int .u8)),.dead,.dead,.val (.cell (.int .u8)),.dead,.val (.cell (.int .i64))])] }
noncomputable def zes:List D→Option D:=denP Try.prog (zax [(ID.gf_double,(.pure [0] za2))]) zsL [0] ID.gf_Log
theorem zvH:za7 Try.prog ID.gf_Log (.pure [0] zes):=zat (zaD [zhG]) zbD ⟨Try.f145,by kernel_rfl,by kernel_rfl,by kernel_rfl⟩
noncomputable def zwT:Fact Try.prog:=⟨ID.gf_Log,(.pure [0] zes),zvH⟩
noncomputable def zt5 (za2:List D→Option D) (a0:Int):Option D:=
  zcb (α:=(Int×Int×Int×PUnit)×PUnit) (fun again1 ((i2,(i3,(i4,_))),_)=>
    brK (decide (i4 < (255:Int)))
      (brK (i3 == i2)
        (some (D.int IntKind.i64 i4))
        (zar (za2 [D.int IntKind.u8 i3]) fun r5=>
        asI IntKind.u8 r5 fun i6=>
        letN (IntKind.wrap IntKind.i64 (i4+(1:Int))) fun n7=>
        again1 (((i2,i6,n7,PUnit.unit),PUnit.unit))))
      (some (D.int IntKind.i64 (-1:Int))))
    (((a0,(1:Int),(0:Int),PUnit.unit),PUnit.unit))
theorem zCl (za2:List D→Option D) (a0:Int):denP Try.prog (zax [(ID.gf_double,(.pure [0] za2))]) zsL [0] ID.gf_Log [.int .u8 a0]=zt5 za2 a0:=by kernel_rfl
theorem zwU (a0:Int):zes [.int .u8 a0]=zt5 za2 a0:=zCl za2 a0
def zsM:Ann:={ loops:=[] }
noncomputable def zcA:List D→Option D:=denP Try.prog (zax [(ID.gf_Log,(.pure [0] zes)),(ID.gf_Pow,(.pure [0] zaU))]) zsM [0] ID.gf_Inv
theorem zvI:za7 Try.prog ID.gf_Inv (.pure [0] zcA):=zat (zaD [zwT,zgX]) zbD ⟨Try.f141,by kernel_rfl,by kernel_rfl,by kernel_rfl⟩
noncomputable def zq9:Fact Try.prog:=⟨ID.gf_Inv,(.pure [0] zcA),zvI⟩
noncomputable def zt6 (zes:List D→Option D) (zaU:List D→Option D) (a0:Int):Option D:=
  brK (a0 == (0:Int))
    (some (D.int IntKind.u8 (0:Int)))
    (zar (zes [D.int IntKind.u8 a0]) fun r1=>
    asI IntKind.i64 r1 fun i2=>
    letN (IntKind.wrap IntKind.i64 ((255:Int) - i2)) fun n3=>
    zar (zaU [D.int IntKind.i64 n3]) fun r4=>
    asI IntKind.u8 r4 fun i5=>
    some (D.int IntKind.u8 i5))
theorem zCm (zes:List D→Option D) (zaU:List D→Option D) (a0:Int):denP Try.prog (zax [(ID.gf_Log,(.pure [0] zes)),(ID.gf_Pow,(.pure [0] zaU))]) zsM [0] ID.gf_Inv [.int .u8 a0]=zt6 zes zaU a0:=by kernel_rfl
theorem zwV (a0:Int):zcA [.int .u8 a0]=zt6 zes zaU a0:=zCm zes zaU a0
def zny:Ann:={ loops:=[] }
noncomputable def zcI:List D→Option D:=denP Try.prog (zax [(ID.synd_P,(.pure [1] zbT)),(ID.synd_Add,(.pure [1] zaL)),(ID.synd_Q,(.pure [1] zbU)),(ID.gf_Pow,(.pure [0] zaU)),(ID.gf_Inv,(.pure [0] zcA)),(ID.synd_Scale,(.pure [1] zaI))]) zny [1,1] ID.erase_two
theorem zra:za7 Try.prog ID.erase_two (.pure [1,1] zcI):=zat (zaD [zmu,zgu,zmv,zgX,zq9,zgW]) zbD ⟨Try.f131,by kernel_rfl,by kernel_rfl,by kernel_rfl⟩
noncomputable def zrM:Fact Try.prog:=⟨ID.erase_two,(.pure [1,1] zcI),zra⟩
noncomputable def zmw (zbT:List D→Option D) (zaL:List D→Option D) (zbU:List D→Option D) (zaU:List D→Option D) (zcA:List D→Option D) (zaI:List D→Option D) (a0:List D) (a1:List D) (a2:List D) (a3:Int) (a4:Int):Option D:=
  zar (zbT [D.sl Tag.lent a2]) fun r1=>
  za8 r1 fun l2=>
  sif ((0:Nat)+List.length l2≤List.length l2) <|
  zar (zaL [D.sl Tag.lent a0,D.sl Tag.lent (cut (0:Nat) (List.length l2) l2)]) fun r3=>
  za8 r3 fun l4=>
  zar (zbU [D.sl Tag.lent a2]) fun r5=>
  za8 r5 fun l6=>
  sif ((0:Nat)+List.length l6≤List.length l6) <|
  zar (zaL [D.sl Tag.lent a1,D.sl Tag.lent (cut (0:Nat) (List.length l6) l6)]) fun r7=>
  za8 r7 fun l8=>
  zar (zaU [D.int IntKind.i64 a3]) fun r9=>
  asI IntKind.u8 r9 fun i10=>
  zar (zaU [D.int IntKind.i64 a4]) fun r11=>
  asI IntKind.u8 r11 fun i12=>
  letN (bits BinOp.xor IntKind.u8 i10 i12) fun n13=>
  zar (zcA [D.int IntKind.u8 n13]) fun r14=>
  asI IntKind.u8 r14 fun i15=>
  zar (zaU [D.int IntKind.i64 a4]) fun r16=>
  asI IntKind.u8 r16 fun i17=>
  sif ((0:Nat)+List.length l4≤List.length l4) <|
  zar (zaI [D.sl Tag.lent (cut (0:Nat) (List.length l4) l4),D.int IntKind.u8 i17]) fun r18=>
  za8 r18 fun l19=>
  sif ((0:Nat)+List.length l8≤List.length l8) <|
  sif ((0:Nat)+List.length l19≤List.length l19) <|
  zar (zaL [D.sl Tag.lent (cut (0:Nat) (List.length l8) l8),D.sl Tag.lent (cut (0:Nat) (List.length l19) l19)]) fun r20=>
  za8 r20 fun l21=>
  sif ((0:Nat)+List.length l21≤List.length l21) <|
  zar (zaI [D.sl Tag.lent (cut (0:Nat) (List.length l21) l21),D.int IntKind.u8 i15]) fun r22=>
  za8 r22 fun l23=>
  sif ((0:Nat)+List.length l4≤List.length l4) <|
  sif ((0:Nat)+List.length l23≤List.length l23) <|
  zar (zaL [D.sl Tag.lent (cut (0:Nat) (List.length l4) l4),D.sl Tag.lent (cut (0:Nat) (List.length l23) l23)]) fun r24=>
  za8 r24 fun l25=>
  sif (List.length l23=List.length l23) <|
  sif (List.all l23 D.free=true) <|
  sif (List.length l25=List.length l25) <|
  sif (List.all l25 D.free=true) <|
  some (D.tup [D.sl Tag.own l23,D.sl Tag.own l25])
theorem zwW (zbT:List D→Option D) (zaL:List D→Option D) (zbU:List D→Option D) (zaU:List D→Option D) (zcA:List D→Option D) (zaI:List D→Option D) (tga0:Tag) (tga1:Tag) (tga2:Tag) (a0:List D) (a1:List D) (a2:List D) (a3:Int) (a4:Int):denP Try.prog (zax [(ID.synd_P,(.pure [1] zbT)),(ID.synd_Add,(.pure [1] zaL)),(ID.synd_Q,(.pure [1] zbU)),(ID.gf_Pow,(.pure [0] zaU)),(ID.gf_Inv,(.pure [0] zcA)),(ID.synd_Scale,(.pure [1] zaI))]) zny [1,1] ID.erase_two [.sl tga0 a0,.sl tga1 a1,.sl tga2 a2,.int .i64 a3,.int .i64 a4]=zmw zbT zaL zbU zaU zcA zaI (D.lentL a0) (D.lentL a1) (D.lentL a2) a3 a4:=by kernel_rfl
theorem zrN (tga0:Tag) (tga1:Tag) (tga2:Tag) (a0:List D) (a1:List D) (a2:List D) (a3:Int) (a4:Int):zcI [.sl tga0 a0,.sl tga1 a1,.sl tga2 a2,.int .i64 a3,.int .i64 a4]=zmw zbT zaL zbU zaU zcA zaI (D.lentL a0) (D.lentL a1) (D.lentL a2) a3 a4:=zwW zbT zaL zbU zaU zcA zaI tga0 tga1 tga2 a0 a1 a2 a3 a4
def znz:Ann:={ loops:=[] }
noncomputable def zcq:List D→Option D:=denP Try.prog (zax [(ID.synd_Q,(.pure [1] zbU)),(ID.synd_Add,(.pure [1] zaL)),(ID.gf_Pow,(.pure [0] zaU)),(ID.gf_Inv,(.pure [0] zcA)),(ID.synd_Scale,(.pure [1] zaI))]) znz [1] ID.erase_byQ
theorem zrb:za7 Try.prog ID.erase_byQ (.pure [1] zcq):=zat (zaD [zmv,zgu,zgX,zq9,zgW]) zbD ⟨Try.f133,by kernel_rfl,by kernel_rfl,by kernel_rfl⟩
noncomputable def zrO:Fact Try.prog:=⟨ID.erase_byQ,(.pure [1] zcq),zrb⟩
noncomputable def zmx (zbU:List D→Option D) (zaL:List D→Option D) (zaU:List D→Option D) (zcA:List D→Option D) (zaI:List D→Option D) (a0:List D) (a1:List D) (a2:Int):Option D:=
  zar (zbU [D.sl Tag.lent a1]) fun r1=>
  za8 r1 fun l2=>
  sif ((0:Nat)+List.length l2≤List.length l2) <|
  zar (zaL [D.sl Tag.lent a0,D.sl Tag.lent (cut (0:Nat) (List.length l2) l2)]) fun r3=>
  za8 r3 fun l4=>
  zar (zaU [D.int IntKind.i64 a2]) fun r5=>
  asI IntKind.u8 r5 fun i6=>
  zar (zcA [D.int IntKind.u8 i6]) fun r7=>
  asI IntKind.u8 r7 fun i8=>
  sif ((0:Nat)+List.length l4≤List.length l4) <|
  zar (zaI [D.sl Tag.lent (cut (0:Nat) (List.length l4) l4),D.int IntKind.u8 i8]) fun r9=>
  za8 r9 fun l10=>
  sif (List.length l10=List.length l10) <|
  sif (List.all l10 D.free=true) <|
  some (D.sl Tag.own l10)
theorem zwX (zbU:List D→Option D) (zaL:List D→Option D) (zaU:List D→Option D) (zcA:List D→Option D) (zaI:List D→Option D) (tga0:Tag) (tga1:Tag) (a0:List D) (a1:List D) (a2:Int):denP Try.prog (zax [(ID.synd_Q,(.pure [1] zbU)),(ID.synd_Add,(.pure [1] zaL)),(ID.gf_Pow,(.pure [0] zaU)),(ID.gf_Inv,(.pure [0] zcA)),(ID.synd_Scale,(.pure [1] zaI))]) znz [1] ID.erase_byQ [.sl tga0 a0,.sl tga1 a1,.int .i64 a2]=zmx zbU zaL zaU zcA zaI (D.lentL a0) (D.lentL a1) a2:=by kernel_rfl
theorem zrP (tga0:Tag) (tga1:Tag) (a0:List D) (a1:List D) (a2:Int):zcq [.sl tga0 a0,.sl tga1 a1,.int .i64 a2]=zmx zbU zaL zaU zcA zaI (D.lentL a0) (D.lentL a1) a2:=zwX zbU zaL zaU zcA zaI tga0 tga1 a0 a1 a2
def zkr:Ann:={ loops:=[] }
noncomputable def zbY:List D→Option D:=denP Try.prog (zax [(ID.erase_Missing,(.pure [1] zbA)),(ID.erase_fits,(.pure [0] zb4)),(ID.erase_filled,(.pure [1] zbM)),(ID.erase_two,(.pure [1,1] zcI)),(ID.synd_P,(.pure [1] zbT)),(ID.synd_Add,(.pure [1] zaL)),(ID.erase_byQ,(.pure [1] zcq))]) zkr [1,0] ID.erase_Solve
theorem zoq:za7 Try.prog ID.erase_Solve (.pure [1,0] zbY):=zat (zaD [znq,zq4,zon,zrM,zmu,zgu,zrO]) zbD ⟨Try.f105,by kernel_rfl,by kernel_rfl,by kernel_rfl⟩
noncomputable def zps:Fact Try.prog:=⟨ID.erase_Solve,(.pure [1,0] zbY),zoq⟩
noncomputable def ziU (zbA:List D→Option D) (zb4:List D→Option D) (zbM:List D→Option D) (zcI:List D→Option D) (zbT:List D→Option D) (zaL:List D→Option D) (zcq:List D→Option D) (a0:Int) (a1:List D) (a2:List D) (a3:List D):Option D:=
  zar (zbA [D.sl Tag.lent a3]) fun r1=>
  za8 r1 fun l2=>
  brK (decide (a0 < (1:Int)))
    (some (D.tup [D.sl Tag.own [],D.bool false]))
    (brK (decide ((↑(List.length a3):Int) < (1:Int)))
      (some (D.tup [D.sl Tag.own [],D.bool false]))
      (brK (decide ((↑(List.length a3):Int) > (8:Int)))
        (some (D.tup [D.sl Tag.own [],D.bool false]))
        (zar (zb4 [D.int IntKind.i64 a0,D.sl Tag.lent a3]) fun r3=>
        asB r3 fun b4=>
        brK (!b4)
          (some (D.tup [D.sl Tag.own [],D.bool false]))
          (zar (zb4 [D.int IntKind.i64 a0,D.sl Tag.full [D.sl Tag.lent a1,D.sl Tag.lent a2]]) fun r5=>
          asB r5 fun b6=>
          brK (!b6)
            (some (D.tup [D.sl Tag.own [],D.bool false]))
            (sif ((0:Nat)+List.length l2≤List.length l2) <|
            zar (zbA [D.sl Tag.full [D.sl Tag.lent a1,D.sl Tag.lent a2]]) fun r7=>
            za8 r7 fun l8=>
            sif ((0:Nat)+List.length l8≤List.length l8) <|
            letN (IntKind.wrap IntKind.i64 ((↑(List.length l2):Int)+(↑(List.length l8):Int))) fun n9=>
            brK (decide (n9 > (2:Int)))
              (some (D.tup [D.sl Tag.own [],D.bool false]))
              (zar (zbM [D.int IntKind.i64 a0,D.sl Tag.lent a3]) fun r10=>
              za8 r10 fun l11=>
              sif ((0:Nat)+List.length l2≤List.length l2) <|
              brK ((↑(List.length l2):Int) == (2:Int))
                (sif ((0:Nat) < List.length l2) <|
                getK l2 ((0:Nat)) fun d12=>
                asI IntKind.i64 d12 fun i13=>
                sif ((1:Nat) < List.length l2) <|
                getK l2 ((1:Nat)) fun d14=>
                asI IntKind.i64 d14 fun i15=>
                sif ((0:Nat) < List.length l2) <|
                getK l2 ((0:Nat)) fun d16=>
                asI IntKind.i64 d16 fun i17=>
                sif ((1:Nat) < List.length l2) <|
                getK l2 ((1:Nat)) fun d18=>
                asI IntKind.i64 d18 fun i19=>
                sif ((0:Nat)+List.length l11≤List.length l11) <|
                zar (zcI [D.sl Tag.lent a1,D.sl Tag.lent a2,D.sl Tag.lent (cut (0:Nat) (List.length l11) l11),D.int IntKind.i64 i17,D.int IntKind.i64 i19]) fun r20=>
                zev r20 fun ts21=>
                zaw ([Lf.any,Lf.any]) ts21 fun c22=>
                za8 c22.fst fun l23=>
                za8 c22.snd.fst fun l24=>
                sif ((0:Int)≤i13) <|
                sif (Int.toNat i13 < List.length l11) <|
                sif ((0:Nat)+List.length l23≤List.length l23) <|
                getK l11 ((0:Nat)+Int.toNat i13) fun d25=>
                sif ((0:Nat)+List.length l23≤List.length l23) <|
                sif (D.isAgg d25=false) <|
                sif ((0:Int)≤i15) <|
                sif (Int.toNat i15 < List.length l11) <|
                sif ((0:Nat)+List.length l24≤List.length l24) <|
                getK (List.set l11 ((0:Nat)+Int.toNat i13) (D.sl Tag.fresh (cut (0:Nat) (List.length l23) l23))) ((0:Nat)+Int.toNat i15) fun d26=>
                sif ((0:Nat)+List.length l24≤List.length l24) <|
                sif (D.isAgg d26=false) <|
                sif (List.length l11=List.length (List.set (List.set l11 ((0:Nat)+Int.toNat i13) (D.sl Tag.fresh (cut (0:Nat) (List.length l23) l23))) ((0:Nat)+Int.toNat i15) (D.sl Tag.fresh (cut (0:Nat) (List.length l24) l24)))) <|
                sif (List.all (List.set (List.set l11 ((0:Nat)+Int.toNat i13) (D.sl Tag.fresh (cut (0:Nat) (List.length l23) l23))) ((0:Nat)+Int.toNat i15) (D.sl Tag.fresh (cut (0:Nat) (List.length l24) l24))) D.free=true) <|
                some (D.tup [D.sl Tag.own (List.set (List.set l11 ((0:Nat)+Int.toNat i13) (D.sl Tag.fresh (cut (0:Nat) (List.length l23) l23))) ((0:Nat)+Int.toNat i15) (D.sl Tag.fresh (cut (0:Nat) (List.length l24) l24))),D.bool true]))
                (sif ((0:Nat)+List.length l2≤List.length l2) <|
                brK ((↑(List.length l2):Int) == (1:Int))
                  (brK (decide ((↑(List.length a1):Int) > (0:Int)))
                    (sif ((0:Nat) < List.length l2) <|
                    getK l2 ((0:Nat)) fun d27=>
                    asI IntKind.i64 d27 fun i28=>
                    sif ((0:Nat)+List.length l11≤List.length l11) <|
                    zar (zbT [D.sl Tag.lent (cut (0:Nat) (List.length l11) l11)]) fun r29=>
                    za8 r29 fun l30=>
                    sif ((0:Nat)+List.length l30≤List.length l30) <|
                    zar (zaL [D.sl Tag.lent a1,D.sl Tag.lent (cut (0:Nat) (List.length l30) l30)]) fun r31=>
                    za8 r31 fun l32=>
                    sif ((0:Int)≤i28) <|
                    sif (Int.toNat i28 < List.length l11) <|
                    sif ((0:Nat)+List.length l32≤List.length l32) <|
                    getK l11 ((0:Nat)+Int.toNat i28) fun d33=>
                    sif ((0:Nat)+List.length l32≤List.length l32) <|
                    sif (D.isAgg d33=false) <|
                    sif (List.length l11=List.length (List.set l11 ((0:Nat)+Int.toNat i28) (D.sl Tag.fresh (cut (0:Nat) (List.length l32) l32)))) <|
                    sif (List.all (List.set l11 ((0:Nat)+Int.toNat i28) (D.sl Tag.fresh (cut (0:Nat) (List.length l32) l32))) D.free=true) <|
                    some (D.tup [D.sl Tag.own (List.set l11 ((0:Nat)+Int.toNat i28) (D.sl Tag.fresh (cut (0:Nat) (List.length l32) l32))),D.bool true]))
                    (sif ((0:Nat)+List.length l2≤List.length l2) <|
                    brK ((↑(List.length l2):Int) == (1:Int))
                      (sif ((0:Nat) < List.length l2) <|
                      getK l2 ((0:Nat)) fun d34=>
                      asI IntKind.i64 d34 fun i35=>
                      sif ((0:Nat) < List.length l2) <|
                      getK l2 ((0:Nat)) fun d36=>
                      asI IntKind.i64 d36 fun i37=>
                      sif ((0:Nat)+List.length l11≤List.length l11) <|
                      zar (zcq [D.sl Tag.lent a2,D.sl Tag.lent (cut (0:Nat) (List.length l11) l11),D.int IntKind.i64 i37]) fun r38=>
                      za8 r38 fun l39=>
                      sif ((0:Int)≤i35) <|
                      sif (Int.toNat i35 < List.length l11) <|
                      sif ((0:Nat)+List.length l39≤List.length l39) <|
                      getK l11 ((0:Nat)+Int.toNat i35) fun d40=>
                      sif ((0:Nat)+List.length l39≤List.length l39) <|
                      sif (D.isAgg d40=false) <|
                      sif (List.length l11=List.length (List.set l11 ((0:Nat)+Int.toNat i35) (D.sl Tag.fresh (cut (0:Nat) (List.length l39) l39)))) <|
                      sif (List.all (List.set l11 ((0:Nat)+Int.toNat i35) (D.sl Tag.fresh (cut (0:Nat) (List.length l39) l39))) D.free=true) <|
                      some (D.tup [D.sl Tag.own (List.set l11 ((0:Nat)+Int.toNat i35) (D.sl Tag.fresh (cut (0:Nat) (List.length l39) l39))),D.bool true]))
                      (sif (List.length l11=List.length l11) <|
                      sif (List.all l11 D.free=true) <|
                      some (D.tup [D.sl Tag.own l11,D.bool true]))))
                  (sif ((0:Nat)+List.length l2≤List.length l2) <|
                  brK ((↑(List.length l2):Int) == (1:Int))
                    (sif ((0:Nat) < List.length l2) <|
                    getK l2 ((0:Nat)) fun d41=>
                    asI IntKind.i64 d41 fun i42=>
                    sif ((0:Nat) < List.length l2) <|
                    getK l2 ((0:Nat)) fun d43=>
                    asI IntKind.i64 d43 fun i44=>
                    sif ((0:Nat)+List.length l11≤List.length l11) <|
                    zar (zcq [D.sl Tag.lent a2,D.sl Tag.lent (cut (0:Nat) (List.length l11) l11),D.int IntKind.i64 i44]) fun r45=>
                    za8 r45 fun l46=>
                    sif ((0:Int)≤i42) <|
                    sif (Int.toNat i42 < List.length l11) <|
                    sif ((0:Nat)+List.length l46≤List.length l46) <|
                    getK l11 ((0:Nat)+Int.toNat i42) fun d47=>
                    sif ((0:Nat)+List.length l46≤List.length l46) <|
                    sif (D.isAgg d47=false) <|
                    sif (List.length l11=List.length (List.set l11 ((0:Nat)+Int.toNat i42) (D.sl Tag.fresh (cut (0:Nat) (List.length l46) l46)))) <|
                    sif (List.all (List.set l11 ((0:Nat)+Int.toNat i42) (D.sl Tag.fresh (cut (0:Nat) (List.length l46) l46))) D.free=true) <|
                    some (D.tup [D.sl Tag.own (List.set l11 ((0:Nat)+Int.toNat i42) (D.sl Tag.fresh (cut (0:Nat) (List.length l46) l46))),D.bool true]))
                    (sif (List.length l11=List.length l11) <|
                    sif (List.all l11 D.free=true) <|
                    some (D.tup [D.sl Tag.own l11,D.bool true]))))))))))
theorem zt7 (zbA:List D→Option D) (zb4:List D→Option D) (zbM:List D→Option D) (zcI:List D→Option D) (zbT:List D→Option D) (zaL:List D→Option D) (zcq:List D→Option D) (tga1:Tag) (tga2:Tag) (tga3:Tag) (a0:Int) (a1:List D) (a2:List D) (a3:List D):denP Try.prog (zax [(ID.erase_Missing,(.pure [1] zbA)),(ID.erase_fits,(.pure [0] zb4)),(ID.erase_filled,(.pure [1] zbM)),(ID.erase_two,(.pure [1,1] zcI)),(ID.synd_P,(.pure [1] zbT)),(ID.synd_Add,(.pure [1] zaL)),(ID.erase_byQ,(.pure [1] zcq))]) zkr [1,0] ID.erase_Solve [.int .i64 a0,.sl tga1 a1,.sl tga2 a2,.sl tga3 a3]=ziU zbA zb4 zbM zcI zbT zaL zcq a0 (D.lentL a1) (D.lentL a2) (D.lentL a3):=by kernel_rfl
theorem zpt (tga1:Tag) (tga2:Tag) (tga3:Tag) (a0:Int) (a1:List D) (a2:List D) (a3:List D):zbY [.int .i64 a0,.sl tga1 a1,.sl tga2 a2,.sl tga3 a3]=ziU zbA zb4 zbM zcI zbT zaL zcq a0 (D.lentL a1) (D.lentL a2) (D.lentL a3):=zt7 zbA zb4 zbM zcI zbT zaL zcq tga1 tga2 tga3 a0 a1 a2 a3
def zo9:Ann:={ loops:=[(1,[.dead,.val (.cell (.int .i64)),.val (.cell .lent),.box true [(.int .i64),(.int .i64),(.int .i64)],.dead,.dead,.dead,.dead,.own 1,.dead,.dead,.dead,.dead,.dead,.dead,.dead,.dead,.dead,.dead,.dead,.dead,.dead,.dead,.dead,.val (.cell (.int .i64)),.val (.cell (.int .i64))])] }
noncomputable def zc0:List D→Option D:=denP Try.prog (zax [(ID.row_in,(.pure [0] zcz)),(ID.geom_Width,(.pure [0] zaS)),(ID.place_Disk,(.pure [0] zbl)),(ID.place_Parity,(.pure [0,0] zaK)),(ID.erase_Solve,(.pure [1,0] zbY))]) zo9 [1,0] ID.row_Take
theorem zrQ:za7 Try.prog ID.row_Take (.pure [1,0] zc0):=zat (zaD [zqZ,zgT,zkm,zfu,zps]) zbD ⟨Try.f71,by kernel_rfl,by kernel_rfl,by kernel_rfl⟩
noncomputable def zt8:Fact Try.prog:=⟨ID.row_Take,(.pure [1,0] zc0),zrQ⟩
noncomputable def zor (zcz:List D→Option D) (zaS:List D→Option D) (zbl:List D→Option D) (zaK:List D→Option D) (zbY:List D→Option D) (a0_0:Int) (a0_1:Int) (a0_2:Int) (a1:Int) (a2:List D):Option D:=
  zar (zcz [D.agg [D.int IntKind.i64 a0_0,D.int IntKind.i64 a0_1,D.int IntKind.i64 a0_2],D.int IntKind.i64 a1]) fun r1=>
  asB r1 fun b2=>
  brK (!b2)
    (some (D.tup [D.sl Tag.own [],D.bool false]))
    (brK ((↑(List.length a2):Int) != a0_1)
      (some (D.tup [D.sl Tag.own [],D.bool false]))
      (zar (zaS [D.agg [D.int IntKind.i64 a0_0,D.int IntKind.i64 a0_1,D.int IntKind.i64 a0_2]]) fun r3=>
      asI IntKind.i64 r3 fun i4=>
      zcb (α:=(Int×List D×(Int×Int×Int×PUnit)×List D×Int×Int×PUnit)×PUnit) (fun again5 ((i6,(l7,((i8,(i9,(i10,_))),(l11,(i12,(i13,_)))))),_)=>
        brK (decide (i13 < i12))
          (zar (zbl [D.agg [D.int IntKind.i64 i8,D.int IntKind.i64 i9,D.int IntKind.i64 i10],D.int IntKind.i64 i6,D.int IntKind.i64 i13]) fun r14=>
          asI IntKind.i64 r14 fun i15=>
          sif ((0:Int)≤i15) <|
          getK l7 (Int.toNat i15) fun d16=>
          asSl d16 fun t17 l18=>
          sif (List.length l11+(1:Nat)≤(4294967296:Nat)) <|
          sif (List.length l11=List.length l11) <|
          letN (IntKind.wrap IntKind.i64 (i13+(1:Int))) fun n19=>
          sif (List.length l11+(1:Nat)=List.length (l11++[D.sl t17 l18])) <|
          again5 (((i6,l7,(i8,i9,i10,PUnit.unit),l11++[D.sl t17 l18],i12,n19,PUnit.unit),PUnit.unit)))
          (zar (zaK [D.agg [D.int IntKind.i64 i8,D.int IntKind.i64 i9,D.int IntKind.i64 i10],D.int IntKind.i64 i6]) fun r20=>
          zev r20 fun ts21=>
          zaw ([Lf.any,Lf.any]) ts21 fun c22=>
          asI IntKind.i64 c22.fst fun i23=>
          asI IntKind.i64 c22.snd.fst fun i24=>
          brK (decide (i24 < (0:Int)))
            (sif ((0:Int)≤i23) <|
            getK l7 (Int.toNat i23) fun d25=>
            asSl d25 fun t26 l27=>
            sif ((0:Nat)+List.length l11≤List.length l11) <|
            zar (zbY [D.int IntKind.i64 (32:Int),D.sl t26 l27,D.sl Tag.nil [],D.sl Tag.lent (cut (0:Nat) (List.length l11) l11)]) fun r28=>
            zev r28 fun ts29=>
            zaw ([Lf.any,Lf.any]) ts29 fun c30=>
            za8 c30.fst fun l31=>
            asB c30.snd.fst fun b32=>
            sif (List.length l31=List.length l31) <|
            sif (List.all l31 D.free=true) <|
            some (D.tup [D.sl Tag.own l31,D.bool b32]))
            (sif ((0:Int)≤i23) <|
            getK l7 (Int.toNat i23) fun d33=>
            asSl d33 fun t34 l35=>
            sif ((0:Int)≤i24) <|
            getK l7 (Int.toNat i24) fun d36=>
            asSl d36 fun t37 l38=>
            sif ((0:Nat)+List.length l11≤List.length l11) <|
            zar (zbY [D.int IntKind.i64 (32:Int),D.sl t34 l35,D.sl t37 l38,D.sl Tag.lent (cut (0:Nat) (List.length l11) l11)]) fun r39=>
            zev r39 fun ts40=>
            zaw ([Lf.any,Lf.any]) ts40 fun c41=>
            za8 c41.fst fun l42=>
            asB c41.snd.fst fun b43=>
            sif (List.length l42=List.length l42) <|
            sif (List.all l42 D.free=true) <|
            some (D.tup [D.sl Tag.own l42,D.bool b43]))))
        (((a1,a2,(a0_0,a0_1,a0_2,PUnit.unit),[],i4,(0:Int),PUnit.unit),PUnit.unit))))
theorem zyV (zcz:List D→Option D) (zaS:List D→Option D) (zbl:List D→Option D) (zaK:List D→Option D) (zbY:List D→Option D) (tga2:Tag) (a0_0:Int) (a0_1:Int) (a0_2:Int) (a1:Int) (a2:List D):denP Try.prog (zax [(ID.row_in,(.pure [0] zcz)),(ID.geom_Width,(.pure [0] zaS)),(ID.place_Disk,(.pure [0] zbl)),(ID.place_Parity,(.pure [0,0] zaK)),(ID.erase_Solve,(.pure [1,0] zbY))]) zo9 [1,0] ID.row_Take [.agg [.int .i64 a0_0,.int .i64 a0_1,.int .i64 a0_2],.int .i64 a1,.sl tga2 a2]=zor zcz zaS zbl zaK zbY a0_0 a0_1 a0_2 a1 (D.lentL a2):=by kernel_rfl
theorem zt9 (tga2:Tag) (a0_0:Int) (a0_1:Int) (a0_2:Int) (a1:Int) (a2:List D):zc0 [.agg [.int .i64 a0_0,.int .i64 a0_1,.int .i64 a0_2],.int .i64 a1,.sl tga2 a2]=zor zcz zaS zbl zaK zbY a0_0 a0_1 a0_2 a1 (D.lentL a2):=zyV zcz zaS zbl zaK zbY tga2 a0_0 a0_1 a0_2 a1 a2
def zks:Ann:={ loops:=[(1,[.val (.cell (.hnd (3840:Nat))),.val (.cell .lent),.dead,.val (.cell (.int .i64)),.dead,.dead,.box true [(.int .i64),(.int .i64),(.int .i64)],.dead,.dead,.dead,.own 1,.dead,.dead,.dead,.dead,.dead,.dead,.dead,.dead,.dead,.dead,.dead,.dead,.dead,.dead,.dead,.dead,.dead,.dead,.dead,.dead,.val (.cell (.int .i64)),.val (.cell (.int .i64))])],ks:=[(3840,false),(7649,false)] }
noncomputable def zbZ:List D→List Tb→Option Ans:=denS Try.prog (zax [(ID.geom_Check,(.pure [0] zaj)),(ID.stripe_up,(.st [] [0] [(3840,false),(7649,false)] za5)),(ID.bench_Bench_Read,(.st [] [1,0] [(3840,false),(7649,false)] zaB)),(ID.row_Take,(.pure [1,0] zc0))]) zks [1,0] ID.stripe_Read
theorem zos:za7 Try.prog ID.stripe_Read (.st [] [1,0] [(3840,false),(7649,false)] zbZ):=zbg (zaD [zde,zrC,zfQ,zt8]) zbD ⟨Try.f21,by kernel_rfl,by kernel_rfl,by kernel_rfl⟩
noncomputable def zpu:Fact Try.prog:=⟨ID.stripe_Read,(.st [] [1,0] [(3840,false),(7649,false)] zbZ),zos⟩
noncomputable def ziV (zaj:List D→Option D) (za5:List D→List Tb→Option Ans) (zaB:List D→List Tb→Option Ans) (zc0:List D→Option D) (a0:Nat) (a1:List D) (a2_0:Int) (a2_1:Int) (a2_2:Int) (a3:Int) (T0:Tb) (T1:Tb):Option Ans:=
  zar (zaj [D.agg [D.int IntKind.i64 a2_0,D.int IntKind.i64 a2_1,D.int IntKind.i64 a2_2]]) fun r1=>
  asI IntKind.i64 r1 fun i2=>
  brK (i2 != (0:Int))
    (some (Ans.mk (D.tup [D.sl Tag.own [],D.int IntKind.i64 (1:Int)]) [] []))
    (brK (decide (a3 < (0:Int)))
      (some (Ans.mk (D.tup [D.sl Tag.own [],D.int IntKind.i64 (1:Int)]) [] []))
      (brK (decide (a3≥(16:Int)))
        (some (Ans.mk (D.tup [D.sl Tag.own [],D.int IntKind.i64 (1:Int)]) [] []))
        (sif ((0:Int)≤a2_1) <|
        sif (a2_1=a2_1) <|
        sif (a2_1*(24:Int)≤(140737488355328:Int)) <|
        sif (a2_1≤(140737488355328:Int)) <|
        sif ((0:Nat)+Int.toNat a2_1≤List.length (List.replicate (Int.toNat a2_1) (D.sl Tag.nil []))) <|
        sif (Int.toNat a2_1=List.length (List.replicate (Int.toNat a2_1) (D.sl Tag.nil []))) <|
        zcb (α:=(Nat×List D×Int×(Int×Int×Int×PUnit)×List D×Int×Int×PUnit)×List (List D)×List (List D)×PUnit) (fun again3 ((x4,(l5,(i6,((i7,(i8,(i9,_))),(l10,(i11,(i12,_))))))),(U13,(U14,_)))=>
          brK (decide (i12 < i11))
            (zar (za5 [D.h (3840) x4 (0:Nat),D.sl Tag.lent l5,D.int IntKind.i64 i12] [U13,U14]) fun r15=>
            nilK r15.outs <|
            nilK r15.tbs <|
            asB r15.r fun b16=>
            brK (!b16)
              (letN (IntKind.wrap IntKind.i64 (i12+(1:Int))) fun n17=>
              sif (List.length l10=List.length l10) <|
              again3 (((x4,l5,i6,(i7,i8,i9,PUnit.unit),l10,i11,n17,PUnit.unit),U13,U14,PUnit.unit)))
              (letN (IntKind.wrap IntKind.i64 ((36:Int)+i6)) fun n18=>
              zar (zaB [D.h (3840) x4 (0:Nat),D.int IntKind.i64 i12,D.int IntKind.i64 n18] [U13,U14]) fun r19=>
              nilK r19.outs <|
              nilK r19.tbs <|
              zev r19.r fun ts20=>
              zaw ([Lf.any,Lf.any]) ts20 fun c21=>
              za8 c21.fst fun l22=>
              asI IntKind.i64 c21.snd.fst fun i23=>
              brK (i23 != (0:Int))
                (some (Ans.mk (D.tup [D.sl Tag.own [],D.int IntKind.i64 i23]) [] []))
                (sif ((0:Int)≤i12) <|
                sif (Int.toNat i12 < List.length l10) <|
                sif ((0:Nat)+List.length l22≤List.length l22) <|
                getK l10 ((0:Nat)+Int.toNat i12) fun d24=>
                sif ((0:Nat)+List.length l22≤List.length l22) <|
                sif (D.isAgg d24=false) <|
                letN (IntKind.wrap IntKind.i64 (i12+(1:Int))) fun n25=>
                sif (List.length l10=List.length (List.set l10 ((0:Nat)+Int.toNat i12) (D.sl Tag.fresh (cut (0:Nat) (List.length l22) l22)))) <|
                again3 (((x4,l5,i6,(i7,i8,i9,PUnit.unit),List.set l10 ((0:Nat)+Int.toNat i12) (D.sl Tag.fresh (cut (0:Nat) (List.length l22) l22)),i11,n25,PUnit.unit),U13,U14,PUnit.unit)))))
            (sif ((0:Nat)+List.length l10≤List.length l10) <|
            zar (zc0 [D.agg [D.int IntKind.i64 i7,D.int IntKind.i64 i8,D.int IntKind.i64 i9],D.int IntKind.i64 i6,D.sl Tag.lent (cut (0:Nat) (List.length l10) l10)]) fun r26=>
            zev r26 fun ts27=>
            zaw ([Lf.any,Lf.any]) ts27 fun c28=>
            za8 c28.fst fun l29=>
            asB c28.snd.fst fun b30=>
            brK (!b30)
              (some (Ans.mk (D.tup [D.sl Tag.own [],D.int IntKind.i64 (7:Int)]) [] []))
              (sif (List.length l29=List.length l29) <|
              sif (List.all l29 D.free=true) <|
              some (Ans.mk (D.tup [D.sl Tag.own l29,D.int IntKind.i64 (0:Int)]) [] []))))
          (((a0,a1,a3,(a2_0,a2_1,a2_2,PUnit.unit),List.replicate (Int.toNat a2_1) (D.sl Tag.nil []),(↑(Int.toNat a2_1):Int),(0:Int),PUnit.unit),T0,T1,PUnit.unit)))))
theorem zua (zaj:List D→Option D) (za5:List D→List Tb→Option Ans) (zaB:List D→List Tb→Option Ans) (zc0:List D→Option D) (tga1:Tag) (a0:Nat) (a1:List D) (a2_0:Int) (a2_1:Int) (a2_2:Int) (a3:Int) (T0:Tb) (T1:Tb):denS Try.prog (zax [(ID.geom_Check,(.pure [0] zaj)),(ID.stripe_up,(.st [] [0] [(3840,false),(7649,false)] za5)),(ID.bench_Bench_Read,(.st [] [1,0] [(3840,false),(7649,false)] zaB)),(ID.row_Take,(.pure [1,0] zc0))]) zks [1,0] ID.stripe_Read [.h 3840 a0 0,.sl tga1 a1,.agg [.int .i64 a2_0,.int .i64 a2_1,.int .i64 a2_2],.int .i64 a3] [T0,T1]=ziV zaj za5 zaB zc0 a0 (D.lentL a1) a2_0 a2_1 a2_2 a3 T0 T1:=by kernel_rfl
theorem zpv (tga1:Tag) (a0:Nat) (a1:List D) (a2_0:Int) (a2_1:Int) (a2_2:Int) (a3:Int) (T0:Tb) (T1:Tb):zbZ [.h 3840 a0 0,.sl tga1 a1,.agg [.int .i64 a2_0,.int .i64 a2_1,.int .i64 a2_2],.int .i64 a3] [T0,T1]=ziV zaj za5 zaB zc0 a0 (D.lentL a1) a2_0 a2_1 a2_2 a3 T0 T1:=zua zaj za5 zaB zc0 tga1 a0 a1 a2_0 a2_1 a2_2 a3 T0 T1
def zkt:Ann:={ loops:=[] }
noncomputable def zb8:List D→Option D:=denP Try.prog (zax [(ID.slices_ContainsFunc_byte_byte,(.pure [0] zaf)),(ID.row_sectors_1,(.pure [0] zap))]) zkt [0] ID.row_sectors
theorem zot:za7 Try.prog ID.row_sectors (.pure [0] zb8):=zat (zaD [zcV,ze0]) zbD ⟨Try.f108,by kernel_rfl,by kernel_rfl,by kernel_rfl⟩
noncomputable def zpw:Fact Try.prog:=⟨ID.row_sectors,(.pure [0] zb8),zot⟩
noncomputable def ziW (zaf:List D→Option D) (zap:List D→Option D) (a0:List D):Option D:=
  zar (zaf [D.sl Tag.lent a0,D.fn (135:Nat) [] []]) fun r1=>
  asB r1 fun b2=>
  some (D.bool !b2)
theorem zub (zaf:List D→Option D) (zap:List D→Option D) (tga0:Tag) (a0:List D):denP Try.prog (zax [(ID.slices_ContainsFunc_byte_byte,(.pure [0] zaf)),(ID.row_sectors_1,(.pure [0] zap))]) zkt [0] ID.row_sectors [.sl tga0 a0]=ziW zaf zap (D.lentL a0):=by kernel_rfl
theorem zpx (tga0:Tag) (a0:List D):zb8 [.sl tga0 a0]=ziW zaf zap (D.lentL a0):=zub zaf zap tga0 a0
def zpa:Ann:={ loops:=[(1,[.dead,.val (.cell (.int .i64)),.val (.cell .lent),.box true [(.int .i64),(.int .i64),(.int .i64)],.dead,.dead,.dead,.dead,.own 1,.dead,.dead,.dead,.dead,.dead,.dead,.dead,.dead,.dead,.dead,.dead,.dead,.dead,.dead,.dead,.dead,.dead,.dead,.dead,.dead,.dead,.dead,.dead,.val (.cell .lent),.val (.cell (.int .i64)),.val (.cell (.int .i64))])] }
noncomputable def zbS:List D→Option D:=denP Try.prog (zax [(ID.row_in,(.pure [0] zcz)),(ID.geom_Width,(.pure [0] zaS)),(ID.row_sectors,(.pure [0] zb8)),(ID.place_Disk,(.pure [0] zbl)),(ID.slices_Clone_byte_byte,(.pure [1] zan)),(ID.place_Parity,(.pure [0,0] zaK)),(ID.synd_P,(.pure [1] zbT)),(ID.synd_Q,(.pure [1] zbU))]) zpa [1,0] ID.row_Fill
theorem zrR:za7 Try.prog ID.row_Fill (.pure [1,0] zbS):=zat (zaD [zqZ,zgT,zpw,zkm,zdV,zfu,zmu,zmv]) zbD ⟨Try.f77,by kernel_rfl,by kernel_rfl,by kernel_rfl⟩
noncomputable def zuc:Fact Try.prog:=⟨ID.row_Fill,(.pure [1,0] zbS),zrR⟩
noncomputable def zou (zcz:List D→Option D) (zaS:List D→Option D) (zb8:List D→Option D) (zbl:List D→Option D) (zan:List D→Option D) (zaK:List D→Option D) (zbT:List D→Option D) (zbU:List D→Option D) (a0_0:Int) (a0_1:Int) (a0_2:Int) (a1:Int) (a2:List D):Option D:=
  zar (zcz [D.agg [D.int IntKind.i64 a0_0,D.int IntKind.i64 a0_1,D.int IntKind.i64 a0_2],D.int IntKind.i64 a1]) fun r1=>
  asB r1 fun b2=>
  brK (!b2)
    (some (D.tup [D.sl Tag.own [],D.bool false]))
    (zar (zaS [D.agg [D.int IntKind.i64 a0_0,D.int IntKind.i64 a0_1,D.int IntKind.i64 a0_2]]) fun r3=>
    asI IntKind.i64 r3 fun i4=>
    brK ((↑(List.length a2):Int) != i4)
      (some (D.tup [D.sl Tag.own [],D.bool false]))
      (zar (zb8 [D.sl Tag.lent a2]) fun r5=>
      asB r5 fun b6=>
      brK (!b6)
        (some (D.tup [D.sl Tag.own [],D.bool false]))
        (sif ((0:Int)≤a0_1) <|
        sif (a0_1=a0_1) <|
        sif (a0_1*(24:Int)≤(140737488355328:Int)) <|
        sif (a0_1≤(140737488355328:Int)) <|
        sif (Int.toNat a0_1=List.length (List.replicate (Int.toNat a0_1) (D.sl Tag.nil []))) <|
        zcb (α:=(Int×List D×(Int×Int×Int×PUnit)×List D×List D×Int×Int×PUnit)×PUnit) (fun again7 ((i8,(l9,((i10,(i11,(i12,_))),(l13,(l14,(i15,(i16,_))))))),_)=>
          brK (decide (i16 < i15))
            (sif ((0:Int)≤i16) <|
            getK l14 (Int.toNat i16) fun d17=>
            asSl d17 fun t18 l19=>
            zar (zbl [D.agg [D.int IntKind.i64 i10,D.int IntKind.i64 i11,D.int IntKind.i64 i12],D.int IntKind.i64 i8,D.int IntKind.i64 i16]) fun r20=>
            asI IntKind.i64 r20 fun i21=>
            zar (zan [D.sl t18 l19]) fun r22=>
            za8 r22 fun l23=>
            sif ((0:Int)≤i21) <|
            sif (Int.toNat i21 < List.length l13) <|
            sif ((0:Nat)+List.length l23≤List.length l23) <|
            getK l13 ((0:Nat)+Int.toNat i21) fun d24=>
            sif ((0:Nat)+List.length l23≤List.length l23) <|
            sif (D.isAgg d24=false) <|
            letN (IntKind.wrap IntKind.i64 (i16+(1:Int))) fun n25=>
            sif (List.length l13=List.length (List.set l13 ((0:Nat)+Int.toNat i21) (D.sl Tag.fresh (cut (0:Nat) (List.length l23) l23)))) <|
            again7 (((i8,l9,(i10,i11,i12,PUnit.unit),List.set l13 ((0:Nat)+Int.toNat i21) (D.sl Tag.fresh (cut (0:Nat) (List.length l23) l23)),l14,i15,n25,PUnit.unit),PUnit.unit)))
            (zar (zaK [D.agg [D.int IntKind.i64 i10,D.int IntKind.i64 i11,D.int IntKind.i64 i12],D.int IntKind.i64 i8]) fun r26=>
            zev r26 fun ts27=>
            zaw ([Lf.any,Lf.any]) ts27 fun c28=>
            asI IntKind.i64 c28.fst fun i29=>
            asI IntKind.i64 c28.snd.fst fun i30=>
            zar (zbT [D.sl Tag.lent l9]) fun r31=>
            za8 r31 fun l32=>
            sif ((0:Int)≤i29) <|
            sif (Int.toNat i29 < List.length l13) <|
            sif ((0:Nat)+List.length l32≤List.length l32) <|
            getK l13 ((0:Nat)+Int.toNat i29) fun d33=>
            sif ((0:Nat)+List.length l32≤List.length l32) <|
            sif (D.isAgg d33=false) <|
            brK (decide (i30≥(0:Int)))
              (zar (zbU [D.sl Tag.lent l9]) fun r34=>
              za8 r34 fun l35=>
              sif ((0:Int)≤i30) <|
              sif (Int.toNat i30 < List.length l13) <|
              sif ((0:Nat)+List.length l35≤List.length l35) <|
              getK (List.set l13 ((0:Nat)+Int.toNat i29) (D.sl Tag.fresh (cut (0:Nat) (List.length l32) l32))) ((0:Nat)+Int.toNat i30) fun d36=>
              sif ((0:Nat)+List.length l35≤List.length l35) <|
              sif (D.isAgg d36=false) <|
              sif (List.length l13=List.length (List.set (List.set l13 ((0:Nat)+Int.toNat i29) (D.sl Tag.fresh (cut (0:Nat) (List.length l32) l32))) ((0:Nat)+Int.toNat i30) (D.sl Tag.fresh (cut (0:Nat) (List.length l35) l35)))) <|
              sif (List.all (List.set (List.set l13 ((0:Nat)+Int.toNat i29) (D.sl Tag.fresh (cut (0:Nat) (List.length l32) l32))) ((0:Nat)+Int.toNat i30) (D.sl Tag.fresh (cut (0:Nat) (List.length l35) l35))) D.free=true) <|
              some (D.tup [D.sl Tag.own (List.set (List.set l13 ((0:Nat)+Int.toNat i29) (D.sl Tag.fresh (cut (0:Nat) (List.length l32) l32))) ((0:Nat)+Int.toNat i30) (D.sl Tag.fresh (cut (0:Nat) (List.length l35) l35))),D.bool true]))
              (sif (List.length l13=List.length (List.set l13 ((0:Nat)+Int.toNat i29) (D.sl Tag.fresh (cut (0:Nat) (List.length l32) l32)))) <|
              sif (List.all (List.set l13 ((0:Nat)+Int.toNat i29) (D.sl Tag.fresh (cut (0:Nat) (List.length l32) l32))) D.free=true) <|
              some (D.tup [D.sl Tag.own (List.set l13 ((0:Nat)+Int.toNat i29) (D.sl Tag.fresh (cut (0:Nat) (List.length l32) l32))),D.bool true]))))
          (((a1,a2,(a0_0,a0_1,a0_2,PUnit.unit),List.replicate (Int.toNat a0_1) (D.sl Tag.nil []),a2,(↑(List.length a2):Int),(0:Int),PUnit.unit),PUnit.unit)))))
theorem zyW (zcz:List D→Option D) (zaS:List D→Option D) (zb8:List D→Option D) (zbl:List D→Option D) (zan:List D→Option D) (zaK:List D→Option D) (zbT:List D→Option D) (zbU:List D→Option D) (tga2:Tag) (a0_0:Int) (a0_1:Int) (a0_2:Int) (a1:Int) (a2:List D):denP Try.prog (zax [(ID.row_in,(.pure [0] zcz)),(ID.geom_Width,(.pure [0] zaS)),(ID.row_sectors,(.pure [0] zb8)),(ID.place_Disk,(.pure [0] zbl)),(ID.slices_Clone_byte_byte,(.pure [1] zan)),(ID.place_Parity,(.pure [0,0] zaK)),(ID.synd_P,(.pure [1] zbT)),(ID.synd_Q,(.pure [1] zbU))]) zpa [1,0] ID.row_Fill [.agg [.int .i64 a0_0,.int .i64 a0_1,.int .i64 a0_2],.int .i64 a1,.sl tga2 a2]=zou zcz zaS zb8 zbl zan zaK zbT zbU a0_0 a0_1 a0_2 a1 (D.lentL a2):=by kernel_rfl
theorem zud (tga2:Tag) (a0_0:Int) (a0_1:Int) (a0_2:Int) (a1:Int) (a2:List D):zbS [.agg [.int .i64 a0_0,.int .i64 a0_1,.int .i64 a0_2],.int .i64 a1,.sl tga2 a2]=zou zcz zaS zb8 zbl zan zaK zbT zbU a0_0 a0_1 a0_2 a1 (D.lentL a2):=zyW zcz zaS zb8 zbl zan zaK zbT zbU tga2 a0_0 a0_1 a0_2 a1 a2
def zcB:Ann:={ loops:=[] }
noncomputable def zae:List D→Option D:=denE Try.prog (zax []) zcB [33] ID.slices_Clone_disk_write_disk_write
theorem zdL:za7 Try.prog ID.slices_Clone_disk_write_disk_write (.pure [33] zae):=zsv (zaD []) zbD ⟨Try.f121,by kernel_rfl,by kernel_rfl,by kernel_rfl⟩
noncomputable def zcw:Fact Try.prog:=⟨ID.slices_Clone_disk_write_disk_write,(.pure [33] zae),zdL⟩
noncomputable def zb7 (a0:D) (b0:List D):Option D:=
  sif (List.length (a0::b0)≤(4294967296:Nat)) <|
  sif (zdG (33:Nat) (a0::b0)=true) <|
  sif (List.length (a0::b0)=List.length (a0::b0)) <|
  sif (List.all (a0::b0) D.free=true) <|
  some (D.sl Tag.own (a0::b0))
theorem zep (tga0:Tag) (a0:D) (b0:List D):denE Try.prog (zax []) zcB [33] ID.slices_Clone_disk_write_disk_write [.sl tga0 (a0::b0)]=zb7 (D.lent a0) (D.lentL b0):=by kernel_rfl
theorem zdW (tga0:Tag) (a0:D) (b0:List D):zae [.sl tga0 (a0::b0)]=zb7 (D.lent a0) (D.lentL b0):=zep tga0 a0 b0
theorem zdM (tg:Tag):zae [.sl tg []]=some (.sl .own []):=(zo2 (some (.sl .own [])))
def zgY:Ann:={ loops:=[],pubs:=[(2,[(3,119,7649)])],ks:=[(7649,true)] }
noncomputable def zaQ:List D→List Tb→Option Ans:=denS Try.prog (zax [(ID.slices_Clone_disk_write_disk_write,(.pure [33] zae))]) zgY [0] ID.disk_Disk_Clone
theorem zku:za7 Try.prog ID.disk_Disk_Clone (.st [] [0] [(7649,true)] zaQ):=zbg (zaD [zcw]) zbD ⟨Try.f93,by kernel_rfl,by kernel_rfl,by kernel_rfl⟩
noncomputable def zga:Fact Try.prog:=⟨ID.disk_Disk_Clone,(.st [] [0] [(7649,true)] zaQ),zku⟩
noncomputable def zfw (zae:List D→Option D) (a0:Nat) (T0:Tb):Option Ans:=
  getK T0 a0 fun d1=>
  sif ((1666:Nat)≤List.length d1) <|
  sif (List.length (List.map D.hide (List.take (1666:Nat) (List.drop (0:Nat) d1)))=(1666:Nat)) <|
  getK T0 a0 fun d2=>
  getK d2 ((1664:Nat)) fun d3=>
  za8 d3 fun l4=>
  getK T0 a0 fun d5=>
  getK d5 ((1664:Nat)) fun d6=>
  za8 d6 fun l7=>
  sif ((0:Nat)+List.length l4≤List.length l7) <|
  zar (zae [D.sl Tag.lent (cut (0:Nat) (List.length l4) l7)]) fun r8=>
  za8 r8 fun l9=>
  sif ((0:Nat)+List.length l9≤List.length l9) <|
  sif ((1664:Nat) < List.length (spl (0:Nat) (1666:Nat) (List.reverse ([D.bool false,D.sl Tag.nil []]++List.replicate 1664 (D.int IntKind.u8 (0:Int)))) (List.map D.hide (List.take (1666:Nat) (List.drop (0:Nat) d1))))) <|
  sif (some (1666:Nat)=some (List.length (spl (0:Nat) (1666:Nat) (List.reverse ([D.bool false,D.sl Tag.nil []]++List.replicate 1664 (D.int IntKind.u8 (0:Int)))) (List.map D.hide (List.take (1666:Nat) (List.drop (0:Nat) d1)))))) <|
  sif (List.length l9=List.length l9) <|
  sif (zc7 l9=true) <|
  sif (zfe (33:Nat) l9=true) <|
  sif (List.all (List.set (spl (0:Nat) (1666:Nat) (List.reverse ([D.bool false,D.sl Tag.nil []]++List.replicate 1664 (D.int IntKind.u8 (0:Int)))) (List.map D.hide (List.take (1666:Nat) (List.drop (0:Nat) d1)))) (1664:Nat) D.nilp) D.own0ok=true) <|
  sif ((true && decide ((1:Nat)=(1:Nat)) && List.all [(1664:Nat)] fun k=>decide (k < List.length (spl (0:Nat) (1666:Nat) (List.reverse ([D.bool false,D.sl Tag.nil []]++List.replicate 1664 (D.int IntKind.u8 (0:Int)))) (List.map D.hide (List.take (1666:Nat) (List.drop (0:Nat) d1))))))=true) <|
  letT (T0++[List.set (List.map D.own0 (spl (0:Nat) (1666:Nat) (List.reverse ([D.bool false,D.sl Tag.nil []]++List.replicate 1664 (D.int IntKind.u8 (0:Int)))) (List.map D.hide (List.take (1666:Nat) (List.drop (0:Nat) d1))))) (1664:Nat) (D.sl Tag.own l9)]) fun U10=>
  some (Ans.mk (D.h (7649:Nat) (List.length T0) (0:Nat)) [] [U10])
theorem zov (zae:List D→Option D) (a0:Nat) (T0:Tb):denS Try.prog (zax [(ID.slices_Clone_disk_write_disk_write,(.pure [33] zae))]) zgY [0] ID.disk_Disk_Clone [.h 7649 a0 0] [T0]=zfw zae a0 T0:=by kernel_rfl
theorem zlr (a0:Nat) (T0:Tb):zaQ [.h 7649 a0 0] [T0]=zfw zae a0 T0:=zov zae a0 T0
def zii:Ann:={ loops:=[],ks:=[(7649,false)] }
noncomputable def zaX:List D→List Tb→Option Ans:=denS Try.prog (zax [(ID.disk_Disk_may,(.st [] [0] [(7649,false)] zaW))]) zii [0,0] ID.disk_Disk_put
theorem zmy:za7 Try.prog ID.disk_Disk_put (.st [] [0,0] [(7649,false)] zaX):=zbg (zaD [zhq]) zbD ⟨Try.f124,by kernel_rfl,by kernel_rfl,by kernel_rfl⟩
noncomputable def zhs:Fact Try.prog:=⟨ID.disk_Disk_put,(.st [] [0,0] [(7649,false)] zaX),zmy⟩
noncomputable def zgZ (zaW:List D→List Tb→Option Ans) (a0:Nat) (a1:Int) (a2:List D) (T0:Tb):Option Ans:=
  zar (zaW [D.h (7649:Nat) a0 (0:Nat),D.int IntKind.i64 a1] [T0]) fun r1=>
  nilK r1.outs <|
  nilK r1.tbs <|
  asI IntKind.i64 r1.r fun i2=>
  brK (i2 != (0:Int))
    (some (Ans.mk (D.tup [D.agg [D.int IntKind.i64 (0:Int),D.int IntKind.u8 (0:Int),D.int IntKind.u8 (0:Int),D.int IntKind.u8 (0:Int),D.int IntKind.u8 (0:Int),D.int IntKind.u8 (0:Int),D.int IntKind.u8 (0:Int),D.int IntKind.u8 (0:Int),D.int IntKind.u8 (0:Int),D.int IntKind.u8 (0:Int),D.int IntKind.u8 (0:Int),D.int IntKind.u8 (0:Int),D.int IntKind.u8 (0:Int),D.int IntKind.u8 (0:Int),D.int IntKind.u8 (0:Int),D.int IntKind.u8 (0:Int),D.int IntKind.u8 (0:Int),D.int IntKind.u8 (0:Int),D.int IntKind.u8 (0:Int),D.int IntKind.u8 (0:Int),D.int IntKind.u8 (0:Int),D.int IntKind.u8 (0:Int),D.int IntKind.u8 (0:Int),D.int IntKind.u8 (0:Int),D.int IntKind.u8 (0:Int),D.int IntKind.u8 (0:Int),D.int IntKind.u8 (0:Int),D.int IntKind.u8 (0:Int),D.int IntKind.u8 (0:Int),D.int IntKind.u8 (0:Int),D.int IntKind.u8 (0:Int),D.int IntKind.u8 (0:Int),D.int IntKind.u8 (0:Int)],D.int IntKind.i64 i2]) [] []))
    (brK ((↑(List.length a2):Int) != (32:Int))
      (some (Ans.mk (D.tup [D.agg [D.int IntKind.i64 (0:Int),D.int IntKind.u8 (0:Int),D.int IntKind.u8 (0:Int),D.int IntKind.u8 (0:Int),D.int IntKind.u8 (0:Int),D.int IntKind.u8 (0:Int),D.int IntKind.u8 (0:Int),D.int IntKind.u8 (0:Int),D.int IntKind.u8 (0:Int),D.int IntKind.u8 (0:Int),D.int IntKind.u8 (0:Int),D.int IntKind.u8 (0:Int),D.int IntKind.u8 (0:Int),D.int IntKind.u8 (0:Int),D.int IntKind.u8 (0:Int),D.int IntKind.u8 (0:Int),D.int IntKind.u8 (0:Int),D.int IntKind.u8 (0:Int),D.int IntKind.u8 (0:Int),D.int IntKind.u8 (0:Int),D.int IntKind.u8 (0:Int),D.int IntKind.u8 (0:Int),D.int IntKind.u8 (0:Int),D.int IntKind.u8 (0:Int),D.int IntKind.u8 (0:Int),D.int IntKind.u8 (0:Int),D.int IntKind.u8 (0:Int),D.int IntKind.u8 (0:Int),D.int IntKind.u8 (0:Int),D.int IntKind.u8 (0:Int),D.int IntKind.u8 (0:Int),D.int IntKind.u8 (0:Int),D.int IntKind.u8 (0:Int)],D.int IntKind.i64 (1:Int)]) [] []))
      (sif (cells a2=true) <|
      sif (List.length a2=(32:Nat)) <|
      sif ((33:Nat)≤List.length ([D.int IntKind.i64 a1]++(a2++[]))) <|
      zaw ([Lf.int IntKind.i64,Lf.arr (32)]) (List.take (33:Nat) (List.drop (0:Nat) ([D.int IntKind.i64 a1]++(a2++[])))) fun c3=>
      sif (List.length ([D.int IntKind.i64 c3.fst]++(c3.snd.fst++[]))=(33:Nat)) <|
      sif ((33:Nat)≤List.length ([D.int IntKind.i64 c3.fst]++(c3.snd.fst++[]))) <|
      zaw ([Lf.int IntKind.i64,Lf.arr (32)]) (List.take (33:Nat) (List.drop (0:Nat) ([D.int IntKind.i64 c3.fst]++(c3.snd.fst++[])))) fun c4=>
      sif (D.free (D.agg ([D.int IntKind.i64 c4.fst]++(c4.snd.fst++[])))=true) <|
      some (Ans.mk (D.tup [D.agg ([D.int IntKind.i64 c4.fst]++(c4.snd.fst++[])),D.int IntKind.i64 (0:Int)]) [] [])))
theorem zrc (zaW:List D→List Tb→Option Ans) (tga2:Tag) (a0:Nat) (a1:Int) (a2:List D) (T0:Tb):denS Try.prog (zax [(ID.disk_Disk_may,(.st [] [0] [(7649,false)] zaW))]) zii [0,0] ID.disk_Disk_put [.h 7649 a0 0,.int .i64 a1,.sl tga2 a2] [T0]=zgZ zaW a0 a1 (D.lentL a2) T0:=by kernel_rfl
theorem znA (tga2:Tag) (a0:Nat) (a1:Int) (a2:List D) (T0:Tb):zaX [.h 7649 a0 0,.int .i64 a1,.sl tga2 a2] [T0]=zgZ zaW a0 a1 (D.lentL a2) T0:=zrc zaW tga2 a0 a1 a2 T0
def zg0:Ann:={ loops:=[],ks:=[(7649,true)] }
noncomputable def zbn:List D→List Tb→Option Ans:=denS Try.prog (zax [(ID.disk_Disk_put,(.st [] [0,0] [(7649,false)] zaX))]) zg0 [0] ID.disk_Disk_Write
theorem zkv:za7 Try.prog ID.disk_Disk_Write (.st [] [0] [(7649,true)] zbn):=zbg (zaD [zhs]) zbD ⟨Try.f112,by kernel_rfl,by kernel_rfl,by kernel_rfl⟩
noncomputable def zls:Fact Try.prog:=⟨ID.disk_Disk_Write,(.st [] [0] [(7649,true)] zbn),zkv⟩
noncomputable def zfx (zaX:List D→List Tb→Option Ans) (a0:Nat) (a1:Int) (a2:List D) (T0:Tb):Option Ans:=
  zar (zaX [D.h (7649:Nat) a0 (0:Nat),D.int IntKind.i64 a1,D.sl Tag.lent a2] [T0]) fun r1=>
  nilK r1.outs <|
  nilK r1.tbs <|
  zev r1.r fun ts2=>
  zaw ([Lf.any,Lf.any]) ts2 fun c3=>
  asAgg c3.fst fun cs4=>
  zaw ([Lf.int IntKind.i64,Lf.arr (32)]) cs4 fun c5=>
  asI IntKind.i64 c3.snd.fst fun i6=>
  sif (List.length ([D.int IntKind.i64 c5.fst]++(c5.snd.fst++[]))=(33:Nat)) <|
  brK (i6 == (0:Int))
    (getK T0 a0 fun d7=>
    getK d7 ((1664:Nat)) fun d8=>
    za8 d8 fun l9=>
    sif ((33:Nat)≤List.length ([D.int IntKind.i64 c5.fst]++(c5.snd.fst++[]))) <|
    zaw ([Lf.int IntKind.i64,Lf.arr (32)]) (List.take (33:Nat) (List.drop (0:Nat) ([D.int IntKind.i64 c5.fst]++(c5.snd.fst++[])))) fun c10=>
    sif (zdG (33:Nat) [D.agg ([D.int IntKind.i64 c10.fst]++(c10.snd.fst++[]))]=true) <|
    getK T0 a0 fun d11=>
    getK d11 ((1664:Nat)) fun d12=>
    za8 d12 fun l13=>
    sif (List.length l9+(1:Nat)≤(4294967296:Nat)) <|
    sif (zdG (33:Nat) [D.agg ([D.int IntKind.i64 c10.fst]++(c10.snd.fst++[]))]=true) <|
    sif (List.length l9=List.length l13) <|
    letT (setT T0 a0 (1664:Nat) D.undef) fun U14=>
    getK U14 a0 fun d15=>
    sif ((1665:Nat)≤List.length d15) <|
    sif (List.length l9+(1:Nat)=List.length (l13++[D.agg ([D.int IntKind.i64 c10.fst]++(c10.snd.fst++[]))])) <|
    sif (zc7 (l13++[D.agg ([D.int IntKind.i64 c10.fst]++(c10.snd.fst++[]))])=true) <|
    sif (zfe (33:Nat) (l13++[D.agg ([D.int IntKind.i64 c10.fst]++(c10.snd.fst++[]))])=true) <|
    letT (zaY U14 a0 (1664:Nat) [D.sl Tag.own (l13++[D.agg ([D.int IntKind.i64 c10.fst]++(c10.snd.fst++[]))])]) fun U16=>
    some (Ans.mk (D.int IntKind.i64 i6) [] [U16]))
    (some (Ans.mk (D.int IntKind.i64 i6) [] [T0]))
theorem zow (zaX:List D→List Tb→Option Ans) (tga2:Tag) (a0:Nat) (a1:Int) (a2:List D) (T0:Tb):denS Try.prog (zax [(ID.disk_Disk_put,(.st [] [0,0] [(7649,false)] zaX))]) zg0 [0] ID.disk_Disk_Write [.h 7649 a0 0,.int .i64 a1,.sl tga2 a2] [T0]=zfx zaX a0 a1 (D.lentL a2) T0:=by kernel_rfl
theorem zlt (tga2:Tag) (a0:Nat) (a1:Int) (a2:List D) (T0:Tb):zbn [.h 7649 a0 0,.int .i64 a1,.sl tga2 a2] [T0]=zfx zaX a0 a1 (D.lentL a2) T0:=zow zaX tga2 a0 a1 a2 T0
def ze1:Ann:={ loops:=[],ks:=[(3840,true)] }
noncomputable def za4:List D→List Tb→Option Ans:=denS Try.prog (zax []) ze1 [0] ID.bench_counter_count
theorem zhH:za7 Try.prog ID.bench_counter_count (.st [] [0] [(3840,true)] za4):=zbg (zaD []) zbD ⟨Try.f113,by kernel_rfl,by kernel_rfl,by kernel_rfl⟩
noncomputable def zij:Fact Try.prog:=⟨ID.bench_counter_count,(.st [] [0] [(3840,true)] za4),zhH⟩
noncomputable def zdX (a0:Nat) (T0:Tb):Option Ans:=
  getK T0 a0 fun d1=>
  getK d1 ((1:Nat)) fun d2=>
  asI IntKind.i64 d2 fun i3=>
  brK (i3 == (0:Int))
    (getK T0 a0 fun d4=>
    sif ((3:Nat)≤List.length d4) <|
    sif (zgK (List.take (1:Nat) (List.drop (2:Nat) d4))=true) <|
    letT (zaY T0 a0 (2:Nat) [D.bool true]) fun U5=>
    some (Ans.mk (D.bool false) [] [U5]))
    (getK T0 a0 fun d6=>
    getK d6 ((1:Nat)) fun d7=>
    asI IntKind.i64 d7 fun i8=>
    brK (decide (i8 > (0:Int)))
      (getK T0 a0 fun d9=>
      getK d9 ((1:Nat)) fun d10=>
      asI IntKind.i64 d10 fun i11=>
      letN (IntKind.wrap IntKind.i64 (i11 - (1:Int))) fun n12=>
      getK T0 a0 fun d13=>
      sif ((2:Nat)≤List.length d13) <|
      sif (zgK (List.take (1:Nat) (List.drop (1:Nat) d13))=true) <|
      letT (zaY T0 a0 (1:Nat) [D.int IntKind.i64 n12]) fun U14=>
      getK U14 a0 fun d15=>
      getK d15 ((0:Nat)) fun d16=>
      asI IntKind.i64 d16 fun i17=>
      letN (IntKind.wrap IntKind.i64 (i17+(1:Int))) fun n18=>
      getK U14 a0 fun d19=>
      sif ((1:Nat)≤List.length d19) <|
      sif (zgK (List.take (1:Nat) (List.drop (0:Nat) d19))=true) <|
      letT (zaY U14 a0 (0:Nat) [D.int IntKind.i64 n18]) fun U20=>
      some (Ans.mk (D.bool true) [] [U20]))
      (getK T0 a0 fun d21=>
      getK d21 ((0:Nat)) fun d22=>
      asI IntKind.i64 d22 fun i23=>
      letN (IntKind.wrap IntKind.i64 (i23+(1:Int))) fun n24=>
      getK T0 a0 fun d25=>
      sif ((1:Nat)≤List.length d25) <|
      sif (zgK (List.take (1:Nat) (List.drop (0:Nat) d25))=true) <|
      letT (zaY T0 a0 (0:Nat) [D.int IntKind.i64 n24]) fun U26=>
      some (Ans.mk (D.bool true) [] [U26])))
theorem zkw (a0:Nat) (T0:Tb):denS Try.prog (zax []) ze1 [0] ID.bench_counter_count [.h 3840 a0 0] [T0]=zdX a0 T0:=by kernel_rfl
theorem zik (a0:Nat) (T0:Tb):za4 [.h 3840 a0 0] [T0]=zdX a0 T0:=zkw a0 T0
def zfR:Ann:={ loops:=[],ks:=[(3840,true),(7649,true)] }
noncomputable def zaG:List D→List Tb→Option Ans:=denS Try.prog (zax [(ID.bench_Bench_may,(.st [] [0] [(3840,false)] zav)),(ID.disk_Disk_Clone,(.st [] [0] [(7649,true)] zaQ)),(ID.disk_Disk_Write,(.st [] [0] [(7649,true)] zbn)),(ID.bench_counter_count,(.st [] [0] [(3840,true)] za4))]) zfR [0] ID.bench_Bench_Write
theorem ziX:za7 Try.prog ID.bench_Bench_Write (.st [] [0] [(3840,true),(7649,true)] zaG):=zbg (zaD [zee,zga,zls,zij]) zbD ⟨Try.f78,by kernel_rfl,by kernel_rfl,by kernel_rfl⟩
noncomputable def zjv:Fact Try.prog:=⟨ID.bench_Bench_Write,(.st [] [0] [(3840,true),(7649,true)] zaG),ziX⟩
noncomputable def zeB (zav:List D→List Tb→Option Ans) (zaQ:List D→List Tb→Option Ans) (zbn:List D→List Tb→Option Ans) (za4:List D→List Tb→Option Ans) (a0:Nat) (a1:Int) (a2:Int) (a3:List D) (T0:Tb) (T1:Tb):Option Ans:=
  zar (zav [D.h (3840:Nat) a0 (0:Nat),D.int IntKind.i64 a1] [T0]) fun r1=>
  nilK r1.outs <|
  nilK r1.tbs <|
  asI IntKind.i64 r1.r fun i2=>
  brK (i2 != (0:Int))
    (some (Ans.mk (D.int IntKind.i64 i2) [] [T0,T1]))
    (getK T0 a0 fun d3=>
    getK d3 ((3:Nat)) fun d4=>
    za8 d4 fun l5=>
    getK T0 a0 fun d6=>
    getK d6 ((3:Nat)) fun d7=>
    za8 d7 fun l8=>
    sif ((0:Int)≤a1) <|
    sif (Int.toNat a1 < List.length l5) <|
    getK T0 a0 fun d9=>
    getK d9 ((3:Nat)) fun d10=>
    za8 d10 fun l11=>
    getK l11 ((0:Nat)+Int.toNat a1) fun d12=>
    sif (D.isAgg d12=false) <|
    sif (D.width d12=(1:Nat)) <|
    sif (D.cell d12=true) <|
    zar (zaQ [d12] [T1]) fun r13=>
    nilK r13.outs <|
    zcl r13.tbs fun c14 q15=>
    nilK q15 <|
    sif (zgL r13.r=true) <|
    zar (zbn [r13.r,D.int IntKind.i64 a2,D.sl Tag.lent a3] [c14]) fun r16=>
    nilK r16.outs <|
    zcl r16.tbs fun c17 q18=>
    nilK q18 <|
    asI IntKind.i64 r16.r fun i19=>
    brK (i19 != (0:Int))
      (some (Ans.mk (D.int IntKind.i64 i19) [] [T0,c17]))
      (zar (za4 [D.h (3840:Nat) a0 (0:Nat)] [T0]) fun r20=>
      nilK r20.outs <|
      zcl r20.tbs fun c21 q22=>
      nilK q22 <|
      asB r20.r fun b23=>
      brK (!b23)
        (some (Ans.mk (D.int IntKind.i64 (6:Int)) [] [c21,c17]))
        (getK c21 a0 fun d24=>
        getK d24 ((3:Nat)) fun d25=>
        za8 d25 fun l26=>
        getK c21 a0 fun d27=>
        getK d27 ((3:Nat)) fun d28=>
        za8 d28 fun l29=>
        sif ((0:Int)≤a1) <|
        sif (Int.toNat a1 < List.length l26) <|
        getK c21 a0 fun d30=>
        getK d30 ((3:Nat)) fun d31=>
        za8 d31 fun l32=>
        getK l32 ((0:Nat)+Int.toNat a1) fun d33=>
        sif (D.isAgg d33=false) <|
        sif (D.width d33=(1:Nat)) <|
        sif (D.cell d33=true) <|
        zar (zbn [d33,D.int IntKind.i64 a2,D.sl Tag.lent a3] [c17]) fun r34=>
        nilK r34.outs <|
        zcl r34.tbs fun c35 q36=>
        nilK q36 <|
        asI IntKind.i64 r34.r fun i37=>
        some (Ans.mk (D.int IntKind.i64 i37) [] [c21,c35]))))
theorem zmz (zav:List D→List Tb→Option Ans) (zaQ:List D→List Tb→Option Ans) (zbn:List D→List Tb→Option Ans) (za4:List D→List Tb→Option Ans) (tga3:Tag) (a0:Nat) (a1:Int) (a2:Int) (a3:List D) (T0:Tb) (T1:Tb):denS Try.prog (zax [(ID.bench_Bench_may,(.st [] [0] [(3840,false)] zav)),(ID.disk_Disk_Clone,(.st [] [0] [(7649,true)] zaQ)),(ID.disk_Disk_Write,(.st [] [0] [(7649,true)] zbn)),(ID.bench_counter_count,(.st [] [0] [(3840,true)] za4))]) zfR [0] ID.bench_Bench_Write [.h 3840 a0 0,.int .i64 a1,.int .i64 a2,.sl tga3 a3] [T0,T1]=zeB zav zaQ zbn za4 a0 a1 a2 (D.lentL a3) T0 T1:=by kernel_rfl
theorem zjw (tga3:Tag) (a0:Nat) (a1:Int) (a2:Int) (a3:List D) (T0:Tb) (T1:Tb):zaG [.h 3840 a0 0,.int .i64 a1,.int .i64 a2,.sl tga3 a3] [T0,T1]=zeB zav zaQ zbn za4 a0 a1 a2 (D.lentL a3) T0 T1:=zmz zav zaQ zbn za4 tga3 a0 a1 a2 a3 T0 T1
def zkx:Ann:={ loops:=[],ks:=[(3840,true),(7649,true)] }
noncomputable def zbB:List D→List Tb→Option Ans:=denS Try.prog (zax [(ID.stripe_Read,(.st [] [1,0] [(3840,false),(7649,false)] zbZ)),(ID.row_Fill,(.pure [1,0] zbS)),(ID.bench_Bench_Write,(.st [] [0] [(3840,true),(7649,true)] zaG))]) zkx [0] ID.rebuild_one
theorem zox:za7 Try.prog ID.rebuild_one (.st [] [0] [(3840,true),(7649,true)] zbB):=zbg (zaD [zpu,zuc,zjv]) zbD ⟨Try.f92,by kernel_rfl,by kernel_rfl,by kernel_rfl⟩
noncomputable def zpy:Fact Try.prog:=⟨ID.rebuild_one,(.st [] [0] [(3840,true),(7649,true)] zbB),zox⟩
noncomputable def ziY (zbZ:List D→List Tb→Option Ans) (zbS:List D→Option D) (zaG:List D→List Tb→Option Ans) (a0:Nat) (a1:List D) (a2:Int) (a3_0:Int) (a3_1:Int) (a3_2:Int) (a4:Int) (T0:Tb) (T1:Tb):Option Ans:=
  zar (zbZ [D.h (3840:Nat) a0 (0:Nat),D.sl Tag.lent a1,D.agg [D.int IntKind.i64 a3_0,D.int IntKind.i64 a3_1,D.int IntKind.i64 a3_2],D.int IntKind.i64 a4] [T0,T1]) fun r1=>
  nilK r1.outs <|
  nilK r1.tbs <|
  zev r1.r fun ts2=>
  zaw ([Lf.any,Lf.any]) ts2 fun c3=>
  za8 c3.fst fun l4=>
  asI IntKind.i64 c3.snd.fst fun i5=>
  brK (i5 != (0:Int))
    (some (Ans.mk (D.int IntKind.i64 i5) [] [T0,T1]))
    (sif ((0:Nat)+List.length l4≤List.length l4) <|
    zar (zbS [D.agg [D.int IntKind.i64 a3_0,D.int IntKind.i64 a3_1,D.int IntKind.i64 a3_2],D.int IntKind.i64 a4,D.sl Tag.lent (cut (0:Nat) (List.length l4) l4)]) fun r6=>
    zev r6 fun ts7=>
    zaw ([Lf.any,Lf.any]) ts7 fun c8=>
    za8 c8.fst fun l9=>
    asB c8.snd.fst fun b10=>
    letN (IntKind.wrap IntKind.i64 ((36:Int)+a4)) fun n11=>
    sif ((0:Int)≤a2) <|
    sif (Int.toNat a2 < List.length l9) <|
    getK l9 ((0:Nat)+Int.toNat a2) fun d12=>
    asSl d12 fun t13 l14=>
    zar (zaG [D.h (3840:Nat) a0 (0:Nat),D.int IntKind.i64 a2,D.int IntKind.i64 n11,D.sl t13 l14] [T0,T1]) fun r15=>
    nilK r15.outs <|
    zcl r15.tbs fun c16 q17=>
    zcl q17 fun c18 q19=>
    nilK q19 <|
    asI IntKind.i64 r15.r fun i20=>
    some (Ans.mk (D.int IntKind.i64 i20) [] [c16,c18]))
theorem zue (zbZ:List D→List Tb→Option Ans) (zbS:List D→Option D) (zaG:List D→List Tb→Option Ans) (tga1:Tag) (a0:Nat) (a1:List D) (a2:Int) (a3_0:Int) (a3_1:Int) (a3_2:Int) (a4:Int) (T0:Tb) (T1:Tb):denS Try.prog (zax [(ID.stripe_Read,(.st [] [1,0] [(3840,false),(7649,false)] zbZ)),(ID.row_Fill,(.pure [1,0] zbS)),(ID.bench_Bench_Write,(.st [] [0] [(3840,true),(7649,true)] zaG))]) zkx [0] ID.rebuild_one [.h 3840 a0 0,.sl tga1 a1,.int .i64 a2,.agg [.int .i64 a3_0,.int .i64 a3_1,.int .i64 a3_2],.int .i64 a4] [T0,T1]=ziY zbZ zbS zaG a0 (D.lentL a1) a2 a3_0 a3_1 a3_2 a4 T0 T1:=by kernel_rfl
theorem zpz (tga1:Tag) (a0:Nat) (a1:List D) (a2:Int) (a3_0:Int) (a3_1:Int) (a3_2:Int) (a4:Int) (T0:Tb) (T1:Tb):zbB [.h 3840 a0 0,.sl tga1 a1,.int .i64 a2,.agg [.int .i64 a3_0,.int .i64 a3_1,.int .i64 a3_2],.int .i64 a4] [T0,T1]=ziY zbZ zbS zaG a0 (D.lentL a1) a2 a3_0 a3_1 a3_2 a4 T0 T1:=zue zbZ zbS zaG tga1 a0 a1 a2 a3_0 a3_1 a3_2 a4 T0 T1
def zg1:Ann:={ loops:=[(1,[.val (.cell (.hnd (7649:Nat))),.dead,.dead,.dead,.dead,.dead,.dead,.dead,.dead,.dead,.dead,.dead,.view 7649 1664,.val (.cell (.int .i64)),.val (.cell (.int .i64))])],ks:=[(7649,true)] }
noncomputable def zbw:List D→List Tb→Option Ans:=denS Try.prog (zax []) zg1 [0] ID.disk_Disk_Flush
theorem zky:za7 Try.prog ID.disk_Disk_Flush (.st [] [0] [(7649,true)] zbw):=zbg (zaD []) zbD ⟨Try.f114,by kernel_rfl,by kernel_rfl,by kernel_rfl⟩
noncomputable def zlu:Fact Try.prog:=⟨ID.disk_Disk_Flush,(.st [] [0] [(7649,true)] zbw),zky⟩
noncomputable def zfy (a0:Nat) (T0:Tb):Option Ans:=
  getK T0 a0 fun d1=>
  getK d1 ((1665:Nat)) fun d2=>
  asB d2 fun b3=>
  brK b3
    (some (Ans.mk (D.int IntKind.i64 (5:Int)) [] [T0]))
    (getK T0 a0 fun d4=>
    getK d4 ((1664:Nat)) fun d5=>
    za8 d5 fun l6=>
    getK T0 a0 fun d7=>
    getK d7 ((1664:Nat)) fun d8=>
    za8 d8 fun l9=>
    sif ((0:Nat)+List.length l6≤List.length l9) <|
    zcb (α:=(Nat×(Nat×Nat×Nat)×Int×Int×PUnit)×List (List D)×PUnit) (fun again10 ((x11,((x12,(x13,x14)),(i15,(i16,_)))),(U17,_))=>
      brK (decide (i16 < i15))
        (getK U17 x12 fun d18=>
        getK d18 ((1664:Nat)) fun d19=>
        za8 d19 fun l20=>
        sif ((0:Int)≤i16) <|
        sif (Int.toNat i16 < x14) <|
        getK U17 x12 fun d21=>
        getK d21 ((1664:Nat)) fun d22=>
        za8 d22 fun l23=>
        getK l23 (x13+Int.toNat i16) fun d24=>
        asAgg d24 fun cs25=>
        zaw ([Lf.int IntKind.i64,Lf.arr (32)]) cs25 fun c26=>
        sif (D.width (D.agg ([D.int IntKind.i64 c26.fst]++(c26.snd.fst++[])))=(33:Nat)) <|
        sif (List.length ([D.int IntKind.i64 c26.fst]++(c26.snd.fst++[]))=(33:Nat)) <|
        sif ((33:Nat)≤List.length ([D.int IntKind.i64 c26.fst]++(c26.snd.fst++[]))) <|
        sif (List.length (List.take (32:Nat) (List.drop (1:Nat) ([D.int IntKind.i64 c26.fst]++(c26.snd.fst++[]))))=(32:Nat)) <|
        sif ((0:Int)≤c26.fst) <|
        sif (Int.toNat c26.fst < (52:Nat)) <|
        getK U17 x11 fun d27=>
        sif ((0:Nat)+Int.toNat c26.fst*(32:Nat)+(32:Nat)≤List.length d27) <|
        sif (List.length (List.take (32:Nat) (List.drop (1:Nat) ([D.int IntKind.i64 c26.fst]++(c26.snd.fst++[]))))=(32:Nat)) <|
        sif (zgK (List.take (32:Nat) (List.drop (1:Nat) ([D.int IntKind.i64 c26.fst]++(c26.snd.fst++[]))))=true) <|
        sif (zgK (List.take (32:Nat) (List.drop ((0:Nat)+Int.toNat c26.fst*(32:Nat)) d27))=true) <|
        letT (zaY U17 x11 ((0:Nat)+Int.toNat c26.fst*(32:Nat)) (List.take (32:Nat) (List.drop (1:Nat) ([D.int IntKind.i64 c26.fst]++(c26.snd.fst++[]))))) fun U28=>
        letN (IntKind.wrap IntKind.i64 (i16+(1:Int))) fun n29=>
        again10 (((x11,(x12,x13,x14),i15,n29,PUnit.unit),U28,PUnit.unit)))
        (getK U17 x11 fun d30=>
        sif ((1665:Nat)≤List.length d30) <|
        letT (zaY U17 x11 (1664:Nat) [D.sl Tag.own []]) fun U31=>
        some (Ans.mk (D.int IntKind.i64 (0:Int)) [] [U31])))
      (((a0,(a0,(0:Nat),List.length l6),(↑(List.length l6):Int),(0:Int),PUnit.unit),T0,PUnit.unit)))
theorem zoy (a0:Nat) (T0:Tb):denS Try.prog (zax []) zg1 [0] ID.disk_Disk_Flush [.h 7649 a0 0] [T0]=zfy a0 T0:=by kernel_rfl
theorem zlv (a0:Nat) (T0:Tb):zbw [.h 7649 a0 0] [T0]=zfy a0 T0:=zoy a0 T0
def zfS:Ann:={ loops:=[],ks:=[(3840,false),(7649,true)] }
noncomputable def zaA:List D→List Tb→Option Ans:=denS Try.prog (zax [(ID.bench_Bench_may,(.st [] [0] [(3840,false)] zav)),(ID.disk_Disk_Flush,(.st [] [0] [(7649,true)] zbw))]) zfS [0] ID.bench_Bench_Flush
theorem ziZ:za7 Try.prog ID.bench_Bench_Flush (.st [] [0] [(3840,false),(7649,true)] zaA):=zbg (zaD [zee,zlu]) zbD ⟨Try.f79,by kernel_rfl,by kernel_rfl,by kernel_rfl⟩
noncomputable def zjx:Fact Try.prog:=⟨ID.bench_Bench_Flush,(.st [] [0] [(3840,false),(7649,true)] zaA),ziZ⟩
noncomputable def zeC (zav:List D→List Tb→Option Ans) (zbw:List D→List Tb→Option Ans) (a0:Nat) (a1:Int) (T0:Tb) (T1:Tb):Option Ans:=
  zar (zav [D.h (3840:Nat) a0 (0:Nat),D.int IntKind.i64 a1] [T0]) fun r1=>
  nilK r1.outs <|
  nilK r1.tbs <|
  asI IntKind.i64 r1.r fun i2=>
  brK (i2 != (0:Int))
    (some (Ans.mk (D.int IntKind.i64 i2) [] [T1]))
    (getK T0 a0 fun d3=>
    getK d3 ((3:Nat)) fun d4=>
    za8 d4 fun l5=>
    getK T0 a0 fun d6=>
    getK d6 ((3:Nat)) fun d7=>
    za8 d7 fun l8=>
    sif ((0:Int)≤a1) <|
    sif (Int.toNat a1 < List.length l5) <|
    getK T0 a0 fun d9=>
    getK d9 ((3:Nat)) fun d10=>
    za8 d10 fun l11=>
    getK l11 ((0:Nat)+Int.toNat a1) fun d12=>
    sif (D.isAgg d12=false) <|
    sif (D.width d12=(1:Nat)) <|
    sif (D.cell d12=true) <|
    zar (zbw [d12] [T1]) fun r13=>
    nilK r13.outs <|
    zcl r13.tbs fun c14 q15=>
    nilK q15 <|
    asI IntKind.i64 r13.r fun i16=>
    some (Ans.mk (D.int IntKind.i64 i16) [] [c14]))
theorem zmA (zav:List D→List Tb→Option Ans) (zbw:List D→List Tb→Option Ans) (a0:Nat) (a1:Int) (T0:Tb) (T1:Tb):denS Try.prog (zax [(ID.bench_Bench_may,(.st [] [0] [(3840,false)] zav)),(ID.disk_Disk_Flush,(.st [] [0] [(7649,true)] zbw))]) zfS [0] ID.bench_Bench_Flush [.h 3840 a0 0,.int .i64 a1] [T0,T1]=zeC zav zbw a0 a1 T0 T1:=by kernel_rfl
theorem zjy (a0:Nat) (a1:Int) (T0:Tb) (T1:Tb):zaA [.h 3840 a0 0,.int .i64 a1] [T0,T1]=zeC zav zbw a0 a1 T0 T1:=zmA zav zbw a0 a1 T0 T1
def zjj:Ann:={ loops:=[(2,[.val (.cell (.hnd (3840:Nat))),.val (.cell .lent),.val (.cell (.int .i64)),.dead,.dead,.val (.cell (.int .i64)),.dead,.dead,.dead,.box true [(.int .i64),(.int .i64),(.int .i64)],.box true [(.int .i64),(.int .i64),(.int .i64)],.dead,.dead,.dead,.dead,.dead,.dead,.dead,.dead,.dead,.dead,.dead,.dead,.dead,.dead,.dead,.dead,.dead,.dead,.dead,.dead,.dead,.dead,.dead,.dead,.dead,.dead,.dead,.dead,.dead,.dead,.dead,.dead,.dead,.dead,.dead,.dead,.dead,.val (.cell (.int .i64))])],ks:=[(3840,true),(7649,true)] }
noncomputable def zaO:List D→List Tb→Option Ans:=denS Try.prog (zax [(ID.bench_Bench_Len,(.st [] [0] [(3840,false)] zau)),(ID.rebuild_may,(.pure [0] zbX)),(ID.bench_Bench_Failed,(.st [] [0] [(3840,false),(7649,false)] zay)),(ID.rebuild_one,(.st [] [0] [(3840,true),(7649,true)] zbB)),(ID.bench_Bench_Flush,(.st [] [0] [(3840,false),(7649,true)] zaA))]) zjj [0] ID.rebuild_Disk
theorem znB:za7 Try.prog ID.rebuild_Disk (.st [] [0] [(3840,true),(7649,true)] zaO):=zbg (zaD [zf7,zph,zeY,zpy,zjx]) zbD ⟨Try.f48,by kernel_rfl,by kernel_rfl,by kernel_rfl⟩
noncomputable def zil:Fact Try.prog:=⟨ID.rebuild_Disk,(.st [] [0] [(3840,true),(7649,true)] zaO),znB⟩
noncomputable def zhI (zau:List D→List Tb→Option Ans) (zbX:List D→Option D) (zay:List D→List Tb→Option Ans) (zbB:List D→List Tb→Option Ans) (zaA:List D→List Tb→Option Ans) (a0:Nat) (a1:List D) (a2:Int) (a3_0:Int) (a3_1:Int) (a3_2:Int) (a4_0:Int) (a4_1:Int) (a4_2:Int) (a5:Int) (T0:Tb) (T1:Tb):Option Ans:=
  brK (decide (a2 < (0:Int)))
    (some (Ans.mk (D.int IntKind.i64 (1:Int)) [] [T0,T1]))
    (zar (zau [D.h (3840:Nat) a0 (0:Nat)] [T0]) fun r1=>
    nilK r1.outs <|
    nilK r1.tbs <|
    asI IntKind.i64 r1.r fun i2=>
    brK (decide (a2≥i2))
      (some (Ans.mk (D.int IntKind.i64 (1:Int)) [] [T0,T1]))
      (brK (decide (a2 < (↑(List.length a1):Int)))
        (sif ((0:Int)≤a2) <|
        getK a1 (Int.toNat a2) fun d3=>
        asB d3 fun b4=>
        brK b4
          (some (Ans.mk (D.int IntKind.i64 (1:Int)) [] [T0,T1]))
          (zar (zbX [D.agg [D.int IntKind.i64 a3_0,D.int IntKind.i64 a3_1,D.int IntKind.i64 a3_2],D.agg [D.int IntKind.i64 a4_0,D.int IntKind.i64 a4_1,D.int IntKind.i64 a4_2],D.int IntKind.i64 a5]) fun r5=>
          asB r5 fun b6=>
          brK (!b6)
            (some (Ans.mk (D.int IntKind.i64 (1:Int)) [] [T0,T1]))
            (zar (zay [D.h (3840:Nat) a0 (0:Nat),D.int IntKind.i64 a2] [T0,T1]) fun r7=>
            nilK r7.outs <|
            nilK r7.tbs <|
            asB r7.r fun b8=>
            brK b8
              (some (Ans.mk (D.int IntKind.i64 (5:Int)) [] [T0,T1]))
              (zcb (α:=(Nat×List D×Int×Int×(Int×Int×Int×PUnit)×(Int×Int×Int×PUnit)×Int×PUnit)×List (List D)×List (List D)×PUnit) (fun again9 ((x10,(l11,(i12,(i13,((i14,(i15,(i16,_))),((i17,(i18,(i19,_))),(i20,_))))))),(U21,(U22,_)))=>
                brK (decide (i20 < (16:Int)))
                  (brK (decide (i20 < i13))
                    (brK (decide (i12≥i18))
                      (letN (IntKind.wrap IntKind.i64 (i20+(1:Int))) fun n23=>
                      again9 (((x10,l11,i12,i13,(i14,i15,i16,PUnit.unit),(i17,i18,i19,PUnit.unit),n23,PUnit.unit),U21,U22,PUnit.unit)))
                      (zar (zbB [D.h (3840) x10 (0:Nat),D.sl Tag.lent l11,D.int IntKind.i64 i12,D.agg [D.int IntKind.i64 i17,D.int IntKind.i64 i18,D.int IntKind.i64 i19],D.int IntKind.i64 i20] [U21,U22]) fun r24=>
                      nilK r24.outs <|
                      zcl r24.tbs fun c25 q26=>
                      zcl q26 fun c27 q28=>
                      nilK q28 <|
                      asI IntKind.i64 r24.r fun i29=>
                      brK (i29 != (0:Int))
                        (some (Ans.mk (D.int IntKind.i64 i29) [] [c25,c27]))
                        (letN (IntKind.wrap IntKind.i64 (i20+(1:Int))) fun n30=>
                        again9 (((x10,l11,i12,i13,(i14,i15,i16,PUnit.unit),(i17,i18,i19,PUnit.unit),n30,PUnit.unit),c25,c27,PUnit.unit)))))
                    (brK (decide (i12≥i15))
                      (letN (IntKind.wrap IntKind.i64 (i20+(1:Int))) fun n31=>
                      again9 (((x10,l11,i12,i13,(i14,i15,i16,PUnit.unit),(i17,i18,i19,PUnit.unit),n31,PUnit.unit),U21,U22,PUnit.unit)))
                      (zar (zbB [D.h (3840) x10 (0:Nat),D.sl Tag.lent l11,D.int IntKind.i64 i12,D.agg [D.int IntKind.i64 i14,D.int IntKind.i64 i15,D.int IntKind.i64 i16],D.int IntKind.i64 i20] [U21,U22]) fun r32=>
                      nilK r32.outs <|
                      zcl r32.tbs fun c33 q34=>
                      zcl q34 fun c35 q36=>
                      nilK q36 <|
                      asI IntKind.i64 r32.r fun i37=>
                      brK (i37 != (0:Int))
                        (some (Ans.mk (D.int IntKind.i64 i37) [] [c33,c35]))
                        (letN (IntKind.wrap IntKind.i64 (i20+(1:Int))) fun n38=>
                        again9 (((x10,l11,i12,i13,(i14,i15,i16,PUnit.unit),(i17,i18,i19,PUnit.unit),n38,PUnit.unit),c33,c35,PUnit.unit))))))
                  (zar (zaA [D.h (3840) x10 (0:Nat),D.int IntKind.i64 i12] [U21,U22]) fun r39=>
                  nilK r39.outs <|
                  zcl r39.tbs fun c40 q41=>
                  nilK q41 <|
                  asI IntKind.i64 r39.r fun i42=>
                  some (Ans.mk (D.int IntKind.i64 i42) [] [U21,c40])))
                (((a0,a1,a2,a5,(a3_0,a3_1,a3_2,PUnit.unit),(a4_0,a4_1,a4_2,PUnit.unit),(0:Int),PUnit.unit),T0,T1,PUnit.unit))))))
        (zar (zbX [D.agg [D.int IntKind.i64 a3_0,D.int IntKind.i64 a3_1,D.int IntKind.i64 a3_2],D.agg [D.int IntKind.i64 a4_0,D.int IntKind.i64 a4_1,D.int IntKind.i64 a4_2],D.int IntKind.i64 a5]) fun r43=>
        asB r43 fun b44=>
        brK (!b44)
          (some (Ans.mk (D.int IntKind.i64 (1:Int)) [] [T0,T1]))
          (zar (zay [D.h (3840:Nat) a0 (0:Nat),D.int IntKind.i64 a2] [T0,T1]) fun r45=>
          nilK r45.outs <|
          nilK r45.tbs <|
          asB r45.r fun b46=>
          brK b46
            (some (Ans.mk (D.int IntKind.i64 (5:Int)) [] [T0,T1]))
            (zcb (α:=(Nat×List D×Int×Int×(Int×Int×Int×PUnit)×(Int×Int×Int×PUnit)×Int×PUnit)×List (List D)×List (List D)×PUnit) (fun again47 ((x48,(l49,(i50,(i51,((i52,(i53,(i54,_))),((i55,(i56,(i57,_))),(i58,_))))))),(U59,(U60,_)))=>
              brK (decide (i58 < (16:Int)))
                (brK (decide (i58 < i51))
                  (brK (decide (i50≥i56))
                    (letN (IntKind.wrap IntKind.i64 (i58+(1:Int))) fun n61=>
                    again47 (((x48,l49,i50,i51,(i52,i53,i54,PUnit.unit),(i55,i56,i57,PUnit.unit),n61,PUnit.unit),U59,U60,PUnit.unit)))
                    (zar (zbB [D.h (3840) x48 (0:Nat),D.sl Tag.lent l49,D.int IntKind.i64 i50,D.agg [D.int IntKind.i64 i55,D.int IntKind.i64 i56,D.int IntKind.i64 i57],D.int IntKind.i64 i58] [U59,U60]) fun r62=>
                    nilK r62.outs <|
                    zcl r62.tbs fun c63 q64=>
                    zcl q64 fun c65 q66=>
                    nilK q66 <|
                    asI IntKind.i64 r62.r fun i67=>
                    brK (i67 != (0:Int))
                      (some (Ans.mk (D.int IntKind.i64 i67) [] [c63,c65]))
                      (letN (IntKind.wrap IntKind.i64 (i58+(1:Int))) fun n68=>
                      again47 (((x48,l49,i50,i51,(i52,i53,i54,PUnit.unit),(i55,i56,i57,PUnit.unit),n68,PUnit.unit),c63,c65,PUnit.unit)))))
                  (brK (decide (i50≥i53))
                    (letN (IntKind.wrap IntKind.i64 (i58+(1:Int))) fun n69=>
                    again47 (((x48,l49,i50,i51,(i52,i53,i54,PUnit.unit),(i55,i56,i57,PUnit.unit),n69,PUnit.unit),U59,U60,PUnit.unit)))
                    (zar (zbB [D.h (3840) x48 (0:Nat),D.sl Tag.lent l49,D.int IntKind.i64 i50,D.agg [D.int IntKind.i64 i52,D.int IntKind.i64 i53,D.int IntKind.i64 i54],D.int IntKind.i64 i58] [U59,U60]) fun r70=>
                    nilK r70.outs <|
                    zcl r70.tbs fun c71 q72=>
                    zcl q72 fun c73 q74=>
                    nilK q74 <|
                    asI IntKind.i64 r70.r fun i75=>
                    brK (i75 != (0:Int))
                      (some (Ans.mk (D.int IntKind.i64 i75) [] [c71,c73]))
                      (letN (IntKind.wrap IntKind.i64 (i58+(1:Int))) fun n76=>
                      again47 (((x48,l49,i50,i51,(i52,i53,i54,PUnit.unit),(i55,i56,i57,PUnit.unit),n76,PUnit.unit),c71,c73,PUnit.unit))))))
                (zar (zaA [D.h (3840) x48 (0:Nat),D.int IntKind.i64 i50] [U59,U60]) fun r77=>
                nilK r77.outs <|
                zcl r77.tbs fun c78 q79=>
                nilK q79 <|
                asI IntKind.i64 r77.r fun i80=>
                some (Ans.mk (D.int IntKind.i64 i80) [] [U59,c78])))
              (((a0,a1,a2,a5,(a3_0,a3_1,a3_2,PUnit.unit),(a4_0,a4_1,a4_2,PUnit.unit),(0:Int),PUnit.unit),T0,T1,PUnit.unit)))))))
theorem zrS (zau:List D→List Tb→Option Ans) (zbX:List D→Option D) (zay:List D→List Tb→Option Ans) (zbB:List D→List Tb→Option Ans) (zaA:List D→List Tb→Option Ans) (tga1:Tag) (a0:Nat) (a1:List D) (a2:Int) (a3_0:Int) (a3_1:Int) (a3_2:Int) (a4_0:Int) (a4_1:Int) (a4_2:Int) (a5:Int) (T0:Tb) (T1:Tb):denS Try.prog (zax [(ID.bench_Bench_Len,(.st [] [0] [(3840,false)] zau)),(ID.rebuild_may,(.pure [0] zbX)),(ID.bench_Bench_Failed,(.st [] [0] [(3840,false),(7649,false)] zay)),(ID.rebuild_one,(.st [] [0] [(3840,true),(7649,true)] zbB)),(ID.bench_Bench_Flush,(.st [] [0] [(3840,false),(7649,true)] zaA))]) zjj [0] ID.rebuild_Disk [.h 3840 a0 0,.sl tga1 a1,.int .i64 a2,.agg [.int .i64 a3_0,.int .i64 a3_1,.int .i64 a3_2],.agg [.int .i64 a4_0,.int .i64 a4_1,.int .i64 a4_2],.int .i64 a5] [T0,T1]=zhI zau zbX zay zbB zaA a0 (D.lentL a1) a2 a3_0 a3_1 a3_2 a4_0 a4_1 a4_2 a5 T0 T1:=by kernel_rfl
theorem zoz (tga1:Tag) (a0:Nat) (a1:List D) (a2:Int) (a3_0:Int) (a3_1:Int) (a3_2:Int) (a4_0:Int) (a4_1:Int) (a4_2:Int) (a5:Int) (T0:Tb) (T1:Tb):zaO [.h 3840 a0 0,.sl tga1 a1,.int .i64 a2,.agg [.int .i64 a3_0,.int .i64 a3_1,.int .i64 a3_2],.agg [.int .i64 a4_0,.int .i64 a4_1,.int .i64 a4_2],.int .i64 a5] [T0,T1]=zhI zau zbX zay zbB zaA a0 (D.lentL a1) a2 a3_0 a3_1 a3_2 a4_0 a4_1 a4_2 a5 T0 T1:=zrS zau zbX zay zbB zaA tga1 a0 a1 a2 a3_0 a3_1 a3_2 a4_0 a4_1 a4_2 a5 T0 T1
def zht:Ann:={ loops:=[],ks:=[(7649,true)] }
noncomputable def zbI:List D→List Tb→Option Ans:=denS Try.prog (zax []) zht [] ID.disk_Disk_Fail
theorem zlw:za7 Try.prog ID.disk_Disk_Fail (.st [] [] [(7649,true)] zbI):=zbg (zaD []) zbD ⟨Try.f67,by kernel_rfl,by kernel_rfl,by kernel_rfl⟩
noncomputable def zmB:Fact Try.prog:=⟨ID.disk_Disk_Fail,(.st [] [] [(7649,true)] zbI),zlw⟩
noncomputable def zf2 (a0:Nat) (T0:Tb):Option Ans:=
  getK T0 a0 fun d1=>
  sif ((1666:Nat)≤List.length d1) <|
  letT (zaY T0 a0 (0:Nat) (List.map D.own0 (List.set (List.reverse ([D.bool false,D.sl Tag.nil []]++List.replicate 1664 (D.int IntKind.u8 (0:Int)))) (1665:Nat) (D.bool true)))) fun U2=>
  some (Ans.mk (D.tup []) [] [U2])
theorem zpA (a0:Nat) (T0:Tb):denS Try.prog (zax []) zht [] ID.disk_Disk_Fail [.h 7649 a0 0] [T0]=zf2 a0 T0:=by kernel_rfl
theorem zmC (a0:Nat) (T0:Tb):zbI [.h 7649 a0 0] [T0]=zf2 a0 T0:=zpA a0 T0
def zgb:Ann:={ loops:=[],ks:=[(3840,false),(7649,true)] }
noncomputable def za9:List D→List Tb→Option Ans:=denS Try.prog (zax [(ID.bench_Bench_is,(.st [] [0] [(3840,false)] zag)),(ID.disk_Disk_Fail,(.st [] [] [(7649,true)] zbI))]) zgb [0] ID.bench_Bench_Fail
theorem zjz:za7 Try.prog ID.bench_Bench_Fail (.st [] [0] [(3840,false),(7649,true)] za9):=zbg (zaD [zcQ,zmB]) zbD ⟨Try.f19,by kernel_rfl,by kernel_rfl,by kernel_rfl⟩
noncomputable def zkz:Fact Try.prog:=⟨ID.bench_Bench_Fail,(.st [] [0] [(3840,false),(7649,true)] za9),zjz⟩
noncomputable def ze2 (zag:List D→List Tb→Option Ans) (zbI:List D→List Tb→Option Ans) (a0:Nat) (a1:Int) (T0:Tb) (T1:Tb):Option Ans:=
  zar (zag [D.h (3840:Nat) a0 (0:Nat),D.int IntKind.i64 a1] [T0]) fun r1=>
  nilK r1.outs <|
  nilK r1.tbs <|
  asB r1.r fun b2=>
  brK (!b2)
    (some (Ans.mk (D.int IntKind.i64 (1:Int)) [] [T1]))
    (getK T0 a0 fun d3=>
    getK d3 ((3:Nat)) fun d4=>
    za8 d4 fun l5=>
    getK T0 a0 fun d6=>
    getK d6 ((3:Nat)) fun d7=>
    za8 d7 fun l8=>
    sif ((0:Int)≤a1) <|
    sif (Int.toNat a1 < List.length l5) <|
    getK T0 a0 fun d9=>
    getK d9 ((3:Nat)) fun d10=>
    za8 d10 fun l11=>
    getK l11 ((0:Nat)+Int.toNat a1) fun d12=>
    sif (D.isAgg d12=false) <|
    sif (D.width d12=(1:Nat)) <|
    sif (D.cell d12=true) <|
    zar (zbI [d12] [T1]) fun r13=>
    nilK r13.outs <|
    zcl r13.tbs fun c14 q15=>
    nilK q15 <|
    zev r13.r fun ts16=>
    nilK ts16 <|
    some (Ans.mk (D.int IntKind.i64 (0:Int)) [] [c14]))
theorem znC (zag:List D→List Tb→Option Ans) (zbI:List D→List Tb→Option Ans) (a0:Nat) (a1:Int) (T0:Tb) (T1:Tb):denS Try.prog (zax [(ID.bench_Bench_is,(.st [] [0] [(3840,false)] zag)),(ID.disk_Disk_Fail,(.st [] [] [(7649,true)] zbI))]) zgb [0] ID.bench_Bench_Fail [.h 3840 a0 0,.int .i64 a1] [T0,T1]=ze2 zag zbI a0 a1 T0 T1:=by kernel_rfl
theorem zkA (a0:Nat) (a1:Int) (T0:Tb) (T1:Tb):za9 [.h 3840 a0 0,.int .i64 a1] [T0,T1]=ze2 zag zbI a0 a1 T0 T1:=znC zag zbI a0 a1 T0 T1
def zfT:Ann:={ loops:=[],ks:=[(3840,true),(7649,true)] }
noncomputable def zbj:List D→Option D:=denT Try.prog (zax [(ID.bench_New,(.st [] [0,0] [(3840,true),(7649,true)] zbq)),(ID.rebuild_Disk,(.st [] [0] [(3840,true),(7649,true)] zaO))]) zfT [0] ID.wattlelaw16_wakes
theorem zi0:za7 Try.prog ID.wattlelaw16_wakes (.pure [0] zbj):=zsx (zaD [zlP,zil]) zbD ⟨Try.f49,by kernel_rfl,by kernel_rfl,by kernel_rfl⟩
noncomputable def zjA:Fact Try.prog:=⟨ID.wattlelaw16_wakes,(.pure [0] zbj),zi0⟩
noncomputable def zeD (zbq:List D→List Tb→Option Ans) (zaO:List D→List Tb→Option Ans):Option D:=
  zar (zbq [D.int IntKind.i64 (3:Int)] [[],[]]) fun r1=>
  nilK r1.outs <|
  zcl r1.tbs fun c2 q3=>
  zcl q3 fun c4 q5=>
  nilK q5 <|
  zev r1.r fun ts6=>
  zaw ([Lf.any,Lf.any]) ts6 fun c7=>
  sif (zgL c7.fst=true) <|
  asI IntKind.i64 c7.snd.fst fun i8=>
  brK (i8 != (0:Int))
    (some (D.bool false))
    (zm2 c7.fst fun b9=>
    brK b9
      (some (D.bool false))
      (zar (zaO [c7.fst,D.sl Tag.full [D.bool true,D.bool true,D.bool true],D.int IntKind.i64 (1:Int),D.agg [D.int IntKind.i64 (5:Int),D.int IntKind.i64 (3:Int),D.int IntKind.i64 (1:Int)],D.agg [D.int IntKind.i64 (0:Int),D.int IntKind.i64 (0:Int),D.int IntKind.i64 (0:Int)],D.int IntKind.i64 (0:Int)] [c2,c4]) fun r10=>
      nilK r10.outs <|
      zcl r10.tbs fun c11 q12=>
      zcl q12 fun c13 q14=>
      nilK q14 <|
      asI IntKind.i64 r10.r fun i15=>
      brK (i15 == (1:Int))
        (zar (zaO [c7.fst,D.sl Tag.full [D.bool true,D.bool false,D.bool true],D.int IntKind.i64 (1:Int),D.agg [D.int IntKind.i64 (5:Int),D.int IntKind.i64 (3:Int),D.int IntKind.i64 (1:Int)],D.agg [D.int IntKind.i64 (0:Int),D.int IntKind.i64 (0:Int),D.int IntKind.i64 (0:Int)],D.int IntKind.i64 (0:Int)] [c11,c13]) fun r16=>
        nilK r16.outs <|
        zcl r16.tbs fun c17 q18=>
        zcl q18 fun c19 q20=>
        nilK q20 <|
        asI IntKind.i64 r16.r fun i21=>
        some (D.bool (i21 == (0:Int))))
        (some (D.bool false))))
theorem zmD (zbq:List D→List Tb→Option Ans) (zaO:List D→List Tb→Option Ans):denT Try.prog (zax [(ID.bench_New,(.st [] [0,0] [(3840,true),(7649,true)] zbq)),(ID.rebuild_Disk,(.st [] [0] [(3840,true),(7649,true)] zaO))]) zfT [0] ID.wattlelaw16_wakes []=sif (D.nohL []=true) (zeD zbq zaO ):=by kernel_rfl
theorem zjB:zbj []=sif (D.nohL []=true) (zeD zbq zaO ):=zmD zbq zaO
def zfU:Ann:={ loops:=[(1,[.val (.cell (.int .i64)),.dead,.dead,.own 1,.dead,.dead,.dead,.dead,.dead,.dead,.dead,.val (.cell (.int .i64)),.val (.cell (.int .i64))])] }
noncomputable def zbb:List D→Option D:=denP Try.prog (zax [(ID.wattlekeep_Within,(.pure [0] zab))]) zfU [1] ID.wattleplay_Sector
theorem zi1:za7 Try.prog ID.wattleplay_Sector (.pure [1] zbb):=zat (zaD [zcT]) zbD ⟨Try.f36,by kernel_rfl,by kernel_rfl,by kernel_rfl⟩
noncomputable def zjC:Fact Try.prog:=⟨ID.wattleplay_Sector,(.pure [1] zbb),zi1⟩
noncomputable def zeE (zab:List D→Option D) (a0:Int):Option D:=
  zar (zab [D.int IntKind.i64 a0,D.int IntKind.i64 (11:Int)]) fun r1=>
  asI IntKind.i64 r1 fun i2=>
  brK (i2 == (10:Int))
    (some (D.sl Tag.own [D.int IntKind.u8 (0:Int),D.int IntKind.u8 (0:Int),D.int IntKind.u8 (0:Int),D.int IntKind.u8 (0:Int),D.int IntKind.u8 (0:Int),D.int IntKind.u8 (0:Int),D.int IntKind.u8 (0:Int),D.int IntKind.u8 (0:Int),D.int IntKind.u8 (0:Int),D.int IntKind.u8 (0:Int),D.int IntKind.u8 (0:Int),D.int IntKind.u8 (0:Int),D.int IntKind.u8 (0:Int),D.int IntKind.u8 (0:Int),D.int IntKind.u8 (0:Int),D.int IntKind.u8 (0:Int),D.int IntKind.u8 (0:Int),D.int IntKind.u8 (0:Int),D.int IntKind.u8 (0:Int),D.int IntKind.u8 (0:Int),D.int IntKind.u8 (0:Int),D.int IntKind.u8 (0:Int),D.int IntKind.u8 (0:Int),D.int IntKind.u8 (0:Int),D.int IntKind.u8 (0:Int),D.int IntKind.u8 (0:Int),D.int IntKind.u8 (0:Int),D.int IntKind.u8 (0:Int),D.int IntKind.u8 (0:Int),D.int IntKind.u8 (0:Int),D.int IntKind.u8 (0:Int),D.int IntKind.u8 (0:Int)]))
    (zcb (α:=(Int×List D×Int×Int×PUnit)×PUnit) (fun again3 ((i4,(l5,(i6,(i7,_)))),_)=>
      brK (decide (i7 < i6))
        (letN (IntKind.wrap IntKind.i64 (Int.tdiv i4 (7:Int))) fun n8=>
        letN (bits BinOp.or IntKind.i64 n8 (1:Int)) fun n9=>
        letN (IntKind.wrap IntKind.i64 (i7*n9)) fun n10=>
        letN (IntKind.wrap IntKind.i64 (i4+n10)) fun n11=>
        letN (IntKind.wrap IntKind.u8 n11) fun n12=>
        sif ((0:Int)≤i7) <|
        sif (Int.toNat i7 < List.length l5) <|
        getK l5 ((0:Nat)+Int.toNat i7) fun d13=>
        sif (D.isAgg d13=false) <|
        letN (IntKind.wrap IntKind.i64 (i7+(1:Int))) fun n14=>
        sif (List.length l5=List.length (List.set l5 ((0:Nat)+Int.toNat i7) (D.int IntKind.u8 n12))) <|
        again3 (((i4,List.set l5 ((0:Nat)+Int.toNat i7) (D.int IntKind.u8 n12),i6,n14,PUnit.unit),PUnit.unit)))
        (sif (List.length l5=List.length l5) <|
        sif (List.all l5 D.free=true) <|
        some (D.sl Tag.own l5)))
      (((a0,[D.int IntKind.u8 (0:Int),D.int IntKind.u8 (0:Int),D.int IntKind.u8 (0:Int),D.int IntKind.u8 (0:Int),D.int IntKind.u8 (0:Int),D.int IntKind.u8 (0:Int),D.int IntKind.u8 (0:Int),D.int IntKind.u8 (0:Int),D.int IntKind.u8 (0:Int),D.int IntKind.u8 (0:Int),D.int IntKind.u8 (0:Int),D.int IntKind.u8 (0:Int),D.int IntKind.u8 (0:Int),D.int IntKind.u8 (0:Int),D.int IntKind.u8 (0:Int),D.int IntKind.u8 (0:Int),D.int IntKind.u8 (0:Int),D.int IntKind.u8 (0:Int),D.int IntKind.u8 (0:Int),D.int IntKind.u8 (0:Int),D.int IntKind.u8 (0:Int),D.int IntKind.u8 (0:Int),D.int IntKind.u8 (0:Int),D.int IntKind.u8 (0:Int),D.int IntKind.u8 (0:Int),D.int IntKind.u8 (0:Int),D.int IntKind.u8 (0:Int),D.int IntKind.u8 (0:Int),D.int IntKind.u8 (0:Int),D.int IntKind.u8 (0:Int),D.int IntKind.u8 (0:Int),D.int IntKind.u8 (0:Int)],(32:Int),(0:Int),PUnit.unit),PUnit.unit)))
theorem zmE (zab:List D→Option D) (a0:Int):denP Try.prog (zax [(ID.wattlekeep_Within,(.pure [0] zab))]) zfU [1] ID.wattleplay_Sector [.int .i64 a0]=zeE zab a0:=by kernel_rfl
theorem zjD (a0:Int):zbb [.int .i64 a0]=zeE zab a0:=zmE zab a0
def zfh:Ann:={ loops:=[(0,[.val (.cell .lent),.val (.cell (.int .i64)),.dead,.dead,.dead,.own 1,.val (.cell (.int .i64))])] }
noncomputable def zbc:List D→Option D:=denP Try.prog (zax [(ID.wattleplay_Sector,(.pure [1] zbb))]) zfh [1] ID.wattleplay_Sectors
theorem zim:za7 Try.prog ID.wattleplay_Sectors (.pure [1] zbc):=zat (zaD [zjC]) zbD ⟨Try.f31,by kernel_rfl,by kernel_rfl,by kernel_rfl⟩
noncomputable def zi2:Fact Try.prog:=⟨ID.wattleplay_Sectors,(.pure [1] zbc),zim⟩
noncomputable def zei (zbb:List D→Option D) (a0:List D) (a1:Int):Option D:=
  zcb (α:=(List D×Int×List D×Int×PUnit)×PUnit) (fun again1 ((l2,(i3,(l4,(i5,_)))),_)=>
    brK (decide (i5 < i3))
      (letN (IntKind.wrap IntKind.i64 ((3:Int)*i5)) fun n6=>
      brK (decide (i5 < (↑(List.length l2):Int)))
        (sif ((0:Int)≤i5) <|
        getK l2 (Int.toNat i5) fun d7=>
        asI IntKind.i64 d7 fun i8=>
        zar (zbb [D.int IntKind.i64 i8]) fun r9=>
        za8 r9 fun l10=>
        sif ((0:Nat)+List.length l10≤List.length l10) <|
        sif (List.length l4+(1:Nat)≤(4294967296:Nat)) <|
        sif (List.length l4=List.length l4) <|
        letN (IntKind.wrap IntKind.i64 (i5+(1:Int))) fun n11=>
        sif (List.length l4+(1:Nat)=List.length (l4++[D.sl Tag.fresh (cut (0:Nat) (List.length l10) l10)])) <|
        again1 (((l2,i3,l4++[D.sl Tag.fresh (cut (0:Nat) (List.length l10) l10)],n11,PUnit.unit),PUnit.unit)))
        (zar (zbb [D.int IntKind.i64 n6]) fun r12=>
        za8 r12 fun l13=>
        sif ((0:Nat)+List.length l13≤List.length l13) <|
        sif (List.length l4+(1:Nat)≤(4294967296:Nat)) <|
        sif (List.length l4=List.length l4) <|
        letN (IntKind.wrap IntKind.i64 (i5+(1:Int))) fun n14=>
        sif (List.length l4+(1:Nat)=List.length (l4++[D.sl Tag.fresh (cut (0:Nat) (List.length l13) l13)])) <|
        again1 (((l2,i3,l4++[D.sl Tag.fresh (cut (0:Nat) (List.length l13) l13)],n14,PUnit.unit),PUnit.unit))))
      (sif (List.length l4=List.length l4) <|
      sif (List.all l4 D.free=true) <|
      some (D.sl Tag.own l4)))
    (((a0,a1,[],(0:Int),PUnit.unit),PUnit.unit))
theorem zlx (zbb:List D→Option D) (tga0:Tag) (a0:List D) (a1:Int):denP Try.prog (zax [(ID.wattleplay_Sector,(.pure [1] zbb))]) zfh [1] ID.wattleplay_Sectors [.sl tga0 a0,.int .i64 a1]=zei zbb (D.lentL a0) a1:=by kernel_rfl
theorem zi3 (tga0:Tag) (a0:List D) (a1:Int):zbc [.sl tga0 a0,.int .i64 a1]=zei zbb (D.lentL a0) a1:=zlx zbb tga0 a0 a1
def zgc:Ann:={ loops:=[] }
noncomputable def zaq:List D→Option D:=denP Try.prog (zax [(ID.wattleref01_Check,(.pure [0] zad))]) zgc [0] ID.wattleref01_fine
theorem zjE:za7 Try.prog ID.wattleref01_fine (.pure [0] zaq):=zat (zaD [zco]) zbD ⟨Try.f75,by kernel_rfl,by kernel_rfl,by kernel_rfl⟩
noncomputable def zdY:Fact Try.prog:=⟨ID.wattleref01_fine,(.pure [0] zaq),zjE⟩
noncomputable def ze3 (zad:List D→Option D) (a0_0:Int) (a0_1:Int) (a0_2:Int) (a1:Int):Option D:=
  zar (zad [D.agg [D.int IntKind.i64 a0_0,D.int IntKind.i64 a0_1,D.int IntKind.i64 a0_2]]) fun r1=>
  asB r1 fun b2=>
  brK b2
    (brK (decide (a1≥(0:Int)))
      (some (D.bool (decide (a1 < (16:Int)))))
      (some (D.bool false)))
    (some (D.bool false))
theorem znD (zad:List D→Option D) (a0_0:Int) (a0_1:Int) (a0_2:Int) (a1:Int):denP Try.prog (zax [(ID.wattleref01_Check,(.pure [0] zad))]) zgc [0] ID.wattleref01_fine [.agg [.int .i64 a0_0,.int .i64 a0_1,.int .i64 a0_2],.int .i64 a1]=ze3 zad a0_0 a0_1 a0_2 a1:=by kernel_rfl
theorem zkB (a0_0:Int) (a0_1:Int) (a0_2:Int) (a1:Int):zaq [.agg [.int .i64 a0_0,.int .i64 a0_1,.int .i64 a0_2],.int .i64 a1]=ze3 zad a0_0 a0_1 a0_2 a1:=znD zad a0_0 a0_1 a0_2 a1
def zfi:Ann:={ loops:=[] }
noncomputable def zaz:List D→Option D:=denP Try.prog (zax [(ID.wattleref01_fine,(.pure [0] zaq))]) zfi [0,0] ID.wattleref01_Parity
theorem zin:za7 Try.prog ID.wattleref01_Parity (.pure [0,0] zaz):=zat (zaD [zdY]) zbD ⟨Try.f46,by kernel_rfl,by kernel_rfl,by kernel_rfl⟩
noncomputable def ze4:Fact Try.prog:=⟨ID.wattleref01_Parity,(.pure [0,0] zaz),zin⟩
noncomputable def zej (zaq:List D→Option D) (a0_0:Int) (a0_1:Int) (a0_2:Int) (a1:Int):Option D:=
  zar (zaq [D.agg [D.int IntKind.i64 a0_0,D.int IntKind.i64 a0_1,D.int IntKind.i64 a0_2],D.int IntKind.i64 a1]) fun r1=>
  asB r1 fun b2=>
  brK (!b2)
    (some (D.tup [D.int IntKind.i64 (-1:Int),D.int IntKind.i64 (-1:Int)]))
    (letN (IntKind.wrap IntKind.i64 (a0_1 - (1:Int))) fun n3=>
    sif (a0_2≠(0:Int)) <|
    letN (IntKind.wrap IntKind.i64 (Int.tdiv a1 a0_2)) fun n4=>
    sif (a0_1≠(0:Int)) <|
    letN (Int.tmod n4 a0_1) fun n5=>
    letN (IntKind.wrap IntKind.i64 (n3 - n5)) fun n6=>
    brK (a0_0 == (5:Int))
      (some (D.tup [D.int IntKind.i64 n6,D.int IntKind.i64 (-1:Int)]))
      (letN (IntKind.wrap IntKind.i64 (n6+(1:Int))) fun n7=>
      sif (a0_1≠(0:Int)) <|
      letN (Int.tmod n7 a0_1) fun n8=>
      some (D.tup [D.int IntKind.i64 n6,D.int IntKind.i64 n8])))
theorem zly (zaq:List D→Option D) (a0_0:Int) (a0_1:Int) (a0_2:Int) (a1:Int):denP Try.prog (zax [(ID.wattleref01_fine,(.pure [0] zaq))]) zfi [0,0] ID.wattleref01_Parity [.agg [.int .i64 a0_0,.int .i64 a0_1,.int .i64 a0_2],.int .i64 a1]=zej zaq a0_0 a0_1 a0_2 a1:=by kernel_rfl
theorem zi4 (a0_0:Int) (a0_1:Int) (a0_2:Int) (a1:Int):zaz [.agg [.int .i64 a0_0,.int .i64 a0_1,.int .i64 a0_2],.int .i64 a1]=zej zaq a0_0 a0_1 a0_2 a1:=zly zaq a0_0 a0_1 a0_2 a1
def zgd:Ann:={ loops:=[] }
noncomputable def zbi:List D→Option D:=denP Try.prog (zax [(ID.wattleref01_fine,(.pure [0] zaq)),(ID.wattleref01_Width,(.pure [0] zak)),(ID.wattleref01_Parity,(.pure [0,0] zaz)),(ID.wattleref01_Budget,(.pure [0] zaC))]) zgd [0] ID.wattleref01_Disk
theorem zjF:za7 Try.prog ID.wattleref01_Disk (.pure [0] zbi):=zat (zaD [zdY,zdB,ze4,zeW]) zbD ⟨Try.f74,by kernel_rfl,by kernel_rfl,by kernel_rfl⟩
noncomputable def zkC:Fact Try.prog:=⟨ID.wattleref01_Disk,(.pure [0] zbi),zjF⟩
noncomputable def ze5 (zaq:List D→Option D) (zak:List D→Option D) (zaz:List D→Option D) (zaC:List D→Option D) (a0_0:Int) (a0_1:Int) (a0_2:Int) (a1:Int) (a2:Int):Option D:=
  zar (zaq [D.agg [D.int IntKind.i64 a0_0,D.int IntKind.i64 a0_1,D.int IntKind.i64 a0_2],D.int IntKind.i64 a1]) fun r1=>
  asB r1 fun b2=>
  brK (!b2)
    (some (D.int IntKind.i64 (-1:Int)))
    (brK (decide (a2 < (0:Int)))
      (some (D.int IntKind.i64 (-1:Int)))
      (zar (zak [D.agg [D.int IntKind.i64 a0_0,D.int IntKind.i64 a0_1,D.int IntKind.i64 a0_2]]) fun r3=>
      asI IntKind.i64 r3 fun i4=>
      brK (decide (a2≥i4))
        (some (D.int IntKind.i64 (-1:Int)))
        (zar (zaz [D.agg [D.int IntKind.i64 a0_0,D.int IntKind.i64 a0_1,D.int IntKind.i64 a0_2],D.int IntKind.i64 a1]) fun r5=>
        zev r5 fun ts6=>
        zaw ([Lf.any,Lf.any]) ts6 fun c7=>
        asI IntKind.i64 c7.fst fun i8=>
        asI IntKind.i64 c7.snd.fst fun i9=>
        zar (zaC [D.agg [D.int IntKind.i64 a0_0,D.int IntKind.i64 a0_1,D.int IntKind.i64 a0_2]]) fun r10=>
        asI IntKind.i64 r10 fun i11=>
        letN (IntKind.wrap IntKind.i64 (i8+i11)) fun n12=>
        letN (IntKind.wrap IntKind.i64 (n12+a2)) fun n13=>
        sif (a0_1≠(0:Int)) <|
        letN (Int.tmod n13 a0_1) fun n14=>
        some (D.int IntKind.i64 n14))))
theorem znE (zaq:List D→Option D) (zak:List D→Option D) (zaz:List D→Option D) (zaC:List D→Option D) (a0_0:Int) (a0_1:Int) (a0_2:Int) (a1:Int) (a2:Int):denP Try.prog (zax [(ID.wattleref01_fine,(.pure [0] zaq)),(ID.wattleref01_Width,(.pure [0] zak)),(ID.wattleref01_Parity,(.pure [0,0] zaz)),(ID.wattleref01_Budget,(.pure [0] zaC))]) zgd [0] ID.wattleref01_Disk [.agg [.int .i64 a0_0,.int .i64 a0_1,.int .i64 a0_2],.int .i64 a1,.int .i64 a2]=ze5 zaq zak zaz zaC a0_0 a0_1 a0_2 a1 a2:=by kernel_rfl
theorem zkD (a0_0:Int) (a0_1:Int) (a0_2:Int) (a1:Int) (a2:Int):zbi [.agg [.int .i64 a0_0,.int .i64 a0_1,.int .i64 a0_2],.int .i64 a1,.int .i64 a2]=ze5 zaq zak zaz zaC a0_0 a0_1 a0_2 a1 a2:=znE zaq zak zaz zaC a0_0 a0_1 a0_2 a1 a2
def zfV:Ann:={ loops:=[(0,[.val (.cell .lent),.dead,.dead,.dead,.dead,.val (.cell .lent),.val (.cell (.int .i64)),.val (.cell (.int .i64))])] }
noncomputable def zaH:List D→Option D:=denP Try.prog (zax []) zfV [0] ID.wattleref01_alike
theorem zi5:za7 Try.prog ID.wattleref01_alike (.pure [0] zaH):=zat (zaD []) zbD ⟨Try.f115,by kernel_rfl,by kernel_rfl,by kernel_rfl⟩
noncomputable def zfj:Fact Try.prog:=⟨ID.wattleref01_alike,(.pure [0] zaH),zi5⟩
noncomputable def zeF (a0:List D):Option D:=
  zcb (α:=(List D×List D×Int×Int×PUnit)×PUnit) (fun again1 ((l2,(l3,(i4,(i5,_)))),_)=>
    brK (decide (i5 < i4))
      (sif ((0:Int)≤i5) <|
      getK l3 (Int.toNat i5) fun d6=>
      asSl d6 fun t7 l8=>
      getK l2 ((0:Nat)) fun d9=>
      asSl d9 fun t10 l11=>
      brK ((↑(List.length l8):Int) != (↑(List.length l11):Int))
        (some (D.bool false))
        (letN (IntKind.wrap IntKind.i64 (i5+(1:Int))) fun n12=>
        again1 (((l2,l3,i4,n12,PUnit.unit),PUnit.unit))))
      (some (D.bool (decide ((↑(List.length l2):Int) > (0:Int))))))
    (((a0,a0,(↑(List.length a0):Int),(0:Int),PUnit.unit),PUnit.unit))
theorem zmF (tga0:Tag) (a0:List D):denP Try.prog (zax []) zfV [0] ID.wattleref01_alike [.sl tga0 a0]=zeF (D.lentL a0):=by kernel_rfl
theorem zjG (tga0:Tag) (a0:List D):zaH [.sl tga0 a0]=zeF (D.lentL a0):=zmF tga0 a0
def zio:Ann:={ loops:=[(1,[.dead,.dead,.dead,.own 1,.dead,.dead,.dead,.dead,.dead,.dead,.dead,.dead,.dead,.dead,.dead,.dead,.val (.cell .lent),.val (.cell (.int .i64)),.val (.cell (.int .i64))]),(3,[.dead,.dead,.dead,.own 1,.dead,.dead,.dead,.dead,.dead,.dead,.dead,.dead,.dead,.dead,.dead,.dead,.val (.cell .lent),.val (.cell (.int .i64)),.val (.cell (.int .i64)),.dead,.dead,.dead,.val (.cell .sl),.val (.cell (.int .i64)),.val (.cell (.int .i64))])] }
noncomputable def zbK:List D→Option D:=denP Try.prog (zax [(ID.wattleref01_alike,(.pure [0] zaH))]) zio [1] ID.wattleref01_P
theorem zmG:za7 Try.prog ID.wattleref01_P (.pure [1] zbK):=zat (zaD [zfj]) zbD ⟨Try.f81,by kernel_rfl,by kernel_rfl,by kernel_rfl⟩
noncomputable def znF:Fact Try.prog:=⟨ID.wattleref01_P,(.pure [1] zbK),zmG⟩
noncomputable def zg2 (zaH:List D→Option D) (a0:List D):Option D:=
  zar (zaH [D.sl Tag.lent a0]) fun r1=>
  asB r1 fun b2=>
  brK (!b2)
    (some (D.sl Tag.own []))
    (getK a0 ((0:Nat)) fun d3=>
    asSl d3 fun t4 l5=>
    sif ((↑(List.length l5):Int)=(↑(List.length l5):Int)) <|
    sif ((↑(List.length l5):Int)*(1:Int)≤(140737488355328:Int)) <|
    sif ((↑(List.length l5):Int)≤(140737488355328:Int)) <|
    sif (Int.toNat (↑(List.length l5):Int)=List.length (List.replicate (Int.toNat (↑(List.length l5):Int)) (D.int IntKind.u8 (0:Int)))) <|
    zcb (α:=(List D×List D×Int×Int×PUnit)×PUnit) (fun again6 ((l7,(l8,(i9,(i10,_)))),_)=>
      brK (decide (i10 < i9))
        (sif ((0:Int)≤i10) <|
        getK l8 (Int.toNat i10) fun d11=>
        asSl d11 fun t12 l13=>
        sif (List.length l7=List.length l7) <|
        zcb (α:=(List D×List D×Int×Int×(Tag×List D)×Int×Int×PUnit)×PUnit) (fun again14 ((l15,(l16,(i17,(i18,((t19,l20),(i21,(i22,_))))))),_)=>
          brK (decide (i22 < i21))
            (sif ((0:Int)≤i22) <|
            getK l20 (Int.toNat i22) fun d23=>
            asI IntKind.u8 d23 fun i24=>
            sif ((0:Int)≤i22) <|
            sif (Int.toNat i22 < List.length l15) <|
            getK l15 ((0:Nat)+Int.toNat i22) fun d25=>
            asI IntKind.u8 d25 fun i26=>
            letN (bits BinOp.xor IntKind.u8 i26 i24) fun n27=>
            sif ((0:Int)≤i22) <|
            sif (Int.toNat i22 < List.length l15) <|
            getK l15 ((0:Nat)+Int.toNat i22) fun d28=>
            sif (D.isAgg d28=false) <|
            letN (IntKind.wrap IntKind.i64 (i22+(1:Int))) fun n29=>
            sif (List.length l15=List.length (List.set l15 ((0:Nat)+Int.toNat i22) (D.int IntKind.u8 n27))) <|
            again14 (((List.set l15 ((0:Nat)+Int.toNat i22) (D.int IntKind.u8 n27),l16,i17,i18,(t19,l20),i21,n29,PUnit.unit),PUnit.unit)))
            (letN (IntKind.wrap IntKind.i64 (i18+(1:Int))) fun n30=>
            sif (List.length l15=List.length l15) <|
            again6 (((l15,l16,i17,n30,PUnit.unit),PUnit.unit))))
          (((l7,l8,i9,i10,(t12,l13),(↑(List.length l13):Int),(0:Int),PUnit.unit),PUnit.unit)))
        (sif (List.length l7=List.length l7) <|
        sif (List.all l7 D.free=true) <|
        some (D.sl Tag.own l7)))
      (((List.replicate (Int.toNat (↑(List.length l5):Int)) (D.int IntKind.u8 (0:Int)),a0,(↑(List.length a0):Int),(0:Int),PUnit.unit),PUnit.unit)))
theorem zrd (zaH:List D→Option D) (tga0:Tag) (a0:List D):denP Try.prog (zax [(ID.wattleref01_alike,(.pure [0] zaH))]) zio [1] ID.wattleref01_P [.sl tga0 a0]=zg2 zaH (D.lentL a0):=by kernel_rfl
theorem znG (tga0:Tag) (a0:List D):zbK [.sl tga0 a0]=zg2 zaH (D.lentL a0):=zrd zaH tga0 a0
def zg3:Ann:={ loops:=[(0,[.dead,.val (.cell (.int .u8)),.dead,.dead,.dead,.val (.cell (.int .i64)),.val (.cell (.int .i64)),.val (.cell (.int .i64))])] }
noncomputable def zaP:List D→Option D:=denP Try.prog (zax []) zg3 [0] ID.wattleref01_Mul
theorem zkE:za7 Try.prog ID.wattleref01_Mul (.pure [0] zaP):=zat (zaD []) zbD ⟨Try.f117,by kernel_rfl,by kernel_rfl,by kernel_rfl⟩
noncomputable def zge:Fact Try.prog:=⟨ID.wattleref01_Mul,(.pure [0] zaP),zkE⟩
noncomputable def zfz (a0:Int) (a1:Int):Option D:=
  letN (IntKind.wrap IntKind.i64 a0) fun n1=>
  zcb (α:=(Int×Int×Int×Int×PUnit)×PUnit) (fun again2 ((i3,(i4,(i5,(i6,_)))),_)=>
    brK (decide (i6 < (8:Int)))
      (letN (IntKind.wrap IntKind.u64 i6) fun n7=>
      sif ((0:Int)≤n7) <|
      letN (Int.fdiv i3 ((2:Int) ^ min (Int.toNat n7) (8:Nat))) fun n8=>
      letN (bits BinOp.and IntKind.u8 n8 (1:Int)) fun n9=>
      brK (n9 == (1:Int))
        (letN (bits BinOp.xor IntKind.i64 i5 i4) fun n10=>
        letN (IntKind.wrap IntKind.i64 (i4*(2:Int))) fun n11=>
        brK (decide (n11 > (255:Int)))
          (letN (bits BinOp.xor IntKind.i64 n11 (285:Int)) fun n12=>
          letN (IntKind.wrap IntKind.i64 (i6+(1:Int))) fun n13=>
          again2 (((i3,n12,n10,n13,PUnit.unit),PUnit.unit)))
          (letN (IntKind.wrap IntKind.i64 (i6+(1:Int))) fun n14=>
          again2 (((i3,n11,n10,n14,PUnit.unit),PUnit.unit))))
        (letN (IntKind.wrap IntKind.i64 (i4*(2:Int))) fun n15=>
        brK (decide (n15 > (255:Int)))
          (letN (bits BinOp.xor IntKind.i64 n15 (285:Int)) fun n16=>
          letN (IntKind.wrap IntKind.i64 (i6+(1:Int))) fun n17=>
          again2 (((i3,n16,i5,n17,PUnit.unit),PUnit.unit)))
          (letN (IntKind.wrap IntKind.i64 (i6+(1:Int))) fun n18=>
          again2 (((i3,n15,i5,n18,PUnit.unit),PUnit.unit)))))
      (letN (IntKind.wrap IntKind.u8 i5) fun n19=>
      some (D.int IntKind.u8 n19)))
    (((a1,n1,(0:Int),(0:Int),PUnit.unit),PUnit.unit))
theorem zoA (a0:Int) (a1:Int):denP Try.prog (zax []) zg3 [0] ID.wattleref01_Mul [.int .u8 a0,.int .u8 a1]=zfz a0 a1:=by kernel_rfl
theorem zlz (a0:Int) (a1:Int):zaP [.int .u8 a0,.int .u8 a1]=zfz a0 a1:=zoA a0 a1
def zg4:Ann:={ loops:=[(1,[.val (.cell (.int .i64)),.dead,.dead,.val (.cell (.int .u8))])] }
noncomputable def zbx:List D→Option D:=denP Try.prog (zax [(ID.wattleref01_Mul,(.pure [0] zaP))]) zg4 [0] ID.wattleref01_Pow
theorem zkF:za7 Try.prog ID.wattleref01_Pow (.pure [0] zbx):=zat (zaD [zge]) zbD ⟨Try.f116,by kernel_rfl,by kernel_rfl,by kernel_rfl⟩
noncomputable def zlA:Fact Try.prog:=⟨ID.wattleref01_Pow,(.pure [0] zbx),zkF⟩
noncomputable def zfA (zaP:List D→Option D) (a0:Int):Option D:=
  letN (Int.tmod a0 (255:Int)) fun n1=>
  brK (decide (n1 < (0:Int)))
    (letN (IntKind.wrap IntKind.i64 (n1+(255:Int))) fun n2=>
    zcb (α:=(Int×Int×PUnit)×PUnit) (fun again3 ((i4,(i5,_)),_)=>
      brK (decide (i4 > (0:Int)))
        (zar (zaP [D.int IntKind.u8 i5,D.int IntKind.u8 (2:Int)]) fun r6=>
        asI IntKind.u8 r6 fun i7=>
        letN (IntKind.wrap IntKind.i64 (i4 - (1:Int))) fun n8=>
        again3 (((n8,i7,PUnit.unit),PUnit.unit)))
        (some (D.int IntKind.u8 i5)))
      (((n2,(1:Int),PUnit.unit),PUnit.unit)))
    (zcb (α:=(Int×Int×PUnit)×PUnit) (fun again9 ((i10,(i11,_)),_)=>
      brK (decide (i10 > (0:Int)))
        (zar (zaP [D.int IntKind.u8 i11,D.int IntKind.u8 (2:Int)]) fun r12=>
        asI IntKind.u8 r12 fun i13=>
        letN (IntKind.wrap IntKind.i64 (i10 - (1:Int))) fun n14=>
        again9 (((n14,i13,PUnit.unit),PUnit.unit)))
        (some (D.int IntKind.u8 i11)))
      (((n1,(1:Int),PUnit.unit),PUnit.unit)))
theorem zoB (zaP:List D→Option D) (a0:Int):denP Try.prog (zax [(ID.wattleref01_Mul,(.pure [0] zaP))]) zg4 [0] ID.wattleref01_Pow [.int .i64 a0]=zfA zaP a0:=by kernel_rfl
theorem zlB (a0:Int):zbx [.int .i64 a0]=zfA zaP a0:=zoB zaP a0
def ziq:Ann:={ loops:=[(1,[.dead,.dead,.dead,.own 1,.dead,.dead,.dead,.dead,.dead,.dead,.dead,.dead,.dead,.dead,.dead,.dead,.dead,.val (.cell .lent),.val (.cell (.int .i64)),.val (.cell (.int .i64))]),(3,[.dead,.dead,.dead,.own 1,.dead,.dead,.val (.cell (.int .u8)),.dead,.dead,.dead,.dead,.dead,.dead,.dead,.dead,.dead,.dead,.val (.cell .lent),.val (.cell (.int .i64)),.val (.cell (.int .i64)),.dead,.dead,.dead,.dead,.dead,.dead,.val (.cell .sl),.val (.cell (.int .i64)),.val (.cell (.int .i64))])] }
noncomputable def zbL:List D→Option D:=denP Try.prog (zax [(ID.wattleref01_alike,(.pure [0] zaH)),(ID.wattleref01_Pow,(.pure [0] zbx)),(ID.wattleref01_Mul,(.pure [0] zaP))]) ziq [1] ID.wattleref01_Q
theorem zmH:za7 Try.prog ID.wattleref01_Q (.pure [1] zbL):=zat (zaD [zfj,zlA,zge]) zbD ⟨Try.f82,by kernel_rfl,by kernel_rfl,by kernel_rfl⟩
noncomputable def znH:Fact Try.prog:=⟨ID.wattleref01_Q,(.pure [1] zbL),zmH⟩
noncomputable def zg5 (zaH:List D→Option D) (zbx:List D→Option D) (zaP:List D→Option D) (a0:List D):Option D:=
  zar (zaH [D.sl Tag.lent a0]) fun r1=>
  asB r1 fun b2=>
  brK (!b2)
    (some (D.sl Tag.own []))
    (getK a0 ((0:Nat)) fun d3=>
    asSl d3 fun t4 l5=>
    sif ((↑(List.length l5):Int)=(↑(List.length l5):Int)) <|
    sif ((↑(List.length l5):Int)*(1:Int)≤(140737488355328:Int)) <|
    sif ((↑(List.length l5):Int)≤(140737488355328:Int)) <|
    sif (Int.toNat (↑(List.length l5):Int)=List.length (List.replicate (Int.toNat (↑(List.length l5):Int)) (D.int IntKind.u8 (0:Int)))) <|
    zcb (α:=(List D×List D×Int×Int×PUnit)×PUnit) (fun again6 ((l7,(l8,(i9,(i10,_)))),_)=>
      brK (decide (i10 < i9))
        (sif ((0:Int)≤i10) <|
        getK l8 (Int.toNat i10) fun d11=>
        asSl d11 fun t12 l13=>
        zar (zbx [D.int IntKind.i64 i10]) fun r14=>
        asI IntKind.u8 r14 fun i15=>
        sif (List.length l7=List.length l7) <|
        zcb (α:=(List D×Int×List D×Int×Int×(Tag×List D)×Int×Int×PUnit)×PUnit) (fun again16 ((l17,(i18,(l19,(i20,(i21,((t22,l23),(i24,(i25,_)))))))),_)=>
          brK (decide (i25 < i24))
            (sif ((0:Int)≤i25) <|
            getK l23 (Int.toNat i25) fun d26=>
            asI IntKind.u8 d26 fun i27=>
            sif ((0:Int)≤i25) <|
            sif (Int.toNat i25 < List.length l17) <|
            getK l17 ((0:Nat)+Int.toNat i25) fun d28=>
            asI IntKind.u8 d28 fun i29=>
            zar (zaP [D.int IntKind.u8 i27,D.int IntKind.u8 i18]) fun r30=>
            asI IntKind.u8 r30 fun i31=>
            letN (bits BinOp.xor IntKind.u8 i29 i31) fun n32=>
            sif ((0:Int)≤i25) <|
            sif (Int.toNat i25 < List.length l17) <|
            getK l17 ((0:Nat)+Int.toNat i25) fun d33=>
            sif (D.isAgg d33=false) <|
            letN (IntKind.wrap IntKind.i64 (i25+(1:Int))) fun n34=>
            sif (List.length l17=List.length (List.set l17 ((0:Nat)+Int.toNat i25) (D.int IntKind.u8 n32))) <|
            again16 (((List.set l17 ((0:Nat)+Int.toNat i25) (D.int IntKind.u8 n32),i18,l19,i20,i21,(t22,l23),i24,n34,PUnit.unit),PUnit.unit)))
            (letN (IntKind.wrap IntKind.i64 (i21+(1:Int))) fun n35=>
            sif (List.length l17=List.length l17) <|
            again6 (((l17,l19,i20,n35,PUnit.unit),PUnit.unit))))
          (((l7,i15,l8,i9,i10,(t12,l13),(↑(List.length l13):Int),(0:Int),PUnit.unit),PUnit.unit)))
        (sif (List.length l7=List.length l7) <|
        sif (List.all l7 D.free=true) <|
        some (D.sl Tag.own l7)))
      (((List.replicate (Int.toNat (↑(List.length l5):Int)) (D.int IntKind.u8 (0:Int)),a0,(↑(List.length a0):Int),(0:Int),PUnit.unit),PUnit.unit)))
theorem zre (zaH:List D→Option D) (zbx:List D→Option D) (zaP:List D→Option D) (tga0:Tag) (a0:List D):denP Try.prog (zax [(ID.wattleref01_alike,(.pure [0] zaH)),(ID.wattleref01_Pow,(.pure [0] zbx)),(ID.wattleref01_Mul,(.pure [0] zaP))]) ziq [1] ID.wattleref01_Q [.sl tga0 a0]=zg5 zaH zbx zaP (D.lentL a0):=by kernel_rfl
theorem znI (tga0:Tag) (a0:List D):zbL [.sl tga0 a0]=zg5 zaH zbx zaP (D.lentL a0):=zre zaH zbx zaP tga0 a0
def zgf:Ann:={ loops:=[(1,[.dead,.val (.cell (.int .i64)),.val (.cell .lent),.box true [(.int .i64),(.int .i64),(.int .i64)],.dead,.dead,.dead,.dead,.own 1,.dead,.dead,.dead,.dead,.dead,.dead,.dead,.dead,.dead,.dead,.dead,.dead,.dead,.dead,.dead,.dead,.dead,.dead,.val (.cell .lent),.val (.cell (.int .i64)),.val (.cell (.int .i64))])] }
noncomputable def zbo:List D→Option D:=denP Try.prog (zax [(ID.wattleref01_fine,(.pure [0] zaq)),(ID.wattleref01_Width,(.pure [0] zak)),(ID.wattleref01_Disk,(.pure [0] zbi)),(ID.wattleref01_Parity,(.pure [0,0] zaz)),(ID.wattleref01_P,(.pure [1] zbK)),(ID.wattleref01_Q,(.pure [1] zbL))]) zgf [1,0] ID.wattleref01_Fill
theorem zjH:za7 Try.prog ID.wattleref01_Fill (.pure [1,0] zbo):=zat (zaD [zdY,zdB,zkC,ze4,znF,znH]) zbD ⟨Try.f39,by kernel_rfl,by kernel_rfl,by kernel_rfl⟩
noncomputable def zkG:Fact Try.prog:=⟨ID.wattleref01_Fill,(.pure [1,0] zbo),zjH⟩
noncomputable def ze6 (zaq:List D→Option D) (zak:List D→Option D) (zbi:List D→Option D) (zaz:List D→Option D) (zbK:List D→Option D) (zbL:List D→Option D) (a0_0:Int) (a0_1:Int) (a0_2:Int) (a1:Int) (a2:List D):Option D:=
  zar (zaq [D.agg [D.int IntKind.i64 a0_0,D.int IntKind.i64 a0_1,D.int IntKind.i64 a0_2],D.int IntKind.i64 a1]) fun r1=>
  asB r1 fun b2=>
  brK (!b2)
    (some (D.tup [D.sl Tag.own [],D.bool false]))
    (zar (zak [D.agg [D.int IntKind.i64 a0_0,D.int IntKind.i64 a0_1,D.int IntKind.i64 a0_2]]) fun r3=>
    asI IntKind.i64 r3 fun i4=>
    brK ((↑(List.length a2):Int) != i4)
      (some (D.tup [D.sl Tag.own [],D.bool false]))
      (sif ((0:Int)≤a0_1) <|
      sif (a0_1=a0_1) <|
      sif (a0_1*(24:Int)≤(140737488355328:Int)) <|
      sif (a0_1≤(140737488355328:Int)) <|
      sif (Int.toNat a0_1=List.length (List.replicate (Int.toNat a0_1) (D.sl Tag.nil []))) <|
      zcb (α:=(Int×List D×(Int×Int×Int×PUnit)×List D×List D×Int×Int×PUnit)×PUnit) (fun again5 ((i6,(l7,((i8,(i9,(i10,_))),(l11,(l12,(i13,(i14,_))))))),_)=>
        brK (decide (i14 < i13))
          (sif ((0:Int)≤i14) <|
          getK l12 (Int.toNat i14) fun d15=>
          asSl d15 fun t16 l17=>
          brK ((↑(List.length l17):Int) != (32:Int))
            (some (D.tup [D.sl Tag.own [],D.bool false]))
            (zar (zbi [D.agg [D.int IntKind.i64 i8,D.int IntKind.i64 i9,D.int IntKind.i64 i10],D.int IntKind.i64 i6,D.int IntKind.i64 i14]) fun r18=>
            asI IntKind.i64 r18 fun i19=>
            sif (List.length l17≤(4294967296:Nat)) <|
            sif (zdG (1:Nat) l17=true) <|
            sif ((0:Int)≤i19) <|
            sif (Int.toNat i19 < List.length l11) <|
            sif ((0:Nat)+List.length l17≤List.length l17) <|
            getK l11 ((0:Nat)+Int.toNat i19) fun d20=>
            sif ((0:Nat)+List.length l17≤List.length l17) <|
            sif (D.isAgg d20=false) <|
            letN (IntKind.wrap IntKind.i64 (i14+(1:Int))) fun n21=>
            sif (List.length l11=List.length (List.set l11 ((0:Nat)+Int.toNat i19) (D.sl Tag.fresh (cut (0:Nat) (List.length l17) l17)))) <|
            again5 (((i6,l7,(i8,i9,i10,PUnit.unit),List.set l11 ((0:Nat)+Int.toNat i19) (D.sl Tag.fresh (cut (0:Nat) (List.length l17) l17)),l12,i13,n21,PUnit.unit),PUnit.unit))))
          (zar (zaz [D.agg [D.int IntKind.i64 i8,D.int IntKind.i64 i9,D.int IntKind.i64 i10],D.int IntKind.i64 i6]) fun r22=>
          zev r22 fun ts23=>
          zaw ([Lf.any,Lf.any]) ts23 fun c24=>
          asI IntKind.i64 c24.fst fun i25=>
          asI IntKind.i64 c24.snd.fst fun i26=>
          zar (zbK [D.sl Tag.lent l7]) fun r27=>
          za8 r27 fun l28=>
          sif ((0:Int)≤i25) <|
          sif (Int.toNat i25 < List.length l11) <|
          sif ((0:Nat)+List.length l28≤List.length l28) <|
          getK l11 ((0:Nat)+Int.toNat i25) fun d29=>
          sif ((0:Nat)+List.length l28≤List.length l28) <|
          sif (D.isAgg d29=false) <|
          brK (decide (i26≥(0:Int)))
            (zar (zbL [D.sl Tag.lent l7]) fun r30=>
            za8 r30 fun l31=>
            sif ((0:Int)≤i26) <|
            sif (Int.toNat i26 < List.length l11) <|
            sif ((0:Nat)+List.length l31≤List.length l31) <|
            getK (List.set l11 ((0:Nat)+Int.toNat i25) (D.sl Tag.fresh (cut (0:Nat) (List.length l28) l28))) ((0:Nat)+Int.toNat i26) fun d32=>
            sif ((0:Nat)+List.length l31≤List.length l31) <|
            sif (D.isAgg d32=false) <|
            sif (List.length l11=List.length (List.set (List.set l11 ((0:Nat)+Int.toNat i25) (D.sl Tag.fresh (cut (0:Nat) (List.length l28) l28))) ((0:Nat)+Int.toNat i26) (D.sl Tag.fresh (cut (0:Nat) (List.length l31) l31)))) <|
            sif (List.all (List.set (List.set l11 ((0:Nat)+Int.toNat i25) (D.sl Tag.fresh (cut (0:Nat) (List.length l28) l28))) ((0:Nat)+Int.toNat i26) (D.sl Tag.fresh (cut (0:Nat) (List.length l31) l31))) D.free=true) <|
            some (D.tup [D.sl Tag.own (List.set (List.set l11 ((0:Nat)+Int.toNat i25) (D.sl Tag.fresh (cut (0:Nat) (List.length l28) l28))) ((0:Nat)+Int.toNat i26) (D.sl Tag.fresh (cut (0:Nat) (List.length l31) l31))),D.bool true]))
            (sif (List.length l11=List.length (List.set l11 ((0:Nat)+Int.toNat i25) (D.sl Tag.fresh (cut (0:Nat) (List.length l28) l28)))) <|
            sif (List.all (List.set l11 ((0:Nat)+Int.toNat i25) (D.sl Tag.fresh (cut (0:Nat) (List.length l28) l28))) D.free=true) <|
            some (D.tup [D.sl Tag.own (List.set l11 ((0:Nat)+Int.toNat i25) (D.sl Tag.fresh (cut (0:Nat) (List.length l28) l28))),D.bool true]))))
        (((a1,a2,(a0_0,a0_1,a0_2,PUnit.unit),List.replicate (Int.toNat a0_1) (D.sl Tag.nil []),a2,(↑(List.length a2):Int),(0:Int),PUnit.unit),PUnit.unit))))
theorem znJ (zaq:List D→Option D) (zak:List D→Option D) (zbi:List D→Option D) (zaz:List D→Option D) (zbK:List D→Option D) (zbL:List D→Option D) (tga2:Tag) (a0_0:Int) (a0_1:Int) (a0_2:Int) (a1:Int) (a2:List D):denP Try.prog (zax [(ID.wattleref01_fine,(.pure [0] zaq)),(ID.wattleref01_Width,(.pure [0] zak)),(ID.wattleref01_Disk,(.pure [0] zbi)),(ID.wattleref01_Parity,(.pure [0,0] zaz)),(ID.wattleref01_P,(.pure [1] zbK)),(ID.wattleref01_Q,(.pure [1] zbL))]) zgf [1,0] ID.wattleref01_Fill [.agg [.int .i64 a0_0,.int .i64 a0_1,.int .i64 a0_2],.int .i64 a1,.sl tga2 a2]=ze6 zaq zak zbi zaz zbK zbL a0_0 a0_1 a0_2 a1 (D.lentL a2):=by kernel_rfl
theorem zkH (tga2:Tag) (a0_0:Int) (a0_1:Int) (a0_2:Int) (a1:Int) (a2:List D):zbo [.agg [.int .i64 a0_0,.int .i64 a0_1,.int .i64 a0_2],.int .i64 a1,.sl tga2 a2]=ze6 zaq zak zbi zaz zbK zbL a0_0 a0_1 a0_2 a1 (D.lentL a2):=znJ zaq zak zbi zaz zbK zbL tga2 a0_0 a0_1 a0_2 a1 a2
def zfk:Ann:={ loops:=[],hints:=[(1,.at1 (.int .i64))] }
noncomputable def zaF:List D→Option D:=denP Try.prog (zax []) zfk [0] ID.disk_Disk_Damage_1
theorem zir:za7 Try.prog ID.disk_Disk_Damage_1 (.pure [0] zaF):=zat (zaD []) zbD ⟨Try.f126,by kernel_rfl,by kernel_rfl,by kernel_rfl⟩
noncomputable def ze7:Fact Try.prog:=⟨ID.disk_Disk_Damage_1,(.pure [0] zaF),zir⟩
noncomputable def zek (a0:List D) (c0:Int):Option D:=
  zaw ([Lf.int IntKind.i64,Lf.arr (32)]) a0 fun c1=>
  some (D.bool (c1.fst == c0))
theorem zlC (a0:List D) (c0:Int):denP Try.prog (zax []) zfk [0] ID.disk_Disk_Damage_1 [.agg a0,.at_ (.int .i64 c0)]=zek (D.lentL a0) c0:=by kernel_rfl
theorem zi6 (a0:List D) (c0:Int):zaF [.agg a0,.at_ (.int .i64 c0)]=zek (D.lentL a0) c0:=zlC a0 c0
def zcj:Ann:={ loops:=[(0,[.val (.cell .lent),.val (.fn1 (126:FuncId) (.int .i64)),.dead,.dead,.dead,.dead,.dead,.val (.cell (.int .i64)),.val (.cell (.int .i64))])] }
noncomputable def zao:List D→Option D:=denP Try.prog (zax [(ID.disk_Disk_Damage_1,(.pure [0] zaF))]) zcj [0] ID.slices_IndexFunc_disk_write_disk_write
theorem zdk:za7 Try.prog ID.slices_IndexFunc_disk_write_disk_write (.pure [0] zao):=zat (zaD [ze7]) zbD ⟨Try.f139,by kernel_rfl,by kernel_rfl,by kernel_rfl⟩
noncomputable def zdr:Fact Try.prog:=⟨ID.slices_IndexFunc_disk_write_disk_write,(.pure [0] zao),zdk⟩
noncomputable def zbC (zaF:List D→Option D) (a0:List D) (c0:Int):Option D:=
  zcb (α:=(List D×Int×Int×Int×PUnit)×PUnit) (fun again1 ((l2,(i3,(i4,(i5,_)))),_)=>
    brK (decide (i5 < i4))
      (sif ((0:Int)≤i5) <|
      getK l2 (Int.toNat i5) fun d6=>
      asAgg d6 fun cs7=>
      zaw ([Lf.int IntKind.i64,Lf.arr (32)]) cs7 fun c8=>
      sif (D.width (D.agg ([D.int IntKind.i64 c8.fst]++(c8.snd.fst++[])))=(33:Nat)) <|
      zaw ([Lf.int IntKind.i64,Lf.arr (32)]) ([D.int IntKind.i64 c8.fst]++(c8.snd.fst++[])) fun c9=>
      sif (D.width (D.agg ([D.int IntKind.i64 c9.fst]++(c9.snd.fst++[])))=(33:Nat)) <|
      zar (zaF [D.agg ([D.int IntKind.i64 c9.fst]++(c9.snd.fst++[])),D.at_ (D.int IntKind.i64 i3)]) fun r10=>
      asB r10 fun b11=>
      brK b11
        (some (D.int IntKind.i64 i5))
        (letN (IntKind.wrap IntKind.i64 (i5+(1:Int))) fun n12=>
        again1 (((l2,i3,i4,n12,PUnit.unit),PUnit.unit))))
      (some (D.int IntKind.i64 (-1:Int))))
    (((a0,c0,(↑(List.length a0):Int),(0:Int),PUnit.unit),PUnit.unit))
theorem zc4 (zaF:List D→Option D) (tga0:Tag) (a0:List D) (c0:Int):denP Try.prog (zax [(ID.disk_Disk_Damage_1,(.pure [0] zaF))]) zcj [0] ID.slices_IndexFunc_disk_write_disk_write [.sl tga0 a0,.fn 126 [] [.at_ (.int .i64 c0)]]=zbC zaF (D.lentL a0) c0:=by kernel_rfl
theorem zcR (tga0:Tag) (a0:List D) (c0:Int):zao [.sl tga0 a0,.fn 126 [] [.at_ (.int .i64 c0)]]=zbC zaF (D.lentL a0) c0:=zc4 zaF tga0 a0 c0
def zci:Ann:={ loops:=[(1,[.own 33,.val (.fn1 (126:FuncId) (.int .i64)),.dead,.dead,.dead,.val (.cell (.int .i64)),.val (.cell (.int .i64))])],pms:=[(.own,33)] }
noncomputable def zal:List D→List Tb→Option Ans:=denS Try.prog (zax [(ID.slices_IndexFunc_disk_write_disk_write,(.pure [0] zao)),(ID.disk_Disk_Damage_1,(.pure [0] zaF))]) zci [33] ID.slices_DeleteFunc_disk_write_disk_write
theorem zdg:za7 Try.prog ID.slices_DeleteFunc_disk_write_disk_write (.st [(.own,33)] [33] [] zal):=zbg (zaD [zdr,ze7]) zbD ⟨Try.f125,by kernel_rfl,by kernel_rfl,by kernel_rfl⟩
noncomputable def zdl:Fact Try.prog:=⟨ID.slices_DeleteFunc_disk_write_disk_write,(.st [(.own,33)] [33] [] zal),zdg⟩
noncomputable def zbt (zao:List D→Option D) (zaF:List D→Option D) (a0:List D) (c0:Int):Option Ans:=
  sif ((0:Nat)+List.length a0≤List.length a0) <|
  zar (zao [D.sl Tag.lent (cut (0:Nat) (List.length a0) a0),D.fn (126:FuncId) [] [D.at_ (D.int IntKind.i64 c0)]]) fun r1=>
  asI IntKind.i64 r1 fun i2=>
  brK (i2 == (-1:Int))
    (sif (List.length a0=List.length a0) <|
    sif (List.all a0 D.free=true) <|
    some (Ans.mk (D.sl Tag.own a0) [] []))
    (letN (IntKind.wrap IntKind.i64 (i2+(1:Int))) fun n3=>
    none)
theorem zcY (zao:List D→Option D) (zaF:List D→Option D) (a0:List D) (c0:Int):denS Try.prog (zax [(ID.slices_IndexFunc_disk_write_disk_write,(.pure [0] zao)),(ID.disk_Disk_Damage_1,(.pure [0] zaF))]) zci [33] ID.slices_DeleteFunc_disk_write_disk_write [.sl .own a0,.fn 126 [] [.at_ (.int .i64 c0)]] []=zbt zao zaF a0 c0:=by kernel_rfl
theorem zcN (a0:List D) (c0:Int):zal [.sl .own a0,.fn 126 [] [.at_ (.int .i64 c0)]] []=zbt zao zaF a0 c0:=zcY zao zaF a0 c0
def zgg:Ann:={ loops:=[],ks:=[(7649,true)] }
noncomputable def zbp:List D→List Tb→Option Ans:=denS Try.prog (zax [(ID.disk_Disk_put,(.st [] [0,0] [(7649,false)] zaX)),(ID.slices_Clone_disk_write_disk_write,(.pure [33] zae)),(ID.slices_DeleteFunc_disk_write_disk_write,(.st [(.own,33)] [33] [] zal))]) zgg [0] ID.disk_Disk_Damage
theorem zjI:za7 Try.prog ID.disk_Disk_Damage (.st [] [0] [(7649,true)] zbp):=zbg (zaD [zhs,zcw,zdl]) zbD ⟨Try.f100,by kernel_rfl,by kernel_rfl,by kernel_rfl⟩
noncomputable def zkI:Fact Try.prog:=⟨ID.disk_Disk_Damage,(.st [] [0] [(7649,true)] zbp),zjI⟩
noncomputable def ze8 (zaX:List D→List Tb→Option Ans) (zae:List D→Option D) (zal:List D→List Tb→Option Ans) (a0:Nat) (a1:Int) (a2:List D) (T0:Tb):Option Ans:=
  zar (zaX [D.h (7649:Nat) a0 (0:Nat),D.int IntKind.i64 a1,D.sl Tag.lent a2] [T0]) fun r1=>
  nilK r1.outs <|
  nilK r1.tbs <|
  zev r1.r fun ts2=>
  zaw ([Lf.any,Lf.any]) ts2 fun c3=>
  asAgg c3.fst fun cs4=>
  zaw ([Lf.int IntKind.i64,Lf.arr (32)]) cs4 fun c5=>
  asI IntKind.i64 c3.snd.fst fun i6=>
  sif (List.length ([D.int IntKind.i64 c5.fst]++(c5.snd.fst++[]))=(33:Nat)) <|
  brK (i6 != (0:Int))
    (some (Ans.mk (D.int IntKind.i64 i6) [] [T0]))
    (sif ((33:Nat)≤List.length ([D.int IntKind.i64 c5.fst]++(c5.snd.fst++[]))) <|
    sif (List.length (List.take (32:Nat) (List.drop (1:Nat) ([D.int IntKind.i64 c5.fst]++(c5.snd.fst++[]))))=(32:Nat)) <|
    sif ((0:Int)≤a1) <|
    sif (Int.toNat a1 < (52:Nat)) <|
    getK T0 a0 fun d7=>
    sif ((0:Nat)+Int.toNat a1*(32:Nat)+(32:Nat)≤List.length d7) <|
    sif (List.length (List.take (32:Nat) (List.drop (1:Nat) ([D.int IntKind.i64 c5.fst]++(c5.snd.fst++[]))))=(32:Nat)) <|
    sif (zgK (List.take (32:Nat) (List.drop (1:Nat) ([D.int IntKind.i64 c5.fst]++(c5.snd.fst++[]))))=true) <|
    sif (zgK (List.take (32:Nat) (List.drop ((0:Nat)+Int.toNat a1*(32:Nat)) d7))=true) <|
    letT (zaY T0 a0 ((0:Nat)+Int.toNat a1*(32:Nat)) (List.take (32:Nat) (List.drop (1:Nat) ([D.int IntKind.i64 c5.fst]++(c5.snd.fst++[]))))) fun U8=>
    getK U8 a0 fun d9=>
    getK d9 ((1664:Nat)) fun d10=>
    za8 d10 fun l11=>
    getK U8 a0 fun d12=>
    getK d12 ((1664:Nat)) fun d13=>
    za8 d13 fun l14=>
    sif ((0:Nat)+List.length l11≤List.length l14) <|
    zar (zae [D.sl Tag.lent (cut (0:Nat) (List.length l11) l14)]) fun r15=>
    za8 r15 fun l16=>
    sif (List.length l16=List.length l16) <|
    sif (zc7 l16=true) <|
    zar (zal [D.sl Tag.own l16,D.fn (126:Nat) [] [D.at_ (D.int IntKind.i64 a1)]] []) fun r17=>
    nilK r17.outs <|
    nilK r17.tbs <|
    za8 r17.r fun l18=>
    sif ((0:Nat)+List.length l18≤List.length l18) <|
    getK U8 a0 fun d19=>
    sif ((1665:Nat)≤List.length d19) <|
    sif (List.length l18=List.length l18) <|
    sif (zc7 l18=true) <|
    sif (zfe (33:Nat) l18=true) <|
    letT (zaY U8 a0 (1664:Nat) [D.sl Tag.own l18]) fun U20=>
    some (Ans.mk (D.int IntKind.i64 (0:Int)) [] [U20]))
theorem znK (zaX:List D→List Tb→Option Ans) (zae:List D→Option D) (zal:List D→List Tb→Option Ans) (tga2:Tag) (a0:Nat) (a1:Int) (a2:List D) (T0:Tb):denS Try.prog (zax [(ID.disk_Disk_put,(.st [] [0,0] [(7649,false)] zaX)),(ID.slices_Clone_disk_write_disk_write,(.pure [33] zae)),(ID.slices_DeleteFunc_disk_write_disk_write,(.st [(.own,33)] [33] [] zal))]) zgg [0] ID.disk_Disk_Damage [.h 7649 a0 0,.int .i64 a1,.sl tga2 a2] [T0]=ze8 zaX zae zal a0 a1 (D.lentL a2) T0:=by kernel_rfl
theorem zkJ (tga2:Tag) (a0:Nat) (a1:Int) (a2:List D) (T0:Tb):zbp [.h 7649 a0 0,.int .i64 a1,.sl tga2 a2] [T0]=ze8 zaX zae zal a0 a1 (D.lentL a2) T0:=znK zaX zae zal tga2 a0 a1 a2 T0
def zfl:Ann:={ loops:=[],ks:=[(3840,false),(7649,true)] }
noncomputable def zbd:List D→List Tb→Option Ans:=denS Try.prog (zax [(ID.bench_Bench_is,(.st [] [0] [(3840,false)] zag)),(ID.disk_Disk_Damage,(.st [] [0] [(7649,true)] zbp))]) zfl [0] ID.bench_Bench_Damage
theorem zis:za7 Try.prog ID.bench_Bench_Damage (.st [] [0] [(3840,false),(7649,true)] zbd):=zbg (zaD [zcQ,zkI]) zbD ⟨Try.f65,by kernel_rfl,by kernel_rfl,by kernel_rfl⟩
noncomputable def zi7:Fact Try.prog:=⟨ID.bench_Bench_Damage,(.st [] [0] [(3840,false),(7649,true)] zbd),zis⟩
noncomputable def zel (zag:List D→List Tb→Option Ans) (zbp:List D→List Tb→Option Ans) (a0:Nat) (a1:Int) (a2:Int) (a3:List D) (T0:Tb) (T1:Tb):Option Ans:=
  zar (zag [D.h (3840:Nat) a0 (0:Nat),D.int IntKind.i64 a1] [T0]) fun r1=>
  nilK r1.outs <|
  nilK r1.tbs <|
  asB r1.r fun b2=>
  brK (!b2)
    (some (Ans.mk (D.int IntKind.i64 (1:Int)) [] [T1]))
    (getK T0 a0 fun d3=>
    getK d3 ((3:Nat)) fun d4=>
    za8 d4 fun l5=>
    getK T0 a0 fun d6=>
    getK d6 ((3:Nat)) fun d7=>
    za8 d7 fun l8=>
    sif ((0:Int)≤a1) <|
    sif (Int.toNat a1 < List.length l5) <|
    getK T0 a0 fun d9=>
    getK d9 ((3:Nat)) fun d10=>
    za8 d10 fun l11=>
    getK l11 ((0:Nat)+Int.toNat a1) fun d12=>
    sif (D.isAgg d12=false) <|
    sif (D.width d12=(1:Nat)) <|
    sif (D.cell d12=true) <|
    zar (zbp [d12,D.int IntKind.i64 a2,D.sl Tag.lent a3] [T1]) fun r13=>
    nilK r13.outs <|
    zcl r13.tbs fun c14 q15=>
    nilK q15 <|
    asI IntKind.i64 r13.r fun i16=>
    some (Ans.mk (D.int IntKind.i64 i16) [] [c14]))
theorem zlD (zag:List D→List Tb→Option Ans) (zbp:List D→List Tb→Option Ans) (tga3:Tag) (a0:Nat) (a1:Int) (a2:Int) (a3:List D) (T0:Tb) (T1:Tb):denS Try.prog (zax [(ID.bench_Bench_is,(.st [] [0] [(3840,false)] zag)),(ID.disk_Disk_Damage,(.st [] [0] [(7649,true)] zbp))]) zfl [0] ID.bench_Bench_Damage [.h 3840 a0 0,.int .i64 a1,.int .i64 a2,.sl tga3 a3] [T0,T1]=zel zag zbp a0 a1 a2 (D.lentL a3) T0 T1:=by kernel_rfl
theorem zi8 (tga3:Tag) (a0:Nat) (a1:Int) (a2:Int) (a3:List D) (T0:Tb) (T1:Tb):zbd [.h 3840 a0 0,.int .i64 a1,.int .i64 a2,.sl tga3 a3] [T0,T1]=zel zag zbp a0 a1 a2 (D.lentL a3) T0 T1:=zlD zag zbp tga3 a0 a1 a2 a3 T0 T1
def zeM:Ann:={ loops:=[(1,[.val (.cell .lent),.val (.cell .lent),.dead,.dead,.dead,.val (.cell (.int .i64))])] }
noncomputable def zaZ:List D→Option D:=denP Try.prog (zax []) zeM [0] ID.wattlekeep_Same_byte
theorem zhd:za7 Try.prog ID.wattlekeep_Same_byte (.pure [0] zaZ):=zat (zaD []) zbD ⟨Try.f30,by kernel_rfl,by kernel_rfl,by kernel_rfl⟩
noncomputable def zhJ:Fact Try.prog:=⟨ID.wattlekeep_Same_byte,(.pure [0] zaZ),zhd⟩
noncomputable def zdD (a0:List D) (a1:List D):Option D:=
  brK ((↑(List.length a0):Int) != (↑(List.length a1):Int))
    (some (D.bool false))
    (zcb (α:=(List D×List D×Int×PUnit)×PUnit) (fun again1 ((l2,(l3,(i4,_))),_)=>
      brK (decide (i4 < (↑(List.length l2):Int)))
        (sif ((0:Int)≤i4) <|
        getK l2 (Int.toNat i4) fun d5=>
        asI IntKind.u8 d5 fun i6=>
        sif ((0:Int)≤i4) <|
        getK l3 (Int.toNat i4) fun d7=>
        asI IntKind.u8 d7 fun i8=>
        brK (i6 != i8)
          (some (D.bool false))
          (letN (IntKind.wrap IntKind.i64 (i4+(1:Int))) fun n9=>
          again1 (((l2,l3,n9,PUnit.unit),PUnit.unit))))
        (some (D.bool true)))
      (((a0,a1,(0:Int),PUnit.unit),PUnit.unit)))
theorem zjJ (tga0:Tag) (tga1:Tag) (a0:List D) (a1:List D):denP Try.prog (zax []) zeM [0] ID.wattlekeep_Same_byte [.sl tga0 a0,.sl tga1 a1]=zdD (D.lentL a0) (D.lentL a1):=by kernel_rfl
theorem zhK (tga0:Tag) (tga1:Tag) (a0:List D) (a1:List D):zaZ [.sl tga0 a0,.sl tga1 a1]=zdD (D.lentL a0) (D.lentL a1):=zjJ tga0 tga1 a0 a1
def zjk:Ann:={ loops:=[(1,[.val (.cell (.hnd (3840:Nat))),.val (.cell .lent),.dead,.val (.cell (.int .i64)),.dead,.dead,.dead,.dead,.dead,.dead,.dead,.dead,.dead,.dead,.dead,.dead,.dead,.dead,.dead,.dead,.dead,.dead,.dead,.dead,.dead,.own 1,.val (.cell (.int .i64)),.val (.cell (.int .i64))])],ks:=[(3840,true),(7649,true)] }
noncomputable def zhL:List D→List Tb→Option Ans:=denS Try.prog (zax [(ID.row_Fill,(.pure [1,0] zbS)),(ID.stripe_up,(.st [] [0] [(3840,false),(7649,false)] za5)),(ID.bench_Bench_Write,(.st [] [0] [(3840,true),(7649,true)] zaG))]) zjk [0] ID.stripe_Write
noncomputable def zhM (zbS:List D→Option D) (za5:List D→List Tb→Option Ans) (zaG:List D→List Tb→Option Ans) (a0:Nat) (a1:List D) (a2_0:Int) (a2_1:Int) (a2_2:Int) (a3:Int) (a4:List D) (T0:Tb) (T1:Tb):Option Ans:=
  zar (zbS [D.agg [D.int IntKind.i64 a2_0,D.int IntKind.i64 a2_1,D.int IntKind.i64 a2_2],D.int IntKind.i64 a3,D.sl Tag.lent a4]) fun r1=>
  zev r1 fun ts2=>
  zaw ([Lf.any,Lf.any]) ts2 fun c3=>
  za8 c3.fst fun l4=>
  asB c3.snd.fst fun b5=>
  brK (!b5)
    (some (Ans.mk (D.int IntKind.i64 (1:Int)) [] [T0,T1]))
    (sif ((0:Nat)+List.length l4≤List.length l4) <|
    sif (List.length l4=List.length l4) <|
    zcb (α:=(Nat×List D×Int×List D×Int×Int×PUnit)×List (List D)×List (List D)×PUnit) (fun again6 ((x7,(l8,(i9,(l10,(i11,(i12,_)))))),(U13,(U14,_)))=>
      brK (decide (i12 < i11))
        (sif ((0:Int)≤i12) <|
        sif (Int.toNat i12 < List.length l10) <|
        getK l10 ((0:Nat)+Int.toNat i12) fun d15=>
        asSl d15 fun t16 l17=>
        zar (za5 [D.h (3840) x7 (0:Nat),D.sl Tag.lent l8,D.int IntKind.i64 i12] [U13,U14]) fun r18=>
        nilK r18.outs <|
        nilK r18.tbs <|
        asB r18.r fun b19=>
        brK (!b19)
          (letN (IntKind.wrap IntKind.i64 (i12+(1:Int))) fun n20=>
          sif (List.length l10=List.length l10) <|
          again6 (((x7,l8,i9,l10,i11,n20,PUnit.unit),U13,U14,PUnit.unit)))
          (letN (IntKind.wrap IntKind.i64 ((36:Int)+i9)) fun n21=>
          zar (zaG [D.h (3840) x7 (0:Nat),D.int IntKind.i64 i12,D.int IntKind.i64 n21,D.sl t16 l17] [U13,U14]) fun r22=>
          nilK r22.outs <|
          zcl r22.tbs fun c23 q24=>
          zcl q24 fun c25 q26=>
          nilK q26 <|
          asI IntKind.i64 r22.r fun i27=>
          brK (i27 != (0:Int))
            (some (Ans.mk (D.int IntKind.i64 i27) [] [c23,c25]))
            (letN (IntKind.wrap IntKind.i64 (i12+(1:Int))) fun n28=>
            sif (List.length l10=List.length l10) <|
            again6 (((x7,l8,i9,l10,i11,n28,PUnit.unit),c23,c25,PUnit.unit)))))
        (some (Ans.mk (D.int IntKind.i64 (0:Int)) [] [U13,U14])))
      (((a0,a1,a3,l4,(↑(List.length l4):Int),(0:Int),PUnit.unit),T0,T1,PUnit.unit)))
theorem zrT (zbS:List D→Option D) (za5:List D→List Tb→Option Ans) (zaG:List D→List Tb→Option Ans) (tga1:Tag) (tga4:Tag) (a0:Nat) (a1:List D) (a2_0:Int) (a2_1:Int) (a2_2:Int) (a3:Int) (a4:List D) (T0:Tb) (T1:Tb):denS Try.prog (zax [(ID.row_Fill,(.pure [1,0] zbS)),(ID.stripe_up,(.st [] [0] [(3840,false),(7649,false)] za5)),(ID.bench_Bench_Write,(.st [] [0] [(3840,true),(7649,true)] zaG))]) zjk [0] ID.stripe_Write [.h 3840 a0 0,.sl tga1 a1,.agg [.int .i64 a2_0,.int .i64 a2_1,.int .i64 a2_2],.int .i64 a3,.sl tga4 a4] [T0,T1]=zhM zbS za5 zaG a0 (D.lentL a1) a2_0 a2_1 a2_2 a3 (D.lentL a4) T0 T1:=by kernel_rfl
theorem zoC (tga1:Tag) (tga4:Tag) (a0:Nat) (a1:List D) (a2_0:Int) (a2_1:Int) (a2_2:Int) (a3:Int) (a4:List D) (T0:Tb) (T1:Tb):zhL [.h 3840 a0 0,.sl tga1 a1,.agg [.int .i64 a2_0,.int .i64 a2_1,.int .i64 a2_2],.int .i64 a3,.sl tga4 a4] [T0,T1]=zhM zbS za5 zaG a0 (D.lentL a1) a2_0 a2_1 a2_2 a3 (D.lentL a4) T0 T1:=zrT zbS za5 zaG tga1 tga4 a0 a1 a2_0 a2_1 a2_2 a3 a4 T0 T1
def zjl:Ann:={ loops:=[(0,[.val (.cell (.hnd (3840:Nat))),.val (.cell .lent),.dead,.dead,.dead,.dead,.dead,.dead,.val (.cell (.int .i64)),.val (.cell (.int .i64))])],ks:=[(3840,false),(7649,true)] }
noncomputable def zhN:List D→List Tb→Option Ans:=denS Try.prog (zax [(ID.bench_Bench_Len,(.st [] [0] [(3840,false)] zau)),(ID.stripe_up,(.st [] [0] [(3840,false),(7649,false)] za5)),(ID.bench_Bench_Flush,(.st [] [0] [(3840,false),(7649,true)] zaA))]) zjl [0] ID.stripe_Flush
noncomputable def zhO (zau:List D→List Tb→Option Ans) (za5:List D→List Tb→Option Ans) (zaA:List D→List Tb→Option Ans) (a0:Nat) (a1:List D) (T0:Tb) (T1:Tb):Option Ans:=
  zar (zau [D.h (3840:Nat) a0 (0:Nat)] [T0]) fun r1=>
  nilK r1.outs <|
  nilK r1.tbs <|
  asI IntKind.i64 r1.r fun i2=>
  zcb (α:=(Nat×List D×Int×Int×PUnit)×List (List D)×List (List D)×PUnit) (fun again3 ((x4,(l5,(i6,(i7,_)))),(U8,(U9,_)))=>
    brK (decide (i7 < i6))
      (zar (za5 [D.h (3840) x4 (0:Nat),D.sl Tag.lent l5,D.int IntKind.i64 i7] [U8,U9]) fun r10=>
      nilK r10.outs <|
      nilK r10.tbs <|
      asB r10.r fun b11=>
      brK (!b11)
        (letN (IntKind.wrap IntKind.i64 (i7+(1:Int))) fun n12=>
        again3 (((x4,l5,i6,n12,PUnit.unit),U8,U9,PUnit.unit)))
        (zar (zaA [D.h (3840) x4 (0:Nat),D.int IntKind.i64 i7] [U8,U9]) fun r13=>
        nilK r13.outs <|
        zcl r13.tbs fun c14 q15=>
        nilK q15 <|
        asI IntKind.i64 r13.r fun i16=>
        brK (i16 != (0:Int))
          (some (Ans.mk (D.int IntKind.i64 i16) [] [c14]))
          (letN (IntKind.wrap IntKind.i64 (i7+(1:Int))) fun n17=>
          again3 (((x4,l5,i6,n17,PUnit.unit),U8,c14,PUnit.unit)))))
      (some (Ans.mk (D.int IntKind.i64 (0:Int)) [] [U9])))
    (((a0,a1,i2,(0:Int),PUnit.unit),T0,T1,PUnit.unit))
theorem zrU (zau:List D→List Tb→Option Ans) (za5:List D→List Tb→Option Ans) (zaA:List D→List Tb→Option Ans) (tga1:Tag) (a0:Nat) (a1:List D) (T0:Tb) (T1:Tb):denS Try.prog (zax [(ID.bench_Bench_Len,(.st [] [0] [(3840,false)] zau)),(ID.stripe_up,(.st [] [0] [(3840,false),(7649,false)] za5)),(ID.bench_Bench_Flush,(.st [] [0] [(3840,false),(7649,true)] zaA))]) zjl [0] ID.stripe_Flush [.h 3840 a0 0,.sl tga1 a1] [T0,T1]=zhO zau za5 zaA a0 (D.lentL a1) T0 T1:=by kernel_rfl
theorem zoD (tga1:Tag) (a0:Nat) (a1:List D) (T0:Tb) (T1:Tb):zhN [.h 3840 a0 0,.sl tga1 a1] [T0,T1]=zhO zau za5 zaA a0 (D.lentL a1) T0 T1:=zrU zau za5 zaA tga1 a0 a1 T0 T1
def zgh:Ann:={ loops:=[(1,[.dead,.dead,.val (.cell (.int .i64)),.val (.cell (.int .i64)),.val (.cell .lent),.box true [(.int .i64),(.int .i64),(.int .i64)],.box true [(.int .i64),(.int .i64),(.int .i64)],.dead,.dead,.dead,.dead,.ptr 3840,.dead,.val (.cell (.int .i64))]),(3,[.dead,.dead,.val (.cell (.int .i64)),.val (.cell (.int .i64)),.val (.cell .lent),.box true [(.int .i64),(.int .i64),(.int .i64)],.box true [(.int .i64),(.int .i64),(.int .i64)],.dead,.dead,.dead,.dead,.ptr 3840,.dead,.val (.cell (.int .i64)),.box true [(.int .i64),(.int .i64),(.int .i64)]]),(4,[.dead,.dead,.val (.cell (.int .i64)),.val (.cell (.int .i64)),.val (.cell .lent),.box true [(.int .i64),(.int .i64),(.int .i64)],.box true [(.int .i64),(.int .i64),(.int .i64)],.dead,.dead,.dead,.dead,.ptr 3840,.dead,.val (.cell (.int .i64)),.dead,.own 1,.val (.cell .bool),.val (.cell (.int .i64))])],ks:=[(3840,true),(7649,true)] }
noncomputable def zba:List D→List Tb→Option Ans:=denS Try.prog (zax [(ID.bench_New,(.st [] [0,0] [(3840,true),(7649,true)] zbq)),(ID.wattleref01_Width,(.pure [0] zak)),(ID.wattleplay_Sectors,(.pure [1] zbc)),(ID.wattleref01_Fill,(.pure [1,0] zbo)),(ID.bench_Bench_Damage,(.st [] [0] [(3840,false),(7649,true)] zbd))]) zgh [0] ID.wattlelaw16_Both
theorem zjK:za7 Try.prog ID.wattlelaw16_Both (.st [] [0] [(3840,true),(7649,true)] zba):=zbg (zaD [zlP,zdB,zi2,zkG,zi7]) zbD ⟨Try.f50,by kernel_rfl,by kernel_rfl,by kernel_rfl⟩
noncomputable def zkK:Fact Try.prog:=⟨ID.wattlelaw16_Both,(.st [] [0] [(3840,true),(7649,true)] zba),zjK⟩
noncomputable def ze9 (zbq:List D→List Tb→Option Ans) (zak:List D→Option D) (zbc:List D→Option D) (zbo:List D→Option D) (zbd:List D→List Tb→Option Ans) (a0_0:Int) (a0_1:Int) (a0_2:Int) (a1_0:Int) (a1_1:Int) (a1_2:Int) (a2:Int) (a3:Int) (a4:List D) (T0:Tb) (T1:Tb):Option Ans:=
  zar (zbq [D.int IntKind.i64 a3] [T0,T1]) fun r1=>
  nilK r1.outs <|
  zcl r1.tbs fun c2 q3=>
  zcl q3 fun c4 q5=>
  nilK q5 <|
  zev r1.r fun ts6=>
  zaw ([Lf.any,Lf.any]) ts6 fun c7=>
  sif (zgL c7.fst=true) <|
  asI IntKind.i64 c7.snd.fst fun i8=>
  brK (i8 != (0:Int))
    (some (Ans.mk D.nilp [] [c2,c4]))
    (zm2 c7.fst fun b9=>
    brK b9
      (some (Ans.mk D.nilp [] [c2,c4]))
      (zcb (α:=(Int×Int×List D×(Int×Int×Int×PUnit)×(Int×Int×Int×PUnit)×D×Int×PUnit)×List (List D)×List (List D)×PUnit) (fun again10 ((i11,(i12,(l13,((i14,(i15,(i16,_))),((i17,(i18,(i19,_))),(x20,(i21,_))))))),(U22,(U23,_)))=>
        brK (decide (i21 < (16:Int)))
          (jn (α:=(Int×Int×List D×(Int×Int×Int×PUnit)×(Int×Int×Int×PUnit)×D×Int×(Int×Int×Int×PUnit)×PUnit)×List (List D)×List (List D)×PUnit) (fun a24=>
              letN (min a24.fst.snd.snd.snd.snd.snd.snd.fst (↑(List.length a24.fst.snd.snd.fst):Int)) fun n25=>
              sif ((0:Int)≤n25) <|
              sif (n25≤(↑(List.length a24.fst.snd.snd.fst):Int)) <|
              sif ((↑(List.length a24.fst.snd.snd.fst):Int)≤(↑(List.length a24.fst.snd.snd.fst):Int)) <|
              sif ((↑(List.length a24.fst.snd.snd.fst):Int)=(↑(List.length a24.fst.snd.snd.fst):Int)) <|
              sif (zyB (1:Nat) a24.fst.snd.snd.fst=true) <|
              zar (zak [D.agg [D.int IntKind.i64 a24.fst.snd.snd.snd.snd.snd.snd.snd.fst.fst,D.int IntKind.i64 a24.fst.snd.snd.snd.snd.snd.snd.snd.fst.snd.fst,D.int IntKind.i64 a24.fst.snd.snd.snd.snd.snd.snd.snd.fst.snd.snd.fst]]) fun r26=>
              asI IntKind.i64 r26 fun i27=>
              zar (zbc [D.sl (zeq Tag.lent false (decide ((↑(List.length a24.fst.snd.snd.fst):Int)=(↑(List.length a24.fst.snd.snd.fst):Int)))) (cutI n25 (↑(List.length a24.fst.snd.snd.fst):Int) a24.fst.snd.snd.fst),D.int IntKind.i64 i27]) fun r28=>
              za8 r28 fun l29=>
              sif ((0:Nat)+List.length l29≤List.length l29) <|
              zar (zbo [D.agg [D.int IntKind.i64 a24.fst.snd.snd.snd.snd.snd.snd.snd.fst.fst,D.int IntKind.i64 a24.fst.snd.snd.snd.snd.snd.snd.snd.fst.snd.fst,D.int IntKind.i64 a24.fst.snd.snd.snd.snd.snd.snd.snd.fst.snd.snd.fst],D.int IntKind.i64 a24.fst.snd.snd.snd.snd.snd.snd.fst,D.sl Tag.lent (cut (0:Nat) (List.length l29) l29)]) fun r30=>
              zev r30 fun ts31=>
              zaw ([Lf.any,Lf.any]) ts31 fun c32=>
              za8 c32.fst fun l33=>
              asB c32.snd.fst fun b34=>
              sif (List.length l33=List.length l33) <|
              zcb (α:=(Int×Int×List D×(Int×Int×Int×PUnit)×(Int×Int×Int×PUnit)×D×Int×List D×Bool×Int×PUnit)×List (List D)×List (List D)×PUnit) (fun again35 ((i36,(i37,(l38,((i39,(i40,(i41,_))),((i42,(i43,(i44,_))),(x45,(i46,(l47,(b48,(i49,_)))))))))),(U50,(U51,_)))=>
                brK b48
                  (sif ((0:Nat)+List.length l47≤List.length l47) <|
                  brK (decide (i49 < (↑(List.length l47):Int)))
                    (brK (decide (i49 < i37))
                      (letN (IntKind.wrap IntKind.i64 ((36:Int)+i46)) fun n52=>
                      sif ((0:Int)≤i49) <|
                      sif (Int.toNat i49 < List.length l47) <|
                      getK l47 ((0:Nat)+Int.toNat i49) fun d53=>
                      asSl d53 fun t54 l55=>
                      zar (zbd [x45,D.int IntKind.i64 i49,D.int IntKind.i64 n52,D.sl t54 l55] [U50,U51]) fun r56=>
                      nilK r56.outs <|
                      zcl r56.tbs fun c57 q58=>
                      nilK q58 <|
                      asI IntKind.i64 r56.r fun i59=>
                      letN (IntKind.wrap IntKind.i64 (i49+(1:Int))) fun n60=>
                      sif (List.length l47=List.length l47) <|
                      again35 (((i36,i37,l38,(i39,i40,i41,PUnit.unit),(i42,i43,i44,PUnit.unit),x45,i46,l47,b48,n60,PUnit.unit),U50,c57,PUnit.unit)))
                      (letN (IntKind.wrap IntKind.i64 (i46+(1:Int))) fun n61=>
                      again10 (((i36,i37,l38,(i39,i40,i41,PUnit.unit),(i42,i43,i44,PUnit.unit),x45,n61,PUnit.unit),U50,U51,PUnit.unit))))
                    (letN (IntKind.wrap IntKind.i64 (i46+(1:Int))) fun n62=>
                    again10 (((i36,i37,l38,(i39,i40,i41,PUnit.unit),(i42,i43,i44,PUnit.unit),x45,n62,PUnit.unit),U50,U51,PUnit.unit))))
                  (letN (IntKind.wrap IntKind.i64 (i46+(1:Int))) fun n63=>
                  again10 (((i36,i37,l38,(i39,i40,i41,PUnit.unit),(i42,i43,i44,PUnit.unit),x45,n63,PUnit.unit),U50,U51,PUnit.unit))))
                (((a24.fst.fst,a24.fst.snd.fst,a24.fst.snd.snd.fst,(a24.fst.snd.snd.snd.fst.fst,a24.fst.snd.snd.snd.fst.snd.fst,a24.fst.snd.snd.snd.fst.snd.snd.fst,PUnit.unit),(a24.fst.snd.snd.snd.snd.fst.fst,a24.fst.snd.snd.snd.snd.fst.snd.fst,a24.fst.snd.snd.snd.snd.fst.snd.snd.fst,PUnit.unit),a24.fst.snd.snd.snd.snd.snd.fst,a24.fst.snd.snd.snd.snd.snd.snd.fst,l33,b34,(0:Int),PUnit.unit),a24.snd.fst,a24.snd.snd.fst,PUnit.unit)))
            (fun j64=>
            brK (decide (i21 < i11))
              (j64 (((i11,i12,l13,(i14,i15,i16,PUnit.unit),(i17,i18,i19,PUnit.unit),x20,i21,(i17,i18,i19,PUnit.unit),PUnit.unit),U22,U23,PUnit.unit)))
              (j64 (((i11,i12,l13,(i14,i15,i16,PUnit.unit),(i17,i18,i19,PUnit.unit),x20,i21,(i14,i15,i16,PUnit.unit),PUnit.unit),U22,U23,PUnit.unit)))))
          (sif (D.free x20=true) <|
          some (Ans.mk x20 [] [U22,U23])))
        (((a2,a3,a4,(a0_0,a0_1,a0_2,PUnit.unit),(a1_0,a1_1,a1_2,PUnit.unit),c7.fst,(0:Int),PUnit.unit),c2,c4,PUnit.unit))))
theorem znL (zbq:List D→List Tb→Option Ans) (zak:List D→Option D) (zbc:List D→Option D) (zbo:List D→Option D) (zbd:List D→List Tb→Option Ans) (tga4:Tag) (a0_0:Int) (a0_1:Int) (a0_2:Int) (a1_0:Int) (a1_1:Int) (a1_2:Int) (a2:Int) (a3:Int) (a4:List D) (T0:Tb) (T1:Tb):denS Try.prog (zax [(ID.bench_New,(.st [] [0,0] [(3840,true),(7649,true)] zbq)),(ID.wattleref01_Width,(.pure [0] zak)),(ID.wattleplay_Sectors,(.pure [1] zbc)),(ID.wattleref01_Fill,(.pure [1,0] zbo)),(ID.bench_Bench_Damage,(.st [] [0] [(3840,false),(7649,true)] zbd))]) zgh [0] ID.wattlelaw16_Both [.agg [.int .i64 a0_0,.int .i64 a0_1,.int .i64 a0_2],.agg [.int .i64 a1_0,.int .i64 a1_1,.int .i64 a1_2],.int .i64 a2,.int .i64 a3,.sl tga4 a4] [T0,T1]=ze9 zbq zak zbc zbo zbd a0_0 a0_1 a0_2 a1_0 a1_1 a1_2 a2 a3 (D.lentL a4) T0 T1:=by kernel_rfl
theorem zkL (tga4:Tag) (a0_0:Int) (a0_1:Int) (a0_2:Int) (a1_0:Int) (a1_1:Int) (a1_2:Int) (a2:Int) (a3:Int) (a4:List D) (T0:Tb) (T1:Tb):zba [.agg [.int .i64 a0_0,.int .i64 a0_1,.int .i64 a0_2],.agg [.int .i64 a1_0,.int .i64 a1_1,.int .i64 a1_2],.int .i64 a2,.int .i64 a3,.sl tga4 a4] [T0,T1]=ze9 zbq zak zbc zbo zbd a0_0 a0_1 a0_2 a1_0 a1_1 a1_2 a2 a3 (D.lentL a4) T0 T1:=znL zbq zak zbc zbo zbd tga4 a0_0 a0_1 a0_2 a1_0 a1_1 a1_2 a2 a3 a4 T0 T1
def zfa:Ann:={ loops:=[],ks:=[(3840,true),(7649,true)] }
noncomputable def zaT:List D→List Tb→Option Ans:=denS Try.prog (zax [(ID.bench_Bench_is,(.st [] [0] [(3840,false)] zag)),(ID.disk_Disk_Failed,(.st [] [0] [(7649,false)] zaN)),(ID.disk_New,(.st [] [0] [(7649,true)] zbQ))]) zfa [0] ID.bench_Bench_Replace
theorem zhP:za7 Try.prog ID.bench_Bench_Replace (.st [] [0] [(3840,true),(7649,true)] zaT):=zbg (zaD [zcQ,zfP,zni]) zbD ⟨Try.f52,by kernel_rfl,by kernel_rfl,by kernel_rfl⟩
noncomputable def zit:Fact Try.prog:=⟨ID.bench_Bench_Replace,(.st [] [0] [(3840,true),(7649,true)] zaT),zhP⟩
noncomputable def zdZ (zag:List D→List Tb→Option Ans) (zaN:List D→List Tb→Option Ans) (zbQ:List D→List Tb→Option Ans) (a0:Nat) (a1:Int) (T0:Tb) (T1:Tb):Option Ans:=
  zar (zag [D.h (3840:Nat) a0 (0:Nat),D.int IntKind.i64 a1] [T0]) fun r1=>
  nilK r1.outs <|
  nilK r1.tbs <|
  asB r1.r fun b2=>
  brK (!b2)
    (some (Ans.mk (D.int IntKind.i64 (1:Int)) [] [T0,T1]))
    (getK T0 a0 fun d3=>
    getK d3 ((3:Nat)) fun d4=>
    za8 d4 fun l5=>
    getK T0 a0 fun d6=>
    getK d6 ((3:Nat)) fun d7=>
    za8 d7 fun l8=>
    sif ((0:Int)≤a1) <|
    sif (Int.toNat a1 < List.length l5) <|
    getK T0 a0 fun d9=>
    getK d9 ((3:Nat)) fun d10=>
    za8 d10 fun l11=>
    getK l11 ((0:Nat)+Int.toNat a1) fun d12=>
    sif (D.isAgg d12=false) <|
    sif (D.width d12=(1:Nat)) <|
    sif (D.cell d12=true) <|
    zar (zaN [d12] [T1]) fun r13=>
    nilK r13.outs <|
    nilK r13.tbs <|
    asB r13.r fun b14=>
    brK (!b14)
      (some (Ans.mk (D.int IntKind.i64 (9:Int)) [] [T0,T1]))
      (getK T0 a0 fun d15=>
      getK d15 ((3:Nat)) fun d16=>
      za8 d16 fun l17=>
      zar (zbQ [] [T1]) fun r18=>
      nilK r18.outs <|
      zcl r18.tbs fun c19 q20=>
      nilK q20 <|
      sif (zgL r18.r=true) <|
      getK T0 a0 fun d21=>
      getK d21 ((3:Nat)) fun d22=>
      za8 d22 fun l23=>
      sif ((0:Int)≤a1) <|
      sif (Int.toNat a1 < List.length l17) <|
      asH ((7649:Nat)) r18.r fun h24=>
      getK T0 a0 fun d25=>
      getK d25 ((3:Nat)) fun d26=>
      za8 d26 fun l27=>
      getK l27 ((0:Nat)+Int.toNat a1) fun d28=>
      sif (D.isAgg d28=false) <|
      letT (setT T0 a0 (3:Nat) (D.sl Tag.own (List.set l27 ((0:Nat)+Int.toNat a1) (D.h (7649:Nat) h24 (0:Nat))))) fun U29=>
      some (Ans.mk (D.int IntKind.i64 (0:Int)) [] [U29,c19])))
theorem zkM (zag:List D→List Tb→Option Ans) (zaN:List D→List Tb→Option Ans) (zbQ:List D→List Tb→Option Ans) (a0:Nat) (a1:Int) (T0:Tb) (T1:Tb):denS Try.prog (zax [(ID.bench_Bench_is,(.st [] [0] [(3840,false)] zag)),(ID.disk_Disk_Failed,(.st [] [0] [(7649,false)] zaN)),(ID.disk_New,(.st [] [0] [(7649,true)] zbQ))]) zfa [0] ID.bench_Bench_Replace [.h 3840 a0 0,.int .i64 a1] [T0,T1]=zdZ zag zaN zbQ a0 a1 T0 T1:=by kernel_rfl
theorem ziu (a0:Nat) (a1:Int) (T0:Tb) (T1:Tb):zaT [.h 3840 a0 0,.int .i64 a1] [T0,T1]=zdZ zag zaN zbQ a0 a1 T0 T1:=zkM zag zaN zbQ a0 a1 T0 T1
def zg6:Ann:={ loops:=[] }
noncomputable def zby:List D→Option D:=denP Try.prog (zax [(ID.wattlekeep_Within,(.pure [0] zab))]) zg6 [0] ID.wattleplay_Geom
theorem zkN:za7 Try.prog ID.wattleplay_Geom (.pure [0] zby):=zat (zaD [zcT]) zbD ⟨Try.f64,by kernel_rfl,by kernel_rfl,by kernel_rfl⟩
noncomputable def zlE:Fact Try.prog:=⟨ID.wattleplay_Geom,(.pure [0] zby),zkN⟩
noncomputable def zfB (zab:List D→Option D) (a0:Int):Option D:=
  zar (zab [D.int IntKind.i64 a0,D.int IntKind.i64 (2:Int)]) fun r1=>
  asI IntKind.i64 r1 fun i2=>
  letN (IntKind.wrap IntKind.i64 ((5:Int)+i2)) fun n3=>
  letN (IntKind.wrap IntKind.i64 (Int.tdiv a0 (2:Int))) fun n4=>
  zar (zab [D.int IntKind.i64 n4,D.int IntKind.i64 (3:Int)]) fun r5=>
  asI IntKind.i64 r5 fun i6=>
  sif ((0:Int)≤i6) <|
  getK ([D.int IntKind.i64 (1:Int),D.int IntKind.i64 (2:Int),D.int IntKind.i64 (4:Int)]) (Int.toNat i6) fun d7=>
  asI IntKind.i64 d7 fun i8=>
  letN (IntKind.wrap IntKind.i64 (Int.tdiv a0 (6:Int))) fun n9=>
  zar (zab [D.int IntKind.i64 n9,D.int IntKind.i64 (4:Int)]) fun r10=>
  asI IntKind.i64 r10 fun i11=>
  letN (IntKind.wrap IntKind.i64 ((3:Int)+i11)) fun n12=>
  brK (n3 == (6:Int))
    (letN (IntKind.wrap IntKind.i64 (Int.tdiv a0 (6:Int))) fun n13=>
    zar (zab [D.int IntKind.i64 n13,D.int IntKind.i64 (4:Int)]) fun r14=>
    asI IntKind.i64 r14 fun i15=>
    letN (IntKind.wrap IntKind.i64 ((4:Int)+i15)) fun n16=>
    letN (IntKind.wrap IntKind.i64 (Int.tdiv a0 (24:Int))) fun n17=>
    zar (zab [D.int IntKind.i64 n17,D.int IntKind.i64 (40:Int)]) fun r18=>
    asI IntKind.i64 r18 fun i19=>
    brK (i19 == (36:Int))
      (zar (zab [D.int IntKind.i64 a0,D.int IntKind.i64 (9:Int)]) fun r20=>
      asI IntKind.i64 r20 fun i21=>
      some (D.agg [D.int IntKind.i64 i21,D.int IntKind.i64 n16,D.int IntKind.i64 i8]))
      (brK (i19 == (37:Int))
        (zar (zab [D.int IntKind.i64 a0,D.int IntKind.i64 (12:Int)]) fun r22=>
        asI IntKind.i64 r22 fun i23=>
        letN (IntKind.wrap IntKind.i64 (i23 - (1:Int))) fun n24=>
        some (D.agg [D.int IntKind.i64 n3,D.int IntKind.i64 n24,D.int IntKind.i64 i8]))
        (brK (i19 == (38:Int))
          (zar (zab [D.int IntKind.i64 a0,D.int IntKind.i64 (9:Int)]) fun r25=>
          asI IntKind.i64 r25 fun i26=>
          letN (IntKind.wrap IntKind.i64 (i26 - (1:Int))) fun n27=>
          some (D.agg [D.int IntKind.i64 n3,D.int IntKind.i64 n16,D.int IntKind.i64 n27]))
          (brK (i19 == (39:Int))
            (some (D.agg [D.int IntKind.i64 n3,D.int IntKind.i64 (8:Int),D.int IntKind.i64 i8]))
            (some (D.agg [D.int IntKind.i64 n3,D.int IntKind.i64 n16,D.int IntKind.i64 i8]))))))
    (letN (IntKind.wrap IntKind.i64 (Int.tdiv a0 (24:Int))) fun n28=>
    zar (zab [D.int IntKind.i64 n28,D.int IntKind.i64 (40:Int)]) fun r29=>
    asI IntKind.i64 r29 fun i30=>
    brK (i30 == (36:Int))
      (zar (zab [D.int IntKind.i64 a0,D.int IntKind.i64 (9:Int)]) fun r31=>
      asI IntKind.i64 r31 fun i32=>
      some (D.agg [D.int IntKind.i64 i32,D.int IntKind.i64 n12,D.int IntKind.i64 i8]))
      (brK (i30 == (37:Int))
        (zar (zab [D.int IntKind.i64 a0,D.int IntKind.i64 (12:Int)]) fun r33=>
        asI IntKind.i64 r33 fun i34=>
        letN (IntKind.wrap IntKind.i64 (i34 - (1:Int))) fun n35=>
        some (D.agg [D.int IntKind.i64 n3,D.int IntKind.i64 n35,D.int IntKind.i64 i8]))
        (brK (i30 == (38:Int))
          (zar (zab [D.int IntKind.i64 a0,D.int IntKind.i64 (9:Int)]) fun r36=>
          asI IntKind.i64 r36 fun i37=>
          letN (IntKind.wrap IntKind.i64 (i37 - (1:Int))) fun n38=>
          some (D.agg [D.int IntKind.i64 n3,D.int IntKind.i64 n12,D.int IntKind.i64 n38]))
          (brK (i30 == (39:Int))
            (some (D.agg [D.int IntKind.i64 n3,D.int IntKind.i64 (8:Int),D.int IntKind.i64 i8]))
            (some (D.agg [D.int IntKind.i64 n3,D.int IntKind.i64 n12,D.int IntKind.i64 i8]))))))
theorem zoE (zab:List D→Option D) (a0:Int):denP Try.prog (zax [(ID.wattlekeep_Within,(.pure [0] zab))]) zg6 [0] ID.wattleplay_Geom [.int .i64 a0]=zfB zab a0:=by kernel_rfl
theorem zlF (a0:Int):zby [.int .i64 a0]=zfB zab a0:=zoE zab a0
def zg7:Ann:={ loops:=[] }
noncomputable def zbz:List D→Option D:=denP Try.prog (zax [(ID.wattleplay_Geom,(.pure [0] zby)),(ID.wattleref01_Check,(.pure [0] zad))]) zg7 [0] ID.wattleplay_Good
theorem zkO:za7 Try.prog ID.wattleplay_Good (.pure [0] zbz):=zat (zaD [zlE,zco]) zbD ⟨Try.f15,by kernel_rfl,by kernel_rfl,by kernel_rfl⟩
noncomputable def zlG:Fact Try.prog:=⟨ID.wattleplay_Good,(.pure [0] zbz),zkO⟩
noncomputable def zfC (zby:List D→Option D) (zad:List D→Option D) (a0:Int):Option D:=
  zar (zby [D.int IntKind.i64 a0]) fun r1=>
  asAgg r1 fun cs2=>
  zaw ([Lf.int IntKind.i64,Lf.int IntKind.i64,Lf.int IntKind.i64]) cs2 fun c3=>
  zar (zad [D.agg [D.int IntKind.i64 c3.fst,D.int IntKind.i64 c3.snd.fst,D.int IntKind.i64 c3.snd.snd.fst]]) fun r4=>
  asB r4 fun b5=>
  brK (!b5)
    (some (D.agg [D.int IntKind.i64 (5:Int),D.int IntKind.i64 (3:Int),D.int IntKind.i64 (1:Int)]))
    (some (D.agg [D.int IntKind.i64 c3.fst,D.int IntKind.i64 c3.snd.fst,D.int IntKind.i64 c3.snd.snd.fst]))
theorem zoF (zby:List D→Option D) (zad:List D→Option D) (a0:Int):denP Try.prog (zax [(ID.wattleplay_Geom,(.pure [0] zby)),(ID.wattleref01_Check,(.pure [0] zad))]) zg7 [0] ID.wattleplay_Good [.int .i64 a0]=zfC zby zad a0:=by kernel_rfl
theorem zlH (a0:Int):zbz [.int .i64 a0]=zfC zby zad a0:=zoF zby zad a0
def zfW:Ann:={ loops:=[(0,[.dead,.dead,.dead,.vbx true [(.int .i64),(.int .i64),.bool,.sl] 3 1,.dead,.dead,.dead,.dead,.dead,.dead,.dead,.dead,.dead,.dead,.dead,.view 3840 3,.val (.cell (.int .i64)),.val (.cell (.int .i64))])],pubs:=[(7,[(2,63,3840)])],ks:=[(3840,true),(7649,true)] }
noncomputable def za3:List D→List Tb→Option Ans:=denS Try.prog (zax [(ID.disk_Disk_Clone,(.st [] [0] [(7649,true)] zaQ))]) zfW [0] ID.bench_Bench_Clone
theorem zi9:za7 Try.prog ID.bench_Bench_Clone (.st [] [0] [(3840,true),(7649,true)] za3):=zbg (zaD [zga]) zbD ⟨Try.f51,by kernel_rfl,by kernel_rfl,by kernel_rfl⟩
noncomputable def zjL:Fact Try.prog:=⟨ID.bench_Bench_Clone,(.st [] [0] [(3840,true),(7649,true)] za3),zi9⟩
noncomputable def zeG (zaQ:List D→List Tb→Option Ans) (a0:Nat) (T0:Tb) (T1:Tb):Option Ans:=
  getK T0 a0 fun d1=>
  sif ((3:Nat)≤List.length d1) <|
  sif (zgK (List.take (3:Nat) (List.drop (0:Nat) d1))=true) <|
  zaw ([Lf.int IntKind.i64,Lf.int IntKind.i64,Lf.bool]) (List.take (3:Nat) (List.drop (0:Nat) d1)) fun c2=>
  getK T0 a0 fun d3=>
  getK d3 ((3:Nat)) fun d4=>
  za8 d4 fun l5=>
  getK T0 a0 fun d6=>
  getK d6 ((3:Nat)) fun d7=>
  za8 d7 fun l8=>
  sif ((0:Nat)+List.length l5≤List.length l8) <|
  zcb (α:=(((Int×Int×Bool×(Tag×List D)×PUnit)×List D)×(Nat×Nat×Nat)×Int×Int×PUnit)×List (List D)×List (List D)×PUnit) (fun again9 ((((i10,(i11,(b12,((t13,l14),_)))),l15),((x16,(x17,x18)),(i19,(i20,_)))),(U21,(U22,_)))=>
    brK (decide (i20 < i19))
      (getK U21 x16 fun d23=>
      getK d23 ((3:Nat)) fun d24=>
      za8 d24 fun l25=>
      sif ((0:Int)≤i20) <|
      sif (Int.toNat i20 < x18) <|
      getK U21 x16 fun d26=>
      getK d26 ((3:Nat)) fun d27=>
      za8 d27 fun l28=>
      getK l28 (x17+Int.toNat i20) fun d29=>
      sif (D.isAgg d29=false) <|
      sif (D.width d29=(1:Nat)) <|
      sif (D.cell d29=true) <|
      zar (zaQ [d29] [U22]) fun r30=>
      nilK r30.outs <|
      zcl r30.tbs fun c31 q32=>
      nilK q32 <|
      sif (zgL r30.r=true) <|
      sif (zdG (1:Nat) [r30.r]=true) <|
      sif (List.length l15+(1:Nat)≤(4294967296:Nat)) <|
      sif (zdG (1:Nat) [r30.r]=true) <|
      sif (List.length l15=List.length l15) <|
      sif ((0:Nat)+(List.length l15+(1:Nat))≤List.length (l15++[r30.r])) <|
      letN (IntKind.wrap IntKind.i64 (i20+(1:Int))) fun n33=>
      sif (List.length l15+(1:Nat)=List.length (l15++[r30.r])) <|
      again9 (((((i10,i11,b12,(Tag.nil,[]),PUnit.unit),l15++[r30.r]),(x16,x17,x18),i19,n33,PUnit.unit),U21,c31,PUnit.unit)))
      (sif (List.length l15=List.length l15) <|
      sif (zc7 l15=true) <|
      sif (zfe (1:Nat) l15=true) <|
      letT (U21++[[D.own0 (D.int IntKind.i64 i10),D.own0 (D.int IntKind.i64 i11),D.own0 (D.bool b12),D.sl Tag.own l15]]) fun U34=>
      some (Ans.mk (D.h (3840:Nat) (List.length U21) (0:Nat)) [] [U34,U22])))
    (((((c2.fst,c2.snd.fst,c2.snd.snd.fst,(Tag.nil,[]),PUnit.unit),[]),(a0,(0:Nat),List.length l5),(↑(List.length l5):Int),(0:Int),PUnit.unit),T0,T1,PUnit.unit))
theorem zmI (zaQ:List D→List Tb→Option Ans) (a0:Nat) (T0:Tb) (T1:Tb):denS Try.prog (zax [(ID.disk_Disk_Clone,(.st [] [0] [(7649,true)] zaQ))]) zfW [0] ID.bench_Bench_Clone [.h 3840 a0 0] [T0,T1]=zeG zaQ a0 T0 T1:=by kernel_rfl
theorem zjM (a0:Nat) (T0:Tb) (T1:Tb):za3 [.h 3840 a0 0] [T0,T1]=zeG zaQ a0 T0 T1:=zmI zaQ a0 T0 T1
end Wf

namespace Wf
open Go Go.RowKit Go.Proofs
set_option linter.unusedSimpArgs false
set_option linter.unusedVariables false
theorem zvJ (c:Int):zaR [.sl .full [.int .i64 1,.int .i64 2,.int .i64 4],.int .i64 c]=some (.bool (c == 1 || c == 2 || c == 4)):=by
  rw [zgr]
  unfold zc9
  rw [zhB]
  unfold zdC
  obtain ⟨m,hm⟩:=zAF
  by_cases h1:c=1<;>by_cases h2:c=2<;>by_cases h4:c=4<;>
    simp [zcb,hm,fixN,zcc,h1,h2,h4,zam]<;>omega
theorem zfD (l d c:Int):zaj [gD l d c]=some (iD (if zeo l d c then 0 else 1)):=by
  rw [zqW]
  unfold zkf
  have hc:=zvJ c
  unfold zeo
  obtain ⟨q,hq⟩:∃ q,(c == 1 || c == 2 || c == 4)=q:=⟨_,rfl⟩
  rw [hq] at hc ⊢
  by_cases h5:l=5
  · subst h5
    by_cases h3:d < 3<;>by_cases h8:8 < d<;>cases q<;>simp [zyC,zhV,setD,hc,zcc,h3,h8]<;>omega
  · by_cases h6:l=6
    · subst h6
      by_cases h3:d < 4<;>by_cases h8:8 < d<;>cases q<;>simp [zyC,zhV,setD,hc,zcc,h3,h8]<;>omega
    · simp [zyC,zhV,setD,hc,zcc,h5,h6]
theorem zrf (l d c:Int):zbh [gD l d c]=some (iD (zmg l d c)):=by
  rw [zpl]
  unfold ziR zmg
  rw [zfD]
  cases h:zeo l d c
  · simp [zcc]
  · have:=zkc.1 h
    simp [zcc]
    exact zam (by omega) (by omega)
theorem zyX (l d c:Int):zaS [gD l d c]=some (iD (zlN l d c)):=by
  rw [zq0]
  unfold zkl zlN
  rw [zfD,zrf]
  unfold zmg
  cases h:zeo l d c
  · simp [zcc]
  · have:=zkc.1 h
    simp [zcc]
    exact zam (by omega) (by omega)
theorem zkP (l d c:Int):zad [gD l d c]=some (.bool (zeo l d c)):=by
  rw [zjq]
  unfold zey zeo
  by_cases h5:l=5
  · subst h5
    by_cases h3:3≤d<;>by_cases h8:d≤8<;>simp [zcc,h3,h8]<;>by_cases h1:c=1<;>by_cases h2:c=2<;>simp [h1,h2]<;>omega
  · by_cases h6:l=6
    · subst h6
      by_cases h3:4≤d<;>by_cases h8:d≤8<;>simp [zcc,h3,h8]<;>by_cases h1:c=1<;>by_cases h2:c=2<;>simp [h1,h2]<;>omega
    · simp [zcc,h5,h6]
theorem zsN (l d c:Int):zaC [gD l d c]=some (iD (zmg l d c)):=by
  rw [ziN]
  unfold zec zmg
  rw [zkP]
  cases h:zeo l d c
  · simp [zcc]
  · have:=zkc.1 h
    simp [zcc]
    exact zam (by omega) (by omega)
theorem zAL (l d c:Int):zak [gD l d c]=some (iD (zlN l d c)):=by
  rw [zjr]
  unfold zez zlN
  rw [zkP,zsN]
  unfold zmg
  cases h:zeo l d c
  · simp [zcc]
  · have:=zkc.1 h
    simp [zcc]
    exact zam (by omega) (by omega)
theorem zrg (a n:Int) (h:1≤n) (h9:n < 1000000000):zab [.int .i64 a,.int .i64 n]=some (iD (a % n)):=by
  rw [zjp]
  unfold zex
  have hm:=zyP a n h
  have hlt:=Int.lt_tmod_of_pos a (show 0 < n by omega)
  have h1:¬ n < 1:=by omega
  have h0:n≠0:=by omega
  rcases hm with ⟨k1,k2⟩ | ⟨k1,k2⟩
  · simp [zcc,h1,h0,Int.not_lt.2 k1,k2]
  · simp [zcc,h1,h0,k1,k2]
    exact zam (by omega) (by omega)
theorem zAM (n:Int):zby [.int .i64 n]=some (zvs n).D:=by
  rw [zlF]
  unfold zfB
  have w5:IntKind.i64.wrap (5+n % 2)=5+n % 2:=zam (by omega) (by omega)
  have w3:IntKind.i64.wrap (3+qn n 6 % 4)=3+qn n 6 % 4:=zam (by omega) (by omega)
  have w4:IntKind.i64.wrap (4+qn n 6 % 4)=4+qn n 6 % 4:=zam (by omega) (by omega)
  have w12:IntKind.i64.wrap (n % 12 - 1)=n % 12 - 1:=zam (by omega) (by omega)
  have w9:IntKind.i64.wrap (n % 9 - 1)=n % 9 - 1:=zam (by omega) (by omega)
  have h0:0≤qn n 2 % 3:=by omega
  have h3:qn n 2 % 3 < 3:=by omega
  have e2:IntKind.i64.wrap (n.tdiv 2)=qn n 2:=rfl
  have e6:IntKind.i64.wrap (n.tdiv 6)=qn n 6:=rfl
  have e24:IntKind.i64.wrap (n.tdiv 24)=qn n 24:=rfl
  simp only [zrg _ _ (show (1:Int)≤2 by decide) (show (2:Int) < 1000000000 by decide),zrg _ _ (show (1:Int)≤3 by decide) (show (3:Int) < 1000000000 by decide),zrg _ _ (show (1:Int)≤4 by decide) (show (4:Int) < 1000000000 by decide),
    zrg _ _ (show (1:Int)≤9 by decide) (show (9:Int) < 1000000000 by decide),zrg _ _ (show (1:Int)≤12 by decide) (show (12:Int) < 1000000000 by decide),zrg _ _ (show (1:Int)≤40 by decide) (show (40:Int) < 1000000000 by decide),
    zac,iD,zbe,zaJ,w5,w3,w4,w12,w9,e2,e6,e24,zaa h0,zB6 _ h0 h3]
  unfold Geo.D zvs
  have hl:n % 2=0∨n % 2=1:=by omega
  by_cases k1:qn n 24 % 40=36<;>by_cases k2:qn n 24 % 40=37<;>by_cases k3:qn n 24 % 40=38<;>by_cases k4:qn n 24 % 40=39<;>rcases hl with hl | hl<;>
    simp [zcc,k1,k2,k3,k4,hl]<;>omega
theorem zAN (n:Int):zbz [.int .i64 n]=some (zvt n).D:=by
  rw [zlH]
  unfold zfC
  rw [zAM]
  unfold zvt
  obtain ⟨l,d,c⟩:=zvs n
  simp only [zac,Geo.D,zj4,zeJ,zdS,zkP,zcr,Geo.ok]
  by_cases h:zeo l d c=true
  · simp [zcc,h]
  · simp only [Bool.not_eq_true] at h; simp [zcc,h]
theorem zvK (g:Geo):zaS [gD g.l g.d g.c]=some (iD g.width):=zyX ..
theorem zsO (g:Geo):zak [gD g.l g.d g.c]=some (iD g.width):=zAL ..
section
variable (a b c x y z k:Int)
end
section
variable (g:Geo) (a row k:Int)
theorem zxW:zbR [g.D,.int .i64 row]=some (.bool (zcH g row)):=by
  unfold Geo.D
  rw [ztX]
  unfold zok
  rw [zfD]
  unfold zcH Geo.ok
  cases zeo g.l g.d g.c<;>simp [zcc]<;>(by_cases h:0≤row<;>simp [h])
theorem zuf:zaq [g.D,.int .i64 row]=some (.bool (zcH g row)):=by
  unfold Geo.D
  rw [zkB]
  unfold ze3
  rw [zkP]
  unfold zcH Geo.ok
  cases zeo g.l g.d g.c<;>simp [zcc]<;>(by_cases h:0≤row<;>simp [h])
theorem zvL:zaK [g.D,.int .i64 row]=some (.tup [iD (parP g row).1,iD (parP g row).2]):=by
  have hi:=zxW g row
  unfold Geo.D at*
  rw [zol]
  unfold zhD
  rw [hi]
  unfold parP
  cases h:zcH g row
  · simp [zcc]
  · obtain ⟨hk,h0,h1⟩:=zbO.1 h
    have hd:=ok_d hk
    have hv:=zFz hk h0
    have hp:=zlO hk row
    have w1:IntKind.i64.wrap (g.d - 1)=g.d - 1:=zam (by omega) (by omega)
    have w2:IntKind.i64.wrap (row.tdiv g.c)=row / g.c:=by rw [zC8 hk h0]; exact zam (by omega) (by omega)
    have w3:IntKind.i64.wrap (g.d - 1 - (row / g.c).tmod g.d)=parA g row:=by rw [zqS hv.1]; exact zam (by unfold parA at hp; omega) (by unfold parA at hp; omega)
    have w4:IntKind.i64.wrap (parA g row+1)=parA g row+1:=zam (by omega) (by omega)
    have t4:(parA g row+1).tmod g.d=(parA g row+1) % g.d:=zqS (by omega)
    by_cases h5:g.l=5
    · simp [zcc,show g.c≠0 by omega,show g.d≠0 by omega,w1,w2,w3,h5]
    · simp [zcc,show g.c≠0 by omega,show g.d≠0 by omega,w1,w2,w3,h5,w4,t4]
theorem zAO:zaz [g.D,.int .i64 row]=some (.tup [iD (parP g row).1,iD (parP g row).2]):=by
  have hi:=zuf g row
  unfold Geo.D at*
  rw [zi4]
  unfold zej
  rw [hi]
  unfold parP
  cases h:zcH g row
  · simp [zcc]
  · obtain ⟨hk,h0,h1⟩:=zbO.1 h
    have hd:=ok_d hk
    have hv:=zFz hk h0
    have hp:=zlO hk row
    have w1:IntKind.i64.wrap (g.d - 1)=g.d - 1:=zam (by omega) (by omega)
    have w2:IntKind.i64.wrap (row.tdiv g.c)=row / g.c:=by rw [zC8 hk h0]; exact zam (by omega) (by omega)
    have w3:IntKind.i64.wrap (g.d - 1 - (row / g.c).tmod g.d)=parA g row:=by rw [zqS hv.1]; exact zam (by unfold parA at hp; omega) (by unfold parA at hp; omega)
    have w4:IntKind.i64.wrap (parA g row+1)=parA g row+1:=zam (by omega) (by omega)
    have t4:(parA g row+1).tmod g.d=(parA g row+1) % g.d:=zqS (by omega)
    by_cases h5:g.l=5
    · simp [zcc,show g.c≠0 by omega,show g.d≠0 by omega,w1,w2,w3,h5]
    · simp [zcc,show g.c≠0 by omega,show g.d≠0 by omega,w1,w2,w3,h5,w4,t4]
theorem zyY:zbl [g.D,.int .i64 row,.int .i64 k]=some (iD (zdH g row k)):=by
  have hi:=zxW g row
  have hp:=zvL g row
  unfold Geo.D at*
  rw [zq1]
  unfold zkn
  rw [hi,hp,zvK,zrf]
  unfold zdH
  cases h:zcH g row
  · simp [zcc]
  · obtain ⟨hk,h0,h1⟩:=zbO.1 h
    have hd:=ok_d hk
    have hw:=zdb hk
    have hb:=zvu hk
    have hl:=zeK.1 hk
    have hpa:=zlO hk row
    by_cases k0:k < 0
    · simp [zcc,k0,show ¬ 0≤k by omega]
    · by_cases k1:g.width≤k
      · simp [zcc,k0,k1,show ¬ k < g.width by omega]
      · have w1:IntKind.i64.wrap (parA g row+(g.l - 4))=parA g row+(g.l - 4):=zam (by omega) (by omega)
        have w2:IntKind.i64.wrap (parA g row+(g.l - 4)+k)=parA g row+(g.l - 4)+k:=zam (by omega) (by omega)
        have t2:(parA g row+(g.l - 4)+k).tmod g.d=(parA g row+(g.l - 4)+k) % g.d:=zqS (by omega)
        have hp1:(parP g row).1=parA g row:=by unfold parP; simp [h]
        simp [zcc,k0,k1,show 0≤k by omega,show k < g.width by omega,hb,hp1,w1,w2,t2,show g.d≠0 by omega]
theorem zCn:zbi [g.D,.int .i64 row,.int .i64 k]=some (iD (zdH g row k)):=by
  have hi:=zuf g row
  have hp:=zAO g row
  unfold Geo.D at*
  rw [zkD]
  unfold ze5
  rw [hi,hp,zsO,zsN]
  unfold zdH
  cases h:zcH g row
  · simp [zcc]
  · obtain ⟨hk,h0,h1⟩:=zbO.1 h
    have hd:=ok_d hk
    have hw:=zdb hk
    have hb:=zvu hk
    have hl:=zeK.1 hk
    have hpa:=zlO hk row
    by_cases k0:k < 0
    · simp [zcc,k0,show ¬ 0≤k by omega]
    · by_cases k1:g.width≤k
      · simp [zcc,k0,k1,show ¬ k < g.width by omega]
      · have w1:IntKind.i64.wrap (parA g row+(g.l - 4))=parA g row+(g.l - 4):=zam (by omega) (by omega)
        have w2:IntKind.i64.wrap (parA g row+(g.l - 4)+k)=parA g row+(g.l - 4)+k:=zam (by omega) (by omega)
        have t2:(parA g row+(g.l - 4)+k).tmod g.d=(parA g row+(g.l - 4)+k) % g.d:=zqS (by omega)
        have hp1:(parP g row).1=parA g row:=by unfold parP; simp [h]
        simp [zcc,k0,k1,show 0≤k by omega,show k < g.width by omega,hb,hp1,w1,w2,t2,show g.d≠0 by omega]
end
section
variable (l d c a row k:Int)
end
section
variable (g:Geo) (row k:Int)
end
section
variable (l d c row k:Int)
end
end Wf

namespace Wf
open Go Go.RowKit Go.Proofs
set_option linter.unusedSimpArgs false
set_option linter.unusedVariables false
end Wf

namespace Wf
open Go Go.RowKit Go.Proofs
set_option linter.unusedSimpArgs false
set_option linter.unusedVariables false
theorem zrh (a n:Int) (h:1≤n) (h9:n < 1000000000):zab [.int .i64 a,.int .i64 n]=some (.int .i64 (a % n)):=zrg a n h h9
theorem zAP (t t':Tag) (l m:List Int) (hl:l.length < 1000000000):zaZ [.sl t (uL l),.sl t' (uL m)]=some (.bool (decide (l=m))):=by
  rw [zhK,zcW,zcW]
  unfold zdD
  by_cases hlen:l.length=m.length
  · simp only [zdF,hlen,bne_self_eq_false,zas]
    refine zk4 (fun a=>(m.length:Int).toNat - a.1.2.2.1.toNat) (fun _=>some (D.bool (decide (l=m))))
      (fun a=>∃ k:Nat,k≤m.length∧l.take k=m.take k∧a=((uL l,uL m,(k:Int),PUnit.unit),PUnit.unit)) ?_ ⟨0,by omega,by simp,rfl⟩ (by simp; omega)
    rintro again _ ⟨k,hk,he,rfl⟩ hag
    dsimp only
    rw [zdF,hlen]
    by_cases hkm:k < m.length
    · have h1:l[k]? =some l[k]:=List.getElem?_eq_getElem (by omega)
      have h2:m[k]? =some m[k]:=List.getElem?_eq_getElem hkm
      have hd:decide ((k:Int) < (m.length:Int))=true:=by simp; omega
      rw [hd,za1,zaa (by omega),zai (by simpa using zjd h1),zbe,zaa (by omega),zai (by simpa using zjd h2),zbe]
      by_cases hx:l[k]=m[k]
      · have hb:(l[k] != m[k])=false:=by simp [hx]
        rw [hb,zas,zaJ,zam (by omega) (by omega)]
        exact hag _ ⟨k+1,by omega,by rw [List.take_add_one,List.take_add_one,he,h1,h2,hx],rfl⟩ (by simp; omega)
      · have hb:(l[k] != m[k])=true:=by simp [hx]
        rw [hb,za1]
        congr 2
        symm
        simp
        intro e
        subst e
        exact hx rfl
    · have hd:decide ((k:Int) < (m.length:Int))=false:=by simp; omega
      rw [hd,zas]
      have:l=m:=by
        have e1:l.take k=l:=List.take_of_length_le (by omega)
        have e2:m.take k=m:=List.take_of_length_le (by omega)
        rw [←e1,←e2,he]
      simp [this]
  · have hb:((l.length:Int) != (m.length:Int))=true:=by simp; omega
    simp only [zdF,hb,za1]
    congr 2
    symm
    simp
    intro e; subst e; exact hlen rfl
theorem zdz {R:Type} (a:Int) {b:List Int} (h:b.length=32) (f:LfT [.int .i64,.arr 32]→Option R):zaw [.int .i64,.arr 32] (.int .i64 a::uL b) f=f (a,uL b,()):=by
  have e1:(uL b).take 32=uL b:=List.take_of_length_le (by simp [h])
  have e2:(uL b).drop 32=[]:=List.drop_of_length_le (by simp [h])
  simp [zaw,zdu,Lf.get,h,e1,e2]
theorem zoG {R:Type} {b:List Int} (h:b.length=32) (f:LfT [.arr 32]→Option R):zaw [.arr 32] (uL b) f=f (uL b,()):=by
  have e1:(uL b).take 32=uL b:=List.take_of_length_le (by simp [h])
  have e2:(uL b).drop 32=[]:=List.drop_of_length_le (by simp [h])
  simp [zaw,zdu,Lf.get,h,e1,e2]
theorem zFA {T:Tb} {i:Nat} {s:DS} (h:T[i]? =some s.cells) (hs:s.Ok) (a:Int):zaW [.h kD i 0,.int .i64 a] [T]=some (Ans.mk (.int .i64 (s.may a)) [] []):=by
  rw [znm]
  unfold zgR DS.may
  rw [zai h,zai (zng hs.len),zcr]
  cases hf:s.failed
  · by_cases h0:a < 0
    · simp [zcc,h0]
    · by_cases h1:52≤a
      · simp [zcc,h0,h1]
      · simp [zcc,h0,h1]
  · simp [zcc]
theorem zxX {T:Tb} {i:Nat} {s:DS} (h:T[i]? =some s.cells) (hs:s.Ok):zaN [.h kD i 0] [T]=some (Ans.mk (.bool s.failed) [] []):=by
  rw [zkh]
  unfold zeX
  rw [zai h,zai (zng hs.len),zcr]
theorem zri {b:List Int} (h:b.length≤4294967296) (tg:Tag):zan [.sl tg (uL b)]=some (.sl .own (uL b)):=by
  cases b with
  | nil=>exact zgt tg
  | cons n b=>
    show zan [.sl tg (.int .u8 n::uL b)]=some (.sl .own (.int .u8 n::uL b))
    rw [zgS,zcW]
    unfold zdf
    have h1:(D.lent (.int .u8 n)::uL b)=uL (n::b):=by simp [uL]
    rw [h1]
    simp only [zdF,zB2,zgN,zaa,h]
    simp [uL]
theorem zDa (w:Int×List Int):(wD w).free=true:=by
  simp only [wD,D.free,D.freeL,ztO,Bool.and_self]
theorem zDb (w:Int×List Int):(wD w).lent=wD w:=by
  simp only [wD,D.lent,D.lentL,zcW]
theorem zAQ (p:List (Int×List Int)):D.lentL (p.map wD)=p.map wD:=by
  induction p with
  | nil=>rfl
  | cons w p ih=>simp [ih,zDb]
theorem zEf {p:List (Int×List Int)} (h:∀ w∈p,Sec w.2):zdG 33 (p.map wD)=true:=by
  simp only [zdG,List.all_map,List.all_eq_true]
  intro w hw
  have:=(h w hw).len
  simp [wD,D.width,D.isAgg,D.cell,this]
theorem zAR {p:List (Int×List Int)} (hp:∀ w∈p,Sec w.2) (h:p.length≤4294967296) (tg:Tag):zae [.sl tg (p.map wD)]=some (.sl .own (p.map wD)):=by
  cases p with
  | nil=>exact zdM tg
  | cons w p=>
    have hok:=zEf hp
    rw [List.map_cons] at hok ⊢
    rw [zdW,zAQ,zDb]
    unfold zb7
    have hf:(wD w::p.map wD).all D.free=true:=by
      rw [←List.map_cons (f:=wD),List.all_map,List.all_eq_true]; intro w _; exact zDa w
    have hl:(wD w::p.map wD).length≤4294967296:=by simpa using h
    simp only [zaa,hl,hok,hf]
theorem zAS {p:List (Int×List Int)} {k:Nat} {w:Int×List Int} (h:p[k]? =some w):(p.map wD)[k]? =some (.agg (.int .i64 w.1::uL w.2)):=by simp [h,wD]
theorem zrj (l:List D):D.width (.agg l)=l.length:=rfl
theorem zFB {T:Tb} {i:Nat} {s:DS} (h:T[i]? =some s.cells) (hs:s.Ok) (hn:s.pend.length≤1000000) (a:Int):
    zbH [.h kD i 0,.int .i64 a] [T]=some (Ans.mk (.tup [.sl .own (uL (s.read a).1),.int .i64 (s.read a).2]) [] []):=by
  rw [zmq]
  unfold zf1 DS.read
  rw [zFA h hs a,zac,zbE,zbE,zbe]
  by_cases hm:s.may a=0
  · rw [hm]
    have hb:((0:Int) != 0)=false:=rfl
    rw [hb,zas,if_neg (by simp)]
    have ha:0≤a∧a < 52:=by
      unfold DS.may at hm
      split at hm
      · omega
      · split at hm<;>omega
    have hp:=zn8 (s:=s) hs.len
    have hbase:=zwE (s:=s) hs.len (a:=a.toNat) (by omega)
    have hsec:=zxO hs (a:=a.toNat) (by omega)
    rw [zaa ha.1,zaa (by omega),zai h,zaa (by rw [zje hs.len]; omega),Nat.zero_add,hbase]
    rw [zaa (ztN _),zaa (by simp [hsec.len]),zaa (by simp [hsec.len]),zai h,zai hp,zbF,zai h,zai hp,zbF,zaa (by simp)]
    rw [zoG hsec.len,List.length_map]
    refine zcG (R:=Ans) (α:=(Int×(List D×PUnit)×(Nat×Nat×Nat)×Int×Int×PUnit)×List (List D)×PUnit)
      (fun k=>((a,(uL (look (s.pend.take k) a (s.base a.toNat)),PUnit.unit),(i,0,s.pend.length),(s.pend.length:Int),(k:Int),PUnit.unit),T,PUnit.unit)) s.pend.length (by omega) ?_ ?_
    · intro again k hk
      dsimp only
      obtain ⟨w,hw⟩:∃ w,s.pend[k]? =some w:=⟨_,List.getElem?_eq_getElem hk⟩
      have hws:=hs.ps w (List.mem_of_getElem? hw)
      have hd:decide ((k:Int) < (s.pend.length:Int))=true:=by simp; omega
      have hlk:(look (s.pend.take k) a (s.base a.toNat)).length=32:=zxP (fun w hw=>(hs.ps w (List.mem_of_mem_take hw)).len) hsec.len
      rw [hd,za1,zai h,zai hp,zbF,zaa (by omega),zaa (by simpa using hk),zai h,zai hp,zbF,zai (by simpa using zAS hw),zj4,zdz _ hws.len]
      dsimp only
      simp only [List.append_nil,List.cons_append,List.nil_append,zrj,List.length_cons,zdF,hws.len,hlk,zaa]
      by_cases hwa:w.1=a
      · have hb:(w.1 == a)=true:=by simp [hwa]
        rw [hb,za1,List.drop_succ_cons,List.drop_zero]
        have et:(uL w.2).take 32=uL w.2:=List.take_of_length_le (by simp [hws.len])
        rw [et,zaa (by omega),zaa (by simp [hws.len]),zaa (by simp [hws.len]),zaa (by omega),zaJ,zam (by omega) (by omega),zCU (by simp [hws.len])]
        have e3:(uL (look (s.pend.take k) a (s.base a.toNat))).take 0++uL w.2++(uL (look (s.pend.take k) a (s.base a.toNat))).drop (0+32)=uL w.2:=by
          rw [List.drop_of_length_le (by simp [hlk])]; simp
        rw [e3,zoG hws.len,zvp hw,if_pos hwa]
        rfl
      · have hb:(w.1 == a)=false:=by simp [hwa]
        rw [hb,zas,zaJ,zam (by omega) (by omega),zoG hlk,zvp hw,if_neg hwa]
        rfl
    · intro again
      have hlk:=zxP (p:=s.pend) (a:=a) (fun w hw=>(hs.ps w hw).len) hsec.len
      have hd:decide ((s.pend.length:Int) < (s.pend.length:Int))=false:=by simp
      dsimp only
      rw [hd,zas,List.take_length]
      simp only [List.append_nil,zdF,hlk,Nat.le_refl,zaa]
      have ec:cut 0 32 (uL (look s.pend a (s.base a.toNat)))=uL (look s.pend a (s.base a.toNat)):=by
        have:=zdd (uL (look s.pend a (s.base a.toNat)))
        rw [zdF,hlk] at this; exact this
      rw [ec,zri (by rw [hlk]; omega),zac,zbF]
      simp
      rfl
  · have hb:(s.may a != 0)=true:=by simp [hm]
    rw [hb,za1,if_pos hm]
    rfl
theorem zEg {T:Tb} {i:Nat} {s:DS} (h:T[i]? =some s.cells) (hs:s.Ok) (a:Int) (tg:Tag) (b:List Int):
    zaX [.h kD i 0,.int .i64 a,.sl tg (uL b)] [T]=some (Ans.mk (.tup [wD (putR s a b).1,.int .i64 (putR s a b).2]) [] []):=by
  rw [znA,zcW]
  unfold zgZ putR
  rw [zFA h hs a,zac,zbE,zbE,zbe]
  by_cases hm:s.may a=0
  · rw [hm]
    have hb:((0:Int) != 0)=false:=rfl
    rw [hb,zas,if_neg (by simp)]
    by_cases hl:b.length=32
    · have hb2:(((uL b).length:Int) != 32)=false:=by simp [hl]
      rw [hb2,zas,if_neg (by simp [hl]),zaa (zxN _),zaa (by simp [hl])]
      have et:(D.int .i64 a::uL b).take 33=.int .i64 a::uL b:=List.take_of_length_le (by simp [hl])
      simp only [List.append_nil,List.cons_append,List.nil_append,List.length_cons,zdF,hl,List.drop_zero,et]
      rw [zaa (by omega),zdz _ hl]
      dsimp only
      simp only [zdF,hl,Nat.le_refl,zaa,List.take_of_length_le,et]
      rw [zdz _ hl]
      dsimp only
      rw [zaa (by simp only [D.free,D.freeL,ztO,Bool.and_self])]
      rfl
    · have hb2:(((uL b).length:Int) != 32)=true:=by simp; omega
      rw [hb2,za1,if_pos hl]
      rfl
  · have hb:(s.may a != 0)=true:=by simp [hm]
    rw [hb,za1,if_pos hm]
    rfl
theorem zEh (w:Int×List Int) (hw:Sec w.2) (c:Int):zaF [wD w,.at_ (.int .i64 c)]=some (.bool (w.1 == c)):=by
  unfold wD
  rw [zi6]
  unfold zek
  rw [show D.lentL (.int .i64 w.1::uL w.2)=.int .i64 w.1::uL w.2 by simp [zcW],zdz _ hw.len]
theorem zwY {p:List (Int×List Int)} (hp:∀ w∈p,Sec w.2) {c:Int} (hc:∀ w∈p,w.1≠c) (hn:p.length≤1000000) (tg:Tag):
    zao [.sl tg (p.map wD),.fn ID.disk_Disk_Damage_1 [] [.at_ (.int .i64 c)]]=some (.int .i64 (-1)):=by
  rw [zcR,zAQ]
  unfold zbC
  rw [List.length_map]
  refine zcG (R:=D) (α:=(List D×Int×Int×Int×PUnit)×PUnit) (fun k=>((p.map wD,c,(p.length:Int),(k:Int),PUnit.unit),PUnit.unit)) p.length (by omega) ?_ ?_
  · intro again k hk
    dsimp only
    obtain ⟨w,hw⟩:∃ w,p[k]? =some w:=⟨_,List.getElem?_eq_getElem hk⟩
    have hws:=hp w (List.mem_of_getElem? hw)
    have hd:decide ((k:Int) < (p.length:Int))=true:=by simp; omega
    rw [hd,za1,zaa (by omega),zai (by simpa using zAS hw),zj4,zdz _ hws.len]
    dsimp only
    simp only [List.append_nil,List.cons_append,List.nil_append,zrj,List.length_cons,zdF,hws.len,zaa]
    rw [zdz _ hws.len]
    dsimp only
    rw [zdF,hws.len,zaa (by omega)]
    have:=zEh w hws c
    unfold wD at this
    rw [this,zac,zcr]
    have hb:(w.1 == c)=false:=by simp [hc w (List.mem_of_getElem? hw)]
    rw [hb,zas,zaJ,zam (by omega) (by omega)]
    rfl
  · intro again
    have hd:decide ((p.length:Int) < (p.length:Int))=false:=by simp
    dsimp only
    rw [hd,zas]
theorem zvM {p:List (Int×List Int)} (hp:∀ w∈p,Sec w.2) {c:Int} (hc:∀ w∈p,w.1≠c) (hn:p.length≤1000000):
    zal [.sl .own (p.map wD),.fn ID.disk_Disk_Damage_1 [] [.at_ (.int .i64 c)]] []=some (Ans.mk (.sl .own (p.map wD)) [] []):=by
  rw [zcN]
  unfold zbt
  rw [zaa (by omega),zdd,zwY hp hc hn,zac,zbe]
  have hb:((-1:Int) == -1)=true:=rfl
  have hf:(p.map wD).all D.free=true:=by rw [List.all_map,List.all_eq_true]; intro w _; exact zDa w
  rw [hb,za1,zaa (by rfl),zaa hf]
theorem znM (p:List (Int×List Int)):zc7 (p.map wD)=true:=by
  simp only [zc7,List.all_map,List.all_eq_true]
  intro w _
  simp [wD,D.flatEl,D.flat,uL]
theorem zug {p:List (Int×List Int)} (h:∀ w∈p,Sec w.2):zfe 33 (p.map wD)=true:=by
  simp only [zfe,List.all_map,List.all_eq_true]
  intro w hw
  have:=(h w hw).len
  simp [wD,D.width,this]
theorem zCo {T:Tb} {i:Nat} {s:DS} (h:T[i]? =some s.cells) (hs:s.Ok) (hn:s.pend.length≤1000000) {a:Int} (hc:∀ w∈s.pend,w.1≠a) (tg:Tag) (b:List Int):
    zbp [.h kD i 0,.int .i64 a,.sl tg (uL b)] [T]=some (Ans.mk (.int .i64 (s.damage a b).1) [] [T.set i (s.damage a b).2.cells]):=by
  rw [zkJ,zcW]
  unfold ze8 DS.damage
  have hpl:=zxQ s a b
  rw [zEg h hs,zac,zbE,zbE,zh6,zc3,zc3,zdS]
  dsimp only
  unfold wD
  rw [zj4,zdz _ hpl,zbe]
  dsimp only
  rw [zaa (by simp [hpl])]
  by_cases he:(putR s a b).2=0
  · obtain ⟨h1,h2,h3,h4,h5⟩:=ztP he
    have hb:((putR s a b).2 != 0)=false:=by simp [he]
    rw [hb,zas,if_pos he,h3]
    try rw [he]
    dsimp only
    have et:(uL b).take 32=uL b:=List.take_of_length_le (by simp [h2])
    simp only [List.append_nil,List.cons_append,List.nil_append,List.length_cons,zdF,h2,List.drop_succ_cons,List.drop_zero,et,ztN,Nat.zero_add]
    have hlen:=hs.len
    have hset:zaY T i (a.toNat*32) (uL b)=T.set i (s.setSec a.toNat b).cells:=by
      rw [zdT h,zdF,h2,zC4 hlen (by omega)]
    have hlen2:=zsA (s:=s) hlen (a:=a.toNat) (by omega) h2
    have hU:=zk3 h (s.setSec a.toNat b).cells
    have hp:=zn8 hlen2
    have hpe:(s.setSec a.toNat b).pend=s.pend:=rfl
    rw [zaa (by first | trivial | omega),zaa (by first | trivial | omega),zaa h4,zaa (by first | trivial | omega),zai h,zaa (by rw [zje hlen]; omega),zaa (by first | trivial | omega),zaa (by first | trivial | rfl)]
    rw [zwE hlen (by first | trivial | omega),zaa (ztN _),zl9,hset,zai hU,zai hp,zbF,zai hU,zai hp,zbF,zaa (by first | trivial | omega),zdd,hpe]
    rw [zAR hs.ps (by first | trivial | omega),zac,zbF,zaa (by first | trivial | rfl),zaa (znM _),zvM hs.ps hc hn,zac,zbE,zbE,zbF,zaa (by first | trivial | omega),zai hU,zaa (by rw [zje hlen2]; omega),
      zaa (by first | trivial | rfl),zaa (znM _),zaa (zug hs.ps),zl9]
    have h6:zaY (T.set i (s.setSec a.toNat b).cells) i 1664 [.sl .own (s.pend.map wD)]=T.set i (s.setSec a.toNat b).cells:=by
      rw [zdT hU]
      have:=zn9 (s:=s.setSec a.toNat b) hlen2 s.pend
      rw [show (1664:Nat)+[D.sl .own (s.pend.map wD)].length=1665 from rfl,this,List.set_set]
      rfl
    rw [h6,show s.mayW a b=0 from he]
  · have hb:((putR s a b).2 != 0)=true:=by simp [he]
    rw [hb,za1,if_neg he]
    have:T.set i s.cells=T:=by
      apply List.ext_getElem?
      intro j
      rw [List.getElem?_set]
      split
      · rename_i e; subst e; rw [h]; simp [zaV h]
      · rfl
    rw [this]
theorem zCp (T:Tb):zoe T=some (Ans.mk (.h kD T.length 0) [] [T++[List.replicate 1664 (D.int .u8 0)++[.sl .own [],.bool false]]]):=by kernel_rfl
theorem zFC (T:Tb):zbQ [] [T]=some (Ans.mk (.h kD T.length 0) [] [T++[DS.new.cells]]):=by
  rw [ztT]
  have e:DS.new.cells=List.replicate 1664 (D.int .u8 0)++[.sl .own [],.bool false]:=by
    show uL (List.replicate 1664 0)++[.sl .own [],.bool false]=_
    rw [←zqJ]
  rw [e]
  exact zCp T
theorem zwZ {R:Type} {n:Nat} {b:List Int} (h:b.length=n) (f:LfT [.arr n]→Option R):zaw [.arr n] (uL b) f=f (uL b,()):=by
  subst h
  have e1:(uL b).take b.length=uL b:=List.take_of_length_le (by simp)
  have e2:(uL b).drop b.length=[]:=List.drop_of_length_le (by simp)
  simp [zaw,zdu,Lf.get,e1,e2]
theorem zsP {n:Nat} {b:List Int} (h:b.length=n):(uL b).take n=uL b:=List.take_of_length_le (by simp [h])
theorem zCq {a:Int} {b:List Int} (h:b.length=32):zdG 33 [D.agg (D.int .i64 a::uL b)]=true:=by simp [zdG,D.width,D.isAgg,D.cell,h]
theorem zAT {a:Int} {b:List Int} (h:b.length=32):zfe 33 [D.agg (D.int .i64 a::uL b)]=true:=by simp [zfe,D.width,h]
theorem zyZ (a:Int) (b:List Int):zc7 [D.agg (D.int .i64 a::uL b)]=true:=by
  have h:(uL b).all D.flat=true:=zD7 b
  show ((D.agg (D.int .i64 a::uL b)).flatEl && true)=true
  show ((true && (uL b).all D.flat) && true)=true
  rw [h]; rfl
section
variable {T:Tb} {i:Nat} {s:DS}
theorem zCr (h:T[i]? =some s.cells) (hl:s.l.length=1664) (p:List (Int×List Int)) (l:List D) (e:l=p.map wD):zaY (setT T i 1664 .undef) i 1664 [.sl .own l]=T.set i ({ s with pend:=p }:DS).cells:=by
  subst e
  rw [ztD h (by rw [zje hl]; omega),zn9 hl]
theorem zvN (h:T[i]? =some s.cells) (hl:s.l.length=1664) (p:List (Int×List Int)):zaY T i 1664 [.sl .own (p.map wD)]=T.set i ({ s with pend:=p }:DS).cells:=by
  rw [zdT h]
  exact congrArg _ (zn9 hl p)
theorem zuh (h:T[i]? =some s.cells) (hs:s.Ok) (hn:s.pend.length≤1000000) (a:Int) (tg:Tag) (b:List Int):
    zbn [.h kD i 0,.int .i64 a,.sl tg (uL b)] [T]=some (Ans.mk (.int .i64 (s.write a b).1) [] [T.set i (s.write a b).2.cells]):=by
  rw [zlt,zcW]
  unfold zfx DS.write
  have hpl:=zxQ s a b
  by_cases he:(putR s a b).2=0
  · obtain ⟨h1,h2,h3,h4,h5⟩:=ztP he
    simp (disch:=first | omega | assumption | (simp; done) | fail) [zEg h hs,wD,zdz _ hpl,he,h3,zai h,zai (zn8 hs.len),hpl,h2,zwZ h2,zsP h2,zCq h2,zAT h2,zAk h,zje hs.len,znM,zyZ,zug hs.ps]
    exact zCr h hs.len (s.pend++[(a,b)]) _ (by simp [wD])
  · simp (disch:=first | omega | assumption | (simp; done) | fail) [zEg h hs,wD,zdz _ hpl,he,hpl,set_same h]
theorem zoH {β:Type} {l:List β} {n:Nat} (h:l.length=n):cut 0 n l=l:=by subst h; exact zdd l
theorem zFD (l:List Int):(uL l).map D.hide=uL l:=by
  unfold uL; rw [List.map_map]; apply List.map_congr_left; intro n _; rfl
theorem zDc (l:List Int):(uL l).map D.own0=uL l:=by
  unfold uL; rw [List.map_map]; apply List.map_congr_left; intro n _; rfl
theorem zui (h:T[i]? =some s.cells) (hs:s.Ok) (hn:s.pend.length≤1000000):zaQ [.h kD i 0] [T]=some (Ans.mk (.h kD T.length 0) [] [T++[s.cells]]):=by
  rw [zlr]
  unfold zfw
  have e1:List.map D.hide (List.take 1666 (List.drop 0 s.cells))=uL s.l++[D.undef,D.bool s.failed]:=by
    rw [List.drop_zero,List.take_of_length_le (by rw [zje hs.len]; omega)]
    unfold DS.cells
    rw [List.map_append,zFD]; rfl
  have e2:∀ (x:List D),x.length=1666→spl 0 1666 x (uL s.l++[D.undef,D.bool s.failed])=uL s.l++[D.undef,D.bool s.failed]:=by
    intro x hx; unfold spl; rw [if_pos ⟨rfl,hx.symm⟩]
  have e3:((uL s.l++[D.undef,D.bool s.failed]).set 1664 .nilp).all D.own0ok=true:=by
    rw [List.set_append_right _ _ (by simp [hs.len]),List.all_append,zo4 (fun _=>rfl)]
    simp [hs.len,D.own0ok,D.flat]
  have e4:((uL s.l++[D.undef,D.bool s.failed]).map D.own0).set 1664 (.sl .own (s.pend.map wD))=s.cells:=by
    rw [List.map_append,zDc,List.set_append_right _ _ (by simp [hs.len])]
    simp [hs.len,DS.cells,D.own0]
  have e5:(uL s.l++[D.undef,D.bool s.failed]).length=1666:=by simp [hs.len]
  have e6:(List.reverse ([D.bool false,D.sl Tag.nil []]++List.replicate 1664 (D.int IntKind.u8 (0:Int)))).length=1666:=by rw [List.length_reverse,List.length_append,List.length_replicate]; rfl
  have e7:((true && decide ((1:Nat)=(1:Nat)) && List.all [(1664:Nat)] fun k=>decide (k < 1666))=true):=by decide
  rw [zai h,e1,e2 _ e6]
  generalize (uL s.l++[D.undef,D.bool s.failed])=X at*
  simp (disch:=first | omega | assumption | (simp; done) | fail) [e3,e4,e5,e7,zoH,zai h,zai (zn8 hs.len),zje hs.len,zAR hs.ps,znM,zug hs.ps]
theorem zEi (h:T[i]? =some s.cells) (hs:s.Ok) (hn:s.pend.length≤1000000):zbw [.h kD i 0] [T]=some (Ans.mk (.int .i64 s.flush.1) [] [T.set i s.flush.2.cells]):=by
  rw [zlv]
  unfold zfy DS.flush
  cases hf:s.failed
  · have hlp:(s.pend.map wD).length=s.pend.length:=by simp
    simp (disch:=first | omega | assumption | (simp; done) | fail) only [zai h,zai (zng hs.len),zai (zn8 hs.len),hf,zcr,zas,zbF,zaa,Nat.zero_add,Nat.le_refl,hlp]
    let st:Nat→(Nat×(Nat×Nat×Nat)×Int×Int×PUnit)×List (List D)×PUnit:=fun k=>((i,(i,0,s.pend.length),(s.pend.length:Int),(k:Int),PUnit.unit),T.set i (s.puts (s.pend.take k)).cells,PUnit.unit)
    have hst:st 0=((i,(i,0,s.pend.length),(s.pend.length:Int),0,PUnit.unit),T,PUnit.unit):=by
      show ((i,(i,0,s.pend.length),(s.pend.length:Int),0,PUnit.unit),T.set i (s.puts []).cells,PUnit.unit)=_
      rw [show s.puts []=s from rfl,set_same h]
    rw [←hst]
    refine zcG st s.pend.length (by omega) ?_ ?_
    · intro again k hk
      dsimp only [st]
      obtain ⟨w,hw⟩:∃ w,s.pend[k]? =some w:=⟨_,List.getElem?_eq_getElem hk⟩
      obtain ⟨hws,hw0,hw1⟩:=hs.pend w (List.mem_of_getElem? hw)
      obtain ⟨pk,pf,pp⟩:=zqM hs (s.pend.take k) fun w hw=>hs.pend w (List.mem_of_mem_take hw)
      have hU:=zk3 h (s.puts (s.pend.take k)).cells
      have hpd:=zn8 (s:=s.puts (s.pend.take k)) pk.len
      rw [pp] at hpd
      have hnx:zaY (T.set i (s.puts (s.pend.take k)).cells) i (w.1.toNat*32) (uL w.2)=T.set i (s.puts (s.pend.take (k+1))).cells:=by
        rw [zdT hU,zdF,hws.len,zC4 pk.len (by omega),List.set_set,List.take_add_one,hw]
        show _=T.set i (s.puts (s.pend.take k++[w])).cells
        unfold DS.puts
        rw [List.foldl_append]; rfl
      simp (disch:=first | omega | assumption | (simp; done) | fail) [zai hU,zai hpd,zai (zAS hw),zdz _ hws.len,hws.len,zsP hws.len,zje pk.len,hk,zrj,zwE pk.len,hw0,hw1,zam,hnx]
    · intro again
      dsimp only [st]
      rw [List.take_length]
      obtain ⟨pk,pf,pp⟩:=zqM hs s.pend hs.pend
      have hU:=zk3 h (s.puts s.pend).cells
      have hz:=zvN hU pk.len []
      have hz':zaY (T.set i (s.puts s.pend).cells) i 1664 [D.sl Tag.own []]=T.set i s.flushed.cells:=by
        have:=zvN hU pk.len []
        rw [List.set_set] at this; exact this
      simp (disch:=first | omega | assumption | (simp; done) | fail) [zai hU,zje pk.len,hz']
  · simp (disch:=first | omega | assumption | (simp; done) | fail) [zai h,zai (zng hs.len),hf,set_same h]
theorem zFE (h:T[i]? =some s.cells) (hs:s.Ok):zbI [.h kD i 0] [T]=some (Ans.mk (.tup []) [] [T.set i DS.dead.cells]):=by
  rw [zmC]
  unfold zf2
  have e:List.map D.own0 (List.set (List.reverse ([D.bool false,D.sl Tag.nil []]++List.replicate 1664 (D.int IntKind.u8 (0:Int)))) 1665 (D.bool true))=DS.dead.cells:=by
    rw [List.reverse_append,List.reverse_replicate]
    show List.map D.own0 (List.set (List.replicate 1664 (D.int IntKind.u8 (0:Int))++[D.sl Tag.nil [],D.bool false]) 1665 (D.bool true))=uL (List.replicate 1664 0)++[.sl .own [],.bool true]
    rw [List.set_append_right _ _ (by rw [List.length_replicate]; omega),List.length_replicate,List.map_append,zqJ,zDc]
    rfl
  have hl:DS.dead.cells.length=1666:=zje (s:=DS.dead) (List.length_replicate ..)
  have hset:zaY T i 0 DS.dead.cells=T.set i DS.dead.cells:=by
    rw [zdT h,hl]
    rw [List.take_zero,List.nil_append,List.drop_of_length_le (by rw [zje hs.len]; omega),List.append_nil]
  rw [e,hset,zai h,zje hs.len]
  simp
end
end Wf

namespace Wf
open Go Go.RowKit Go.Proofs
set_option linter.unusedSimpArgs false
set_option linter.unusedVariables false
section
variable {T0 T1:Tb} {b:Nat} {idx:List Nat} {B:Ben}
theorem At.ds (h:At T0 T1 b idx B) (hw:B.w≤1000000) (d:Int):(B.dk d).Ok∧(B.dk d).pend.length≤1000000:=by
  have:=zmc h.ok d
  exact ⟨this.1,by have:=this.2; omega⟩
theorem zy0 (h:At T0 T1 b idx B):zau [.h kB b 0] [P0 T0 b idx B]=some (Ans.mk (.int .i64 B.n) [] []):=by
  rw [zlm]
  unfold zfs
  simp [zai h.get0,bRow,h.len,Ben.n]
theorem b_is (h:At T0 T1 b idx B) (d:Int):zag [.h kB b 0,.int .i64 d] [P0 T0 b idx B]=some (Ans.mk (.bool (B.is d)) [] []):=by
  rw [zmm]
  unfold zf0 Ben.is Ben.n
  by_cases h0:0≤d
  · simp [zai h.get0,bRow,h0,h.len]
  · simp [h0]
theorem zxY (h:At T0 T1 b idx B) (d:Int):zay [.h kB b 0,.int .i64 d] [P0 T0 b idx B,P1 T1 idx B]=some (Ans.mk (.bool (B.failed d)) [] []):=by
  rw [ziQ]
  unfold zed Ben.failed
  cases hd:B.is d
  · simp [b_is h d,hd]
  · obtain ⟨h0,h1⟩:=zdw.1 hd
    have h1':d.toNat < idx.length:=by have:=h.len; unfold Ben.n at h1; omega
    simp (disch:=first | omega | assumption | (simp; done) | fail) [b_is h d,hd,zai h.get0,bRow,h0,h1',zai (h.hd hd),D.isAgg,D.width,D.cell,zxX (h.get1 hd) (zmc h.ok d).1]
theorem zvO (h:At T0 T1 b idx B) (d:Int):zav [.h kB b 0,.int .i64 d] [P0 T0 b idx B]=some (Ans.mk (.int .i64 (B.may d)) [] []):=by
  rw [zlp]
  unfold zft Ben.may
  cases hd:B.is d
  · simp [b_is h d,hd]
  · cases hw:B.down<;>simp [b_is h d,hd,zai h.get0,bRow,hw]
theorem zxZ (h:At T0 T1 b idx B) (hw:B.w≤1000000) (d a:Int):zaB [.h kB b 0,.int .i64 d,.int .i64 a] [P0 T0 b idx B,P1 T1 idx B]=some (Ans.mk (.tup [.sl .own (uL (B.read d a).1),.int .i64 (B.read d a).2]) [] []):=by
  rw [zkj]
  unfold zeZ Ben.read
  by_cases hm:B.may d=0
  · obtain ⟨hd,hdn⟩:=may0.1 hm
    obtain ⟨h0,h1⟩:=zdw.1 hd
    have h1':d.toNat < idx.length:=by have:=h.len; unfold Ben.n at h1; omega
    have hu:=zgN ((B.dk d).read a).1
    simp only [List.all_eq_true] at hu
    simp (disch:=first | omega | assumption | (simp; done) | fail) [zvO h d,hm,zai h.get0,bRow,h0,h1',zai (h.hd hd),D.isAgg,D.width,D.cell,zFB (h.get1 hd) (h.ds hw d).1 (h.ds hw d).2]
  · simp [zvO h d,hm]; rfl
theorem zEj (h:At T0 T1 b idx B) (tg:Tag) (live:List Bool) {d:Int} (h0:0≤d):za5 [.h kB b 0,.sl tg (live.map D.bool),.int .i64 d] [P0 T0 b idx B,P1 T1 idx B]=some (Ans.mk (.bool (B.up live d)) [] []):=by
  have hl:D.lentL (live.map D.bool)=live.map D.bool:=by
    induction live with
    | nil=>rfl
    | cons x l ih=>simp [ih]
  rw [zrD,hl]
  unfold zmn Ben.up
  by_cases h1:d < B.n
  · by_cases h2:d < live.length
    · have e:live[d.toNat]? =some (live[d.toNat]'(by omega)):=List.getElem?_eq_getElem (by omega)
      have e':(live.map D.bool)[d.toNat]? =some (.bool (live[d.toNat]'(by omega))):=by simp [e]
      cases hv:live[d.toNat]'(by omega)
      · rw [hv] at e e'
        simp [zy0 h,h1,h2,h0,zai e',e,hv]
      · rw [hv] at e e'
        simp [zy0 h,h1,h2,h0,zai e',e,zxY h d,hv]
    · have e:live[d.toNat]? =none:=List.getElem?_eq_none (by omega)
      simp [zy0 h,h1,h2,e]
  · simp [zy0 h,h1]
theorem zAU (h:At T0 T1 b idx B) (hw:B.w≤1000000):za4 [.h kB b 0] [P0 T0 b idx B]=some (Ans.mk (.bool (decide (B.left≠0))) [] [P0 T0 b idx (if B.left=0 then B.off else B.less)]):=by
  rw [zik]
  unfold zdX
  have hw0:=h.ok.w0
  have hlf:=h.ok.lf
  have hg:=h.get0
  have hset:∀ (B':Ben) (T:Tb) (cs:List D) (o:Nat) (x:D),T=P0 T0 b idx B'→cs=bRow B' idx→∀ B'':Ben,cs.take o++[x]++cs.drop (o+1)=bRow B'' idx→zaY T b o [x]=P0 T0 b idx B'':=by
    rintro B' _ _ o x rfl rfl B'' e
    have hg':(P0 T0 b idx B')[b]? =some (bRow B' idx):=by unfold P0; rw [List.getElem?_set,if_pos rfl,if_pos h.b]
    rw [zdT hg']
    show (P0 T0 b idx B').set b ((bRow B' idx).take o++[x]++(bRow B' idx).drop (o+1))=_
    rw [e,zFx]
  by_cases hl:B.left=0
  · have e1:=hset B _ _ 2 (.bool true) rfl rfl B.off rfl
    simp (disch:=first | omega | assumption | (simp; done) | fail) [zai hg,bRow,hl,e1,zgK,D.flat]
  · by_cases hp:0 < B.left
    · let B1:Ben:={ B with left:=B.left - 1 }
      have e1:=hset B _ _ 1 (.int .i64 (B.left - 1)) rfl rfl B1 rfl
      have hg1:(P0 T0 b idx B1)[b]? =some (bRow B1 idx):=by unfold P0; rw [List.getElem?_set,if_pos rfl,if_pos h.b]
      have e2:=hset B1 _ _ 0 (.int .i64 (B.w+1)) rfl rfl B.less (by unfold Ben.less; rw [if_pos hp]; rfl)
      have e3:bRow B1 idx=[.int .i64 B.w,.int .i64 (B.left - 1),.bool B.down,.sl .own (idx.map hD)]:=rfl
      rw [e3] at hg1
      simp (disch:=first | omega | assumption | (simp; done) | fail) [zai hg,zai hg1,bRow,hl,hp,e1,e2,zgK,D.flat,zam]
    · have e1:=hset B _ _ 0 (.int .i64 (B.w+1)) rfl rfl B.less (by unfold Ben.less; rw [if_neg hp]; rfl)
      simp (disch:=first | omega | assumption | (simp; done) | fail) [zai hg,bRow,hl,hp,e1,zgK,D.flat,zam]
theorem zAV (h:At T0 T1 b idx B) (hw:B.w≤1000000) (d a:Int) (tg:Tag) (x:List Int):
    zaG [.h kB b 0,.int .i64 d,.int .i64 a,.sl tg (uL x)] [P0 T0 b idx B,P1 T1 idx B]=some (Ans.mk (.int .i64 (B.write d a x).1) [] [P0 T0 b idx (B.write d a x).2,P1 T1 idx (B.write d a x).2]):=by
  rw [zjw,zcW]
  unfold zeB Ben.write
  by_cases hm:B.may d=0
  · obtain ⟨hd,hdn⟩:=may0.1 hm
    obtain ⟨h0,h1⟩:=zdw.1 hd
    obtain ⟨ho,hp⟩:=h.ds hw d
    have h1':d.toNat < idx.length:=by have:=h.len; unfold Ben.n at h1; omega
    have hT:(P1 T1 idx B++[(B.dk d).cells])[(P1 T1 idx B).length]? =some (B.dk d).cells:=by simp
    have hj:(P1 T1 idx B++[(B.dk d).cells]).set (P1 T1 idx B).length ((B.dk d).write a x).2.cells=P1 T1 idx (B.junk ((B.dk d).write a x).2):=by
      rw [List.set_append_right _ _ (Nat.le_refl _),Nat.sub_self,←zEa]; rfl
    have hJ:At T0 T1 b idx (B.junk ((B.dk d).write a x).2):=h.nx (K:=0) ⟨zqN h.ok _,rfl,by simp,by simp⟩
    have hd':(B.junk ((B.dk d).write a x).2).is d=true:=hd
    have hg1:=hJ.get1 hd'
    have hset:=hJ.set1 hd' ((B.dk d).write a x).2
    have hw1:=zuh (T:=P1 T1 idx (B.junk ((B.dk d).write a x).2)) (i:=ix idx d) (s:=B.dk d) hg1 ho hp a .lent x
    have hgr:∀ B':Ben,(P0 T0 b idx B')[b]? =some [.int .i64 B'.w,.int .i64 B'.left,.bool B'.down,.sl .own (idx.map hD)]:=by
      intro B'; unfold P0; rw [List.getElem?_set,if_pos rfl,if_pos h.b]; rfl
    by_cases he:(B.dk d).mayW a x=0
    · have e1:((B.dk d).write a x).1=0:=he
      have e2:((B.dk d).write a x).2=(B.dk d).add a x:=by unfold DS.write; rw [if_pos he]
      by_cases hl:B.left=0
      · simp (disch:=first | omega | assumption | (simp; done) | fail) [zvO h d,hm,zai (hgr _),h0,h1',zai (h.hd hd),D.isAgg,D.width,D.cell,zui (h.get1 hd) ho hp,zgL,zuh hT ho hp,hj,he,e1,zAU h hw,hl]
        exact ⟨rfl,rfl⟩
      · simp (disch:=first | omega | assumption | (simp; done) | fail) [zvO h d,hm,zai (hgr _),h0,h1',zai (h.hd hd),D.isAgg,D.width,D.cell,zui (h.get1 hd) ho hp,zgL,zuh hT ho hp,hj,he,e1,zAU h hw,hl,hw1,hset]
        rw [e2]; exact ⟨rfl,rfl⟩
    · have e1:¬ ((B.dk d).write a x).1=0:=he
      simp (disch:=first | omega | assumption | (simp; done) | fail) [zvO h d,hm,zai (hgr _),h0,h1',zai (h.hd hd),D.isAgg,D.width,D.cell,zui (h.get1 hd) ho hp,zgL,zuh hT ho hp,hj,he,e1]
      exact ⟨rfl,rfl⟩
  · simp [zvO h d,hm]
theorem zAW (h:At T0 T1 b idx B) (hw:B.w≤1000000) (d:Int):
    zaA [.h kB b 0,.int .i64 d] [P0 T0 b idx B,P1 T1 idx B]=some (Ans.mk (.int .i64 (B.flush d).1) [] [P1 T1 idx (B.flush d).2]):=by
  rw [zjy]
  unfold zeC Ben.flush
  by_cases hm:B.may d=0
  · obtain ⟨hd,hdn⟩:=may0.1 hm
    obtain ⟨h0,h1⟩:=zdw.1 hd
    obtain ⟨ho,hp⟩:=h.ds hw d
    have h1':d.toNat < idx.length:=by have:=h.len; unfold Ben.n at h1; omega
    simp (disch:=first | omega | assumption | (simp; done) | fail) [zvO h d,hm,zai h.get0,bRow,h0,h1',zai (h.hd hd),D.isAgg,D.width,D.cell,zEi (h.get1 hd) ho hp,h.set1 hd]
  · simp [zvO h d,hm]
theorem zFF (h:At T0 T1 b idx B) (d:Int):
    za9 [.h kB b 0,.int .i64 d] [P0 T0 b idx B,P1 T1 idx B]=some (Ans.mk (.int .i64 (B.fail d).1) [] [P1 T1 idx (B.fail d).2]):=by
  rw [zkA]
  unfold ze2 Ben.fail
  cases hd:B.is d
  · simp [b_is h d,hd]
  · obtain ⟨h0,h1⟩:=zdw.1 hd
    have h1':d.toNat < idx.length:=by have:=h.len; unfold Ben.n at h1; omega
    simp (disch:=first | omega | assumption | (simp; done) | fail) [b_is h d,hd,zai h.get0,bRow,h0,h1',zai (h.hd hd),D.isAgg,D.width,D.cell,zFE (h.get1 hd) (zmc h.ok d).1,h.set1 hd]
theorem zCs (h:At T0 T1 b idx B) (hw:B.w≤1000000) (d:Int) {a:Int} (hc:∀ w∈(B.dk d).pend,w.1≠a) (tg:Tag) (x:List Int):
    zbd [.h kB b 0,.int .i64 d,.int .i64 a,.sl tg (uL x)] [P0 T0 b idx B,P1 T1 idx B]=some (Ans.mk (.int .i64 (B.damage d a x).1) [] [P1 T1 idx (B.damage d a x).2]):=by
  rw [zi8,zcW]
  unfold zel Ben.damage
  cases hd:B.is d
  · simp [b_is h d,hd]
  · obtain ⟨h0,h1⟩:=zdw.1 hd
    obtain ⟨ho,hp⟩:=h.ds hw d
    have h1':d.toNat < idx.length:=by have:=h.len; unfold Ben.n at h1; omega
    simp (disch:=first | omega | assumption | (simp; done) | fail) [b_is h d,hd,zai h.get0,bRow,h0,h1',zai (h.hd hd),D.isAgg,D.width,D.cell,zCo (h.get1 hd) ho hp hc,h.set1 hd]
end
end Wf

