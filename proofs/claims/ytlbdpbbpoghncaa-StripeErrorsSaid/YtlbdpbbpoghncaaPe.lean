/- A part of the proof: lemmas that the law's row leans on. -/
import Derived.Test.YtlbdpbbpoghncaaPd
set_option linter.all false
namespace Wf
open Go Go.RowKit Go.Proofs
set_option linter.unusedVariables false
set_option maxRecDepth 100000
def zew:Ann:={ loops:=[] }
noncomputable def zad:List D→Option D:=denP Try.prog (zay []) zew [0] ID.wattlekeep_Within
theorem zg9:za6 Try.prog ID.wattlekeep_Within (.pure [0] zad):=zax (zaC []) zbw ⟨Try.f16,by kernel_rfl,by kernel_rfl,by kernel_rfl⟩
noncomputable def zd4:Fact Try.prog:=⟨ID.wattlekeep_Within,(.pure [0] zad),zg9⟩
noncomputable def zdC (a0:Int) (a1:Int):Option D:=
  brK (decide (a1 < (1:Int)))
    (some (D.int IntKind.i64 (0:Int)))
    (sif (a1≠(0:Int)) <|
    letN (Int.tmod a0 a1) fun n1=>
    brK (decide (n1 < (0:Int)))
      (letN (IntKind.wrap IntKind.i64 (n1+a1)) fun n2=>
      some (D.int IntKind.i64 n2))
      (some (D.int IntKind.i64 n1)))
theorem zjI (a0:Int) (a1:Int):denP Try.prog (zay []) zew [0] ID.wattlekeep_Within [.int .i64 a0,.int .i64 a1]=zdC a0 a1:=by kernel_rfl
theorem zhC (a0:Int) (a1:Int):zad [.int .i64 a0,.int .i64 a1]=zdC a0 a1:=zjI a0 a1
def zmc:Ann:={ loops:=[],pubs:=[(1,[(0,119,7649)])],ks:=[(7649,true)] }
noncomputable def zch:List D→List Tb→Option Ans:=denS Try.prog (zay []) zmc [0] ID.disk_New
theorem zom:za6 Try.prog ID.disk_New (.st [] [0] [(7649,true)] zch):=zbd (zaC []) zbw ⟨Try.f80,by kernel_rfl,by kernel_rfl,by kernel_rfl⟩
noncomputable def zqw:Fact Try.prog:=⟨ID.disk_New,(.st [] [0] [(7649,true)] zch),zom⟩
noncomputable def zls (T0:Tb):Option Ans:=
  letT (T0++[List.map D.own0 (List.reverse ([D.bool false,D.sl Tag.nil []]++List.replicate 1664 (D.int IntKind.u8 (0:Int))))]) fun U1=>
  some (Ans.mk (D.h (7649:Nat) (List.length T0) (0:Nat)) [] [U1])
theorem zvd (T0:Tb):denS Try.prog (zay []) zmc [0] ID.disk_New [] [T0]=zls T0:=by kernel_rfl
theorem zqx (T0:Tb):zch [] [T0]=zls T0:=zvd T0
def zkG:Ann:={ loops:=[(1,[.dead,.dead,.dead,.dead,.val (.cell (.hnd (3840:Nat))),.dead,.dead,.dead,.dead,.dead,.dead,.dead,.dead,.dead,.val (.cell (.int .i64)),.val (.cell (.int .i64))])],pubs:=[(3,[(4,63,3840)])],ks:=[(3840,true),(7649,true)] }
noncomputable def za3:List D→List Tb→Option Ans:=denS Try.prog (zay [(ID.disk_New,(.st [] [0] [(7649,true)] zch))]) zkG [0,0] ID.bench_New
theorem znP:za6 Try.prog ID.bench_New (.st [] [0,0] [(3840,true),(7649,true)] za3):=zbd (zaC [zqw]) zbw ⟨Try.f35,by kernel_rfl,by kernel_rfl,by kernel_rfl⟩
noncomputable def zjj:Fact Try.prog:=⟨ID.bench_New,(.st [] [0,0] [(3840,true),(7649,true)] za3),znP⟩
noncomputable def zjJ (zch:List D→List Tb→Option Ans) (a0:Int) (T0:Tb) (T1:Tb):Option Ans:=
  brK (decide (a0 < (1:Int)))
    (some (Ans.mk (D.tup [D.nilp,D.int IntKind.i64 (1:Int)]) [] [T0,T1]))
    (brK (decide (a0 > (8:Int)))
      (some (Ans.mk (D.tup [D.nilp,D.int IntKind.i64 (1:Int)]) [] [T0,T1]))
      (letT (T0++[[D.own0 (D.int IntKind.i64 (0:Int)),D.own0 (D.int IntKind.i64 (-1:Int)),D.own0 (D.bool false),D.own0 (D.sl Tag.nil [])]]) fun U1=>
      zcw (α:=(Nat×Int×Int×PUnit)×List (List D)×List (List D)×PUnit) (fun again2 ((x3,(i4,(i5,_))),(U6,(U7,_)))=>
        brK (decide (i5 < i4))
          (getK U6 x3 fun d8=>
          getK d8 ((3:Nat)) fun d9=>
          za7 d9 fun l10=>
          zaw (zch [] [U7]) fun r11=>
          nilK r11.outs <|
          zcY r11.tbs fun c12 q13=>
          nilK q13 <|
          sif (zeN r11.r=true) <|
          sif (zds (1:Nat) [r11.r]=true) <|
          getK U6 x3 fun d14=>
          getK d14 ((3:Nat)) fun d15=>
          za7 d15 fun l16=>
          sif (List.length l10+(1:Nat)≤(4294967296:Nat)) <|
          sif (zds (1:Nat) [r11.r]=true) <|
          sif (List.length l10=List.length l16) <|
          letT (setT U6 x3 (3:Nat) D.undef) fun U17=>
          getK U17 x3 fun d18=>
          sif ((4:Nat)≤List.length d18) <|
          sif (List.length l10+(1:Nat)=List.length (l16++[r11.r])) <|
          sif (zcM (l16++[r11.r])=true) <|
          sif (zeM (1:Nat) (l16++[r11.r])=true) <|
          letT (zaM U17 x3 (3:Nat) [D.sl Tag.own (l16++[r11.r])]) fun U19=>
          letN (IntKind.wrap IntKind.i64 (i5+(1:Int))) fun n20=>
          again2 (((x3,i4,n20,PUnit.unit),U19,c12,PUnit.unit)))
          (some (Ans.mk (D.tup [D.h (3840) x3 (0:Nat),D.int IntKind.i64 (0:Int)]) [] [U6,U7])))
        (((List.length T0,a0,(0:Int),PUnit.unit),U1,T1,PUnit.unit))))
theorem zte (zch:List D→List Tb→Option Ans) (a0:Int) (T0:Tb) (T1:Tb):denS Try.prog (zay [(ID.disk_New,(.st [] [0] [(7649,true)] zch))]) zkG [0,0] ID.bench_New [.int .i64 a0] [T0,T1]=zjJ zch a0 T0 T1:=by kernel_rfl
theorem zon (a0:Int) (T0:Tb) (T1:Tb):za3 [.int .i64 a0] [T0,T1]=zjJ zch a0 T0 T1:=zte zch a0 T0 T1
def zex:Ann:={ loops:=[(1,[.val (.cell (.int .i64)),.dead,.dead,.own 1,.dead,.dead,.dead,.dead,.dead,.dead,.dead,.val (.cell (.int .i64)),.val (.cell (.int .i64))])] }
noncomputable def zfm:List D→Option D:=denP Try.prog (zay [(ID.wattlekeep_Within,(.pure [0] zad))]) zex [1] ID.wattleplay_Sector
noncomputable def zdD (zad:List D→Option D) (a0:Int):Option D:=
  zaw (zad [D.int IntKind.i64 a0,D.int IntKind.i64 (11:Int)]) fun r1=>
  asI IntKind.i64 r1 fun i2=>
  brK (i2 == (10:Int))
    (some (D.sl Tag.own [D.int IntKind.u8 (0:Int),D.int IntKind.u8 (0:Int),D.int IntKind.u8 (0:Int),D.int IntKind.u8 (0:Int),D.int IntKind.u8 (0:Int),D.int IntKind.u8 (0:Int),D.int IntKind.u8 (0:Int),D.int IntKind.u8 (0:Int),D.int IntKind.u8 (0:Int),D.int IntKind.u8 (0:Int),D.int IntKind.u8 (0:Int),D.int IntKind.u8 (0:Int),D.int IntKind.u8 (0:Int),D.int IntKind.u8 (0:Int),D.int IntKind.u8 (0:Int),D.int IntKind.u8 (0:Int),D.int IntKind.u8 (0:Int),D.int IntKind.u8 (0:Int),D.int IntKind.u8 (0:Int),D.int IntKind.u8 (0:Int),D.int IntKind.u8 (0:Int),D.int IntKind.u8 (0:Int),D.int IntKind.u8 (0:Int),D.int IntKind.u8 (0:Int),D.int IntKind.u8 (0:Int),D.int IntKind.u8 (0:Int),D.int IntKind.u8 (0:Int),D.int IntKind.u8 (0:Int),D.int IntKind.u8 (0:Int),D.int IntKind.u8 (0:Int),D.int IntKind.u8 (0:Int),D.int IntKind.u8 (0:Int)]))
    (zcw (α:=(Int×List D×Int×Int×PUnit)×PUnit) (fun again3 ((i4,(l5,(i6,(i7,_)))),_)=>
      brK (decide (i7 < i6))
        (letN (IntKind.wrap IntKind.i64 (Int.tdiv i4 (7:Int))) fun n8=>
        letN (bits BinOp.or IntKind.i64 n8 (1:Int)) fun n9=>
        letN (IntKind.wrap IntKind.i64 (i7*n9)) fun n10=>
        letN (IntKind.wrap IntKind.i64 (i4+n10)) fun n11=>
        letN (IntKind.wrap IntKind.u8 n11) fun n12=>
        sif ((0:Int)≤i7) <|
        sif (Int.toNat i7 < List.length l5) <|
        getK l5 ((0:Nat)+Int.toNat i7) fun d13=>
        sif (D.isAgg d13=false) <|
        letN (IntKind.wrap IntKind.i64 (i7+(1:Int))) fun n14=>
        sif (List.length l5=List.length (List.set l5 ((0:Nat)+Int.toNat i7) (D.int IntKind.u8 n12))) <|
        again3 (((i4,List.set l5 ((0:Nat)+Int.toNat i7) (D.int IntKind.u8 n12),i6,n14,PUnit.unit),PUnit.unit)))
        (sif (List.length l5=List.length l5) <|
        sif (List.all l5 D.free=true) <|
        some (D.sl Tag.own l5)))
      (((a0,[D.int IntKind.u8 (0:Int),D.int IntKind.u8 (0:Int),D.int IntKind.u8 (0:Int),D.int IntKind.u8 (0:Int),D.int IntKind.u8 (0:Int),D.int IntKind.u8 (0:Int),D.int IntKind.u8 (0:Int),D.int IntKind.u8 (0:Int),D.int IntKind.u8 (0:Int),D.int IntKind.u8 (0:Int),D.int IntKind.u8 (0:Int),D.int IntKind.u8 (0:Int),D.int IntKind.u8 (0:Int),D.int IntKind.u8 (0:Int),D.int IntKind.u8 (0:Int),D.int IntKind.u8 (0:Int),D.int IntKind.u8 (0:Int),D.int IntKind.u8 (0:Int),D.int IntKind.u8 (0:Int),D.int IntKind.u8 (0:Int),D.int IntKind.u8 (0:Int),D.int IntKind.u8 (0:Int),D.int IntKind.u8 (0:Int),D.int IntKind.u8 (0:Int),D.int IntKind.u8 (0:Int),D.int IntKind.u8 (0:Int),D.int IntKind.u8 (0:Int),D.int IntKind.u8 (0:Int),D.int IntKind.u8 (0:Int),D.int IntKind.u8 (0:Int),D.int IntKind.u8 (0:Int),D.int IntKind.u8 (0:Int)],(32:Int),(0:Int),PUnit.unit),PUnit.unit)))
theorem zjK (zad:List D→Option D) (a0:Int):denP Try.prog (zay [(ID.wattlekeep_Within,(.pure [0] zad))]) zex [1] ID.wattleplay_Sector [.int .i64 a0]=zdD zad a0:=by kernel_rfl
theorem zhD (a0:Int):zfm [.int .i64 a0]=zdD zad a0:=zjK zad a0
def zfX:Ann:={ loops:=[],ks:=[(3840,false)] }
noncomputable def zal:List D→List Tb→Option Ans:=denS Try.prog (zay []) zfX [0] ID.bench_Bench_is
theorem zi1:za6 Try.prog ID.bench_Bench_is (.st [] [0] [(3840,false)] zal):=zbd (zaC []) zbw ⟨Try.f66,by kernel_rfl,by kernel_rfl,by kernel_rfl⟩
noncomputable def zfn:Fact Try.prog:=⟨ID.bench_Bench_is,(.st [] [0] [(3840,false)] zal),zi1⟩
noncomputable def zeD (a0:Nat) (a1:Int) (T0:Tb):Option Ans:=
  brK (decide (a1≥(0:Int)))
    (getK T0 a0 fun d1=>
    getK d1 ((3:Nat)) fun d2=>
    za7 d2 fun l3=>
    getK T0 a0 fun d4=>
    getK d4 ((3:Nat)) fun d5=>
    za7 d5 fun l6=>
    sif ((0:Nat)+List.length l3≤List.length l6) <|
    some (Ans.mk (D.bool (decide (a1 < (↑(List.length l3):Int)))) [] []))
    (some (Ans.mk (D.bool false) [] []))
theorem zmo (a0:Nat) (a1:Int) (T0:Tb):denS Try.prog (zay []) zfX [0] ID.bench_Bench_is [.h 3840 a0 0,.int .i64 a1] [T0]=zeD a0 a1 T0:=by kernel_rfl
theorem zjL (a0:Nat) (a1:Int) (T0:Tb):zal [.h 3840 a0 0,.int .i64 a1] [T0]=zeD a0 a1 T0:=zmo a0 a1 T0
def zgC:Ann:={ loops:=[],ks:=[(7649,false)] }
noncomputable def zaH:List D→List Tb→Option Ans:=denS Try.prog (zay []) zgC [0] ID.disk_Disk_may
theorem zjM:za6 Try.prog ID.disk_Disk_may (.st [] [0] [(7649,false)] zaH):=zbd (zaC []) zbw ⟨Try.f118,by kernel_rfl,by kernel_rfl,by kernel_rfl⟩
noncomputable def zfY:Fact Try.prog:=⟨ID.disk_Disk_may,(.st [] [0] [(7649,false)] zaH),zjM⟩
noncomputable def zfo (a0:Nat) (a1:Int) (T0:Tb):Option Ans:=
  getK T0 a0 fun d1=>
  getK d1 ((1665:Nat)) fun d2=>
  asB d2 fun b3=>
  brK b3
    (some (Ans.mk (D.int IntKind.i64 (5:Int)) [] []))
    (brK (decide (a1 < (0:Int)))
      (some (Ans.mk (D.int IntKind.i64 (4:Int)) [] []))
      (brK (decide (a1≥(52:Int)))
        (some (Ans.mk (D.int IntKind.i64 (4:Int)) [] []))
        (some (Ans.mk (D.int IntKind.i64 (0:Int)) [] []))))
theorem znQ (a0:Nat) (a1:Int) (T0:Tb):denS Try.prog (zay []) zgC [0] ID.disk_Disk_may [.h 7649 a0 0,.int .i64 a1] [T0]=zfo a0 a1 T0:=by kernel_rfl
theorem zkH (a0:Nat) (a1:Int) (T0:Tb):zaH [.h 7649 a0 0,.int .i64 a1] [T0]=zfo a0 a1 T0:=znQ a0 a1 T0
def zgD:Ann:={ loops:=[],ks:=[(7649,false)] }
noncomputable def zbk:List D→List Tb→Option Ans:=denS Try.prog (zay [(ID.disk_Disk_may,(.st [] [0] [(7649,false)] zaH))]) zgD [0,0] ID.disk_Disk_put
theorem zjN:za6 Try.prog ID.disk_Disk_put (.st [] [0,0] [(7649,false)] zbk):=zbd (zaC [zfY]) zbw ⟨Try.f124,by kernel_rfl,by kernel_rfl,by kernel_rfl⟩
noncomputable def zkI:Fact Try.prog:=⟨ID.disk_Disk_put,(.st [] [0,0] [(7649,false)] zbk),zjN⟩
noncomputable def zfp (zaH:List D→List Tb→Option Ans) (a0:Nat) (a1:Int) (a2:List D) (T0:Tb):Option Ans:=
  zaw (zaH [D.h (7649:Nat) a0 (0:Nat),D.int IntKind.i64 a1] [T0]) fun r1=>
  nilK r1.outs <|
  nilK r1.tbs <|
  asI IntKind.i64 r1.r fun i2=>
  brK (i2 != (0:Int))
    (some (Ans.mk (D.tup [D.agg [D.int IntKind.i64 (0:Int),D.int IntKind.u8 (0:Int),D.int IntKind.u8 (0:Int),D.int IntKind.u8 (0:Int),D.int IntKind.u8 (0:Int),D.int IntKind.u8 (0:Int),D.int IntKind.u8 (0:Int),D.int IntKind.u8 (0:Int),D.int IntKind.u8 (0:Int),D.int IntKind.u8 (0:Int),D.int IntKind.u8 (0:Int),D.int IntKind.u8 (0:Int),D.int IntKind.u8 (0:Int),D.int IntKind.u8 (0:Int),D.int IntKind.u8 (0:Int),D.int IntKind.u8 (0:Int),D.int IntKind.u8 (0:Int),D.int IntKind.u8 (0:Int),D.int IntKind.u8 (0:Int),D.int IntKind.u8 (0:Int),D.int IntKind.u8 (0:Int),D.int IntKind.u8 (0:Int),D.int IntKind.u8 (0:Int),D.int IntKind.u8 (0:Int),D.int IntKind.u8 (0:Int),D.int IntKind.u8 (0:Int),D.int IntKind.u8 (0:Int),D.int IntKind.u8 (0:Int),D.int IntKind.u8 (0:Int),D.int IntKind.u8 (0:Int),D.int IntKind.u8 (0:Int),D.int IntKind.u8 (0:Int),D.int IntKind.u8 (0:Int)],D.int IntKind.i64 i2]) [] []))
    (brK ((↑(List.length a2):Int) != (32:Int))
      (some (Ans.mk (D.tup [D.agg [D.int IntKind.i64 (0:Int),D.int IntKind.u8 (0:Int),D.int IntKind.u8 (0:Int),D.int IntKind.u8 (0:Int),D.int IntKind.u8 (0:Int),D.int IntKind.u8 (0:Int),D.int IntKind.u8 (0:Int),D.int IntKind.u8 (0:Int),D.int IntKind.u8 (0:Int),D.int IntKind.u8 (0:Int),D.int IntKind.u8 (0:Int),D.int IntKind.u8 (0:Int),D.int IntKind.u8 (0:Int),D.int IntKind.u8 (0:Int),D.int IntKind.u8 (0:Int),D.int IntKind.u8 (0:Int),D.int IntKind.u8 (0:Int),D.int IntKind.u8 (0:Int),D.int IntKind.u8 (0:Int),D.int IntKind.u8 (0:Int),D.int IntKind.u8 (0:Int),D.int IntKind.u8 (0:Int),D.int IntKind.u8 (0:Int),D.int IntKind.u8 (0:Int),D.int IntKind.u8 (0:Int),D.int IntKind.u8 (0:Int),D.int IntKind.u8 (0:Int),D.int IntKind.u8 (0:Int),D.int IntKind.u8 (0:Int),D.int IntKind.u8 (0:Int),D.int IntKind.u8 (0:Int),D.int IntKind.u8 (0:Int),D.int IntKind.u8 (0:Int)],D.int IntKind.i64 (1:Int)]) [] []))
      (sif (cells a2=true) <|
      sif (List.length a2=(32:Nat)) <|
      sif ((33:Nat)≤List.length ([D.int IntKind.i64 a1]++(a2++[]))) <|
      zap ([Lf.int IntKind.i64,Lf.arr (32)]) (List.take (33:Nat) (List.drop (0:Nat) ([D.int IntKind.i64 a1]++(a2++[])))) fun c3=>
      sif (List.length ([D.int IntKind.i64 c3.fst]++(c3.snd.fst++[]))=(33:Nat)) <|
      sif ((33:Nat)≤List.length ([D.int IntKind.i64 c3.fst]++(c3.snd.fst++[]))) <|
      zap ([Lf.int IntKind.i64,Lf.arr (32)]) (List.take (33:Nat) (List.drop (0:Nat) ([D.int IntKind.i64 c3.fst]++(c3.snd.fst++[])))) fun c4=>
      sif (D.free (D.agg ([D.int IntKind.i64 c4.fst]++(c4.snd.fst++[])))=true) <|
      some (Ans.mk (D.tup [D.agg ([D.int IntKind.i64 c4.fst]++(c4.snd.fst++[])),D.int IntKind.i64 (0:Int)]) [] [])))
theorem znR (zaH:List D→List Tb→Option Ans) (tga2:Tag) (a0:Nat) (a1:Int) (a2:List D) (T0:Tb):denS Try.prog (zay [(ID.disk_Disk_may,(.st [] [0] [(7649,false)] zaH))]) zgD [0,0] ID.disk_Disk_put [.h 7649 a0 0,.int .i64 a1,.sl tga2 a2] [T0]=zfp zaH a0 a1 (D.lentL a2) T0:=by kernel_rfl
theorem zkJ (tga2:Tag) (a0:Nat) (a1:Int) (a2:List D) (T0:Tb):zbk [.h 7649 a0 0,.int .i64 a1,.sl tga2 a2] [T0]=zfp zaH a0 a1 (D.lentL a2) T0:=znR zaH tga2 a0 a1 a2 T0
def zbY:Ann:={ loops:=[] }
noncomputable def zag:List D→Option D:=denE Try.prog (zay []) zbY [33] ID.slices_Clone_disk_write_disk_write
theorem zcS:za6 Try.prog ID.slices_Clone_disk_write_disk_write (.pure [33] zag):=zph (zaC []) zbw ⟨Try.f121,by kernel_rfl,by kernel_rfl,by kernel_rfl⟩
noncomputable def zc2:Fact Try.prog:=⟨ID.slices_Clone_disk_write_disk_write,(.pure [33] zag),zcS⟩
noncomputable def zbC (a0:D) (b0:List D):Option D:=
  sif (List.length (a0::b0)≤(4294967296:Nat)) <|
  sif (zds (33:Nat) (a0::b0)=true) <|
  sif (List.length (a0::b0)=List.length (a0::b0)) <|
  sif (List.all (a0::b0) D.free=true) <|
  some (D.sl Tag.own (a0::b0))
theorem zdu (tga0:Tag) (a0:D) (b0:List D):denE Try.prog (zay []) zbY [33] ID.slices_Clone_disk_write_disk_write [.sl tga0 (a0::b0)]=zbC (D.lent a0) (D.lentL b0):=by kernel_rfl
theorem zc3 (tga0:Tag) (a0:D) (b0:List D):zag [.sl tga0 (a0::b0)]=zbC (D.lent a0) (D.lentL b0):=zdu tga0 a0 b0
theorem zcT (tg:Tag):zag [.sl tg []]=some (.sl .own []):=(zl6 (some (.sl .own [])))
def zfZ:Ann:={ loops:=[],ks:=[(7649,true)] }
noncomputable def zbs:List D→List Tb→Option Ans:=denS Try.prog (zay []) zfZ [] ID.disk_Disk_Fail
noncomputable def zeE (a0:Nat) (T0:Tb):Option Ans:=
  getK T0 a0 fun d1=>
  sif ((1666:Nat)≤List.length d1) <|
  letT (zaM T0 a0 (0:Nat) (List.map D.own0 (List.set (List.reverse ([D.bool false,D.sl Tag.nil []]++List.replicate 1664 (D.int IntKind.u8 (0:Int)))) (1665:Nat) (D.bool true)))) fun U2=>
  some (Ans.mk (D.tup []) [] [U2])
theorem zmp (a0:Nat) (T0:Tb):denS Try.prog (zay []) zfZ [] ID.disk_Disk_Fail [.h 7649 a0 0] [T0]=zeE a0 T0:=by kernel_rfl
theorem zjO (a0:Nat) (T0:Tb):zbs [.h 7649 a0 0] [T0]=zeE a0 T0:=zmp a0 T0
def zeO:Ann:={ loops:=[],ks:=[(3840,false),(7649,true)] }
noncomputable def zdV:List D→List Tb→Option Ans:=denS Try.prog (zay [(ID.bench_Bench_is,(.st [] [0] [(3840,false)] zal)),(ID.disk_Disk_Fail,(.st [] [] [(7649,true)] zbs))]) zeO [0] ID.bench_Bench_Fail
noncomputable def zdW (zal:List D→List Tb→Option Ans) (zbs:List D→List Tb→Option Ans) (a0:Nat) (a1:Int) (T0:Tb) (T1:Tb):Option Ans:=
  zaw (zal [D.h (3840:Nat) a0 (0:Nat),D.int IntKind.i64 a1] [T0]) fun r1=>
  nilK r1.outs <|
  nilK r1.tbs <|
  asB r1.r fun b2=>
  brK (!b2)
    (some (Ans.mk (D.int IntKind.i64 (1:Int)) [] [T1]))
    (getK T0 a0 fun d3=>
    getK d3 ((3:Nat)) fun d4=>
    za7 d4 fun l5=>
    getK T0 a0 fun d6=>
    getK d6 ((3:Nat)) fun d7=>
    za7 d7 fun l8=>
    sif ((0:Int)≤a1) <|
    sif (Int.toNat a1 < List.length l5) <|
    getK T0 a0 fun d9=>
    getK d9 ((3:Nat)) fun d10=>
    za7 d10 fun l11=>
    getK l11 ((0:Nat)+Int.toNat a1) fun d12=>
    sif (D.isAgg d12=false) <|
    sif (D.width d12=(1:Nat)) <|
    sif (D.cell d12=true) <|
    zaw (zbs [d12] [T1]) fun r13=>
    nilK r13.outs <|
    zcY r13.tbs fun c14 q15=>
    nilK q15 <|
    zde r13.r fun ts16=>
    nilK ts16 <|
    some (Ans.mk (D.int IntKind.i64 (0:Int)) [] [c14]))
theorem zkK (zal:List D→List Tb→Option Ans) (zbs:List D→List Tb→Option Ans) (a0:Nat) (a1:Int) (T0:Tb) (T1:Tb):denS Try.prog (zay [(ID.bench_Bench_is,(.st [] [0] [(3840,false)] zal)),(ID.disk_Disk_Fail,(.st [] [] [(7649,true)] zbs))]) zeO [0] ID.bench_Bench_Fail [.h 3840 a0 0,.int .i64 a1] [T0,T1]=zdW zal zbs a0 a1 T0 T1:=by kernel_rfl
theorem zie (a0:Nat) (a1:Int) (T0:Tb) (T1:Tb):zdV [.h 3840 a0 0,.int .i64 a1] [T0,T1]=zdW zal zbs a0 a1 T0 T1:=zkK zal zbs a0 a1 T0 T1
def zeP:Ann:={ loops:=[],ks:=[(7649,false)] }
noncomputable def za2:List D→List Tb→Option Ans:=denS Try.prog (zay []) zeP [0] ID.disk_Disk_Failed
theorem zhE:za6 Try.prog ID.disk_Disk_Failed (.st [] [0] [(7649,false)] za2):=zbd (zaC []) zbw ⟨Try.f84,by kernel_rfl,by kernel_rfl,by kernel_rfl⟩
noncomputable def zif:Fact Try.prog:=⟨ID.disk_Disk_Failed,(.st [] [0] [(7649,false)] za2),zhE⟩
noncomputable def zdX (a0:Nat) (T0:Tb):Option Ans:=
  getK T0 a0 fun d1=>
  getK d1 ((1665:Nat)) fun d2=>
  asB d2 fun b3=>
  some (Ans.mk (D.bool b3) [] [])
theorem zkL (a0:Nat) (T0:Tb):denS Try.prog (zay []) zeP [0] ID.disk_Disk_Failed [.h 7649 a0 0] [T0]=zdX a0 T0:=by kernel_rfl
theorem zih (a0:Nat) (T0:Tb):za2 [.h 7649 a0 0] [T0]=zdX a0 T0:=zkL a0 T0
def zd5:Ann:={ loops:=[],ks:=[(3840,false),(7649,false)] }
noncomputable def zaR:List D→List Tb→Option Ans:=denS Try.prog (zay [(ID.bench_Bench_is,(.st [] [0] [(3840,false)] zal)),(ID.disk_Disk_Failed,(.st [] [0] [(7649,false)] za2))]) zd5 [0] ID.bench_Bench_Failed
theorem zgE:za6 Try.prog ID.bench_Bench_Failed (.st [] [0] [(3840,false),(7649,false)] zaR):=zbd (zaC [zfn,zif]) zbw ⟨Try.f41,by kernel_rfl,by kernel_rfl,by kernel_rfl⟩
noncomputable def zha:Fact Try.prog:=⟨ID.bench_Bench_Failed,(.st [] [0] [(3840,false),(7649,false)] zaR),zgE⟩
noncomputable def zdm (zal:List D→List Tb→Option Ans) (za2:List D→List Tb→Option Ans) (a0:Nat) (a1:Int) (T0:Tb) (T1:Tb):Option Ans:=
  zaw (zal [D.h (3840:Nat) a0 (0:Nat),D.int IntKind.i64 a1] [T0]) fun r1=>
  nilK r1.outs <|
  nilK r1.tbs <|
  asB r1.r fun b2=>
  brK b2
    (getK T0 a0 fun d3=>
    getK d3 ((3:Nat)) fun d4=>
    za7 d4 fun l5=>
    getK T0 a0 fun d6=>
    getK d6 ((3:Nat)) fun d7=>
    za7 d7 fun l8=>
    sif ((0:Int)≤a1) <|
    sif (Int.toNat a1 < List.length l5) <|
    getK T0 a0 fun d9=>
    getK d9 ((3:Nat)) fun d10=>
    za7 d10 fun l11=>
    getK l11 ((0:Nat)+Int.toNat a1) fun d12=>
    sif (D.isAgg d12=false) <|
    sif (D.width d12=(1:Nat)) <|
    sif (D.cell d12=true) <|
    zaw (za2 [d12] [T1]) fun r13=>
    nilK r13.outs <|
    nilK r13.tbs <|
    asB r13.r fun b14=>
    some (Ans.mk (D.bool b14) [] []))
    (some (Ans.mk (D.bool false) [] []))
theorem zi2 (zal:List D→List Tb→Option Ans) (za2:List D→List Tb→Option Ans) (a0:Nat) (a1:Int) (T0:Tb) (T1:Tb):denS Try.prog (zay [(ID.bench_Bench_is,(.st [] [0] [(3840,false)] zal)),(ID.disk_Disk_Failed,(.st [] [0] [(7649,false)] za2))]) zd5 [0] ID.bench_Bench_Failed [.h 3840 a0 0,.int .i64 a1] [T0,T1]=zdm zal za2 a0 a1 T0 T1:=by kernel_rfl
theorem zhb (a0:Nat) (a1:Int) (T0:Tb) (T1:Tb):zaR [.h 3840 a0 0,.int .i64 a1] [T0,T1]=zdm zal za2 a0 a1 T0 T1:=zi2 zal za2 a0 a1 T0 T1
def zfq:Ann:={ loops:=[],ks:=[(3840,false)] }
noncomputable def zaA:List D→List Tb→Option Ans:=denS Try.prog (zay []) zfq [0] ID.bench_Bench_Len
theorem zii:za6 Try.prog ID.bench_Bench_Len (.st [] [0] [(3840,false)] zaA):=zbd (zaC []) zbw ⟨Try.f68,by kernel_rfl,by kernel_rfl,by kernel_rfl⟩
noncomputable def zeQ:Fact Try.prog:=⟨ID.bench_Bench_Len,(.st [] [0] [(3840,false)] zaA),zii⟩
noncomputable def zec (a0:Nat) (T0:Tb):Option Ans:=
  getK T0 a0 fun d1=>
  getK d1 ((3:Nat)) fun d2=>
  za7 d2 fun l3=>
  getK T0 a0 fun d4=>
  getK d4 ((3:Nat)) fun d5=>
  za7 d5 fun l6=>
  sif ((0:Nat)+List.length l3≤List.length l6) <|
  some (Ans.mk (D.int IntKind.i64 (↑(List.length l3):Int)) [] [])
theorem zlt (a0:Nat) (T0:Tb):denS Try.prog (zay []) zfq [0] ID.bench_Bench_Len [.h 3840 a0 0] [T0]=zec a0 T0:=by kernel_rfl
theorem zi3 (a0:Nat) (T0:Tb):zaA [.h 3840 a0 0] [T0]=zec a0 T0:=zlt a0 T0
def zdK:Ann:={ loops:=[(0,[.val (.cell .lent),.val (.cell (.int .i64)),.dead,.dead,.dead,.dead,.dead,.val (.cell (.int .i64)),.val (.cell (.int .i64))])] }
noncomputable def zaQ:List D→Option D:=denP Try.prog (zay []) zdK [0] ID.slices_Index_int_int
theorem zfH:za6 Try.prog ID.slices_Index_int_int (.pure [0] zaQ):=zax (zaC []) zbw ⟨Try.f87,by kernel_rfl,by kernel_rfl,by kernel_rfl⟩
noncomputable def zf5:Fact Try.prog:=⟨ID.slices_Index_int_int,(.pure [0] zaQ),zfH⟩
noncomputable def zcN (a0:List D) (a1:Int):Option D:=
  zcw (α:=(List D×Int×Int×Int×PUnit)×PUnit) (fun again1 ((l2,(i3,(i4,(i5,_)))),_)=>
    brK (decide (i5 < i4))
      (sif ((0:Int)≤i5) <|
      getK l2 (Int.toNat i5) fun d6=>
      asI IntKind.i64 d6 fun i7=>
      brK (i3 == i7)
        (some (D.int IntKind.i64 i5))
        (letN (IntKind.wrap IntKind.i64 (i5+(1:Int))) fun n8=>
        again1 (((l2,i3,i4,n8,PUnit.unit),PUnit.unit))))
      (some (D.int IntKind.i64 (-1:Int))))
    (((a0,a1,(↑(List.length a0):Int),(0:Int),PUnit.unit),PUnit.unit))
theorem zhF (tga0:Tag) (a0:List D) (a1:Int):denP Try.prog (zay []) zdK [0] ID.slices_Index_int_int [.sl tga0 a0,.int .i64 a1]=zcN (D.lentL a0) a1:=by kernel_rfl
theorem zf6 (tga0:Tag) (a0:List D) (a1:Int):zaQ [.sl tga0 a0,.int .i64 a1]=zcN (D.lentL a0) a1:=zhF tga0 a0 a1
def zc4:Ann:={ loops:=[] }
noncomputable def zaB:List D→Option D:=denP Try.prog (zay [(ID.slices_Index_int_int,(.pure [0] zaQ))]) zc4 [0] ID.slices_Contains_int_int
theorem zeF:za6 Try.prog ID.slices_Contains_int_int (.pure [0] zaB):=zax (zaC [zf5]) zbw ⟨Try.f101,by kernel_rfl,by kernel_rfl,by kernel_rfl⟩
noncomputable def ze0:Fact Try.prog:=⟨ID.slices_Contains_int_int,(.pure [0] zaB),zeF⟩
noncomputable def zcq (zaQ:List D→Option D) (a0:List D) (a1:Int):Option D:=
  zaw (zaQ [D.sl Tag.lent a0,D.int IntKind.i64 a1]) fun r1=>
  asI IntKind.i64 r1 fun i2=>
  some (D.bool (decide (i2≥(0:Int))))
theorem zf7 (zaQ:List D→Option D) (tga0:Tag) (a0:List D) (a1:Int):denP Try.prog (zay [(ID.slices_Index_int_int,(.pure [0] zaQ))]) zc4 [0] ID.slices_Contains_int_int [.sl tga0 a0,.int .i64 a1]=zcq zaQ (D.lentL a0) a1:=by kernel_rfl
theorem ze1 (tga0:Tag) (a0:List D) (a1:Int):zaB [.sl tga0 a0,.int .i64 a1]=zcq zaQ (D.lentL a0) a1:=zf7 zaQ tga0 a0 a1
def zjk:Ann:={ loops:=[] }
noncomputable def zai:List D→Option D:=denP Try.prog (zay [(ID.slices_Contains_int_int,(.pure [0] zaB))]) zjk [0] ID.geom_Check
theorem zmq:za6 Try.prog ID.geom_Check (.pure [0] zai):=zax (zaC [ze0]) zbw ⟨Try.f69,by kernel_rfl,by kernel_rfl,by kernel_rfl⟩
noncomputable def zc5:Fact Try.prog:=⟨ID.geom_Check,(.pure [0] zai),zmq⟩
noncomputable def zij (zaB:List D→Option D) (a0_0:Int) (a0_1:Int) (a0_2:Int):Option D:=
  asI IntKind.i64 (zuX a0_0 (D.int IntKind.i64 (0:Int)) (setD (6:Int) (D.int IntKind.i64 (4:Int)) (setD (5:Int) (D.int IntKind.i64 (3:Int)) []))) fun i1=>
  brK (i1 == (0:Int))
    (some (D.int IntKind.i64 (1:Int)))
    (brK (decide (a0_1 < i1))
      (some (D.int IntKind.i64 (1:Int)))
      (brK (decide (a0_1 > (8:Int)))
        (some (D.int IntKind.i64 (1:Int)))
        (zaw (zaB [D.sl Tag.full [D.int IntKind.i64 (1:Int),D.int IntKind.i64 (2:Int),D.int IntKind.i64 (4:Int)],D.int IntKind.i64 a0_2]) fun r2=>
        asB r2 fun b3=>
        brK (!b3)
          (some (D.int IntKind.i64 (1:Int)))
          (some (D.int IntKind.i64 (0:Int))))))
theorem zr7 (zaB:List D→Option D) (a0_0:Int) (a0_1:Int) (a0_2:Int):denP Try.prog (zay [(ID.slices_Contains_int_int,(.pure [0] zaB))]) zjk [0] ID.geom_Check [.agg [.int .i64 a0_0,.int .i64 a0_1,.int .i64 a0_2]]=zij zaB a0_0 a0_1 a0_2:=by kernel_rfl
theorem znS (a0_0:Int) (a0_1:Int) (a0_2:Int):zai [.agg [.int .i64 a0_0,.int .i64 a0_1,.int .i64 a0_2]]=zij zaB a0_0 a0_1 a0_2:=zr7 zaB a0_0 a0_1 a0_2
def zkM:Ann:={ loops:=[],ks:=[(3840,false),(7649,false)] }
noncomputable def zaz:List D→List Tb→Option Ans:=denS Try.prog (zay [(ID.bench_Bench_Len,(.st [] [0] [(3840,false)] zaA)),(ID.bench_Bench_Failed,(.st [] [0] [(3840,false),(7649,false)] zaR))]) zkM [0] ID.stripe_up
theorem znT:za6 Try.prog ID.stripe_up (.st [] [0] [(3840,false),(7649,false)] zaz):=zbd (zaC [zeQ,zha]) zbw ⟨Try.f70,by kernel_rfl,by kernel_rfl,by kernel_rfl⟩
noncomputable def zel:Fact Try.prog:=⟨ID.stripe_up,(.st [] [0] [(3840,false),(7649,false)] zaz),znT⟩
noncomputable def zjP (zaA:List D→List Tb→Option Ans) (zaR:List D→List Tb→Option Ans) (a0:Nat) (a1:List D) (a2:Int) (T0:Tb) (T1:Tb):Option Ans:=
  zaw (zaA [D.h (3840:Nat) a0 (0:Nat)] [T0]) fun r1=>
  nilK r1.outs <|
  nilK r1.tbs <|
  asI IntKind.i64 r1.r fun i2=>
  brK (decide (a2 < i2))
    (brK (decide (a2 < (↑(List.length a1):Int)))
      (sif ((0:Int)≤a2) <|
      getK a1 (Int.toNat a2) fun d3=>
      asB d3 fun b4=>
      brK b4
        (zaw (zaR [D.h (3840:Nat) a0 (0:Nat),D.int IntKind.i64 a2] [T0,T1]) fun r5=>
        nilK r5.outs <|
        nilK r5.tbs <|
        asB r5.r fun b6=>
        some (Ans.mk (D.bool !b6) [] []))
        (some (Ans.mk (D.bool false) [] [])))
      (some (Ans.mk (D.bool false) [] [])))
    (some (Ans.mk (D.bool false) [] []))
theorem ztf (zaA:List D→List Tb→Option Ans) (zaR:List D→List Tb→Option Ans) (tga1:Tag) (a0:Nat) (a1:List D) (a2:Int) (T0:Tb) (T1:Tb):denS Try.prog (zay [(ID.bench_Bench_Len,(.st [] [0] [(3840,false)] zaA)),(ID.bench_Bench_Failed,(.st [] [0] [(3840,false),(7649,false)] zaR))]) zkM [0] ID.stripe_up [.h 3840 a0 0,.sl tga1 a1,.int .i64 a2] [T0,T1]=zjP zaA zaR a0 (D.lentL a1) a2 T0 T1:=by kernel_rfl
theorem zoo (tga1:Tag) (a0:Nat) (a1:List D) (a2:Int) (T0:Tb) (T1:Tb):zaz [.h 3840 a0 0,.sl tga1 a1,.int .i64 a2] [T0,T1]=zjP zaA zaR a0 (D.lentL a1) a2 T0 T1:=ztf zaA zaR tga1 a0 a1 a2 T0 T1
def zfr:Ann:={ loops:=[],ks:=[(3840,false)] }
noncomputable def zaj:List D→List Tb→Option Ans:=denS Try.prog (zay [(ID.bench_Bench_is,(.st [] [0] [(3840,false)] zal))]) zfr [0] ID.bench_Bench_may
theorem zik:za6 Try.prog ID.bench_Bench_may (.st [] [0] [(3840,false)] zaj):=zbd (zaC [zfn]) zbw ⟨Try.f85,by kernel_rfl,by kernel_rfl,by kernel_rfl⟩
noncomputable def zdn:Fact Try.prog:=⟨ID.bench_Bench_may,(.st [] [0] [(3840,false)] zaj),zik⟩
noncomputable def zed (zal:List D→List Tb→Option Ans) (a0:Nat) (a1:Int) (T0:Tb):Option Ans:=
  zaw (zal [D.h (3840:Nat) a0 (0:Nat),D.int IntKind.i64 a1] [T0]) fun r1=>
  nilK r1.outs <|
  nilK r1.tbs <|
  asB r1.r fun b2=>
  brK (!b2)
    (some (Ans.mk (D.int IntKind.i64 (1:Int)) [] []))
    (getK T0 a0 fun d3=>
    getK d3 ((2:Nat)) fun d4=>
    asB d4 fun b5=>
    brK b5
      (some (Ans.mk (D.int IntKind.i64 (6:Int)) [] []))
      (some (Ans.mk (D.int IntKind.i64 (0:Int)) [] [])))
theorem zlu (zal:List D→List Tb→Option Ans) (a0:Nat) (a1:Int) (T0:Tb):denS Try.prog (zay [(ID.bench_Bench_is,(.st [] [0] [(3840,false)] zal))]) zfr [0] ID.bench_Bench_may [.h 3840 a0 0,.int .i64 a1] [T0]=zed zal a0 a1 T0:=by kernel_rfl
theorem zi4 (a0:Nat) (a1:Int) (T0:Tb):zaj [.h 3840 a0 0,.int .i64 a1] [T0]=zed zal a0 a1 T0:=zlu zal a0 a1 T0
def zdj:Ann:={ loops:=[] }
noncomputable def zae:List D→Option D:=denE Try.prog (zay []) zdj [1] ID.slices_Clone_byte_byte
theorem ze2:za6 Try.prog ID.slices_Clone_byte_byte (.pure [1] zae):=zph (zaC []) zbw ⟨Try.f109,by kernel_rfl,by kernel_rfl,by kernel_rfl⟩
noncomputable def zc6:Fact Try.prog:=⟨ID.slices_Clone_byte_byte,(.pure [1] zae),ze2⟩
noncomputable def zcu (a0:D) (b0:List D):Option D:=
  sif (List.length (a0::b0)≤(4294967296:Nat)) <|
  sif (zds (1:Nat) (a0::b0)=true) <|
  sif (List.length (a0::b0)=List.length (a0::b0)) <|
  sif (List.all (a0::b0) D.free=true) <|
  some (D.sl Tag.own (a0::b0))
theorem zgF (tga0:Tag) (a0:D) (b0:List D):denE Try.prog (zay []) zdj [1] ID.slices_Clone_byte_byte [.sl tga0 (a0::b0)]=zcu (D.lent a0) (D.lentL b0):=by kernel_rfl
theorem zfs (tga0:Tag) (a0:D) (b0:List D):zae [.sl tga0 (a0::b0)]=zcu (D.lent a0) (D.lentL b0):=zgF tga0 a0 b0
theorem ze3 (tg:Tag):zae [.sl tg []]=some (.sl .own []):=(zl6 (some (.sl .own [])))
def zf0:Ann:={ loops:=[(1,[.dead,.val (.cell (.int .i64)),.dead,.dead,.dead,.dead,.dead,.box true [(.arr 32)],.dead,.dead,.dead,.dead,.dead,.dead,.dead,.dead,.dead,.dead,.dead,.dead,.dead,.dead,.dead,.dead,.dead,.view 7649 1664,.val (.cell (.int .i64)),.val (.cell (.int .i64))])],ks:=[(7649,false)] }
noncomputable def zbe:List D→List Tb→Option Ans:=denS Try.prog (zay [(ID.disk_Disk_may,(.st [] [0] [(7649,false)] zaH)),(ID.slices_Clone_byte_byte,(.pure [1] zae))]) zf0 [1,0] ID.disk_Disk_Read
theorem zi5:za6 Try.prog ID.disk_Disk_Read (.st [] [1,0] [(7649,false)] zbe):=zbd (zaC [zfY,zc6]) zbw ⟨Try.f86,by kernel_rfl,by kernel_rfl,by kernel_rfl⟩
noncomputable def zjQ:Fact Try.prog:=⟨ID.disk_Disk_Read,(.st [] [1,0] [(7649,false)] zbe),zi5⟩
noncomputable def zeG (zaH:List D→List Tb→Option Ans) (zae:List D→Option D) (a0:Nat) (a1:Int) (T0:Tb):Option Ans:=
  zaw (zaH [D.h (7649:Nat) a0 (0:Nat),D.int IntKind.i64 a1] [T0]) fun r1=>
  nilK r1.outs <|
  nilK r1.tbs <|
  asI IntKind.i64 r1.r fun i2=>
  brK (i2 != (0:Int))
    (some (Ans.mk (D.tup [D.sl Tag.own [],D.int IntKind.i64 i2]) [] []))
    (sif ((0:Int)≤a1) <|
    sif (Int.toNat a1 < (52:Nat)) <|
    getK T0 a0 fun d3=>
    sif ((0:Nat)+Int.toNat a1*(32:Nat)+(32:Nat)≤List.length d3) <|
    sif (zf4 (List.take (32:Nat) (List.drop ((0:Nat)+Int.toNat a1*(32:Nat)) d3))=true) <|
    sif (List.length (List.take (32:Nat) (List.drop ((0:Nat)+Int.toNat a1*(32:Nat)) d3))=(32:Nat)) <|
    sif (List.length (List.take (32:Nat) (List.drop ((0:Nat)+Int.toNat a1*(32:Nat)) d3))=(32:Nat)) <|
    getK T0 a0 fun d4=>
    getK d4 ((1664:Nat)) fun d5=>
    za7 d5 fun l6=>
    getK T0 a0 fun d7=>
    getK d7 ((1664:Nat)) fun d8=>
    za7 d8 fun l9=>
    sif ((0:Nat)+List.length l6≤List.length l9) <|
    zap ([Lf.arr (32)]) (List.take (32:Nat) (List.drop ((0:Nat)+Int.toNat a1*(32:Nat)) d3)) fun c10=>
    zcw (α:=(Int×(List D×PUnit)×(Nat×Nat×Nat)×Int×Int×PUnit)×List (List D)×PUnit) (fun again11 ((i12,((l13,_),((x14,(x15,x16)),(i17,(i18,_))))),(U19,_))=>
      brK (decide (i18 < i17))
        (getK U19 x14 fun d20=>
        getK d20 ((1664:Nat)) fun d21=>
        za7 d21 fun l22=>
        sif ((0:Int)≤i18) <|
        sif (Int.toNat i18 < x16) <|
        getK U19 x14 fun d23=>
        getK d23 ((1664:Nat)) fun d24=>
        za7 d24 fun l25=>
        getK l25 (x15+Int.toNat i18) fun d26=>
        asAgg d26 fun cs27=>
        zap ([Lf.int IntKind.i64,Lf.arr (32)]) cs27 fun c28=>
        sif (D.width (D.agg ([D.int IntKind.i64 c28.fst]++(c28.snd.fst++[])))=(33:Nat)) <|
        sif (List.length ([D.int IntKind.i64 c28.fst]++(c28.snd.fst++[]))=(33:Nat)) <|
        brK (c28.fst == i12)
          (sif ((33:Nat)≤List.length ([D.int IntKind.i64 c28.fst]++(c28.snd.fst++[]))) <|
          sif (List.length (List.take (32:Nat) (List.drop (1:Nat) ([D.int IntKind.i64 c28.fst]++(c28.snd.fst++[]))))=(32:Nat)) <|
          sif (List.length (List.take (32:Nat) (List.drop (1:Nat) ([D.int IntKind.i64 c28.fst]++(c28.snd.fst++[]))))=(32:Nat)) <|
          sif ((32:Nat)≤List.length (l13++[])) <|
          letN (IntKind.wrap IntKind.i64 (i18+(1:Int))) fun n29=>
          zap ([Lf.arr (32)]) (spl (0:Nat) (32:Nat) (l13++[]) (List.take (32:Nat) (List.drop (1:Nat) ([D.int IntKind.i64 c28.fst]++(c28.snd.fst++[]))))) fun c30=>
          again11 (((i12,c30,(x14,x15,x16),i17,n29,PUnit.unit),U19,PUnit.unit)))
          (letN (IntKind.wrap IntKind.i64 (i18+(1:Int))) fun n31=>
          zap ([Lf.arr (32)]) (l13++[]) fun c32=>
          again11 (((i12,c32,(x14,x15,x16),i17,n31,PUnit.unit),U19,PUnit.unit))))
        (sif ((32:Nat)≤List.length (l13++[])) <|
        sif ((32:Nat)≤List.length (l13++[])) <|
        zaw (zae [D.sl Tag.lent (cut (0:Nat) (32:Nat) (l13++[]))]) fun r33=>
        za7 r33 fun l34=>
        sif (List.length l34=List.length l34) <|
        sif (List.all l34 D.free=true) <|
        some (Ans.mk (D.tup [D.sl Tag.own l34,D.int IntKind.i64 (0:Int)]) [] [])))
      (((a1,c10,(a0,(0:Nat),List.length l6),(↑(List.length l6):Int),(0:Int),PUnit.unit),T0,PUnit.unit)))
theorem zmr (zaH:List D→List Tb→Option Ans) (zae:List D→Option D) (a0:Nat) (a1:Int) (T0:Tb):denS Try.prog (zay [(ID.disk_Disk_may,(.st [] [0] [(7649,false)] zaH)),(ID.slices_Clone_byte_byte,(.pure [1] zae))]) zf0 [1,0] ID.disk_Disk_Read [.h 7649 a0 0,.int .i64 a1] [T0]=zeG zaH zae a0 a1 T0:=by kernel_rfl
theorem zjR (a0:Nat) (a1:Int) (T0:Tb):zbe [.h 7649 a0 0,.int .i64 a1] [T0]=zeG zaH zae a0 a1 T0:=zmr zaH zae a0 a1 T0
def zeR:Ann:={ loops:=[],ks:=[(3840,false),(7649,false)] }
noncomputable def zau:List D→List Tb→Option Ans:=denS Try.prog (zay [(ID.bench_Bench_may,(.st [] [0] [(3840,false)] zaj)),(ID.disk_Disk_Read,(.st [] [1,0] [(7649,false)] zbe))]) zeR [1,0] ID.bench_Bench_Read
theorem zhG:za6 Try.prog ID.bench_Bench_Read (.st [] [1,0] [(3840,false),(7649,false)] zau):=zbd (zaC [zdn,zjQ]) zbw ⟨Try.f42,by kernel_rfl,by kernel_rfl,by kernel_rfl⟩
noncomputable def zey:Fact Try.prog:=⟨ID.bench_Bench_Read,(.st [] [1,0] [(3840,false),(7649,false)] zau),zhG⟩
noncomputable def zdY (zaj:List D→List Tb→Option Ans) (zbe:List D→List Tb→Option Ans) (a0:Nat) (a1:Int) (a2:Int) (T0:Tb) (T1:Tb):Option Ans:=
  zaw (zaj [D.h (3840:Nat) a0 (0:Nat),D.int IntKind.i64 a1] [T0]) fun r1=>
  nilK r1.outs <|
  nilK r1.tbs <|
  asI IntKind.i64 r1.r fun i2=>
  brK (i2 != (0:Int))
    (some (Ans.mk (D.tup [D.sl Tag.own [],D.int IntKind.i64 i2]) [] []))
    (getK T0 a0 fun d3=>
    getK d3 ((3:Nat)) fun d4=>
    za7 d4 fun l5=>
    getK T0 a0 fun d6=>
    getK d6 ((3:Nat)) fun d7=>
    za7 d7 fun l8=>
    sif ((0:Int)≤a1) <|
    sif (Int.toNat a1 < List.length l5) <|
    getK T0 a0 fun d9=>
    getK d9 ((3:Nat)) fun d10=>
    za7 d10 fun l11=>
    getK l11 ((0:Nat)+Int.toNat a1) fun d12=>
    sif (D.isAgg d12=false) <|
    sif (D.width d12=(1:Nat)) <|
    sif (D.cell d12=true) <|
    zaw (zbe [d12,D.int IntKind.i64 a2] [T1]) fun r13=>
    nilK r13.outs <|
    nilK r13.tbs <|
    zde r13.r fun ts14=>
    zap ([Lf.any,Lf.any]) ts14 fun c15=>
    za7 c15.fst fun l16=>
    asI IntKind.i64 c15.snd.fst fun i17=>
    sif (List.length l16=List.length l16) <|
    sif (List.all l16 D.free=true) <|
    some (Ans.mk (D.tup [D.sl Tag.own l16,D.int IntKind.i64 i17]) [] []))
theorem zkN (zaj:List D→List Tb→Option Ans) (zbe:List D→List Tb→Option Ans) (a0:Nat) (a1:Int) (a2:Int) (T0:Tb) (T1:Tb):denS Try.prog (zay [(ID.bench_Bench_may,(.st [] [0] [(3840,false)] zaj)),(ID.disk_Disk_Read,(.st [] [1,0] [(7649,false)] zbe))]) zeR [1,0] ID.bench_Bench_Read [.h 3840 a0 0,.int .i64 a1,.int .i64 a2] [T0,T1]=zdY zaj zbe a0 a1 a2 T0 T1:=by kernel_rfl
theorem zil (a0:Nat) (a1:Int) (a2:Int) (T0:Tb) (T1:Tb):zau [.h 3840 a0 0,.int .i64 a1,.int .i64 a2] [T0,T1]=zdY zaj zbe a0 a1 a2 T0 T1:=zkN zaj zbe a0 a1 a2 T0 T1
def zpt:Ann:={ loops:=[] }
noncomputable def zbZ:List D→Option D:=denP Try.prog (zay [(ID.geom_Check,(.pure [0] zai))]) zpt [0] ID.row_in
theorem zr8:za6 Try.prog ID.row_in (.pure [0] zbZ):=zax (zaC [zc5]) zbw ⟨Try.f102,by kernel_rfl,by kernel_rfl,by kernel_rfl⟩
noncomputable def znU:Fact Try.prog:=⟨ID.row_in,(.pure [0] zbZ),zr8⟩
noncomputable def zqy (zai:List D→Option D) (a0_0:Int) (a0_1:Int) (a0_2:Int) (a1:Int):Option D:=
  zaw (zai [D.agg [D.int IntKind.i64 a0_0,D.int IntKind.i64 a0_1,D.int IntKind.i64 a0_2]]) fun r1=>
  asI IntKind.i64 r1 fun i2=>
  brK (i2 == (0:Int))
    (brK (decide (a1≥(0:Int)))
      (some (D.bool (decide (a1 < (16:Int)))))
      (some (D.bool false)))
    (some (D.bool false))
theorem zym (zai:List D→Option D) (a0_0:Int) (a0_1:Int) (a0_2:Int) (a1:Int):denP Try.prog (zay [(ID.geom_Check,(.pure [0] zai))]) zpt [0] ID.row_in [.agg [.int .i64 a0_0,.int .i64 a0_1,.int .i64 a0_2],.int .i64 a1]=zqy zai a0_0 a0_1 a0_2 a1:=by kernel_rfl
theorem ztg (a0_0:Int) (a0_1:Int) (a0_2:Int) (a1:Int):zbZ [.agg [.int .i64 a0_0,.int .i64 a0_1,.int .i64 a0_2],.int .i64 a1]=zqy zai a0_0 a0_1 a0_2 a1:=zym zai a0_0 a0_1 a0_2 a1
def zim:Ann:={ loops:=[] }
noncomputable def zaU:List D→Option D:=denP Try.prog (zay [(ID.geom_Check,(.pure [0] zai))]) zim [0] ID.geom_Budget
theorem zlv:za6 Try.prog ID.geom_Budget (.pure [0] zaU):=zax (zaC [zc5]) zbw ⟨Try.f127,by kernel_rfl,by kernel_rfl,by kernel_rfl⟩
noncomputable def zht:Fact Try.prog:=⟨ID.geom_Budget,(.pure [0] zaU),zlv⟩
noncomputable def zhc (zai:List D→Option D) (a0_0:Int) (a0_1:Int) (a0_2:Int):Option D:=
  zaw (zai [D.agg [D.int IntKind.i64 a0_0,D.int IntKind.i64 a0_1,D.int IntKind.i64 a0_2]]) fun r1=>
  asI IntKind.i64 r1 fun i2=>
  brK (i2 != (0:Int))
    (some (D.int IntKind.i64 (0:Int)))
    (letN (IntKind.wrap IntKind.i64 (a0_0 - (4:Int))) fun n3=>
    some (D.int IntKind.i64 n3))
theorem zqz (zai:List D→Option D) (a0_0:Int) (a0_1:Int) (a0_2:Int):denP Try.prog (zay [(ID.geom_Check,(.pure [0] zai))]) zim [0] ID.geom_Budget [.agg [.int .i64 a0_0,.int .i64 a0_1,.int .i64 a0_2]]=zhc zai a0_0 a0_1 a0_2:=by kernel_rfl
theorem zms (a0_0:Int) (a0_1:Int) (a0_2:Int):zaU [.agg [.int .i64 a0_0,.int .i64 a0_1,.int .i64 a0_2]]=zhc zai a0_0 a0_1 a0_2:=zqz zai a0_0 a0_1 a0_2
def zjl:Ann:={ loops:=[] }
noncomputable def zab:List D→Option D:=denP Try.prog (zay [(ID.geom_Check,(.pure [0] zai)),(ID.geom_Budget,(.pure [0] zaU))]) zjl [0] ID.geom_Width
theorem zmt:za6 Try.prog ID.geom_Width (.pure [0] zab):=zax (zaC [zc5,zht]) zbw ⟨Try.f103,by kernel_rfl,by kernel_rfl,by kernel_rfl⟩
noncomputable def zcb:Fact Try.prog:=⟨ID.geom_Width,(.pure [0] zab),zmt⟩
noncomputable def zin (zai:List D→Option D) (zaU:List D→Option D) (a0_0:Int) (a0_1:Int) (a0_2:Int):Option D:=
  zaw (zai [D.agg [D.int IntKind.i64 a0_0,D.int IntKind.i64 a0_1,D.int IntKind.i64 a0_2]]) fun r1=>
  asI IntKind.i64 r1 fun i2=>
  brK (i2 != (0:Int))
    (some (D.int IntKind.i64 (0:Int)))
    (zaw (zaU [D.agg [D.int IntKind.i64 a0_0,D.int IntKind.i64 a0_1,D.int IntKind.i64 a0_2]]) fun r3=>
    asI IntKind.i64 r3 fun i4=>
    letN (IntKind.wrap IntKind.i64 (a0_1 - i4)) fun n5=>
    some (D.int IntKind.i64 n5))
theorem zr9 (zai:List D→Option D) (zaU:List D→Option D) (a0_0:Int) (a0_1:Int) (a0_2:Int):denP Try.prog (zay [(ID.geom_Check,(.pure [0] zai)),(ID.geom_Budget,(.pure [0] zaU))]) zjl [0] ID.geom_Width [.agg [.int .i64 a0_0,.int .i64 a0_1,.int .i64 a0_2]]=zin zai zaU a0_0 a0_1 a0_2:=by kernel_rfl
theorem znV (a0_0:Int) (a0_1:Int) (a0_2:Int):zab [.agg [.int .i64 a0_0,.int .i64 a0_1,.int .i64 a0_2]]=zin zai zaU a0_0 a0_1 a0_2:=zr9 zai zaU a0_0 a0_1 a0_2
def zmd:Ann:={ loops:=[] }
noncomputable def zaZ:List D→Option D:=denP Try.prog (zay [(ID.geom_Check,(.pure [0] zai))]) zmd [0] ID.place_in
theorem zop:za6 Try.prog ID.place_in (.pure [0] zaZ):=zax (zaC [zc5]) zbw ⟨Try.f106,by kernel_rfl,by kernel_rfl,by kernel_rfl⟩
noncomputable def zhd:Fact Try.prog:=⟨ID.place_in,(.pure [0] zaZ),zop⟩
noncomputable def zlw (zai:List D→Option D) (a0_0:Int) (a0_1:Int) (a0_2:Int) (a1:Int):Option D:=
  zaw (zai [D.agg [D.int IntKind.i64 a0_0,D.int IntKind.i64 a0_1,D.int IntKind.i64 a0_2]]) fun r1=>
  asI IntKind.i64 r1 fun i2=>
  brK (i2 == (0:Int))
    (brK (decide (a1≥(0:Int)))
      (some (D.bool (decide (a1 < (16:Int)))))
      (some (D.bool false)))
    (some (D.bool false))
theorem zve (zai:List D→Option D) (a0_0:Int) (a0_1:Int) (a0_2:Int) (a1:Int):denP Try.prog (zay [(ID.geom_Check,(.pure [0] zai))]) zmd [0] ID.place_in [.agg [.int .i64 a0_0,.int .i64 a0_1,.int .i64 a0_2],.int .i64 a1]=zlw zai a0_0 a0_1 a0_2 a1:=by kernel_rfl
theorem zqA (a0_0:Int) (a0_1:Int) (a0_2:Int) (a1:Int):zaZ [.agg [.int .i64 a0_0,.int .i64 a0_1,.int .i64 a0_2],.int .i64 a1]=zlw zai a0_0 a0_1 a0_2 a1:=zve zai a0_0 a0_1 a0_2 a1
def zhu:Ann:={ loops:=[] }
noncomputable def zas:List D→Option D:=denP Try.prog (zay [(ID.place_in,(.pure [0] zaZ))]) zhu [0,0] ID.place_Parity
theorem zkO:za6 Try.prog ID.place_Parity (.pure [0,0] zas):=zax (zaC [zhd]) zbw ⟨Try.f88,by kernel_rfl,by kernel_rfl,by kernel_rfl⟩
noncomputable def zee:Fact Try.prog:=⟨ID.place_Parity,(.pure [0,0] zas),zkO⟩
noncomputable def zf8 (zaZ:List D→Option D) (a0_0:Int) (a0_1:Int) (a0_2:Int) (a1:Int):Option D:=
  zaw (zaZ [D.agg [D.int IntKind.i64 a0_0,D.int IntKind.i64 a0_1,D.int IntKind.i64 a0_2],D.int IntKind.i64 a1]) fun r1=>
  asB r1 fun b2=>
  brK (!b2)
    (some (D.tup [D.int IntKind.i64 (-1:Int),D.int IntKind.i64 (-1:Int)]))
    (letN (IntKind.wrap IntKind.i64 (a0_1 - (1:Int))) fun n3=>
    sif (a0_2≠(0:Int)) <|
    letN (IntKind.wrap IntKind.i64 (Int.tdiv a1 a0_2)) fun n4=>
    sif (a0_1≠(0:Int)) <|
    letN (Int.tmod n4 a0_1) fun n5=>
    letN (IntKind.wrap IntKind.i64 (n3 - n5)) fun n6=>
    brK (a0_0 == (5:Int))
      (some (D.tup [D.int IntKind.i64 n6,D.int IntKind.i64 (-1:Int)]))
      (letN (IntKind.wrap IntKind.i64 (n6+(1:Int))) fun n7=>
      sif (a0_1≠(0:Int)) <|
      letN (Int.tmod n7 a0_1) fun n8=>
      some (D.tup [D.int IntKind.i64 n6,D.int IntKind.i64 n8])))
theorem zoq (zaZ:List D→Option D) (a0_0:Int) (a0_1:Int) (a0_2:Int) (a1:Int):denP Try.prog (zay [(ID.place_in,(.pure [0] zaZ))]) zhu [0,0] ID.place_Parity [.agg [.int .i64 a0_0,.int .i64 a0_1,.int .i64 a0_2],.int .i64 a1]=zf8 zaZ a0_0 a0_1 a0_2 a1:=by kernel_rfl
theorem zlx (a0_0:Int) (a0_1:Int) (a0_2:Int) (a1:Int):zas [.agg [.int .i64 a0_0,.int .i64 a0_1,.int .i64 a0_2],.int .i64 a1]=zf8 zaZ a0_0 a0_1 a0_2 a1:=zoq zaZ a0_0 a0_1 a0_2 a1
def zjm:Ann:={ loops:=[] }
noncomputable def zaE:List D→Option D:=denP Try.prog (zay [(ID.place_in,(.pure [0] zaZ)),(ID.geom_Width,(.pure [0] zab)),(ID.place_Parity,(.pure [0,0] zas)),(ID.geom_Budget,(.pure [0] zaU))]) zjm [0] ID.place_Disk
theorem zmu:za6 Try.prog ID.place_Disk (.pure [0] zaE):=zax (zaC [zhd,zcb,zee,zht]) zbw ⟨Try.f104,by kernel_rfl,by kernel_rfl,by kernel_rfl⟩
noncomputable def zft:Fact Try.prog:=⟨ID.place_Disk,(.pure [0] zaE),zmu⟩
noncomputable def zio (zaZ:List D→Option D) (zab:List D→Option D) (zas:List D→Option D) (zaU:List D→Option D) (a0_0:Int) (a0_1:Int) (a0_2:Int) (a1:Int) (a2:Int):Option D:=
  zaw (zaZ [D.agg [D.int IntKind.i64 a0_0,D.int IntKind.i64 a0_1,D.int IntKind.i64 a0_2],D.int IntKind.i64 a1]) fun r1=>
  asB r1 fun b2=>
  brK (!b2)
    (some (D.int IntKind.i64 (-1:Int)))
    (brK (decide (a2 < (0:Int)))
      (some (D.int IntKind.i64 (-1:Int)))
      (zaw (zab [D.agg [D.int IntKind.i64 a0_0,D.int IntKind.i64 a0_1,D.int IntKind.i64 a0_2]]) fun r3=>
      asI IntKind.i64 r3 fun i4=>
      brK (decide (a2≥i4))
        (some (D.int IntKind.i64 (-1:Int)))
        (zaw (zas [D.agg [D.int IntKind.i64 a0_0,D.int IntKind.i64 a0_1,D.int IntKind.i64 a0_2],D.int IntKind.i64 a1]) fun r5=>
        zde r5 fun ts6=>
        zap ([Lf.any,Lf.any]) ts6 fun c7=>
        asI IntKind.i64 c7.fst fun i8=>
        asI IntKind.i64 c7.snd.fst fun i9=>
        zaw (zaU [D.agg [D.int IntKind.i64 a0_0,D.int IntKind.i64 a0_1,D.int IntKind.i64 a0_2]]) fun r10=>
        asI IntKind.i64 r10 fun i11=>
        letN (IntKind.wrap IntKind.i64 (i8+i11)) fun n12=>
        letN (IntKind.wrap IntKind.i64 (n12+a2)) fun n13=>
        sif (a0_1≠(0:Int)) <|
        letN (Int.tmod n13 a0_1) fun n14=>
        some (D.int IntKind.i64 n14))))
theorem zsa (zaZ:List D→Option D) (zab:List D→Option D) (zas:List D→Option D) (zaU:List D→Option D) (a0_0:Int) (a0_1:Int) (a0_2:Int) (a1:Int) (a2:Int):denP Try.prog (zay [(ID.place_in,(.pure [0] zaZ)),(ID.geom_Width,(.pure [0] zab)),(ID.place_Parity,(.pure [0,0] zas)),(ID.geom_Budget,(.pure [0] zaU))]) zjm [0] ID.place_Disk [.agg [.int .i64 a0_0,.int .i64 a0_1,.int .i64 a0_2],.int .i64 a1,.int .i64 a2]=zio zaZ zab zas zaU a0_0 a0_1 a0_2 a1 a2:=by kernel_rfl
theorem znW (a0_0:Int) (a0_1:Int) (a0_2:Int) (a1:Int) (a2:Int):zaE [.agg [.int .i64 a0_0,.int .i64 a0_1,.int .i64 a0_2],.int .i64 a1,.int .i64 a2]=zio zaZ zab zas zaU a0_0 a0_1 a0_2 a1 a2:=zsa zaZ zab zas zaU a0_0 a0_1 a0_2 a1 a2
def zgG:Ann:={ loops:=[(0,[.dead,.dead,.dead,.own 1,.dead,.dead,.val (.cell .lent),.val (.cell (.int .i64)),.val (.cell (.int .i64))])] }
noncomputable def zbc:List D→Option D:=denP Try.prog (zay []) zgG [1] ID.erase_Missing
theorem zjS:za6 Try.prog ID.erase_Missing (.pure [1] zbc):=zax (zaC []) zbw ⟨Try.f128,by kernel_rfl,by kernel_rfl,by kernel_rfl⟩
noncomputable def zkP:Fact Try.prog:=⟨ID.erase_Missing,(.pure [1] zbc),zjS⟩
noncomputable def zfu (a0:List D):Option D:=
  zcw (α:=(List D×List D×Int×Int×PUnit)×PUnit) (fun again1 ((l2,(l3,(i4,(i5,_)))),_)=>
    brK (decide (i5 < i4))
      (sif ((0:Int)≤i5) <|
      getK l3 (Int.toNat i5) fun d6=>
      asSl d6 fun t7 l8=>
      brK ((↑(List.length l8):Int) == (0:Int))
        (sif (List.length l2+(1:Nat)≤(4294967296:Nat)) <|
        sif (List.length l2=List.length l2) <|
        letN (IntKind.wrap IntKind.i64 (i5+(1:Int))) fun n9=>
        sif (List.length l2+(1:Nat)=List.length (l2++[D.int IntKind.i64 i5])) <|
        again1 (((l2++[D.int IntKind.i64 i5],l3,i4,n9,PUnit.unit),PUnit.unit)))
        (letN (IntKind.wrap IntKind.i64 (i5+(1:Int))) fun n10=>
        sif (List.length l2=List.length l2) <|
        again1 (((l2,l3,i4,n10,PUnit.unit),PUnit.unit))))
      (sif (List.length l2=List.length l2) <|
      sif (List.all l2 D.free=true) <|
      some (D.sl Tag.own l2)))
    ((([],a0,(↑(List.length a0):Int),(0:Int),PUnit.unit),PUnit.unit))
theorem znX (tga0:Tag) (a0:List D):denP Try.prog (zay []) zgG [1] ID.erase_Missing [.sl tga0 a0]=zfu (D.lentL a0):=by kernel_rfl
theorem zkQ (tga0:Tag) (a0:List D):zbc [.sl tga0 a0]=zfu (D.lentL a0):=znX tga0 a0
def zhv:Ann:={ loops:=[],hints:=[(1,.at1 (.int .i64))] }
noncomputable def zan:List D→Option D:=denP Try.prog (zay []) zhv [0] ID.erase_fits_1
theorem zkR:za6 Try.prog ID.erase_fits_1 (.pure [0] zan):=zax (zaC []) zbw ⟨Try.f140,by kernel_rfl,by kernel_rfl,by kernel_rfl⟩
noncomputable def zgH:Fact Try.prog:=⟨ID.erase_fits_1,(.pure [0] zan),zkR⟩
noncomputable def zf9 (a0:List D) (c0:Int):Option D:=
  brK (decide ((↑(List.length a0):Int) > (0:Int)))
    (some (D.bool ((↑(List.length a0):Int) != c0)))
    (some (D.bool false))
theorem zor (tga0:Tag) (a0:List D) (c0:Int):denP Try.prog (zay []) zhv [0] ID.erase_fits_1 [.sl tga0 a0,.at_ (.int .i64 c0)]=zf9 (D.lentL a0) c0:=by kernel_rfl
theorem zly (tga0:Tag) (a0:List D) (c0:Int):zan [.sl tga0 a0,.at_ (.int .i64 c0)]=zf9 (D.lentL a0) c0:=zor tga0 a0 c0
def zgI:Ann:={ loops:=[] }
noncomputable def zaf:List D→Option D:=denP Try.prog (zay []) zgI [0] ID.row_sectors_1
theorem zjT:za6 Try.prog ID.row_sectors_1 (.pure [0] zaf):=zax (zaC []) zbw ⟨Try.f135,by kernel_rfl,by kernel_rfl,by kernel_rfl⟩
noncomputable def zdZ:Fact Try.prog:=⟨ID.row_sectors_1,(.pure [0] zaf),zjT⟩
noncomputable def zfv (a0:List D):Option D:=
  some (D.bool ((↑(List.length a0):Int) != (32:Int)))
theorem znY (tga0:Tag) (a0:List D):denP Try.prog (zay []) zgI [0] ID.row_sectors_1 [.sl tga0 a0]=zfv (D.lentL a0):=by kernel_rfl
theorem zkS (tga0:Tag) (a0:List D):zaf [.sl tga0 a0]=zfv (D.lentL a0):=znY tga0 a0
def zbV:List (Nat×Ann):=[(140,{ loops:=[(0,[.val (.cell .lent),.val (.fn1 (140:FuncId) (.int .i64)),.dead,.dead,.dead,.dead,.dead,.val (.cell (.int .i64)),.val (.cell (.int .i64))])] }),(135,{ loops:=[(0,[.val (.cell .lent),.fnc 135,.dead,.dead,.dead,.dead,.dead,.val (.cell (.int .i64)),.val (.cell (.int .i64))])] })]
noncomputable def zac:List D→Option D:=denA Try.prog (zay [(ID.erase_fits_1,(.pure [0] zan)),(ID.row_sectors_1,(.pure [0] zaf))]) zbV [0] ID.slices_IndexFunc_byte_byte
theorem zd3:za6 Try.prog ID.slices_IndexFunc_byte_byte (.pure [0] zac):=zpi (zaC [zgH,zdZ]) zbw ⟨Try.f143,by kernel_rfl,by kernel_rfl,by kernel_rfl⟩
noncomputable def zef:Fact Try.prog:=⟨ID.slices_IndexFunc_byte_byte,(.pure [0] zac),zd3⟩
noncomputable def zbH (zan:List D→Option D) (zaf:List D→Option D) (a0:List D) (c0:Int):Option D:=
  zcw (α:=(List D×Int×Int×Int×PUnit)×PUnit) (fun again1 ((l2,(i3,(i4,(i5,_)))),_)=>
    brK (decide (i5 < i4))
      (sif ((0:Int)≤i5) <|
      getK l2 (Int.toNat i5) fun d6=>
      asSl d6 fun t7 l8=>
      zaw (zan [D.sl t7 l8,D.at_ (D.int IntKind.i64 i3)]) fun r9=>
      asB r9 fun b10=>
      brK b10
        (some (D.int IntKind.i64 i5))
        (letN (IntKind.wrap IntKind.i64 (i5+(1:Int))) fun n11=>
        again1 (((l2,i3,i4,n11,PUnit.unit),PUnit.unit))))
      (some (D.int IntKind.i64 (-1:Int))))
    (((a0,c0,(↑(List.length a0):Int),(0:Int),PUnit.unit),PUnit.unit))
theorem zdO (zan:List D→Option D) (zaf:List D→Option D) (tga0:Tag) (a0:List D) (c0:Int):denA Try.prog (zay [(ID.erase_fits_1,(.pure [0] zan)),(ID.row_sectors_1,(.pure [0] zaf))]) zbV [0] ID.slices_IndexFunc_byte_byte [.sl tga0 a0,.fn 140 [] [.at_ (.int .i64 c0)]]=zbH zan zaf (D.lentL a0) c0:=by kernel_rfl
theorem zdo (tga0:Tag) (a0:List D) (c0:Int):zac [.sl tga0 a0,.fn 140 [] [.at_ (.int .i64 c0)]]=zbH zan zaf (D.lentL a0) c0:=zdO zan zaf tga0 a0 c0
noncomputable def zbx (zan:List D→Option D) (zaf:List D→Option D) (a0:List D):Option D:=
  zcw (α:=(List D×Int×Int×PUnit)×PUnit) (fun again1 ((l2,(i3,(i4,_))),_)=>
    brK (decide (i4 < i3))
      (sif ((0:Int)≤i4) <|
      getK l2 (Int.toNat i4) fun d5=>
      asSl d5 fun t6 l7=>
      zaw (zaf [D.sl t6 l7]) fun r8=>
      asB r8 fun b9=>
      brK b9
        (some (D.int IntKind.i64 i4))
        (letN (IntKind.wrap IntKind.i64 (i4+(1:Int))) fun n10=>
        again1 (((l2,i3,n10,PUnit.unit),PUnit.unit))))
      (some (D.int IntKind.i64 (-1:Int))))
    (((a0,(↑(List.length a0):Int),(0:Int),PUnit.unit),PUnit.unit))
theorem zdp (zan:List D→Option D) (zaf:List D→Option D) (tga0:Tag) (a0:List D):denA Try.prog (zay [(ID.erase_fits_1,(.pure [0] zan)),(ID.row_sectors_1,(.pure [0] zaf))]) zbV [0] ID.slices_IndexFunc_byte_byte [.sl tga0 a0,.fn 135 [] []]=zbx zan zaf (D.lentL a0):=by kernel_rfl
theorem zcU (tga0:Tag) (a0:List D):zac [.sl tga0 a0,.fn 135 [] []]=zbx zan zaf (D.lentL a0):=zdp zan zaf tga0 a0
def zbK:Ann:={ loops:=[] }
noncomputable def zaa:List D→Option D:=denP Try.prog (zay [(ID.slices_IndexFunc_byte_byte,(.pure [0] zac)),(ID.erase_fits_1,(.pure [0] zan)),(ID.row_sectors_1,(.pure [0] zaf))]) zbK [0] ID.slices_ContainsFunc_byte_byte
theorem zdE:za6 Try.prog ID.slices_ContainsFunc_byte_byte (.pure [0] zaa):=zax (zaC [zef,zgH,zdZ]) zbw ⟨Try.f134,by kernel_rfl,by kernel_rfl,by kernel_rfl⟩
noncomputable def zce:Fact Try.prog:=⟨ID.slices_ContainsFunc_byte_byte,(.pure [0] zaa),zdE⟩
noncomputable def zby (zac:List D→Option D) (zan:List D→Option D) (zaf:List D→Option D) (a0:List D) (c0:Int):Option D:=
  zaw (zac [D.sl Tag.lent a0,D.fn (140:FuncId) [] [D.at_ (D.int IntKind.i64 c0)]]) fun r1=>
  asI IntKind.i64 r1 fun i2=>
  some (D.bool (decide (i2≥(0:Int))))
theorem zdq (zac:List D→Option D) (zan:List D→Option D) (zaf:List D→Option D) (tga0:Tag) (a0:List D) (c0:Int):denP Try.prog (zay [(ID.slices_IndexFunc_byte_byte,(.pure [0] zac)),(ID.erase_fits_1,(.pure [0] zan)),(ID.row_sectors_1,(.pure [0] zaf))]) zbK [0] ID.slices_ContainsFunc_byte_byte [.sl tga0 a0,.fn 140 [] [.at_ (.int .i64 c0)]]=zby zac zan zaf (D.lentL a0) c0:=by kernel_rfl
theorem zcV (tga0:Tag) (a0:List D) (c0:Int):zaa [.sl tga0 a0,.fn 140 [] [.at_ (.int .i64 c0)]]=zby zac zan zaf (D.lentL a0) c0:=zdq zac zan zaf tga0 a0 c0
noncomputable def zbo (zac:List D→Option D) (zan:List D→Option D) (zaf:List D→Option D) (a0:List D):Option D:=
  zaw (zac [D.sl Tag.lent a0,D.fn (135:FuncId) [] []]) fun r1=>
  asI IntKind.i64 r1 fun i2=>
  some (D.bool (decide (i2≥(0:Int))))
theorem zcW (zac:List D→Option D) (zan:List D→Option D) (zaf:List D→Option D) (tga0:Tag) (a0:List D):denP Try.prog (zay [(ID.slices_IndexFunc_byte_byte,(.pure [0] zac)),(ID.erase_fits_1,(.pure [0] zan)),(ID.row_sectors_1,(.pure [0] zaf))]) zbK [0] ID.slices_ContainsFunc_byte_byte [.sl tga0 a0,.fn 135 [] []]=zbo zac zan zaf (D.lentL a0):=by kernel_rfl
theorem zcB (tga0:Tag) (a0:List D):zaa [.sl tga0 a0,.fn 135 [] []]=zbo zac zan zaf (D.lentL a0):=zcW zac zan zaf tga0 a0
def zjn:Ann:={ loops:=[] }
noncomputable def zbB:List D→Option D:=denP Try.prog (zay [(ID.slices_ContainsFunc_byte_byte,(.pure [0] zaa))]) zjn [0] ID.erase_fits
theorem zmv:za6 Try.prog ID.erase_fits (.pure [0] zbB):=zax (zaC [zce]) zbw ⟨Try.f129,by kernel_rfl,by kernel_rfl,by kernel_rfl⟩
noncomputable def znZ:Fact Try.prog:=⟨ID.erase_fits,(.pure [0] zbB),zmv⟩
noncomputable def ziq (zaa:List D→Option D) (a0:Int) (a1:List D):Option D:=
  zaw (zaa [D.sl Tag.lent a1,D.fn (140:Nat) [] [D.at_ (D.int IntKind.i64 a0)]]) fun r1=>
  asB r1 fun b2=>
  some (D.bool !b2)
theorem zsb (zaa:List D→Option D) (tga1:Tag) (a0:Int) (a1:List D):denP Try.prog (zay [(ID.slices_ContainsFunc_byte_byte,(.pure [0] zaa))]) zjn [0] ID.erase_fits [.int .i64 a0,.sl tga1 a1]=ziq zaa a0 (D.lentL a1):=by kernel_rfl
theorem zn0 (tga1:Tag) (a0:Int) (a1:List D):zbB [.int .i64 a0,.sl tga1 a1]=ziq zaa a0 (D.lentL a1):=zsb zaa tga1 a0 a1
def zhw:Ann:={ loops:=[(0,[.val (.cell (.int .i64)),.dead,.dead,.dead,.dead,.own 1,.dead,.dead,.dead,.val (.cell .lent),.val (.cell (.int .i64)),.val (.cell (.int .i64))])] }
noncomputable def zbl:List D→Option D:=denP Try.prog (zay []) zhw [1] ID.erase_filled
theorem zkT:za6 Try.prog ID.erase_filled (.pure [1] zbl):=zax (zaC []) zbw ⟨Try.f130,by kernel_rfl,by kernel_rfl,by kernel_rfl⟩
noncomputable def zlz:Fact Try.prog:=⟨ID.erase_filled,(.pure [1] zbl),zkT⟩
noncomputable def zga (a0:Int) (a1:List D):Option D:=
  zcw (α:=(Int×List D×List D×Int×Int×PUnit)×PUnit) (fun again1 ((i2,(l3,(l4,(i5,(i6,_))))),_)=>
    brK (decide (i6 < i5))
      (sif ((0:Int)≤i6) <|
      getK l4 (Int.toNat i6) fun d7=>
      asSl d7 fun t8 l9=>
      sif ((0:Int)≤i2) <|
      sif (i2=i2) <|
      sif (i2*(1:Int)≤(140737488355328:Int)) <|
      sif (i2≤(140737488355328:Int)) <|
      sif ((0:Nat)+Int.toNat i2≤List.length (List.replicate (Int.toNat i2) (D.int IntKind.u8 (0:Int)))) <|
      sif (cells l9=true) <|
      sif ((0:Nat)+Int.toNat i2≤List.length ([]++List.take (Int.toNat i2) l9++List.drop ((0:Nat)+List.length (List.take (Int.toNat i2) l9)) (List.replicate (Int.toNat i2) (D.int IntKind.u8 (0:Int))))) <|
      sif (List.length l3+(1:Nat)≤(4294967296:Nat)) <|
      sif (List.length l3=List.length l3) <|
      letN (IntKind.wrap IntKind.i64 (i6+(1:Int))) fun n10=>
      sif (List.length l3+(1:Nat)=List.length (l3++[D.sl Tag.fresh (cut (0:Nat) (Int.toNat i2) ([]++List.take (Int.toNat i2) l9++List.drop ((0:Nat)+List.length (List.take (Int.toNat i2) l9)) (List.replicate (Int.toNat i2) (D.int IntKind.u8 (0:Int)))))])) <|
      again1 (((i2,l3++[D.sl Tag.fresh (cut (0:Nat) (Int.toNat i2) ([]++List.take (Int.toNat i2) l9++List.drop ((0:Nat)+List.length (List.take (Int.toNat i2) l9)) (List.replicate (Int.toNat i2) (D.int IntKind.u8 (0:Int)))))],l4,i5,n10,PUnit.unit),PUnit.unit)))
      (sif (List.length l3=List.length l3) <|
      sif (List.all l3 D.free=true) <|
      some (D.sl Tag.own l3)))
    (((a0,[],a1,(↑(List.length a1):Int),(0:Int),PUnit.unit),PUnit.unit))
theorem zos (tga1:Tag) (a0:Int) (a1:List D):denP Try.prog (zay []) zhw [1] ID.erase_filled [.int .i64 a0,.sl tga1 a1]=zga a0 (D.lentL a1):=by kernel_rfl
theorem zlA (tga1:Tag) (a0:Int) (a1:List D):zbl [.int .i64 a0,.sl tga1 a1]=zga a0 (D.lentL a1):=zos tga1 a0 a1
def zkU:Ann:={ loops:=[] }
noncomputable def zaN:List D→Option D:=denP Try.prog (zay []) zkU [0] ID.gf_double
theorem zn1:za6 Try.prog ID.gf_double (.pure [0] zaN):=zax (zaC []) zbw ⟨Try.f144,by kernel_rfl,by kernel_rfl,by kernel_rfl⟩
noncomputable def zgb:Fact Try.prog:=⟨ID.gf_double,(.pure [0] zaN),zn1⟩
noncomputable def zjU (a0:Int):Option D:=
  brK (decide (a0≥(128:Int)))
    (letN (IntKind.wrap IntKind.u8 (a0*(2:Int))) fun n1=>
    letN (bits BinOp.xor IntKind.u8 n1 (29:Int)) fun n2=>
    some (D.int IntKind.u8 n2))
    (letN (IntKind.wrap IntKind.u8 (a0*(2:Int))) fun n3=>
    some (D.int IntKind.u8 n3))
theorem zth (a0:Int):denP Try.prog (zay []) zkU [0] ID.gf_double [.int .u8 a0]=zjU a0:=by kernel_rfl
theorem zot (a0:Int):zaN [.int .u8 a0]=zjU a0:=zth a0
def zpu:Ann:={ loops:=[(0,[.val (.cell (.int .u8)),.val (.cell (.int .u8)),.dead,.dead,.dead,.val (.cell (.int .u8))])] }
noncomputable def zdx:List D→Option D:=denP Try.prog (zay [(ID.gf_double,(.pure [0] zaN))]) zpu [0] ID.gf_Mul
theorem zsc:za6 Try.prog ID.gf_Mul (.pure [0] zdx):=zax (zaC [zgb]) zbw ⟨Try.f146,by kernel_rfl,by kernel_rfl,by kernel_rfl⟩
noncomputable def zti:Fact Try.prog:=⟨ID.gf_Mul,(.pure [0] zdx),zsc⟩
noncomputable def zqB (zaN:List D→Option D) (a0:Int) (a1:Int):Option D:=
  zcw (α:=(Int×Int×Int×PUnit)×PUnit) (fun again1 ((i2,(i3,(i4,_))),_)=>
    brK (decide (i3 > (0:Int)))
      (letN (bits BinOp.and IntKind.u8 i3 (1:Int)) fun n5=>
      brK (n5 == (1:Int))
        (letN (bits BinOp.xor IntKind.u8 i4 i2) fun n6=>
        zaw (zaN [D.int IntKind.u8 i2]) fun r7=>
        asI IntKind.u8 r7 fun i8=>
        letN (Int.fdiv i3 (2:Int)) fun n9=>
        again1 (((i8,n9,n6,PUnit.unit),PUnit.unit)))
        (zaw (zaN [D.int IntKind.u8 i2]) fun r10=>
        asI IntKind.u8 r10 fun i11=>
        letN (Int.fdiv i3 (2:Int)) fun n12=>
        again1 (((i11,n12,i4,PUnit.unit),PUnit.unit))))
      (some (D.int IntKind.u8 i4)))
    (((a0,a1,(0:Int),PUnit.unit),PUnit.unit))
theorem zyn (zaN:List D→Option D) (a0:Int) (a1:Int):denP Try.prog (zay [(ID.gf_double,(.pure [0] zaN))]) zpu [0] ID.gf_Mul [.int .u8 a0,.int .u8 a1]=zqB zaN a0 a1:=by kernel_rfl
theorem ztj (a0:Int) (a1:Int):zdx [.int .u8 a0,.int .u8 a1]=zqB zaN a0 a1:=zyn zaN a0 a1
def zjo:Ann:={ loops:=[(0,[.dead,.val (.cell (.int .u8)),.dead,.dead,.dead,.own 1,.dead,.dead,.val (.cell .lent),.val (.cell (.int .i64)),.val (.cell (.int .i64))])] }
noncomputable def zar:List D→Option D:=denP Try.prog (zay [(ID.gf_Mul,(.pure [0] zdx))]) zjo [1] ID.synd_Scale
theorem zmw:za6 Try.prog ID.synd_Scale (.pure [1] zar):=zax (zaC [zti]) zbw ⟨Try.f142,by kernel_rfl,by kernel_rfl,by kernel_rfl⟩
noncomputable def zfw:Fact Try.prog:=⟨ID.synd_Scale,(.pure [1] zar),zmw⟩
noncomputable def zir (zdx:List D→Option D) (a0:List D) (a1:Int):Option D:=
  zcw (α:=(Int×List D×List D×Int×Int×PUnit)×PUnit) (fun again1 ((i2,(l3,(l4,(i5,(i6,_))))),_)=>
    brK (decide (i6 < i5))
      (sif ((0:Int)≤i6) <|
      getK l4 (Int.toNat i6) fun d7=>
      asI IntKind.u8 d7 fun i8=>
      zaw (zdx [D.int IntKind.u8 i8,D.int IntKind.u8 i2]) fun r9=>
      asI IntKind.u8 r9 fun i10=>
      sif (List.length l3+(1:Nat)≤(4294967296:Nat)) <|
      sif (List.length l3=List.length l3) <|
      letN (IntKind.wrap IntKind.i64 (i6+(1:Int))) fun n11=>
      sif (List.length l3+(1:Nat)=List.length (l3++[D.int IntKind.u8 i10])) <|
      again1 (((i2,l3++[D.int IntKind.u8 i10],l4,i5,n11,PUnit.unit),PUnit.unit)))
      (sif (List.length l3=List.length l3) <|
      sif (List.all l3 D.free=true) <|
      some (D.sl Tag.own l3)))
    (((a1,[],a0,(↑(List.length a0):Int),(0:Int),PUnit.unit),PUnit.unit))
theorem zsd (zdx:List D→Option D) (tga0:Tag) (a0:List D) (a1:Int):denP Try.prog (zay [(ID.gf_Mul,(.pure [0] zdx))]) zjo [1] ID.synd_Scale [.sl tga0 a0,.int .u8 a1]=zir zdx (D.lentL a0) a1:=by kernel_rfl
theorem zn2 (tga0:Tag) (a0:List D) (a1:Int):zar [.sl tga0 a0,.int .u8 a1]=zir zdx (D.lentL a0) a1:=zsd zdx tga0 a0 a1
def zme:Ann:={ loops:=[(1,[.dead,.val (.cell .lent),.dead,.dead,.dead,.own 1,.dead,.dead,.dead,.dead,.dead,.dead,.dead,.val (.cell .lent),.val (.cell (.int .i64)),.val (.cell (.int .i64))])] }
noncomputable def zat:List D→Option D:=denP Try.prog (zay []) zme [1] ID.synd_Add
theorem zou:za6 Try.prog ID.synd_Add (.pure [1] zat):=zax (zaC []) zbw ⟨Try.f132,by kernel_rfl,by kernel_rfl,by kernel_rfl⟩
noncomputable def ze4:Fact Try.prog:=⟨ID.synd_Add,(.pure [1] zat),zou⟩
noncomputable def zlB (a0:List D) (a1:List D):Option D:=
  brK ((↑(List.length a0):Int) != (↑(List.length a1):Int))
    (some (D.sl Tag.own []))
    (zcw (α:=(List D×List D×List D×Int×Int×PUnit)×PUnit) (fun again1 ((l2,(l3,(l4,(i5,(i6,_))))),_)=>
      brK (decide (i6 < i5))
        (sif ((0:Int)≤i6) <|
        getK l4 (Int.toNat i6) fun d7=>
        asI IntKind.u8 d7 fun i8=>
        sif ((0:Int)≤i6) <|
        getK l2 (Int.toNat i6) fun d9=>
        asI IntKind.u8 d9 fun i10=>
        letN (bits BinOp.xor IntKind.u8 i8 i10) fun n11=>
        sif (List.length l3+(1:Nat)≤(4294967296:Nat)) <|
        sif (List.length l3=List.length l3) <|
        letN (IntKind.wrap IntKind.i64 (i6+(1:Int))) fun n12=>
        sif (List.length l3+(1:Nat)=List.length (l3++[D.int IntKind.u8 n11])) <|
        again1 (((l2,l3++[D.int IntKind.u8 n11],l4,i5,n12,PUnit.unit),PUnit.unit)))
        (sif (List.length l3=List.length l3) <|
        sif (List.all l3 D.free=true) <|
        some (D.sl Tag.own l3)))
      (((a1,[],a0,(↑(List.length a0):Int),(0:Int),PUnit.unit),PUnit.unit)))
theorem zvf (tga0:Tag) (tga1:Tag) (a0:List D) (a1:List D):denP Try.prog (zay []) zme [1] ID.synd_Add [.sl tga0 a0,.sl tga1 a1]=zlB (D.lentL a0) (D.lentL a1):=by kernel_rfl
theorem zqC (tga0:Tag) (tga1:Tag) (a0:List D) (a1:List D):zat [.sl tga0 a0,.sl tga1 a1]=zlB (D.lentL a0) (D.lentL a1):=zvf tga0 tga1 a0 a1
def zpv:Ann:={ loops:=[(0,[.dead,.dead,.dead,.val (.cell (.int .u8)),.dead,.dead,.dead,.val (.cell (.int .i64)),.val (.cell (.int .i64))])] }
noncomputable def zaF:List D→Option D:=denP Try.prog (zay [(ID.gf_double,(.pure [0] zaN))]) zpv [0] ID.gf_Pow
theorem zse:za6 Try.prog ID.gf_Pow (.pure [0] zaF):=zax (zaC [zgb]) zbw ⟨Try.f138,by kernel_rfl,by kernel_rfl,by kernel_rfl⟩
noncomputable def zfx:Fact Try.prog:=⟨ID.gf_Pow,(.pure [0] zaF),zse⟩
noncomputable def zmO (zaN:List D→Option D) (a0:Int):Option D:=
  letN (Int.tmod a0 (255:Int)) fun n1=>
  letN (IntKind.wrap IntKind.i64 (n1+(255:Int))) fun n2=>
  letN (Int.tmod n2 (255:Int)) fun n3=>
  zcw (α:=(Int×Int×Int×PUnit)×PUnit) (fun again4 ((i5,(i6,(i7,_))),_)=>
    brK (decide (i7 < i6))
      (zaw (zaN [D.int IntKind.u8 i5]) fun r8=>
      asI IntKind.u8 r8 fun i9=>
      letN (IntKind.wrap IntKind.i64 (i7+(1:Int))) fun n10=>
      again4 (((i9,i6,n10,PUnit.unit),PUnit.unit)))
      (some (D.int IntKind.u8 i5)))
    ((((1:Int),n3,(0:Int),PUnit.unit),PUnit.unit))
theorem zyo (zaN:List D→Option D) (a0:Int):denP Try.prog (zay [(ID.gf_double,(.pure [0] zaN))]) zpv [0] ID.gf_Pow [.int .i64 a0]=zmO zaN a0:=by kernel_rfl
theorem zn3 (a0:Int):zaF [.int .i64 a0]=zmO zaN a0:=zyo zaN a0
def zmf:Ann:={ loops:=[] }
noncomputable def za8:List D→Option D:=denP Try.prog (zay []) zmf [0] ID.synd_P_1
theorem zov:za6 Try.prog ID.synd_P_1 (.pure [0] za8):=zax (zaC []) zbw ⟨Try.f137,by kernel_rfl,by kernel_rfl,by kernel_rfl⟩
noncomputable def zkV:Fact Try.prog:=⟨ID.synd_P_1,(.pure [0] za8),zov⟩
noncomputable def zpw (a0:Int):Option D:=
  some (D.int IntKind.u8 (1:Int))
theorem zvg (a0:Int):denP Try.prog (zay []) zmf [0] ID.synd_P_1 [.int .i64 a0]=zpw a0:=by kernel_rfl
theorem zqD (a0:Int):za8 [.int .i64 a0]=zpw a0:=zvg a0
def zis:List (Nat×Ann):=[(137,{ loops:=[(1,[.dead,.fnc 137,.dead,.dead,.dead,.own 1,.dead,.dead,.dead,.dead,.dead,.dead,.dead,.dead,.dead,.dead,.val (.cell .lent),.val (.cell (.int .i64)),.val (.cell (.int .i64))])] }),(138,{ loops:=[(1,[.dead,.fnc 138,.dead,.dead,.dead,.own 1,.dead,.dead,.dead,.dead,.dead,.dead,.dead,.dead,.dead,.dead,.val (.cell .lent),.val (.cell (.int .i64)),.val (.cell (.int .i64))])] })]
noncomputable def zbj:List D→Option D:=denA Try.prog (zay [(ID.synd_Scale,(.pure [1] zar)),(ID.synd_Add,(.pure [1] zat)),(ID.gf_Pow,(.pure [0] zaF)),(ID.synd_P_1,(.pure [0] za8))]) zis [1] ID.synd_sum
theorem zow:za6 Try.prog ID.synd_sum (.pure [1] zbj):=zpi (zaC [zfw,ze4,zfx,zkV]) zbw ⟨Try.f136,by kernel_rfl,by kernel_rfl,by kernel_rfl⟩
noncomputable def zkW:Fact Try.prog:=⟨ID.synd_sum,(.pure [1] zbj),zow⟩
noncomputable def zhe (zar:List D→Option D) (zat:List D→Option D) (zaF:List D→Option D) (za8:List D→Option D) (a0:List D):Option D:=
  brK ((↑(List.length a0):Int) == (0:Int))
    (some (D.sl Tag.own []))
    (getK a0 ((0:Nat)) fun d1=>
    asSl d1 fun t2 l3=>
    sif ((↑(List.length l3):Int)=(↑(List.length l3):Int)) <|
    sif ((↑(List.length l3):Int)*(1:Int)≤(140737488355328:Int)) <|
    sif ((↑(List.length l3):Int)≤(140737488355328:Int)) <|
    sif (Int.toNat (↑(List.length l3):Int)=List.length (List.replicate (Int.toNat (↑(List.length l3):Int)) (D.int IntKind.u8 (0:Int)))) <|
    zcw (α:=(List D×List D×Int×Int×PUnit)×PUnit) (fun again4 ((l5,(l6,(i7,(i8,_)))),_)=>
      brK (decide (i8 < i7))
        (sif ((0:Int)≤i8) <|
        getK l6 (Int.toNat i8) fun d9=>
        asSl d9 fun t10 l11=>
        sif ((0:Nat)+List.length l5≤List.length l5) <|
        brK ((↑(List.length l11):Int) != (↑(List.length l5):Int))
          (some (D.sl Tag.own []))
          (zaw (za8 [D.int IntKind.i64 i8]) fun r12=>
          asI IntKind.u8 r12 fun i13=>
          zaw (zar [D.sl t10 l11,D.int IntKind.u8 i13]) fun r14=>
          za7 r14 fun l15=>
          sif ((0:Nat)+List.length l5≤List.length l5) <|
          sif ((0:Nat)+List.length l15≤List.length l15) <|
          zaw (zat [D.sl Tag.lent (cut (0:Nat) (List.length l5) l5),D.sl Tag.lent (cut (0:Nat) (List.length l15) l15)]) fun r16=>
          za7 r16 fun l17=>
          letN (IntKind.wrap IntKind.i64 (i8+(1:Int))) fun n18=>
          sif (List.length l17=List.length l17) <|
          again4 (((l17,l6,i7,n18,PUnit.unit),PUnit.unit))))
        (sif (List.length l5=List.length l5) <|
        sif (List.all l5 D.free=true) <|
        some (D.sl Tag.own l5)))
      (((List.replicate (Int.toNat (↑(List.length l3):Int)) (D.int IntKind.u8 (0:Int)),a0,(↑(List.length a0):Int),(0:Int),PUnit.unit),PUnit.unit)))
theorem zqE (zar:List D→Option D) (zat:List D→Option D) (zaF:List D→Option D) (za8:List D→Option D) (tga0:Tag) (a0:List D):denA Try.prog (zay [(ID.synd_Scale,(.pure [1] zar)),(ID.synd_Add,(.pure [1] zat)),(ID.gf_Pow,(.pure [0] zaF)),(ID.synd_P_1,(.pure [0] za8))]) zis [1] ID.synd_sum [.sl tga0 a0,.fn 137 [] []]=zhe zar zat zaF za8 (D.lentL a0):=by kernel_rfl
theorem zmx (tga0:Tag) (a0:List D):zbj [.sl tga0 a0,.fn 137 [] []]=zhe zar zat zaF za8 (D.lentL a0):=zqE zar zat zaF za8 tga0 a0
noncomputable def zhf (zar:List D→Option D) (zat:List D→Option D) (zaF:List D→Option D) (za8:List D→Option D) (a0:List D):Option D:=
  brK ((↑(List.length a0):Int) == (0:Int))
    (some (D.sl Tag.own []))
    (getK a0 ((0:Nat)) fun d1=>
    asSl d1 fun t2 l3=>
    sif ((↑(List.length l3):Int)=(↑(List.length l3):Int)) <|
    sif ((↑(List.length l3):Int)*(1:Int)≤(140737488355328:Int)) <|
    sif ((↑(List.length l3):Int)≤(140737488355328:Int)) <|
    sif (Int.toNat (↑(List.length l3):Int)=List.length (List.replicate (Int.toNat (↑(List.length l3):Int)) (D.int IntKind.u8 (0:Int)))) <|
    zcw (α:=(List D×List D×Int×Int×PUnit)×PUnit) (fun again4 ((l5,(l6,(i7,(i8,_)))),_)=>
      brK (decide (i8 < i7))
        (sif ((0:Int)≤i8) <|
        getK l6 (Int.toNat i8) fun d9=>
        asSl d9 fun t10 l11=>
        sif ((0:Nat)+List.length l5≤List.length l5) <|
        brK ((↑(List.length l11):Int) != (↑(List.length l5):Int))
          (some (D.sl Tag.own []))
          (zaw (zaF [D.int IntKind.i64 i8]) fun r12=>
          asI IntKind.u8 r12 fun i13=>
          zaw (zar [D.sl t10 l11,D.int IntKind.u8 i13]) fun r14=>
          za7 r14 fun l15=>
          sif ((0:Nat)+List.length l5≤List.length l5) <|
          sif ((0:Nat)+List.length l15≤List.length l15) <|
          zaw (zat [D.sl Tag.lent (cut (0:Nat) (List.length l5) l5),D.sl Tag.lent (cut (0:Nat) (List.length l15) l15)]) fun r16=>
          za7 r16 fun l17=>
          letN (IntKind.wrap IntKind.i64 (i8+(1:Int))) fun n18=>
          sif (List.length l17=List.length l17) <|
          again4 (((l17,l6,i7,n18,PUnit.unit),PUnit.unit))))
        (sif (List.length l5=List.length l5) <|
        sif (List.all l5 D.free=true) <|
        some (D.sl Tag.own l5)))
      (((List.replicate (Int.toNat (↑(List.length l3):Int)) (D.int IntKind.u8 (0:Int)),a0,(↑(List.length a0):Int),(0:Int),PUnit.unit),PUnit.unit)))
theorem zqF (zar:List D→Option D) (zat:List D→Option D) (zaF:List D→Option D) (za8:List D→Option D) (tga0:Tag) (a0:List D):denA Try.prog (zay [(ID.synd_Scale,(.pure [1] zar)),(ID.synd_Add,(.pure [1] zat)),(ID.gf_Pow,(.pure [0] zaF)),(ID.synd_P_1,(.pure [0] za8))]) zis [1] ID.synd_sum [.sl tga0 a0,.fn 138 [] []]=zhf zar zat zaF za8 (D.lentL a0):=by kernel_rfl
theorem zmy (tga0:Tag) (a0:List D):zbj [.sl tga0 a0,.fn 138 [] []]=zhf zar zat zaF za8 (D.lentL a0):=zqF zar zat zaF za8 tga0 a0
def zpx:Ann:={ loops:=[] }
noncomputable def zbp:List D→Option D:=denP Try.prog (zay [(ID.synd_sum,(.pure [1] zbj)),(ID.synd_P_1,(.pure [0] za8))]) zpx [1] ID.synd_P
theorem zsf:za6 Try.prog ID.synd_P (.pure [1] zbp):=zax (zaC [zkW,zkV]) zbw ⟨Try.f110,by kernel_rfl,by kernel_rfl,by kernel_rfl⟩
noncomputable def zjV:Fact Try.prog:=⟨ID.synd_P,(.pure [1] zbp),zsf⟩
noncomputable def zqG (zbj:List D→Option D) (za8:List D→Option D) (a0:List D):Option D:=
  zaw (zbj [D.sl Tag.lent a0,D.fn (137:Nat) [] []]) fun r1=>
  za7 r1 fun l2=>
  sif (List.length l2=List.length l2) <|
  sif (List.all l2 D.free=true) <|
  some (D.sl Tag.own l2)
theorem zyp (zbj:List D→Option D) (za8:List D→Option D) (tga0:Tag) (a0:List D):denP Try.prog (zay [(ID.synd_sum,(.pure [1] zbj)),(ID.synd_P_1,(.pure [0] za8))]) zpx [1] ID.synd_P [.sl tga0 a0]=zqG zbj za8 (D.lentL a0):=by kernel_rfl
theorem ztk (tga0:Tag) (a0:List D):zbp [.sl tga0 a0]=zqG zbj za8 (D.lentL a0):=zyp zbj za8 tga0 a0
def zpy:Ann:={ loops:=[] }
noncomputable def zbq:List D→Option D:=denP Try.prog (zay [(ID.synd_sum,(.pure [1] zbj)),(ID.gf_Pow,(.pure [0] zaF))]) zpy [1] ID.synd_Q
theorem zsg:za6 Try.prog ID.synd_Q (.pure [1] zbq):=zax (zaC [zkW,zfx]) zbw ⟨Try.f111,by kernel_rfl,by kernel_rfl,by kernel_rfl⟩
noncomputable def zjW:Fact Try.prog:=⟨ID.synd_Q,(.pure [1] zbq),zsg⟩
noncomputable def zqH (zbj:List D→Option D) (zaF:List D→Option D) (a0:List D):Option D:=
  zaw (zbj [D.sl Tag.lent a0,D.fn (138:Nat) [] []]) fun r1=>
  za7 r1 fun l2=>
  sif (List.length l2=List.length l2) <|
  sif (List.all l2 D.free=true) <|
  some (D.sl Tag.own l2)
theorem zyq (zbj:List D→Option D) (zaF:List D→Option D) (tga0:Tag) (a0:List D):denP Try.prog (zay [(ID.synd_sum,(.pure [1] zbj)),(ID.gf_Pow,(.pure [0] zaF))]) zpy [1] ID.synd_Q [.sl tga0 a0]=zqH zbj zaF (D.lentL a0):=by kernel_rfl
theorem ztl (tga0:Tag) (a0:List D):zbq [.sl tga0 a0]=zqH zbj zaF (D.lentL a0):=zyq zbj zaF tga0 a0
def zpz:Ann:={ loops:=[(0,[.val (.cell (.int .u8)),.dead,.dead,.val (.cell (.int .u8)),.dead,.val (.cell (.int .i64))])] }
noncomputable def zdy:List D→Option D:=denP Try.prog (zay [(ID.gf_double,(.pure [0] zaN))]) zpz [0] ID.gf_Log
theorem zsh:za6 Try.prog ID.gf_Log (.pure [0] zdy):=zax (zaC [zgb]) zbw ⟨Try.f145,by kernel_rfl,by kernel_rfl,by kernel_rfl⟩
noncomputable def ztm:Fact Try.prog:=⟨ID.gf_Log,(.pure [0] zdy),zsh⟩
noncomputable def zqI (zaN:List D→Option D) (a0:Int):Option D:=
  zcw (α:=(Int×Int×Int×PUnit)×PUnit) (fun again1 ((i2,(i3,(i4,_))),_)=>
    brK (decide (i4 < (255:Int)))
      (brK (i3 == i2)
        (some (D.int IntKind.i64 i4))
        (zaw (zaN [D.int IntKind.u8 i3]) fun r5=>
        asI IntKind.u8 r5 fun i6=>
        letN (IntKind.wrap IntKind.i64 (i4+(1:Int))) fun n7=>
        again1 (((i2,i6,n7,PUnit.unit),PUnit.unit))))
      (some (D.int IntKind.i64 (-1:Int))))
    (((a0,(1:Int),(0:Int),PUnit.unit),PUnit.unit))
theorem zyr (zaN:List D→Option D) (a0:Int):denP Try.prog (zay [(ID.gf_double,(.pure [0] zaN))]) zpz [0] ID.gf_Log [.int .u8 a0]=zqI zaN a0:=by kernel_rfl
theorem ztn (a0:Int):zdy [.int .u8 a0]=zqI zaN a0:=zyr zaN a0
def zpA:Ann:={ loops:=[] }
noncomputable def zb0:List D→Option D:=denP Try.prog (zay [(ID.gf_Log,(.pure [0] zdy)),(ID.gf_Pow,(.pure [0] zaF))]) zpA [0] ID.gf_Inv
theorem zsi:za6 Try.prog ID.gf_Inv (.pure [0] zb0):=zax (zaC [ztm,zfx]) zbw ⟨Try.f141,by kernel_rfl,by kernel_rfl,by kernel_rfl⟩
noncomputable def zn4:Fact Try.prog:=⟨ID.gf_Inv,(.pure [0] zb0),zsi⟩
noncomputable def zqJ (zdy:List D→Option D) (zaF:List D→Option D) (a0:Int):Option D:=
  brK (a0 == (0:Int))
    (some (D.int IntKind.u8 (0:Int)))
    (zaw (zdy [D.int IntKind.u8 a0]) fun r1=>
    asI IntKind.i64 r1 fun i2=>
    letN (IntKind.wrap IntKind.i64 ((255:Int) - i2)) fun n3=>
    zaw (zaF [D.int IntKind.i64 n3]) fun r4=>
    asI IntKind.u8 r4 fun i5=>
    some (D.int IntKind.u8 i5))
theorem zys (zdy:List D→Option D) (zaF:List D→Option D) (a0:Int):denP Try.prog (zay [(ID.gf_Log,(.pure [0] zdy)),(ID.gf_Pow,(.pure [0] zaF))]) zpA [0] ID.gf_Inv [.int .u8 a0]=zqJ zdy zaF a0:=by kernel_rfl
theorem zto (a0:Int):zb0 [.int .u8 a0]=zqJ zdy zaF a0:=zys zdy zaF a0
def zkX:Ann:={ loops:=[] }
noncomputable def zb2:List D→Option D:=denP Try.prog (zay [(ID.synd_P,(.pure [1] zbp)),(ID.synd_Add,(.pure [1] zat)),(ID.synd_Q,(.pure [1] zbq)),(ID.gf_Pow,(.pure [0] zaF)),(ID.gf_Inv,(.pure [0] zb0)),(ID.synd_Scale,(.pure [1] zar))]) zkX [1,1] ID.erase_two
theorem zn5:za6 Try.prog ID.erase_two (.pure [1,1] zb2):=zax (zaC [zjV,ze4,zjW,zfx,zn4,zfw]) zbw ⟨Try.f131,by kernel_rfl,by kernel_rfl,by kernel_rfl⟩
noncomputable def zox:Fact Try.prog:=⟨ID.erase_two,(.pure [1,1] zb2),zn5⟩
noncomputable def zjX (zbp:List D→Option D) (zat:List D→Option D) (zbq:List D→Option D) (zaF:List D→Option D) (zb0:List D→Option D) (zar:List D→Option D) (a0:List D) (a1:List D) (a2:List D) (a3:Int) (a4:Int):Option D:=
  zaw (zbp [D.sl Tag.lent a2]) fun r1=>
  za7 r1 fun l2=>
  sif ((0:Nat)+List.length l2≤List.length l2) <|
  zaw (zat [D.sl Tag.lent a0,D.sl Tag.lent (cut (0:Nat) (List.length l2) l2)]) fun r3=>
  za7 r3 fun l4=>
  zaw (zbq [D.sl Tag.lent a2]) fun r5=>
  za7 r5 fun l6=>
  sif ((0:Nat)+List.length l6≤List.length l6) <|
  zaw (zat [D.sl Tag.lent a1,D.sl Tag.lent (cut (0:Nat) (List.length l6) l6)]) fun r7=>
  za7 r7 fun l8=>
  zaw (zaF [D.int IntKind.i64 a3]) fun r9=>
  asI IntKind.u8 r9 fun i10=>
  zaw (zaF [D.int IntKind.i64 a4]) fun r11=>
  asI IntKind.u8 r11 fun i12=>
  letN (bits BinOp.xor IntKind.u8 i10 i12) fun n13=>
  zaw (zb0 [D.int IntKind.u8 n13]) fun r14=>
  asI IntKind.u8 r14 fun i15=>
  zaw (zaF [D.int IntKind.i64 a4]) fun r16=>
  asI IntKind.u8 r16 fun i17=>
  sif ((0:Nat)+List.length l4≤List.length l4) <|
  zaw (zar [D.sl Tag.lent (cut (0:Nat) (List.length l4) l4),D.int IntKind.u8 i17]) fun r18=>
  za7 r18 fun l19=>
  sif ((0:Nat)+List.length l8≤List.length l8) <|
  sif ((0:Nat)+List.length l19≤List.length l19) <|
  zaw (zat [D.sl Tag.lent (cut (0:Nat) (List.length l8) l8),D.sl Tag.lent (cut (0:Nat) (List.length l19) l19)]) fun r20=>
  za7 r20 fun l21=>
  sif ((0:Nat)+List.length l21≤List.length l21) <|
  zaw (zar [D.sl Tag.lent (cut (0:Nat) (List.length l21) l21),D.int IntKind.u8 i15]) fun r22=>
  za7 r22 fun l23=>
  sif ((0:Nat)+List.length l4≤List.length l4) <|
  sif ((0:Nat)+List.length l23≤List.length l23) <|
  zaw (zat [D.sl Tag.lent (cut (0:Nat) (List.length l4) l4),D.sl Tag.lent (cut (0:Nat) (List.length l23) l23)]) fun r24=>
  za7 r24 fun l25=>
  sif (List.length l23=List.length l23) <|
  sif (List.all l23 D.free=true) <|
  sif (List.length l25=List.length l25) <|
  sif (List.all l25 D.free=true) <|
  some (D.tup [D.sl Tag.own l23,D.sl Tag.own l25])
theorem ztp (zbp:List D→Option D) (zat:List D→Option D) (zbq:List D→Option D) (zaF:List D→Option D) (zb0:List D→Option D) (zar:List D→Option D) (tga0:Tag) (tga1:Tag) (tga2:Tag) (a0:List D) (a1:List D) (a2:List D) (a3:Int) (a4:Int):denP Try.prog (zay [(ID.synd_P,(.pure [1] zbp)),(ID.synd_Add,(.pure [1] zat)),(ID.synd_Q,(.pure [1] zbq)),(ID.gf_Pow,(.pure [0] zaF)),(ID.gf_Inv,(.pure [0] zb0)),(ID.synd_Scale,(.pure [1] zar))]) zkX [1,1] ID.erase_two [.sl tga0 a0,.sl tga1 a1,.sl tga2 a2,.int .i64 a3,.int .i64 a4]=zjX zbp zat zbq zaF zb0 zar (D.lentL a0) (D.lentL a1) (D.lentL a2) a3 a4:=by kernel_rfl
theorem zoy (tga0:Tag) (tga1:Tag) (tga2:Tag) (a0:List D) (a1:List D) (a2:List D) (a3:Int) (a4:Int):zb2 [.sl tga0 a0,.sl tga1 a1,.sl tga2 a2,.int .i64 a3,.int .i64 a4]=zjX zbp zat zbq zaF zb0 zar (D.lentL a0) (D.lentL a1) (D.lentL a2) a3 a4:=ztp zbp zat zbq zaF zb0 zar tga0 tga1 tga2 a0 a1 a2 a3 a4
def zkY:Ann:={ loops:=[] }
noncomputable def zbP:List D→Option D:=denP Try.prog (zay [(ID.synd_Q,(.pure [1] zbq)),(ID.synd_Add,(.pure [1] zat)),(ID.gf_Pow,(.pure [0] zaF)),(ID.gf_Inv,(.pure [0] zb0)),(ID.synd_Scale,(.pure [1] zar))]) zkY [1] ID.erase_byQ
theorem zn6:za6 Try.prog ID.erase_byQ (.pure [1] zbP):=zax (zaC [zjW,ze4,zfx,zn4,zfw]) zbw ⟨Try.f133,by kernel_rfl,by kernel_rfl,by kernel_rfl⟩
noncomputable def zoz:Fact Try.prog:=⟨ID.erase_byQ,(.pure [1] zbP),zn6⟩
noncomputable def zjY (zbq:List D→Option D) (zat:List D→Option D) (zaF:List D→Option D) (zb0:List D→Option D) (zar:List D→Option D) (a0:List D) (a1:List D) (a2:Int):Option D:=
  zaw (zbq [D.sl Tag.lent a1]) fun r1=>
  za7 r1 fun l2=>
  sif ((0:Nat)+List.length l2≤List.length l2) <|
  zaw (zat [D.sl Tag.lent a0,D.sl Tag.lent (cut (0:Nat) (List.length l2) l2)]) fun r3=>
  za7 r3 fun l4=>
  zaw (zaF [D.int IntKind.i64 a2]) fun r5=>
  asI IntKind.u8 r5 fun i6=>
  zaw (zb0 [D.int IntKind.u8 i6]) fun r7=>
  asI IntKind.u8 r7 fun i8=>
  sif ((0:Nat)+List.length l4≤List.length l4) <|
  zaw (zar [D.sl Tag.lent (cut (0:Nat) (List.length l4) l4),D.int IntKind.u8 i8]) fun r9=>
  za7 r9 fun l10=>
  sif (List.length l10=List.length l10) <|
  sif (List.all l10 D.free=true) <|
  some (D.sl Tag.own l10)
theorem ztq (zbq:List D→Option D) (zat:List D→Option D) (zaF:List D→Option D) (zb0:List D→Option D) (zar:List D→Option D) (tga0:Tag) (tga1:Tag) (a0:List D) (a1:List D) (a2:Int):denP Try.prog (zay [(ID.synd_Q,(.pure [1] zbq)),(ID.synd_Add,(.pure [1] zat)),(ID.gf_Pow,(.pure [0] zaF)),(ID.gf_Inv,(.pure [0] zb0)),(ID.synd_Scale,(.pure [1] zar))]) zkY [1] ID.erase_byQ [.sl tga0 a0,.sl tga1 a1,.int .i64 a2]=zjY zbq zat zaF zb0 zar (D.lentL a0) (D.lentL a1) a2:=by kernel_rfl
theorem zoA (tga0:Tag) (tga1:Tag) (a0:List D) (a1:List D) (a2:Int):zbP [.sl tga0 a0,.sl tga1 a1,.int .i64 a2]=zjY zbq zat zaF zb0 zar (D.lentL a0) (D.lentL a1) a2:=ztq zbq zat zaF zb0 zar tga0 tga1 a0 a1 a2
def zit:Ann:={ loops:=[] }
noncomputable def zbv:List D→Option D:=denP Try.prog (zay [(ID.erase_Missing,(.pure [1] zbc)),(ID.erase_fits,(.pure [0] zbB)),(ID.erase_filled,(.pure [1] zbl)),(ID.erase_two,(.pure [1,1] zb2)),(ID.synd_P,(.pure [1] zbp)),(ID.synd_Add,(.pure [1] zat)),(ID.erase_byQ,(.pure [1] zbP))]) zit [1,0] ID.erase_Solve
theorem zlC:za6 Try.prog ID.erase_Solve (.pure [1,0] zbv):=zax (zaC [zkP,znZ,zlz,zox,zjV,ze4,zoz]) zbw ⟨Try.f105,by kernel_rfl,by kernel_rfl,by kernel_rfl⟩
noncomputable def zmz:Fact Try.prog:=⟨ID.erase_Solve,(.pure [1,0] zbv),zlC⟩
noncomputable def zhg (zbc:List D→Option D) (zbB:List D→Option D) (zbl:List D→Option D) (zb2:List D→Option D) (zbp:List D→Option D) (zat:List D→Option D) (zbP:List D→Option D) (a0:Int) (a1:List D) (a2:List D) (a3:List D):Option D:=
  zaw (zbc [D.sl Tag.lent a3]) fun r1=>
  za7 r1 fun l2=>
  brK (decide (a0 < (1:Int)))
    (some (D.tup [D.sl Tag.own [],D.bool false]))
    (brK (decide ((↑(List.length a3):Int) < (1:Int)))
      (some (D.tup [D.sl Tag.own [],D.bool false]))
      (brK (decide ((↑(List.length a3):Int) > (8:Int)))
        (some (D.tup [D.sl Tag.own [],D.bool false]))
        (zaw (zbB [D.int IntKind.i64 a0,D.sl Tag.lent a3]) fun r3=>
        asB r3 fun b4=>
        brK (!b4)
          (some (D.tup [D.sl Tag.own [],D.bool false]))
          (zaw (zbB [D.int IntKind.i64 a0,D.sl Tag.full [D.sl Tag.lent a1,D.sl Tag.lent a2]]) fun r5=>
          asB r5 fun b6=>
          brK (!b6)
            (some (D.tup [D.sl Tag.own [],D.bool false]))
            (sif ((0:Nat)+List.length l2≤List.length l2) <|
            zaw (zbc [D.sl Tag.full [D.sl Tag.lent a1,D.sl Tag.lent a2]]) fun r7=>
            za7 r7 fun l8=>
            sif ((0:Nat)+List.length l8≤List.length l8) <|
            letN (IntKind.wrap IntKind.i64 ((↑(List.length l2):Int)+(↑(List.length l8):Int))) fun n9=>
            brK (decide (n9 > (2:Int)))
              (some (D.tup [D.sl Tag.own [],D.bool false]))
              (zaw (zbl [D.int IntKind.i64 a0,D.sl Tag.lent a3]) fun r10=>
              za7 r10 fun l11=>
              sif ((0:Nat)+List.length l2≤List.length l2) <|
              brK ((↑(List.length l2):Int) == (2:Int))
                (sif ((0:Nat) < List.length l2) <|
                getK l2 ((0:Nat)) fun d12=>
                asI IntKind.i64 d12 fun i13=>
                sif ((1:Nat) < List.length l2) <|
                getK l2 ((1:Nat)) fun d14=>
                asI IntKind.i64 d14 fun i15=>
                sif ((0:Nat) < List.length l2) <|
                getK l2 ((0:Nat)) fun d16=>
                asI IntKind.i64 d16 fun i17=>
                sif ((1:Nat) < List.length l2) <|
                getK l2 ((1:Nat)) fun d18=>
                asI IntKind.i64 d18 fun i19=>
                sif ((0:Nat)+List.length l11≤List.length l11) <|
                zaw (zb2 [D.sl Tag.lent a1,D.sl Tag.lent a2,D.sl Tag.lent (cut (0:Nat) (List.length l11) l11),D.int IntKind.i64 i17,D.int IntKind.i64 i19]) fun r20=>
                zde r20 fun ts21=>
                zap ([Lf.any,Lf.any]) ts21 fun c22=>
                za7 c22.fst fun l23=>
                za7 c22.snd.fst fun l24=>
                sif ((0:Int)≤i13) <|
                sif (Int.toNat i13 < List.length l11) <|
                sif ((0:Nat)+List.length l23≤List.length l23) <|
                getK l11 ((0:Nat)+Int.toNat i13) fun d25=>
                sif ((0:Nat)+List.length l23≤List.length l23) <|
                sif (D.isAgg d25=false) <|
                sif ((0:Int)≤i15) <|
                sif (Int.toNat i15 < List.length l11) <|
                sif ((0:Nat)+List.length l24≤List.length l24) <|
                getK (List.set l11 ((0:Nat)+Int.toNat i13) (D.sl Tag.fresh (cut (0:Nat) (List.length l23) l23))) ((0:Nat)+Int.toNat i15) fun d26=>
                sif ((0:Nat)+List.length l24≤List.length l24) <|
                sif (D.isAgg d26=false) <|
                sif (List.length l11=List.length (List.set (List.set l11 ((0:Nat)+Int.toNat i13) (D.sl Tag.fresh (cut (0:Nat) (List.length l23) l23))) ((0:Nat)+Int.toNat i15) (D.sl Tag.fresh (cut (0:Nat) (List.length l24) l24)))) <|
                sif (List.all (List.set (List.set l11 ((0:Nat)+Int.toNat i13) (D.sl Tag.fresh (cut (0:Nat) (List.length l23) l23))) ((0:Nat)+Int.toNat i15) (D.sl Tag.fresh (cut (0:Nat) (List.length l24) l24))) D.free=true) <|
                some (D.tup [D.sl Tag.own (List.set (List.set l11 ((0:Nat)+Int.toNat i13) (D.sl Tag.fresh (cut (0:Nat) (List.length l23) l23))) ((0:Nat)+Int.toNat i15) (D.sl Tag.fresh (cut (0:Nat) (List.length l24) l24))),D.bool true]))
                (sif ((0:Nat)+List.length l2≤List.length l2) <|
                brK ((↑(List.length l2):Int) == (1:Int))
                  (brK (decide ((↑(List.length a1):Int) > (0:Int)))
                    (sif ((0:Nat) < List.length l2) <|
                    getK l2 ((0:Nat)) fun d27=>
                    asI IntKind.i64 d27 fun i28=>
                    sif ((0:Nat)+List.length l11≤List.length l11) <|
                    zaw (zbp [D.sl Tag.lent (cut (0:Nat) (List.length l11) l11)]) fun r29=>
                    za7 r29 fun l30=>
                    sif ((0:Nat)+List.length l30≤List.length l30) <|
                    zaw (zat [D.sl Tag.lent a1,D.sl Tag.lent (cut (0:Nat) (List.length l30) l30)]) fun r31=>
                    za7 r31 fun l32=>
                    sif ((0:Int)≤i28) <|
                    sif (Int.toNat i28 < List.length l11) <|
                    sif ((0:Nat)+List.length l32≤List.length l32) <|
                    getK l11 ((0:Nat)+Int.toNat i28) fun d33=>
                    sif ((0:Nat)+List.length l32≤List.length l32) <|
                    sif (D.isAgg d33=false) <|
                    sif (List.length l11=List.length (List.set l11 ((0:Nat)+Int.toNat i28) (D.sl Tag.fresh (cut (0:Nat) (List.length l32) l32)))) <|
                    sif (List.all (List.set l11 ((0:Nat)+Int.toNat i28) (D.sl Tag.fresh (cut (0:Nat) (List.length l32) l32))) D.free=true) <|
                    some (D.tup [D.sl Tag.own (List.set l11 ((0:Nat)+Int.toNat i28) (D.sl Tag.fresh (cut (0:Nat) (List.length l32) l32))),D.bool true]))
                    (sif ((0:Nat)+List.length l2≤List.length l2) <|
                    brK ((↑(List.length l2):Int) == (1:Int))
                      (sif ((0:Nat) < List.length l2) <|
                      getK l2 ((0:Nat)) fun d34=>
                      asI IntKind.i64 d34 fun i35=>
                      sif ((0:Nat) < List.length l2) <|
                      getK l2 ((0:Nat)) fun d36=>
                      asI IntKind.i64 d36 fun i37=>
                      sif ((0:Nat)+List.length l11≤List.length l11) <|
                      zaw (zbP [D.sl Tag.lent a2,D.sl Tag.lent (cut (0:Nat) (List.length l11) l11),D.int IntKind.i64 i37]) fun r38=>
                      za7 r38 fun l39=>
                      sif ((0:Int)≤i35) <|
                      sif (Int.toNat i35 < List.length l11) <|
                      sif ((0:Nat)+List.length l39≤List.length l39) <|
                      getK l11 ((0:Nat)+Int.toNat i35) fun d40=>
                      sif ((0:Nat)+List.length l39≤List.length l39) <|
                      sif (D.isAgg d40=false) <|
                      sif (List.length l11=List.length (List.set l11 ((0:Nat)+Int.toNat i35) (D.sl Tag.fresh (cut (0:Nat) (List.length l39) l39)))) <|
                      sif (List.all (List.set l11 ((0:Nat)+Int.toNat i35) (D.sl Tag.fresh (cut (0:Nat) (List.length l39) l39))) D.free=true) <|
                      some (D.tup [D.sl Tag.own (List.set l11 ((0:Nat)+Int.toNat i35) (D.sl Tag.fresh (cut (0:Nat) (List.length l39) l39))),D.bool true]))
                      (sif (List.length l11=List.length l11) <|
                      sif (List.all l11 D.free=true) <|
                      some (D.tup [D.sl Tag.own l11,D.bool true]))))
                  (sif ((0:Nat)+List.length l2≤List.length l2) <|
                  brK ((↑(List.length l2):Int) == (1:Int))
                    (sif ((0:Nat) < List.length l2) <|
                    getK l2 ((0:Nat)) fun d41=>
                    asI IntKind.i64 d41 fun i42=>
                    sif ((0:Nat) < List.length l2) <|
                    getK l2 ((0:Nat)) fun d43=>
                    asI IntKind.i64 d43 fun i44=>
                    sif ((0:Nat)+List.length l11≤List.length l11) <|
                    zaw (zbP [D.sl Tag.lent a2,D.sl Tag.lent (cut (0:Nat) (List.length l11) l11),D.int IntKind.i64 i44]) fun r45=>
                    za7 r45 fun l46=>
                    sif ((0:Int)≤i42) <|
                    sif (Int.toNat i42 < List.length l11) <|
                    sif ((0:Nat)+List.length l46≤List.length l46) <|
                    getK l11 ((0:Nat)+Int.toNat i42) fun d47=>
                    sif ((0:Nat)+List.length l46≤List.length l46) <|
                    sif (D.isAgg d47=false) <|
                    sif (List.length l11=List.length (List.set l11 ((0:Nat)+Int.toNat i42) (D.sl Tag.fresh (cut (0:Nat) (List.length l46) l46)))) <|
                    sif (List.all (List.set l11 ((0:Nat)+Int.toNat i42) (D.sl Tag.fresh (cut (0:Nat) (List.length l46) l46))) D.free=true) <|
                    some (D.tup [D.sl Tag.own (List.set l11 ((0:Nat)+Int.toNat i42) (D.sl Tag.fresh (cut (0:Nat) (List.length l46) l46))),D.bool true]))
                    (sif (List.length l11=List.length l11) <|
                    sif (List.all l11 D.free=true) <|
                    some (D.tup [D.sl Tag.own l11,D.bool true]))))))))))
theorem zqK (zbc:List D→Option D) (zbB:List D→Option D) (zbl:List D→Option D) (zb2:List D→Option D) (zbp:List D→Option D) (zat:List D→Option D) (zbP:List D→Option D) (tga1:Tag) (tga2:Tag) (tga3:Tag) (a0:Int) (a1:List D) (a2:List D) (a3:List D):denP Try.prog (zay [(ID.erase_Missing,(.pure [1] zbc)),(ID.erase_fits,(.pure [0] zbB)),(ID.erase_filled,(.pure [1] zbl)),(ID.erase_two,(.pure [1,1] zb2)),(ID.synd_P,(.pure [1] zbp)),(ID.synd_Add,(.pure [1] zat)),(ID.erase_byQ,(.pure [1] zbP))]) zit [1,0] ID.erase_Solve [.int .i64 a0,.sl tga1 a1,.sl tga2 a2,.sl tga3 a3]=zhg zbc zbB zbl zb2 zbp zat zbP a0 (D.lentL a1) (D.lentL a2) (D.lentL a3):=by kernel_rfl
theorem zmA (tga1:Tag) (tga2:Tag) (tga3:Tag) (a0:Int) (a1:List D) (a2:List D) (a3:List D):zbv [.int .i64 a0,.sl tga1 a1,.sl tga2 a2,.sl tga3 a3]=zhg zbc zbB zbl zb2 zbp zat zbP a0 (D.lentL a1) (D.lentL a2) (D.lentL a3):=zqK zbc zbB zbl zb2 zbp zat zbP tga1 tga2 tga3 a0 a1 a2 a3
def zmg:Ann:={ loops:=[(1,[.dead,.val (.cell (.int .i64)),.val (.cell .lent),.box true [(.int .i64),(.int .i64),(.int .i64)],.dead,.dead,.dead,.dead,.own 1,.dead,.dead,.dead,.dead,.dead,.dead,.dead,.dead,.dead,.dead,.dead,.dead,.dead,.dead,.dead,.val (.cell (.int .i64)),.val (.cell (.int .i64))])] }
noncomputable def zci:List D→Option D:=denP Try.prog (zay [(ID.row_in,(.pure [0] zbZ)),(ID.geom_Width,(.pure [0] zab)),(ID.place_Disk,(.pure [0] zaE)),(ID.place_Parity,(.pure [0,0] zas)),(ID.erase_Solve,(.pure [1,0] zbv))]) zmg [1,0] ID.row_Take
theorem zoB:za6 Try.prog ID.row_Take (.pure [1,0] zci):=zax (zaC [znU,zcb,zft,zee,zmz]) zbw ⟨Try.f71,by kernel_rfl,by kernel_rfl,by kernel_rfl⟩
noncomputable def zqL:Fact Try.prog:=⟨ID.row_Take,(.pure [1,0] zci),zoB⟩
noncomputable def zlD (zbZ:List D→Option D) (zab:List D→Option D) (zaE:List D→Option D) (zas:List D→Option D) (zbv:List D→Option D) (a0_0:Int) (a0_1:Int) (a0_2:Int) (a1:Int) (a2:List D):Option D:=
  zaw (zbZ [D.agg [D.int IntKind.i64 a0_0,D.int IntKind.i64 a0_1,D.int IntKind.i64 a0_2],D.int IntKind.i64 a1]) fun r1=>
  asB r1 fun b2=>
  brK (!b2)
    (some (D.tup [D.sl Tag.own [],D.bool false]))
    (brK ((↑(List.length a2):Int) != a0_1)
      (some (D.tup [D.sl Tag.own [],D.bool false]))
      (zaw (zab [D.agg [D.int IntKind.i64 a0_0,D.int IntKind.i64 a0_1,D.int IntKind.i64 a0_2]]) fun r3=>
      asI IntKind.i64 r3 fun i4=>
      zcw (α:=(Int×List D×(Int×Int×Int×PUnit)×List D×Int×Int×PUnit)×PUnit) (fun again5 ((i6,(l7,((i8,(i9,(i10,_))),(l11,(i12,(i13,_)))))),_)=>
        brK (decide (i13 < i12))
          (zaw (zaE [D.agg [D.int IntKind.i64 i8,D.int IntKind.i64 i9,D.int IntKind.i64 i10],D.int IntKind.i64 i6,D.int IntKind.i64 i13]) fun r14=>
          asI IntKind.i64 r14 fun i15=>
          sif ((0:Int)≤i15) <|
          getK l7 (Int.toNat i15) fun d16=>
          asSl d16 fun t17 l18=>
          sif (List.length l11+(1:Nat)≤(4294967296:Nat)) <|
          sif (List.length l11=List.length l11) <|
          letN (IntKind.wrap IntKind.i64 (i13+(1:Int))) fun n19=>
          sif (List.length l11+(1:Nat)=List.length (l11++[D.sl t17 l18])) <|
          again5 (((i6,l7,(i8,i9,i10,PUnit.unit),l11++[D.sl t17 l18],i12,n19,PUnit.unit),PUnit.unit)))
          (zaw (zas [D.agg [D.int IntKind.i64 i8,D.int IntKind.i64 i9,D.int IntKind.i64 i10],D.int IntKind.i64 i6]) fun r20=>
          zde r20 fun ts21=>
          zap ([Lf.any,Lf.any]) ts21 fun c22=>
          asI IntKind.i64 c22.fst fun i23=>
          asI IntKind.i64 c22.snd.fst fun i24=>
          brK (decide (i24 < (0:Int)))
            (sif ((0:Int)≤i23) <|
            getK l7 (Int.toNat i23) fun d25=>
            asSl d25 fun t26 l27=>
            sif ((0:Nat)+List.length l11≤List.length l11) <|
            zaw (zbv [D.int IntKind.i64 (32:Int),D.sl t26 l27,D.sl Tag.nil [],D.sl Tag.lent (cut (0:Nat) (List.length l11) l11)]) fun r28=>
            zde r28 fun ts29=>
            zap ([Lf.any,Lf.any]) ts29 fun c30=>
            za7 c30.fst fun l31=>
            asB c30.snd.fst fun b32=>
            sif (List.length l31=List.length l31) <|
            sif (List.all l31 D.free=true) <|
            some (D.tup [D.sl Tag.own l31,D.bool b32]))
            (sif ((0:Int)≤i23) <|
            getK l7 (Int.toNat i23) fun d33=>
            asSl d33 fun t34 l35=>
            sif ((0:Int)≤i24) <|
            getK l7 (Int.toNat i24) fun d36=>
            asSl d36 fun t37 l38=>
            sif ((0:Nat)+List.length l11≤List.length l11) <|
            zaw (zbv [D.int IntKind.i64 (32:Int),D.sl t34 l35,D.sl t37 l38,D.sl Tag.lent (cut (0:Nat) (List.length l11) l11)]) fun r39=>
            zde r39 fun ts40=>
            zap ([Lf.any,Lf.any]) ts40 fun c41=>
            za7 c41.fst fun l42=>
            asB c41.snd.fst fun b43=>
            sif (List.length l42=List.length l42) <|
            sif (List.all l42 D.free=true) <|
            some (D.tup [D.sl Tag.own l42,D.bool b43]))))
        (((a1,a2,(a0_0,a0_1,a0_2,PUnit.unit),[],i4,(0:Int),PUnit.unit),PUnit.unit))))
theorem zvh (zbZ:List D→Option D) (zab:List D→Option D) (zaE:List D→Option D) (zas:List D→Option D) (zbv:List D→Option D) (tga2:Tag) (a0_0:Int) (a0_1:Int) (a0_2:Int) (a1:Int) (a2:List D):denP Try.prog (zay [(ID.row_in,(.pure [0] zbZ)),(ID.geom_Width,(.pure [0] zab)),(ID.place_Disk,(.pure [0] zaE)),(ID.place_Parity,(.pure [0,0] zas)),(ID.erase_Solve,(.pure [1,0] zbv))]) zmg [1,0] ID.row_Take [.agg [.int .i64 a0_0,.int .i64 a0_1,.int .i64 a0_2],.int .i64 a1,.sl tga2 a2]=zlD zbZ zab zaE zas zbv a0_0 a0_1 a0_2 a1 (D.lentL a2):=by kernel_rfl
theorem zqM (tga2:Tag) (a0_0:Int) (a0_1:Int) (a0_2:Int) (a1:Int) (a2:List D):zci [.agg [.int .i64 a0_0,.int .i64 a0_1,.int .i64 a0_2],.int .i64 a1,.sl tga2 a2]=zlD zbZ zab zaE zas zbv a0_0 a0_1 a0_2 a1 (D.lentL a2):=zvh zbZ zab zaE zas zbv tga2 a0_0 a0_1 a0_2 a1 a2
def ziu:Ann:={ loops:=[(1,[.val (.cell (.hnd (3840:Nat))),.val (.cell .lent),.dead,.val (.cell (.int .i64)),.dead,.dead,.box true [(.int .i64),(.int .i64),(.int .i64)],.dead,.dead,.dead,.own 1,.dead,.dead,.dead,.dead,.dead,.dead,.dead,.dead,.dead,.dead,.dead,.dead,.dead,.dead,.dead,.dead,.dead,.dead,.dead,.dead,.val (.cell (.int .i64)),.val (.cell (.int .i64))])],ks:=[(3840,false),(7649,false)] }
noncomputable def zao:List D→List Tb→Option Ans:=denS Try.prog (zay [(ID.geom_Check,(.pure [0] zai)),(ID.stripe_up,(.st [] [0] [(3840,false),(7649,false)] zaz)),(ID.bench_Bench_Read,(.st [] [1,0] [(3840,false),(7649,false)] zau)),(ID.row_Take,(.pure [1,0] zci))]) ziu [1,0] ID.stripe_Read
theorem zlE:za6 Try.prog ID.stripe_Read (.st [] [1,0] [(3840,false),(7649,false)] zao):=zbd (zaC [zc5,zel,zey,zqL]) zbw ⟨Try.f21,by kernel_rfl,by kernel_rfl,by kernel_rfl⟩
noncomputable def zeH:Fact Try.prog:=⟨ID.stripe_Read,(.st [] [1,0] [(3840,false),(7649,false)] zao),zlE⟩
noncomputable def zhh (zai:List D→Option D) (zaz:List D→List Tb→Option Ans) (zau:List D→List Tb→Option Ans) (zci:List D→Option D) (a0:Nat) (a1:List D) (a2_0:Int) (a2_1:Int) (a2_2:Int) (a3:Int) (T0:Tb) (T1:Tb):Option Ans:=
  zaw (zai [D.agg [D.int IntKind.i64 a2_0,D.int IntKind.i64 a2_1,D.int IntKind.i64 a2_2]]) fun r1=>
  asI IntKind.i64 r1 fun i2=>
  brK (i2 != (0:Int))
    (some (Ans.mk (D.tup [D.sl Tag.own [],D.int IntKind.i64 (1:Int)]) [] []))
    (brK (decide (a3 < (0:Int)))
      (some (Ans.mk (D.tup [D.sl Tag.own [],D.int IntKind.i64 (1:Int)]) [] []))
      (brK (decide (a3≥(16:Int)))
        (some (Ans.mk (D.tup [D.sl Tag.own [],D.int IntKind.i64 (1:Int)]) [] []))
        (sif ((0:Int)≤a2_1) <|
        sif (a2_1=a2_1) <|
        sif (a2_1*(24:Int)≤(140737488355328:Int)) <|
        sif (a2_1≤(140737488355328:Int)) <|
        sif ((0:Nat)+Int.toNat a2_1≤List.length (List.replicate (Int.toNat a2_1) (D.sl Tag.nil []))) <|
        sif (Int.toNat a2_1=List.length (List.replicate (Int.toNat a2_1) (D.sl Tag.nil []))) <|
        zcw (α:=(Nat×List D×Int×(Int×Int×Int×PUnit)×List D×Int×Int×PUnit)×List (List D)×List (List D)×PUnit) (fun again3 ((x4,(l5,(i6,((i7,(i8,(i9,_))),(l10,(i11,(i12,_))))))),(U13,(U14,_)))=>
          brK (decide (i12 < i11))
            (zaw (zaz [D.h (3840) x4 (0:Nat),D.sl Tag.lent l5,D.int IntKind.i64 i12] [U13,U14]) fun r15=>
            nilK r15.outs <|
            nilK r15.tbs <|
            asB r15.r fun b16=>
            brK (!b16)
              (letN (IntKind.wrap IntKind.i64 (i12+(1:Int))) fun n17=>
              sif (List.length l10=List.length l10) <|
              again3 (((x4,l5,i6,(i7,i8,i9,PUnit.unit),l10,i11,n17,PUnit.unit),U13,U14,PUnit.unit)))
              (letN (IntKind.wrap IntKind.i64 ((36:Int)+i6)) fun n18=>
              zaw (zau [D.h (3840) x4 (0:Nat),D.int IntKind.i64 i12,D.int IntKind.i64 n18] [U13,U14]) fun r19=>
              nilK r19.outs <|
              nilK r19.tbs <|
              zde r19.r fun ts20=>
              zap ([Lf.any,Lf.any]) ts20 fun c21=>
              za7 c21.fst fun l22=>
              asI IntKind.i64 c21.snd.fst fun i23=>
              brK (i23 != (0:Int))
                (some (Ans.mk (D.tup [D.sl Tag.own [],D.int IntKind.i64 i23]) [] []))
                (sif ((0:Int)≤i12) <|
                sif (Int.toNat i12 < List.length l10) <|
                sif ((0:Nat)+List.length l22≤List.length l22) <|
                getK l10 ((0:Nat)+Int.toNat i12) fun d24=>
                sif ((0:Nat)+List.length l22≤List.length l22) <|
                sif (D.isAgg d24=false) <|
                letN (IntKind.wrap IntKind.i64 (i12+(1:Int))) fun n25=>
                sif (List.length l10=List.length (List.set l10 ((0:Nat)+Int.toNat i12) (D.sl Tag.fresh (cut (0:Nat) (List.length l22) l22)))) <|
                again3 (((x4,l5,i6,(i7,i8,i9,PUnit.unit),List.set l10 ((0:Nat)+Int.toNat i12) (D.sl Tag.fresh (cut (0:Nat) (List.length l22) l22)),i11,n25,PUnit.unit),U13,U14,PUnit.unit)))))
            (sif ((0:Nat)+List.length l10≤List.length l10) <|
            zaw (zci [D.agg [D.int IntKind.i64 i7,D.int IntKind.i64 i8,D.int IntKind.i64 i9],D.int IntKind.i64 i6,D.sl Tag.lent (cut (0:Nat) (List.length l10) l10)]) fun r26=>
            zde r26 fun ts27=>
            zap ([Lf.any,Lf.any]) ts27 fun c28=>
            za7 c28.fst fun l29=>
            asB c28.snd.fst fun b30=>
            brK (!b30)
              (some (Ans.mk (D.tup [D.sl Tag.own [],D.int IntKind.i64 (7:Int)]) [] []))
              (sif (List.length l29=List.length l29) <|
              sif (List.all l29 D.free=true) <|
              some (Ans.mk (D.tup [D.sl Tag.own l29,D.int IntKind.i64 (0:Int)]) [] []))))
          (((a0,a1,a3,(a2_0,a2_1,a2_2,PUnit.unit),List.replicate (Int.toNat a2_1) (D.sl Tag.nil []),(↑(Int.toNat a2_1):Int),(0:Int),PUnit.unit),T0,T1,PUnit.unit)))))
theorem zqN (zai:List D→Option D) (zaz:List D→List Tb→Option Ans) (zau:List D→List Tb→Option Ans) (zci:List D→Option D) (tga1:Tag) (a0:Nat) (a1:List D) (a2_0:Int) (a2_1:Int) (a2_2:Int) (a3:Int) (T0:Tb) (T1:Tb):denS Try.prog (zay [(ID.geom_Check,(.pure [0] zai)),(ID.stripe_up,(.st [] [0] [(3840,false),(7649,false)] zaz)),(ID.bench_Bench_Read,(.st [] [1,0] [(3840,false),(7649,false)] zau)),(ID.row_Take,(.pure [1,0] zci))]) ziu [1,0] ID.stripe_Read [.h 3840 a0 0,.sl tga1 a1,.agg [.int .i64 a2_0,.int .i64 a2_1,.int .i64 a2_2],.int .i64 a3] [T0,T1]=zhh zai zaz zau zci a0 (D.lentL a1) a2_0 a2_1 a2_2 a3 T0 T1:=by kernel_rfl
theorem zmB (tga1:Tag) (a0:Nat) (a1:List D) (a2_0:Int) (a2_1:Int) (a2_2:Int) (a3:Int) (T0:Tb) (T1:Tb):zao [.h 3840 a0 0,.sl tga1 a1,.agg [.int .i64 a2_0,.int .i64 a2_1,.int .i64 a2_2],.int .i64 a3] [T0,T1]=zhh zai zaz zau zci a0 (D.lentL a1) a2_0 a2_1 a2_2 a3 T0 T1:=zqN zai zaz zau zci tga1 a0 a1 a2_0 a2_1 a2_2 a3 T0 T1
def zdL:Ann:={ loops:=[(1,[.val (.cell .lent),.val (.cell .lent),.dead,.dead,.dead,.val (.cell (.int .i64))])] }
noncomputable def zaI:List D→Option D:=denP Try.prog (zay []) zdL [0] ID.wattlekeep_Same_byte
theorem zfI:za6 Try.prog ID.wattlekeep_Same_byte (.pure [0] zaI):=zax (zaC []) zbw ⟨Try.f30,by kernel_rfl,by kernel_rfl,by kernel_rfl⟩
noncomputable def zgc:Fact Try.prog:=⟨ID.wattlekeep_Same_byte,(.pure [0] zaI),zfI⟩
noncomputable def zcO (a0:List D) (a1:List D):Option D:=
  brK ((↑(List.length a0):Int) != (↑(List.length a1):Int))
    (some (D.bool false))
    (zcw (α:=(List D×List D×Int×PUnit)×PUnit) (fun again1 ((l2,(l3,(i4,_))),_)=>
      brK (decide (i4 < (↑(List.length l2):Int)))
        (sif ((0:Int)≤i4) <|
        getK l2 (Int.toNat i4) fun d5=>
        asI IntKind.u8 d5 fun i6=>
        sif ((0:Int)≤i4) <|
        getK l3 (Int.toNat i4) fun d7=>
        asI IntKind.u8 d7 fun i8=>
        brK (i6 != i8)
          (some (D.bool false))
          (letN (IntKind.wrap IntKind.i64 (i4+(1:Int))) fun n9=>
          again1 (((l2,l3,n9,PUnit.unit),PUnit.unit))))
        (some (D.bool true)))
      (((a0,a1,(0:Int),PUnit.unit),PUnit.unit)))
theorem zhH (tga0:Tag) (tga1:Tag) (a0:List D) (a1:List D):denP Try.prog (zay []) zdL [0] ID.wattlekeep_Same_byte [.sl tga0 a0,.sl tga1 a1]=zcO (D.lentL a0) (D.lentL a1):=by kernel_rfl
theorem zgd (tga0:Tag) (tga1:Tag) (a0:List D) (a1:List D):zaI [.sl tga0 a0,.sl tga1 a1]=zcO (D.lentL a0) (D.lentL a1):=zhH tga0 tga1 a0 a1
def zgJ:Ann:={ loops:=[] }
noncomputable def zbf:List D→Option D:=denP Try.prog (zay [(ID.geom_Width,(.pure [0] zab))]) zgJ [0] ID.geom_Capacity
theorem zjZ:za6 Try.prog ID.geom_Capacity (.pure [0] zbf):=zax (zaC [zcb]) zbw ⟨Try.f97,by kernel_rfl,by kernel_rfl,by kernel_rfl⟩
noncomputable def zkZ:Fact Try.prog:=⟨ID.geom_Capacity,(.pure [0] zbf),zjZ⟩
noncomputable def zfy (zab:List D→Option D) (a0_0:Int) (a0_1:Int) (a0_2:Int):Option D:=
  zaw (zab [D.agg [D.int IntKind.i64 a0_0,D.int IntKind.i64 a0_1,D.int IntKind.i64 a0_2]]) fun r1=>
  asI IntKind.i64 r1 fun i2=>
  letN (IntKind.wrap IntKind.i64 (i2*(16:Int))) fun n3=>
  some (D.int IntKind.i64 n3)
theorem zn7 (zab:List D→Option D) (a0_0:Int) (a0_1:Int) (a0_2:Int):denP Try.prog (zay [(ID.geom_Width,(.pure [0] zab))]) zgJ [0] ID.geom_Capacity [.agg [.int .i64 a0_0,.int .i64 a0_1,.int .i64 a0_2]]=zfy zab a0_0 a0_1 a0_2:=by kernel_rfl
theorem zk0 (a0_0:Int) (a0_1:Int) (a0_2:Int):zbf [.agg [.int .i64 a0_0,.int .i64 a0_1,.int .i64 a0_2]]=zfy zab a0_0 a0_1 a0_2:=zn7 zab a0_0 a0_1 a0_2
def zmh:Ann:={ loops:=[] }
noncomputable def zb8:List D→Option D:=denP Try.prog (zay [(ID.geom_Capacity,(.pure [0] zbf)),(ID.geom_Width,(.pure [0] zab)),(ID.place_Disk,(.pure [0] zaE))]) zmh [0,0,0] ID.place_Of
theorem zoC:za6 Try.prog ID.place_Of (.pure [0,0,0] zb8):=zax (zaC [zkZ,zcb,zft]) zbw ⟨Try.f72,by kernel_rfl,by kernel_rfl,by kernel_rfl⟩
noncomputable def zqO:Fact Try.prog:=⟨ID.place_Of,(.pure [0,0,0] zb8),zoC⟩
noncomputable def zlF (zbf:List D→Option D) (zab:List D→Option D) (zaE:List D→Option D) (a0_0:Int) (a0_1:Int) (a0_2:Int) (a1:Int):Option D:=
  brK (decide (a1 < (0:Int)))
    (some (D.tup [D.int IntKind.i64 (0:Int),D.int IntKind.i64 (0:Int),D.bool false]))
    (zaw (zbf [D.agg [D.int IntKind.i64 a0_0,D.int IntKind.i64 a0_1,D.int IntKind.i64 a0_2]]) fun r1=>
    asI IntKind.i64 r1 fun i2=>
    brK (decide (a1≥i2))
      (some (D.tup [D.int IntKind.i64 (0:Int),D.int IntKind.i64 (0:Int),D.bool false]))
      (sif (a0_2≠(0:Int)) <|
      letN (IntKind.wrap IntKind.i64 (Int.tdiv a1 a0_2)) fun n3=>
      zaw (zab [D.agg [D.int IntKind.i64 a0_0,D.int IntKind.i64 a0_1,D.int IntKind.i64 a0_2]]) fun r4=>
      asI IntKind.i64 r4 fun i5=>
      sif (i5≠(0:Int)) <|
      letN (IntKind.wrap IntKind.i64 (Int.tdiv n3 i5)) fun n6=>
      letN (IntKind.wrap IntKind.i64 (n6*a0_2)) fun n7=>
      sif (a0_2≠(0:Int)) <|
      letN (Int.tmod a1 a0_2) fun n8=>
      letN (IntKind.wrap IntKind.i64 (n7+n8)) fun n9=>
      zaw (zab [D.agg [D.int IntKind.i64 a0_0,D.int IntKind.i64 a0_1,D.int IntKind.i64 a0_2]]) fun r10=>
      asI IntKind.i64 r10 fun i11=>
      sif (i11≠(0:Int)) <|
      letN (Int.tmod n3 i11) fun n12=>
      zaw (zaE [D.agg [D.int IntKind.i64 a0_0,D.int IntKind.i64 a0_1,D.int IntKind.i64 a0_2],D.int IntKind.i64 n9,D.int IntKind.i64 n12]) fun r13=>
      asI IntKind.i64 r13 fun i14=>
      some (D.tup [D.int IntKind.i64 i14,D.int IntKind.i64 n9,D.bool true])))
theorem zvi (zbf:List D→Option D) (zab:List D→Option D) (zaE:List D→Option D) (a0_0:Int) (a0_1:Int) (a0_2:Int) (a1:Int):denP Try.prog (zay [(ID.geom_Capacity,(.pure [0] zbf)),(ID.geom_Width,(.pure [0] zab)),(ID.place_Disk,(.pure [0] zaE))]) zmh [0,0,0] ID.place_Of [.agg [.int .i64 a0_0,.int .i64 a0_1,.int .i64 a0_2],.int .i64 a1]=zlF zbf zab zaE a0_0 a0_1 a0_2 a1:=by kernel_rfl
theorem zqP (a0_0:Int) (a0_1:Int) (a0_2:Int) (a1:Int):zb8 [.agg [.int .i64 a0_0,.int .i64 a0_1,.int .i64 a0_2],.int .i64 a1]=zlF zbf zab zaE a0_0 a0_1 a0_2 a1:=zvi zbf zab zaE a0_0 a0_1 a0_2 a1
def zhx:Ann:={ loops:=[] }
noncomputable def zbt:List D→Option D:=denP Try.prog (zay [(ID.geom_Width,(.pure [0] zab))]) zhx [0] ID.place_number
theorem zk1:za6 Try.prog ID.place_number (.pure [0] zbt):=zax (zaC [zcb]) zbw ⟨Try.f107,by kernel_rfl,by kernel_rfl,by kernel_rfl⟩
noncomputable def zlG:Fact Try.prog:=⟨ID.place_number,(.pure [0] zbt),zk1⟩
noncomputable def zge (zab:List D→Option D) (a0_0:Int) (a0_1:Int) (a0_2:Int) (a1:Int) (a2:Int):Option D:=
  sif (a0_2≠(0:Int)) <|
  letN (IntKind.wrap IntKind.i64 (Int.tdiv a1 a0_2)) fun n1=>
  zaw (zab [D.agg [D.int IntKind.i64 a0_0,D.int IntKind.i64 a0_1,D.int IntKind.i64 a0_2]]) fun r2=>
  asI IntKind.i64 r2 fun i3=>
  letN (IntKind.wrap IntKind.i64 (n1*i3)) fun n4=>
  letN (IntKind.wrap IntKind.i64 (n4+a2)) fun n5=>
  letN (IntKind.wrap IntKind.i64 (n5*a0_2)) fun n6=>
  sif (a0_2≠(0:Int)) <|
  letN (Int.tmod a1 a0_2) fun n7=>
  letN (IntKind.wrap IntKind.i64 (n6+n7)) fun n8=>
  some (D.int IntKind.i64 n8)
theorem zoD (zab:List D→Option D) (a0_0:Int) (a0_1:Int) (a0_2:Int) (a1:Int) (a2:Int):denP Try.prog (zay [(ID.geom_Width,(.pure [0] zab))]) zhx [0] ID.place_number [.agg [.int .i64 a0_0,.int .i64 a0_1,.int .i64 a0_2],.int .i64 a1,.int .i64 a2]=zge zab a0_0 a0_1 a0_2 a1 a2:=by kernel_rfl
theorem zlH (a0_0:Int) (a0_1:Int) (a0_2:Int) (a1:Int) (a2:Int):zbt [.agg [.int .i64 a0_0,.int .i64 a0_1,.int .i64 a0_2],.int .i64 a1,.int .i64 a2]=zge zab a0_0 a0_1 a0_2 a1 a2:=zoD zab a0_0 a0_1 a0_2 a1 a2
def zgK:Ann:={ loops:=[(1,[.dead,.val (.cell (.int .i64)),.box true [(.int .i64),(.int .i64),(.int .i64)],.dead,.dead,.own 1,.dead,.dead,.dead,.dead,.dead,.dead,.val (.cell (.int .i64)),.val (.cell (.int .i64))])] }
noncomputable def zbg:List D→Option D:=denP Try.prog (zay [(ID.place_in,(.pure [0] zaZ)),(ID.geom_Width,(.pure [0] zab)),(ID.place_number,(.pure [0] zbt))]) zgK [1] ID.place_Numbers
theorem zj0:za6 Try.prog ID.place_Numbers (.pure [1] zbg):=zax (zaC [zhd,zcb,zlG]) zbw ⟨Try.f73,by kernel_rfl,by kernel_rfl,by kernel_rfl⟩
noncomputable def zk2:Fact Try.prog:=⟨ID.place_Numbers,(.pure [1] zbg),zj0⟩
noncomputable def zfz (zaZ:List D→Option D) (zab:List D→Option D) (zbt:List D→Option D) (a0_0:Int) (a0_1:Int) (a0_2:Int) (a1:Int):Option D:=
  zaw (zaZ [D.agg [D.int IntKind.i64 a0_0,D.int IntKind.i64 a0_1,D.int IntKind.i64 a0_2],D.int IntKind.i64 a1]) fun r1=>
  asB r1 fun b2=>
  brK (!b2)
    (some (D.sl Tag.own []))
    (zaw (zab [D.agg [D.int IntKind.i64 a0_0,D.int IntKind.i64 a0_1,D.int IntKind.i64 a0_2]]) fun r3=>
    asI IntKind.i64 r3 fun i4=>
    zcw (α:=(Int×(Int×Int×Int×PUnit)×List D×Int×Int×PUnit)×PUnit) (fun again5 ((i6,((i7,(i8,(i9,_))),(l10,(i11,(i12,_))))),_)=>
      brK (decide (i12 < i11))
        (zaw (zbt [D.agg [D.int IntKind.i64 i7,D.int IntKind.i64 i8,D.int IntKind.i64 i9],D.int IntKind.i64 i6,D.int IntKind.i64 i12]) fun r13=>
        asI IntKind.i64 r13 fun i14=>
        sif (List.length l10+(1:Nat)≤(4294967296:Nat)) <|
        sif (List.length l10=List.length l10) <|
        letN (IntKind.wrap IntKind.i64 (i12+(1:Int))) fun n15=>
        sif (List.length l10+(1:Nat)=List.length (l10++[D.int IntKind.i64 i14])) <|
        again5 (((i6,(i7,i8,i9,PUnit.unit),l10++[D.int IntKind.i64 i14],i11,n15,PUnit.unit),PUnit.unit)))
        (sif (List.length l10=List.length l10) <|
        sif (List.all l10 D.free=true) <|
        some (D.sl Tag.own l10)))
      (((a1,(a0_0,a0_1,a0_2,PUnit.unit),[],i4,(0:Int),PUnit.unit),PUnit.unit)))
theorem zn8 (zaZ:List D→Option D) (zab:List D→Option D) (zbt:List D→Option D) (a0_0:Int) (a0_1:Int) (a0_2:Int) (a1:Int):denP Try.prog (zay [(ID.place_in,(.pure [0] zaZ)),(ID.geom_Width,(.pure [0] zab)),(ID.place_number,(.pure [0] zbt))]) zgK [1] ID.place_Numbers [.agg [.int .i64 a0_0,.int .i64 a0_1,.int .i64 a0_2],.int .i64 a1]=zfz zaZ zab zbt a0_0 a0_1 a0_2 a1:=by kernel_rfl
theorem zk3 (a0_0:Int) (a0_1:Int) (a0_2:Int) (a1:Int):zbg [.agg [.int .i64 a0_0,.int .i64 a0_1,.int .i64 a0_2],.int .i64 a1]=zfz zaZ zab zbt a0_0 a0_1 a0_2 a1:=zn8 zaZ zab zbt a0_0 a0_1 a0_2 a1
def zjp:Ann:={ loops:=[(3,[.dead,.dead,.dead,.val (.cell (.int .i64)),.dead,.dead,.dead,.dead,.dead,.dead,.dead,.dead,.dead,.own 1,.dead,.dead,.dead,.dead,.dead,.dead,.dead,.dead,.dead,.dead,.dead,.dead,.dead,.dead,.dead,.dead,.dead,.dead,.dead,.dead,.dead,.dead,.dead,.dead,.dead,.dead,.dead,.dead,.dead,.dead,.dead,.dead,.dead,.dead,.dead,.dead,.own 1,.val (.cell (.int .i64)),.val (.cell (.int .i64))])],ks:=[(3840,false),(7649,false)] }
noncomputable def zbn:List D→List Tb→Option Ans:=denS Try.prog (zay [(ID.place_Of,(.pure [0,0,0] zb8)),(ID.stripe_up,(.st [] [0] [(3840,false),(7649,false)] zaz)),(ID.bench_Bench_Read,(.st [] [1,0] [(3840,false),(7649,false)] zau)),(ID.stripe_Read,(.st [] [1,0] [(3840,false),(7649,false)] zao)),(ID.place_Numbers,(.pure [1] zbg))]) zjp [0,0] ID.stripe_One
theorem zmC:za6 Try.prog ID.stripe_One (.st [] [0,0] [(3840,false),(7649,false)] zbn):=zbd (zaC [zqO,zel,zey,zeH,zk2]) zbw ⟨Try.f26,by kernel_rfl,by kernel_rfl,by kernel_rfl⟩
noncomputable def zn9:Fact Try.prog:=⟨ID.stripe_One,(.st [] [0,0] [(3840,false),(7649,false)] zbn),zmC⟩
noncomputable def ziv (zb8:List D→Option D) (zaz:List D→List Tb→Option Ans) (zau:List D→List Tb→Option Ans) (zao:List D→List Tb→Option Ans) (zbg:List D→Option D) (a0:Nat) (a1:List D) (a2_0:Int) (a2_1:Int) (a2_2:Int) (a3:Int) (T0:Tb) (T1:Tb):Option Ans:=
  zaw (zb8 [D.agg [D.int IntKind.i64 a2_0,D.int IntKind.i64 a2_1,D.int IntKind.i64 a2_2],D.int IntKind.i64 a3]) fun r1=>
  zde r1 fun ts2=>
  zap ([Lf.any,Lf.any,Lf.any]) ts2 fun c3=>
  asI IntKind.i64 c3.fst fun i4=>
  asI IntKind.i64 c3.snd.fst fun i5=>
  asB c3.snd.snd.fst fun b6=>
  brK (!b6)
    (some (Ans.mk (D.tup [D.sl Tag.nil [],D.int IntKind.i64 (4:Int)]) [] []))
    (zaw (zaz [D.h (3840:Nat) a0 (0:Nat),D.sl Tag.lent a1,D.int IntKind.i64 i4] [T0,T1]) fun r7=>
    nilK r7.outs <|
    nilK r7.tbs <|
    asB r7.r fun b8=>
    brK b8
      (letN (IntKind.wrap IntKind.i64 ((36:Int)+i5)) fun n9=>
      zaw (zau [D.h (3840:Nat) a0 (0:Nat),D.int IntKind.i64 i4,D.int IntKind.i64 n9] [T0,T1]) fun r10=>
      nilK r10.outs <|
      nilK r10.tbs <|
      zde r10.r fun ts11=>
      zap ([Lf.any,Lf.any]) ts11 fun c12=>
      za7 c12.fst fun l13=>
      asI IntKind.i64 c12.snd.fst fun i14=>
      sif ((0:Nat)+List.length l13≤List.length l13) <|
      sif (D.free (D.sl Tag.fresh (cut (0:Nat) (List.length l13) l13))=true) <|
      some (Ans.mk (D.tup [D.sl Tag.fresh (cut (0:Nat) (List.length l13) l13),D.int IntKind.i64 i14]) [] []))
      (zaw (zao [D.h (3840:Nat) a0 (0:Nat),D.sl Tag.lent a1,D.agg [D.int IntKind.i64 a2_0,D.int IntKind.i64 a2_1,D.int IntKind.i64 a2_2],D.int IntKind.i64 i5] [T0,T1]) fun r15=>
      nilK r15.outs <|
      nilK r15.tbs <|
      zde r15.r fun ts16=>
      zap ([Lf.any,Lf.any]) ts16 fun c17=>
      za7 c17.fst fun l18=>
      asI IntKind.i64 c17.snd.fst fun i19=>
      brK (i19 != (0:Int))
        (some (Ans.mk (D.tup [D.sl Tag.nil [],D.int IntKind.i64 i19]) [] []))
        (zaw (zbg [D.agg [D.int IntKind.i64 a2_0,D.int IntKind.i64 a2_1,D.int IntKind.i64 a2_2],D.int IntKind.i64 i5]) fun r20=>
        za7 r20 fun l21=>
        sif ((0:Nat)+List.length l21≤List.length l21) <|
        sif (List.length l18=List.length l18) <|
        sif (List.length l21=List.length l21) <|
        zcw (α:=(Int×List D×List D×Int×Int×PUnit)×List (List D)×List (List D)×PUnit) (fun again22 ((i23,(l24,(l25,(i26,(i27,_))))),(U28,(U29,_)))=>
          brK (decide (i27 < i26))
            (sif ((0:Int)≤i27) <|
            sif (Int.toNat i27 < List.length l25) <|
            getK l25 ((0:Nat)+Int.toNat i27) fun d30=>
            asI IntKind.i64 d30 fun i31=>
            brK (i31 == i23)
              (sif ((0:Int)≤i27) <|
              sif (Int.toNat i27 < List.length l24) <|
              getK l24 ((0:Nat)+Int.toNat i27) fun d32=>
              asSl d32 fun t33 l34=>
              sif (D.free (D.sl t33 l34)=true) <|
              some (Ans.mk (D.tup [D.sl t33 l34,D.int IntKind.i64 (0:Int)]) [] []))
              (letN (IntKind.wrap IntKind.i64 (i27+(1:Int))) fun n35=>
              sif (List.length l24=List.length l24) <|
              sif (List.length l25=List.length l25) <|
              again22 (((i23,l24,l25,i26,n35,PUnit.unit),U28,U29,PUnit.unit))))
            (some (Ans.mk (D.tup [D.sl Tag.nil [],D.int IntKind.i64 (4:Int)]) [] [])))
          (((a3,l18,l21,(↑(List.length l21):Int),(0:Int),PUnit.unit),T0,T1,PUnit.unit)))))
theorem zsj (zb8:List D→Option D) (zaz:List D→List Tb→Option Ans) (zau:List D→List Tb→Option Ans) (zao:List D→List Tb→Option Ans) (zbg:List D→Option D) (tga1:Tag) (a0:Nat) (a1:List D) (a2_0:Int) (a2_1:Int) (a2_2:Int) (a3:Int) (T0:Tb) (T1:Tb):denS Try.prog (zay [(ID.place_Of,(.pure [0,0,0] zb8)),(ID.stripe_up,(.st [] [0] [(3840,false),(7649,false)] zaz)),(ID.bench_Bench_Read,(.st [] [1,0] [(3840,false),(7649,false)] zau)),(ID.stripe_Read,(.st [] [1,0] [(3840,false),(7649,false)] zao)),(ID.place_Numbers,(.pure [1] zbg))]) zjp [0,0] ID.stripe_One [.h 3840 a0 0,.sl tga1 a1,.agg [.int .i64 a2_0,.int .i64 a2_1,.int .i64 a2_2],.int .i64 a3] [T0,T1]=ziv zb8 zaz zau zao zbg a0 (D.lentL a1) a2_0 a2_1 a2_2 a3 T0 T1:=by kernel_rfl
theorem zoa (tga1:Tag) (a0:Nat) (a1:List D) (a2_0:Int) (a2_1:Int) (a2_2:Int) (a3:Int) (T0:Tb) (T1:Tb):zbn [.h 3840 a0 0,.sl tga1 a1,.agg [.int .i64 a2_0,.int .i64 a2_1,.int .i64 a2_2],.int .i64 a3] [T0,T1]=ziv zb8 zaz zau zao zbg a0 (D.lentL a1) a2_0 a2_1 a2_2 a3 T0 T1:=zsj zb8 zaz zau zao zbg tga1 a0 a1 a2_0 a2_1 a2_2 a3 T0 T1
def zez:Ann:={ loops:=[],ks:=[(3840,true),(7649,true)] }
noncomputable def zaV:List D→Option D:=denT Try.prog (zay [(ID.bench_New,(.st [] [0,0] [(3840,true),(7649,true)] za3)),(ID.stripe_Read,(.st [] [1,0] [(3840,false),(7649,false)] zao)),(ID.wattlekeep_Same_byte,(.pure [0] zaI))]) zez [0] ID.wattlelaw14_wakes
theorem zhi:za6 Try.prog ID.wattlelaw14_wakes (.pure [0] zaV):=zpj (zaC [zjj,zeH,zgc]) zbw ⟨Try.f28,by kernel_rfl,by kernel_rfl,by kernel_rfl⟩
noncomputable def zhI:Fact Try.prog:=⟨ID.wattlelaw14_wakes,(.pure [0] zaV),zhi⟩
noncomputable def zdF (za3:List D→List Tb→Option Ans) (zao:List D→List Tb→Option Ans) (zaI:List D→Option D):Option D:=
  zaw (za3 [D.int IntKind.i64 (3:Int)] [[],[]]) fun r1=>
  nilK r1.outs <|
  zcY r1.tbs fun c2 q3=>
  zcY q3 fun c4 q5=>
  nilK q5 <|
  zde r1.r fun ts6=>
  zap ([Lf.any,Lf.any]) ts6 fun c7=>
  sif (zeN c7.fst=true) <|
  asI IntKind.i64 c7.snd.fst fun i8=>
  brK (i8 != (0:Int))
    (some (D.bool false))
    (zmn c7.fst fun b9=>
    brK b9
      (some (D.bool false))
      (zaw (zao [c7.fst,D.sl Tag.full [D.bool true,D.bool true,D.bool true],D.agg [D.int IntKind.i64 (5:Int),D.int IntKind.i64 (3:Int),D.int IntKind.i64 (1:Int)],D.int IntKind.i64 (4:Int)] [c2,c4]) fun r10=>
      nilK r10.outs <|
      nilK r10.tbs <|
      zde r10.r fun ts11=>
      zap ([Lf.any,Lf.any]) ts11 fun c12=>
      za7 c12.fst fun l13=>
      asI IntKind.i64 c12.snd.fst fun i14=>
      brK (i14 == (0:Int))
        (sif ((0:Nat)+List.length l13≤List.length l13) <|
        brK ((↑(List.length l13):Int) == (2:Int))
          (sif ((0:Nat) < List.length l13) <|
          getK l13 ((0:Nat)) fun d15=>
          asSl d15 fun t16 l17=>
          zaw (zaI [D.sl t16 l17,D.sl Tag.lent [D.int IntKind.u8 (0:Int),D.int IntKind.u8 (0:Int),D.int IntKind.u8 (0:Int),D.int IntKind.u8 (0:Int),D.int IntKind.u8 (0:Int),D.int IntKind.u8 (0:Int),D.int IntKind.u8 (0:Int),D.int IntKind.u8 (0:Int),D.int IntKind.u8 (0:Int),D.int IntKind.u8 (0:Int),D.int IntKind.u8 (0:Int),D.int IntKind.u8 (0:Int),D.int IntKind.u8 (0:Int),D.int IntKind.u8 (0:Int),D.int IntKind.u8 (0:Int),D.int IntKind.u8 (0:Int),D.int IntKind.u8 (0:Int),D.int IntKind.u8 (0:Int),D.int IntKind.u8 (0:Int),D.int IntKind.u8 (0:Int),D.int IntKind.u8 (0:Int),D.int IntKind.u8 (0:Int),D.int IntKind.u8 (0:Int),D.int IntKind.u8 (0:Int),D.int IntKind.u8 (0:Int),D.int IntKind.u8 (0:Int),D.int IntKind.u8 (0:Int),D.int IntKind.u8 (0:Int),D.int IntKind.u8 (0:Int),D.int IntKind.u8 (0:Int),D.int IntKind.u8 (0:Int),D.int IntKind.u8 (0:Int)]]) fun r18=>
          asB r18 fun b19=>
          some (D.bool b19))
          (some (D.bool false)))
        (some (D.bool false))))
theorem zj1 (za3:List D→List Tb→Option Ans) (zao:List D→List Tb→Option Ans) (zaI:List D→Option D):denT Try.prog (zay [(ID.bench_New,(.st [] [0,0] [(3840,true),(7649,true)] za3)),(ID.stripe_Read,(.st [] [1,0] [(3840,false),(7649,false)] zao)),(ID.wattlekeep_Same_byte,(.pure [0] zaI))]) zez [0] ID.wattlelaw14_wakes []=sif (D.nohL []=true) (zdF za3 zao zaI ):=by kernel_rfl
theorem zhJ:zaV []=sif (D.nohL []=true) (zdF za3 zao zaI ):=zj1 za3 zao zaI
def ziw:Ann:={ loops:=[] }
noncomputable def zbD:List D→Option D:=denP Try.prog (zay [(ID.slices_ContainsFunc_byte_byte,(.pure [0] zaa)),(ID.row_sectors_1,(.pure [0] zaf))]) ziw [0] ID.row_sectors
theorem zlI:za6 Try.prog ID.row_sectors (.pure [0] zbD):=zax (zaC [zce,zdZ]) zbw ⟨Try.f108,by kernel_rfl,by kernel_rfl,by kernel_rfl⟩
noncomputable def zmD:Fact Try.prog:=⟨ID.row_sectors,(.pure [0] zbD),zlI⟩
noncomputable def zhj (zaa:List D→Option D) (zaf:List D→Option D) (a0:List D):Option D:=
  zaw (zaa [D.sl Tag.lent a0,D.fn (135:Nat) [] []]) fun r1=>
  asB r1 fun b2=>
  some (D.bool !b2)
theorem zqQ (zaa:List D→Option D) (zaf:List D→Option D) (tga0:Tag) (a0:List D):denP Try.prog (zay [(ID.slices_ContainsFunc_byte_byte,(.pure [0] zaa)),(ID.row_sectors_1,(.pure [0] zaf))]) ziw [0] ID.row_sectors [.sl tga0 a0]=zhj zaa zaf (D.lentL a0):=by kernel_rfl
theorem zmE (tga0:Tag) (a0:List D):zbD [.sl tga0 a0]=zhj zaa zaf (D.lentL a0):=zqQ zaa zaf tga0 a0
def zmi:Ann:={ loops:=[(1,[.dead,.val (.cell (.int .i64)),.val (.cell .lent),.box true [(.int .i64),(.int .i64),(.int .i64)],.dead,.dead,.dead,.dead,.own 1,.dead,.dead,.dead,.dead,.dead,.dead,.dead,.dead,.dead,.dead,.dead,.dead,.dead,.dead,.dead,.dead,.dead,.dead,.dead,.dead,.dead,.dead,.dead,.val (.cell .lent),.val (.cell (.int .i64)),.val (.cell (.int .i64))])] }
noncomputable def zcj:List D→Option D:=denP Try.prog (zay [(ID.row_in,(.pure [0] zbZ)),(ID.geom_Width,(.pure [0] zab)),(ID.row_sectors,(.pure [0] zbD)),(ID.place_Disk,(.pure [0] zaE)),(ID.slices_Clone_byte_byte,(.pure [1] zae)),(ID.place_Parity,(.pure [0,0] zas)),(ID.synd_P,(.pure [1] zbp)),(ID.synd_Q,(.pure [1] zbq))]) zmi [1,0] ID.row_Fill
theorem zoE:za6 Try.prog ID.row_Fill (.pure [1,0] zcj):=zax (zaC [znU,zcb,zmD,zft,zc6,zee,zjV,zjW]) zbw ⟨Try.f77,by kernel_rfl,by kernel_rfl,by kernel_rfl⟩
noncomputable def zqR:Fact Try.prog:=⟨ID.row_Fill,(.pure [1,0] zcj),zoE⟩
noncomputable def zlJ (zbZ:List D→Option D) (zab:List D→Option D) (zbD:List D→Option D) (zaE:List D→Option D) (zae:List D→Option D) (zas:List D→Option D) (zbp:List D→Option D) (zbq:List D→Option D) (a0_0:Int) (a0_1:Int) (a0_2:Int) (a1:Int) (a2:List D):Option D:=
  zaw (zbZ [D.agg [D.int IntKind.i64 a0_0,D.int IntKind.i64 a0_1,D.int IntKind.i64 a0_2],D.int IntKind.i64 a1]) fun r1=>
  asB r1 fun b2=>
  brK (!b2)
    (some (D.tup [D.sl Tag.own [],D.bool false]))
    (zaw (zab [D.agg [D.int IntKind.i64 a0_0,D.int IntKind.i64 a0_1,D.int IntKind.i64 a0_2]]) fun r3=>
    asI IntKind.i64 r3 fun i4=>
    brK ((↑(List.length a2):Int) != i4)
      (some (D.tup [D.sl Tag.own [],D.bool false]))
      (zaw (zbD [D.sl Tag.lent a2]) fun r5=>
      asB r5 fun b6=>
      brK (!b6)
        (some (D.tup [D.sl Tag.own [],D.bool false]))
        (sif ((0:Int)≤a0_1) <|
        sif (a0_1=a0_1) <|
        sif (a0_1*(24:Int)≤(140737488355328:Int)) <|
        sif (a0_1≤(140737488355328:Int)) <|
        sif (Int.toNat a0_1=List.length (List.replicate (Int.toNat a0_1) (D.sl Tag.nil []))) <|
        zcw (α:=(Int×List D×(Int×Int×Int×PUnit)×List D×List D×Int×Int×PUnit)×PUnit) (fun again7 ((i8,(l9,((i10,(i11,(i12,_))),(l13,(l14,(i15,(i16,_))))))),_)=>
          brK (decide (i16 < i15))
            (sif ((0:Int)≤i16) <|
            getK l14 (Int.toNat i16) fun d17=>
            asSl d17 fun t18 l19=>
            zaw (zaE [D.agg [D.int IntKind.i64 i10,D.int IntKind.i64 i11,D.int IntKind.i64 i12],D.int IntKind.i64 i8,D.int IntKind.i64 i16]) fun r20=>
            asI IntKind.i64 r20 fun i21=>
            zaw (zae [D.sl t18 l19]) fun r22=>
            za7 r22 fun l23=>
            sif ((0:Int)≤i21) <|
            sif (Int.toNat i21 < List.length l13) <|
            sif ((0:Nat)+List.length l23≤List.length l23) <|
            getK l13 ((0:Nat)+Int.toNat i21) fun d24=>
            sif ((0:Nat)+List.length l23≤List.length l23) <|
            sif (D.isAgg d24=false) <|
            letN (IntKind.wrap IntKind.i64 (i16+(1:Int))) fun n25=>
            sif (List.length l13=List.length (List.set l13 ((0:Nat)+Int.toNat i21) (D.sl Tag.fresh (cut (0:Nat) (List.length l23) l23)))) <|
            again7 (((i8,l9,(i10,i11,i12,PUnit.unit),List.set l13 ((0:Nat)+Int.toNat i21) (D.sl Tag.fresh (cut (0:Nat) (List.length l23) l23)),l14,i15,n25,PUnit.unit),PUnit.unit)))
            (zaw (zas [D.agg [D.int IntKind.i64 i10,D.int IntKind.i64 i11,D.int IntKind.i64 i12],D.int IntKind.i64 i8]) fun r26=>
            zde r26 fun ts27=>
            zap ([Lf.any,Lf.any]) ts27 fun c28=>
            asI IntKind.i64 c28.fst fun i29=>
            asI IntKind.i64 c28.snd.fst fun i30=>
            zaw (zbp [D.sl Tag.lent l9]) fun r31=>
            za7 r31 fun l32=>
            sif ((0:Int)≤i29) <|
            sif (Int.toNat i29 < List.length l13) <|
            sif ((0:Nat)+List.length l32≤List.length l32) <|
            getK l13 ((0:Nat)+Int.toNat i29) fun d33=>
            sif ((0:Nat)+List.length l32≤List.length l32) <|
            sif (D.isAgg d33=false) <|
            brK (decide (i30≥(0:Int)))
              (zaw (zbq [D.sl Tag.lent l9]) fun r34=>
              za7 r34 fun l35=>
              sif ((0:Int)≤i30) <|
              sif (Int.toNat i30 < List.length l13) <|
              sif ((0:Nat)+List.length l35≤List.length l35) <|
              getK (List.set l13 ((0:Nat)+Int.toNat i29) (D.sl Tag.fresh (cut (0:Nat) (List.length l32) l32))) ((0:Nat)+Int.toNat i30) fun d36=>
              sif ((0:Nat)+List.length l35≤List.length l35) <|
              sif (D.isAgg d36=false) <|
              sif (List.length l13=List.length (List.set (List.set l13 ((0:Nat)+Int.toNat i29) (D.sl Tag.fresh (cut (0:Nat) (List.length l32) l32))) ((0:Nat)+Int.toNat i30) (D.sl Tag.fresh (cut (0:Nat) (List.length l35) l35)))) <|
              sif (List.all (List.set (List.set l13 ((0:Nat)+Int.toNat i29) (D.sl Tag.fresh (cut (0:Nat) (List.length l32) l32))) ((0:Nat)+Int.toNat i30) (D.sl Tag.fresh (cut (0:Nat) (List.length l35) l35))) D.free=true) <|
              some (D.tup [D.sl Tag.own (List.set (List.set l13 ((0:Nat)+Int.toNat i29) (D.sl Tag.fresh (cut (0:Nat) (List.length l32) l32))) ((0:Nat)+Int.toNat i30) (D.sl Tag.fresh (cut (0:Nat) (List.length l35) l35))),D.bool true]))
              (sif (List.length l13=List.length (List.set l13 ((0:Nat)+Int.toNat i29) (D.sl Tag.fresh (cut (0:Nat) (List.length l32) l32)))) <|
              sif (List.all (List.set l13 ((0:Nat)+Int.toNat i29) (D.sl Tag.fresh (cut (0:Nat) (List.length l32) l32))) D.free=true) <|
              some (D.tup [D.sl Tag.own (List.set l13 ((0:Nat)+Int.toNat i29) (D.sl Tag.fresh (cut (0:Nat) (List.length l32) l32))),D.bool true]))))
          (((a1,a2,(a0_0,a0_1,a0_2,PUnit.unit),List.replicate (Int.toNat a0_1) (D.sl Tag.nil []),a2,(↑(List.length a2):Int),(0:Int),PUnit.unit),PUnit.unit)))))
theorem zvj (zbZ:List D→Option D) (zab:List D→Option D) (zbD:List D→Option D) (zaE:List D→Option D) (zae:List D→Option D) (zas:List D→Option D) (zbp:List D→Option D) (zbq:List D→Option D) (tga2:Tag) (a0_0:Int) (a0_1:Int) (a0_2:Int) (a1:Int) (a2:List D):denP Try.prog (zay [(ID.row_in,(.pure [0] zbZ)),(ID.geom_Width,(.pure [0] zab)),(ID.row_sectors,(.pure [0] zbD)),(ID.place_Disk,(.pure [0] zaE)),(ID.slices_Clone_byte_byte,(.pure [1] zae)),(ID.place_Parity,(.pure [0,0] zas)),(ID.synd_P,(.pure [1] zbp)),(ID.synd_Q,(.pure [1] zbq))]) zmi [1,0] ID.row_Fill [.agg [.int .i64 a0_0,.int .i64 a0_1,.int .i64 a0_2],.int .i64 a1,.sl tga2 a2]=zlJ zbZ zab zbD zaE zae zas zbp zbq a0_0 a0_1 a0_2 a1 (D.lentL a2):=by kernel_rfl
theorem zqS (tga2:Tag) (a0_0:Int) (a0_1:Int) (a0_2:Int) (a1:Int) (a2:List D):zcj [.agg [.int .i64 a0_0,.int .i64 a0_1,.int .i64 a0_2],.int .i64 a1,.sl tga2 a2]=zlJ zbZ zab zbD zaE zae zas zbp zbq a0_0 a0_1 a0_2 a1 (D.lentL a2):=zvj zbZ zab zbD zaE zae zas zbp zbq tga2 a0_0 a0_1 a0_2 a1 a2
def zfA:Ann:={ loops:=[],pubs:=[(2,[(3,119,7649)])],ks:=[(7649,true)] }
noncomputable def za9:List D→List Tb→Option Ans:=denS Try.prog (zay [(ID.slices_Clone_disk_write_disk_write,(.pure [33] zag))]) zfA [0] ID.disk_Disk_Clone
theorem zix:za6 Try.prog ID.disk_Disk_Clone (.st [] [0] [(7649,true)] za9):=zbd (zaC [zc2]) zbw ⟨Try.f93,by kernel_rfl,by kernel_rfl,by kernel_rfl⟩
noncomputable def zi6:Fact Try.prog:=⟨ID.disk_Disk_Clone,(.st [] [0] [(7649,true)] za9),zix⟩
noncomputable def zeg (zag:List D→Option D) (a0:Nat) (T0:Tb):Option Ans:=
  getK T0 a0 fun d1=>
  sif ((1666:Nat)≤List.length d1) <|
  sif (List.length (List.map D.hide (List.take (1666:Nat) (List.drop (0:Nat) d1)))=(1666:Nat)) <|
  getK T0 a0 fun d2=>
  getK d2 ((1664:Nat)) fun d3=>
  za7 d3 fun l4=>
  getK T0 a0 fun d5=>
  getK d5 ((1664:Nat)) fun d6=>
  za7 d6 fun l7=>
  sif ((0:Nat)+List.length l4≤List.length l7) <|
  zaw (zag [D.sl Tag.lent (cut (0:Nat) (List.length l4) l7)]) fun r8=>
  za7 r8 fun l9=>
  sif ((0:Nat)+List.length l9≤List.length l9) <|
  sif ((1664:Nat) < List.length (spl (0:Nat) (1666:Nat) (List.reverse ([D.bool false,D.sl Tag.nil []]++List.replicate 1664 (D.int IntKind.u8 (0:Int)))) (List.map D.hide (List.take (1666:Nat) (List.drop (0:Nat) d1))))) <|
  sif (some (1666:Nat)=some (List.length (spl (0:Nat) (1666:Nat) (List.reverse ([D.bool false,D.sl Tag.nil []]++List.replicate 1664 (D.int IntKind.u8 (0:Int)))) (List.map D.hide (List.take (1666:Nat) (List.drop (0:Nat) d1)))))) <|
  sif (List.length l9=List.length l9) <|
  sif (zcM l9=true) <|
  sif (zeM (33:Nat) l9=true) <|
  sif (List.all (List.set (spl (0:Nat) (1666:Nat) (List.reverse ([D.bool false,D.sl Tag.nil []]++List.replicate 1664 (D.int IntKind.u8 (0:Int)))) (List.map D.hide (List.take (1666:Nat) (List.drop (0:Nat) d1)))) (1664:Nat) D.nilp) D.own0ok=true) <|
  sif ((true && decide ((1:Nat)=(1:Nat)) && List.all [(1664:Nat)] fun k=>decide (k < List.length (spl (0:Nat) (1666:Nat) (List.reverse ([D.bool false,D.sl Tag.nil []]++List.replicate 1664 (D.int IntKind.u8 (0:Int)))) (List.map D.hide (List.take (1666:Nat) (List.drop (0:Nat) d1))))))=true) <|
  letT (T0++[List.set (List.map D.own0 (spl (0:Nat) (1666:Nat) (List.reverse ([D.bool false,D.sl Tag.nil []]++List.replicate 1664 (D.int IntKind.u8 (0:Int)))) (List.map D.hide (List.take (1666:Nat) (List.drop (0:Nat) d1))))) (1664:Nat) (D.sl Tag.own l9)]) fun U10=>
  some (Ans.mk (D.h (7649:Nat) (List.length T0) (0:Nat)) [] [U10])
theorem zlK (zag:List D→Option D) (a0:Nat) (T0:Tb):denS Try.prog (zay [(ID.slices_Clone_disk_write_disk_write,(.pure [33] zag))]) zfA [0] ID.disk_Disk_Clone [.h 7649 a0 0] [T0]=zeg zag a0 T0:=by kernel_rfl
theorem zi7 (a0:Nat) (T0:Tb):za9 [.h 7649 a0 0] [T0]=zeg zag a0 T0:=zlK zag a0 T0
def zfB:Ann:={ loops:=[],ks:=[(7649,true)] }
noncomputable def za1:List D→List Tb→Option Ans:=denS Try.prog (zay [(ID.disk_Disk_put,(.st [] [0,0] [(7649,false)] zbk))]) zfB [0] ID.disk_Disk_Write
theorem ziy:za6 Try.prog ID.disk_Disk_Write (.st [] [0] [(7649,true)] za1):=zbd (zaC [zkI]) zbw ⟨Try.f112,by kernel_rfl,by kernel_rfl,by kernel_rfl⟩
noncomputable def zi8:Fact Try.prog:=⟨ID.disk_Disk_Write,(.st [] [0] [(7649,true)] za1),ziy⟩
noncomputable def zeh (zbk:List D→List Tb→Option Ans) (a0:Nat) (a1:Int) (a2:List D) (T0:Tb):Option Ans:=
  zaw (zbk [D.h (7649:Nat) a0 (0:Nat),D.int IntKind.i64 a1,D.sl Tag.lent a2] [T0]) fun r1=>
  nilK r1.outs <|
  nilK r1.tbs <|
  zde r1.r fun ts2=>
  zap ([Lf.any,Lf.any]) ts2 fun c3=>
  asAgg c3.fst fun cs4=>
  zap ([Lf.int IntKind.i64,Lf.arr (32)]) cs4 fun c5=>
  asI IntKind.i64 c3.snd.fst fun i6=>
  sif (List.length ([D.int IntKind.i64 c5.fst]++(c5.snd.fst++[]))=(33:Nat)) <|
  brK (i6 == (0:Int))
    (getK T0 a0 fun d7=>
    getK d7 ((1664:Nat)) fun d8=>
    za7 d8 fun l9=>
    sif ((33:Nat)≤List.length ([D.int IntKind.i64 c5.fst]++(c5.snd.fst++[]))) <|
    zap ([Lf.int IntKind.i64,Lf.arr (32)]) (List.take (33:Nat) (List.drop (0:Nat) ([D.int IntKind.i64 c5.fst]++(c5.snd.fst++[])))) fun c10=>
    sif (zds (33:Nat) [D.agg ([D.int IntKind.i64 c10.fst]++(c10.snd.fst++[]))]=true) <|
    getK T0 a0 fun d11=>
    getK d11 ((1664:Nat)) fun d12=>
    za7 d12 fun l13=>
    sif (List.length l9+(1:Nat)≤(4294967296:Nat)) <|
    sif (zds (33:Nat) [D.agg ([D.int IntKind.i64 c10.fst]++(c10.snd.fst++[]))]=true) <|
    sif (List.length l9=List.length l13) <|
    letT (setT T0 a0 (1664:Nat) D.undef) fun U14=>
    getK U14 a0 fun d15=>
    sif ((1665:Nat)≤List.length d15) <|
    sif (List.length l9+(1:Nat)=List.length (l13++[D.agg ([D.int IntKind.i64 c10.fst]++(c10.snd.fst++[]))])) <|
    sif (zcM (l13++[D.agg ([D.int IntKind.i64 c10.fst]++(c10.snd.fst++[]))])=true) <|
    sif (zeM (33:Nat) (l13++[D.agg ([D.int IntKind.i64 c10.fst]++(c10.snd.fst++[]))])=true) <|
    letT (zaM U14 a0 (1664:Nat) [D.sl Tag.own (l13++[D.agg ([D.int IntKind.i64 c10.fst]++(c10.snd.fst++[]))])]) fun U16=>
    some (Ans.mk (D.int IntKind.i64 i6) [] [U16]))
    (some (Ans.mk (D.int IntKind.i64 i6) [] [T0]))
theorem zlL (zbk:List D→List Tb→Option Ans) (tga2:Tag) (a0:Nat) (a1:Int) (a2:List D) (T0:Tb):denS Try.prog (zay [(ID.disk_Disk_put,(.st [] [0,0] [(7649,false)] zbk))]) zfB [0] ID.disk_Disk_Write [.h 7649 a0 0,.int .i64 a1,.sl tga2 a2] [T0]=zeh zbk a0 a1 (D.lentL a2) T0:=by kernel_rfl
theorem zi9 (tga2:Tag) (a0:Nat) (a1:Int) (a2:List D) (T0:Tb):za1 [.h 7649 a0 0,.int .i64 a1,.sl tga2 a2] [T0]=zeh zbk a0 a1 (D.lentL a2) T0:=zlL zbk tga2 a0 a1 a2 T0
def zd0:Ann:={ loops:=[],ks:=[(3840,true)] }
noncomputable def zaO:List D→List Tb→Option Ans:=denS Try.prog (zay []) zd0 [0] ID.bench_counter_count
theorem zgf:za6 Try.prog ID.bench_counter_count (.st [] [0] [(3840,true)] zaO):=zbd (zaC []) zbw ⟨Try.f113,by kernel_rfl,by kernel_rfl,by kernel_rfl⟩
noncomputable def zgL:Fact Try.prog:=⟨ID.bench_counter_count,(.st [] [0] [(3840,true)] zaO),zgf⟩
noncomputable def zc7 (a0:Nat) (T0:Tb):Option Ans:=
  getK T0 a0 fun d1=>
  getK d1 ((1:Nat)) fun d2=>
  asI IntKind.i64 d2 fun i3=>
  brK (i3 == (0:Int))
    (getK T0 a0 fun d4=>
    sif ((3:Nat)≤List.length d4) <|
    sif (zf4 (List.take (1:Nat) (List.drop (2:Nat) d4))=true) <|
    letT (zaM T0 a0 (2:Nat) [D.bool true]) fun U5=>
    some (Ans.mk (D.bool false) [] [U5]))
    (getK T0 a0 fun d6=>
    getK d6 ((1:Nat)) fun d7=>
    asI IntKind.i64 d7 fun i8=>
    brK (decide (i8 > (0:Int)))
      (getK T0 a0 fun d9=>
      getK d9 ((1:Nat)) fun d10=>
      asI IntKind.i64 d10 fun i11=>
      letN (IntKind.wrap IntKind.i64 (i11 - (1:Int))) fun n12=>
      getK T0 a0 fun d13=>
      sif ((2:Nat)≤List.length d13) <|
      sif (zf4 (List.take (1:Nat) (List.drop (1:Nat) d13))=true) <|
      letT (zaM T0 a0 (1:Nat) [D.int IntKind.i64 n12]) fun U14=>
      getK U14 a0 fun d15=>
      getK d15 ((0:Nat)) fun d16=>
      asI IntKind.i64 d16 fun i17=>
      letN (IntKind.wrap IntKind.i64 (i17+(1:Int))) fun n18=>
      getK U14 a0 fun d19=>
      sif ((1:Nat)≤List.length d19) <|
      sif (zf4 (List.take (1:Nat) (List.drop (0:Nat) d19))=true) <|
      letT (zaM U14 a0 (0:Nat) [D.int IntKind.i64 n18]) fun U20=>
      some (Ans.mk (D.bool true) [] [U20]))
      (getK T0 a0 fun d21=>
      getK d21 ((0:Nat)) fun d22=>
      asI IntKind.i64 d22 fun i23=>
      letN (IntKind.wrap IntKind.i64 (i23+(1:Int))) fun n24=>
      getK T0 a0 fun d25=>
      sif ((1:Nat)≤List.length d25) <|
      sif (zf4 (List.take (1:Nat) (List.drop (0:Nat) d25))=true) <|
      letT (zaM T0 a0 (0:Nat) [D.int IntKind.i64 n24]) fun U26=>
      some (Ans.mk (D.bool true) [] [U26])))
theorem ziz (a0:Nat) (T0:Tb):denS Try.prog (zay []) zd0 [0] ID.bench_counter_count [.h 3840 a0 0] [T0]=zc7 a0 T0:=by kernel_rfl
theorem zgM (a0:Nat) (T0:Tb):zaO [.h 3840 a0 0] [T0]=zc7 a0 T0:=ziz a0 T0
def zeA:Ann:={ loops:=[],ks:=[(3840,true),(7649,true)] }
noncomputable def zaW:List D→List Tb→Option Ans:=denS Try.prog (zay [(ID.bench_Bench_may,(.st [] [0] [(3840,false)] zaj)),(ID.disk_Disk_Clone,(.st [] [0] [(7649,true)] za9)),(ID.disk_Disk_Write,(.st [] [0] [(7649,true)] za1)),(ID.bench_counter_count,(.st [] [0] [(3840,true)] zaO))]) zeA [0] ID.bench_Bench_Write
theorem zhk:za6 Try.prog ID.bench_Bench_Write (.st [] [0] [(3840,true),(7649,true)] zaW):=zbd (zaC [zdn,zi6,zi8,zgL]) zbw ⟨Try.f78,by kernel_rfl,by kernel_rfl,by kernel_rfl⟩
noncomputable def zhK:Fact Try.prog:=⟨ID.bench_Bench_Write,(.st [] [0] [(3840,true),(7649,true)] zaW),zhk⟩
noncomputable def zdG (zaj:List D→List Tb→Option Ans) (za9:List D→List Tb→Option Ans) (za1:List D→List Tb→Option Ans) (zaO:List D→List Tb→Option Ans) (a0:Nat) (a1:Int) (a2:Int) (a3:List D) (T0:Tb) (T1:Tb):Option Ans:=
  zaw (zaj [D.h (3840:Nat) a0 (0:Nat),D.int IntKind.i64 a1] [T0]) fun r1=>
  nilK r1.outs <|
  nilK r1.tbs <|
  asI IntKind.i64 r1.r fun i2=>
  brK (i2 != (0:Int))
    (some (Ans.mk (D.int IntKind.i64 i2) [] [T0,T1]))
    (getK T0 a0 fun d3=>
    getK d3 ((3:Nat)) fun d4=>
    za7 d4 fun l5=>
    getK T0 a0 fun d6=>
    getK d6 ((3:Nat)) fun d7=>
    za7 d7 fun l8=>
    sif ((0:Int)≤a1) <|
    sif (Int.toNat a1 < List.length l5) <|
    getK T0 a0 fun d9=>
    getK d9 ((3:Nat)) fun d10=>
    za7 d10 fun l11=>
    getK l11 ((0:Nat)+Int.toNat a1) fun d12=>
    sif (D.isAgg d12=false) <|
    sif (D.width d12=(1:Nat)) <|
    sif (D.cell d12=true) <|
    zaw (za9 [d12] [T1]) fun r13=>
    nilK r13.outs <|
    zcY r13.tbs fun c14 q15=>
    nilK q15 <|
    sif (zeN r13.r=true) <|
    zaw (za1 [r13.r,D.int IntKind.i64 a2,D.sl Tag.lent a3] [c14]) fun r16=>
    nilK r16.outs <|
    zcY r16.tbs fun c17 q18=>
    nilK q18 <|
    asI IntKind.i64 r16.r fun i19=>
    brK (i19 != (0:Int))
      (some (Ans.mk (D.int IntKind.i64 i19) [] [T0,c17]))
      (zaw (zaO [D.h (3840:Nat) a0 (0:Nat)] [T0]) fun r20=>
      nilK r20.outs <|
      zcY r20.tbs fun c21 q22=>
      nilK q22 <|
      asB r20.r fun b23=>
      brK (!b23)
        (some (Ans.mk (D.int IntKind.i64 (6:Int)) [] [c21,c17]))
        (getK c21 a0 fun d24=>
        getK d24 ((3:Nat)) fun d25=>
        za7 d25 fun l26=>
        getK c21 a0 fun d27=>
        getK d27 ((3:Nat)) fun d28=>
        za7 d28 fun l29=>
        sif ((0:Int)≤a1) <|
        sif (Int.toNat a1 < List.length l26) <|
        getK c21 a0 fun d30=>
        getK d30 ((3:Nat)) fun d31=>
        za7 d31 fun l32=>
        getK l32 ((0:Nat)+Int.toNat a1) fun d33=>
        sif (D.isAgg d33=false) <|
        sif (D.width d33=(1:Nat)) <|
        sif (D.cell d33=true) <|
        zaw (za1 [d33,D.int IntKind.i64 a2,D.sl Tag.lent a3] [c17]) fun r34=>
        nilK r34.outs <|
        zcY r34.tbs fun c35 q36=>
        nilK q36 <|
        asI IntKind.i64 r34.r fun i37=>
        some (Ans.mk (D.int IntKind.i64 i37) [] [c21,c35]))))
theorem zj2 (zaj:List D→List Tb→Option Ans) (za9:List D→List Tb→Option Ans) (za1:List D→List Tb→Option Ans) (zaO:List D→List Tb→Option Ans) (tga3:Tag) (a0:Nat) (a1:Int) (a2:Int) (a3:List D) (T0:Tb) (T1:Tb):denS Try.prog (zay [(ID.bench_Bench_may,(.st [] [0] [(3840,false)] zaj)),(ID.disk_Disk_Clone,(.st [] [0] [(7649,true)] za9)),(ID.disk_Disk_Write,(.st [] [0] [(7649,true)] za1)),(ID.bench_counter_count,(.st [] [0] [(3840,true)] zaO))]) zeA [0] ID.bench_Bench_Write [.h 3840 a0 0,.int .i64 a1,.int .i64 a2,.sl tga3 a3] [T0,T1]=zdG zaj za9 za1 zaO a0 a1 a2 (D.lentL a3) T0 T1:=by kernel_rfl
theorem zhL (tga3:Tag) (a0:Nat) (a1:Int) (a2:Int) (a3:List D) (T0:Tb) (T1:Tb):zaW [.h 3840 a0 0,.int .i64 a1,.int .i64 a2,.sl tga3 a3] [T0,T1]=zdG zaj za9 za1 zaO a0 a1 a2 (D.lentL a3) T0 T1:=zj2 zaj za9 za1 zaO tga3 a0 a1 a2 a3 T0 T1
def zhy:Ann:={ loops:=[(1,[.val (.cell (.hnd (3840:Nat))),.val (.cell .lent),.dead,.val (.cell (.int .i64)),.dead,.dead,.dead,.dead,.dead,.dead,.dead,.dead,.dead,.dead,.dead,.dead,.dead,.dead,.dead,.dead,.dead,.dead,.dead,.dead,.dead,.own 1,.val (.cell (.int .i64)),.val (.cell (.int .i64))])],ks:=[(3840,true),(7649,true)] }
noncomputable def zaD:List D→List Tb→Option Ans:=denS Try.prog (zay [(ID.row_Fill,(.pure [1,0] zcj)),(ID.stripe_up,(.st [] [0] [(3840,false),(7649,false)] zaz)),(ID.bench_Bench_Write,(.st [] [0] [(3840,true),(7649,true)] zaW))]) zhy [0] ID.stripe_Write
theorem zk4:za6 Try.prog ID.stripe_Write (.st [] [0] [(3840,true),(7649,true)] zaD):=zbd (zaC [zqR,zel,zhK]) zbw ⟨Try.f33,by kernel_rfl,by kernel_rfl,by kernel_rfl⟩
noncomputable def zlM:Fact Try.prog:=⟨ID.stripe_Write,(.st [] [0] [(3840,true),(7649,true)] zaD),zk4⟩
noncomputable def zem (zcj:List D→Option D) (zaz:List D→List Tb→Option Ans) (zaW:List D→List Tb→Option Ans) (a0:Nat) (a1:List D) (a2_0:Int) (a2_1:Int) (a2_2:Int) (a3:Int) (a4:List D) (T0:Tb) (T1:Tb):Option Ans:=
  zaw (zcj [D.agg [D.int IntKind.i64 a2_0,D.int IntKind.i64 a2_1,D.int IntKind.i64 a2_2],D.int IntKind.i64 a3,D.sl Tag.lent a4]) fun r1=>
  zde r1 fun ts2=>
  zap ([Lf.any,Lf.any]) ts2 fun c3=>
  za7 c3.fst fun l4=>
  asB c3.snd.fst fun b5=>
  brK (!b5)
    (some (Ans.mk (D.int IntKind.i64 (1:Int)) [] [T0,T1]))
    (sif ((0:Nat)+List.length l4≤List.length l4) <|
    sif (List.length l4=List.length l4) <|
    zcw (α:=(Nat×List D×Int×List D×Int×Int×PUnit)×List (List D)×List (List D)×PUnit) (fun again6 ((x7,(l8,(i9,(l10,(i11,(i12,_)))))),(U13,(U14,_)))=>
      brK (decide (i12 < i11))
        (sif ((0:Int)≤i12) <|
        sif (Int.toNat i12 < List.length l10) <|
        getK l10 ((0:Nat)+Int.toNat i12) fun d15=>
        asSl d15 fun t16 l17=>
        zaw (zaz [D.h (3840) x7 (0:Nat),D.sl Tag.lent l8,D.int IntKind.i64 i12] [U13,U14]) fun r18=>
        nilK r18.outs <|
        nilK r18.tbs <|
        asB r18.r fun b19=>
        brK (!b19)
          (letN (IntKind.wrap IntKind.i64 (i12+(1:Int))) fun n20=>
          sif (List.length l10=List.length l10) <|
          again6 (((x7,l8,i9,l10,i11,n20,PUnit.unit),U13,U14,PUnit.unit)))
          (letN (IntKind.wrap IntKind.i64 ((36:Int)+i9)) fun n21=>
          zaw (zaW [D.h (3840) x7 (0:Nat),D.int IntKind.i64 i12,D.int IntKind.i64 n21,D.sl t16 l17] [U13,U14]) fun r22=>
          nilK r22.outs <|
          zcY r22.tbs fun c23 q24=>
          zcY q24 fun c25 q26=>
          nilK q26 <|
          asI IntKind.i64 r22.r fun i27=>
          brK (i27 != (0:Int))
            (some (Ans.mk (D.int IntKind.i64 i27) [] [c23,c25]))
            (letN (IntKind.wrap IntKind.i64 (i12+(1:Int))) fun n28=>
            sif (List.length l10=List.length l10) <|
            again6 (((x7,l8,i9,l10,i11,n28,PUnit.unit),c23,c25,PUnit.unit)))))
        (some (Ans.mk (D.int IntKind.i64 (0:Int)) [] [U13,U14])))
      (((a0,a1,a3,l4,(↑(List.length l4):Int),(0:Int),PUnit.unit),T0,T1,PUnit.unit)))
theorem zoF (zcj:List D→Option D) (zaz:List D→List Tb→Option Ans) (zaW:List D→List Tb→Option Ans) (tga1:Tag) (tga4:Tag) (a0:Nat) (a1:List D) (a2_0:Int) (a2_1:Int) (a2_2:Int) (a3:Int) (a4:List D) (T0:Tb) (T1:Tb):denS Try.prog (zay [(ID.row_Fill,(.pure [1,0] zcj)),(ID.stripe_up,(.st [] [0] [(3840,false),(7649,false)] zaz)),(ID.bench_Bench_Write,(.st [] [0] [(3840,true),(7649,true)] zaW))]) zhy [0] ID.stripe_Write [.h 3840 a0 0,.sl tga1 a1,.agg [.int .i64 a2_0,.int .i64 a2_1,.int .i64 a2_2],.int .i64 a3,.sl tga4 a4] [T0,T1]=zem zcj zaz zaW a0 (D.lentL a1) a2_0 a2_1 a2_2 a3 (D.lentL a4) T0 T1:=by kernel_rfl
theorem zgN (tga1:Tag) (tga4:Tag) (a0:Nat) (a1:List D) (a2_0:Int) (a2_1:Int) (a2_2:Int) (a3:Int) (a4:List D) (T0:Tb) (T1:Tb):zaD [.h 3840 a0 0,.sl tga1 a1,.agg [.int .i64 a2_0,.int .i64 a2_1,.int .i64 a2_2],.int .i64 a3,.sl tga4 a4] [T0,T1]=zem zcj zaz zaW a0 (D.lentL a1) a2_0 a2_1 a2_2 a3 (D.lentL a4) T0 T1:=zoF zcj zaz zaW tga1 tga4 a0 a1 a2_0 a2_1 a2_2 a3 a4 T0 T1
def zfC:Ann:={ loops:=[(1,[.val (.cell (.hnd (7649:Nat))),.dead,.dead,.dead,.dead,.dead,.dead,.dead,.dead,.dead,.dead,.dead,.view 7649 1664,.val (.cell (.int .i64)),.val (.cell (.int .i64))])],ks:=[(7649,true)] }
noncomputable def zba:List D→List Tb→Option Ans:=denS Try.prog (zay []) zfC [0] ID.disk_Disk_Flush
theorem ziA:za6 Try.prog ID.disk_Disk_Flush (.st [] [0] [(7649,true)] zba):=zbd (zaC []) zbw ⟨Try.f114,by kernel_rfl,by kernel_rfl,by kernel_rfl⟩
noncomputable def zja:Fact Try.prog:=⟨ID.disk_Disk_Flush,(.st [] [0] [(7649,true)] zba),ziA⟩
noncomputable def zei (a0:Nat) (T0:Tb):Option Ans:=
  getK T0 a0 fun d1=>
  getK d1 ((1665:Nat)) fun d2=>
  asB d2 fun b3=>
  brK b3
    (some (Ans.mk (D.int IntKind.i64 (5:Int)) [] [T0]))
    (getK T0 a0 fun d4=>
    getK d4 ((1664:Nat)) fun d5=>
    za7 d5 fun l6=>
    getK T0 a0 fun d7=>
    getK d7 ((1664:Nat)) fun d8=>
    za7 d8 fun l9=>
    sif ((0:Nat)+List.length l6≤List.length l9) <|
    zcw (α:=(Nat×(Nat×Nat×Nat)×Int×Int×PUnit)×List (List D)×PUnit) (fun again10 ((x11,((x12,(x13,x14)),(i15,(i16,_)))),(U17,_))=>
      brK (decide (i16 < i15))
        (getK U17 x12 fun d18=>
        getK d18 ((1664:Nat)) fun d19=>
        za7 d19 fun l20=>
        sif ((0:Int)≤i16) <|
        sif (Int.toNat i16 < x14) <|
        getK U17 x12 fun d21=>
        getK d21 ((1664:Nat)) fun d22=>
        za7 d22 fun l23=>
        getK l23 (x13+Int.toNat i16) fun d24=>
        asAgg d24 fun cs25=>
        zap ([Lf.int IntKind.i64,Lf.arr (32)]) cs25 fun c26=>
        sif (D.width (D.agg ([D.int IntKind.i64 c26.fst]++(c26.snd.fst++[])))=(33:Nat)) <|
        sif (List.length ([D.int IntKind.i64 c26.fst]++(c26.snd.fst++[]))=(33:Nat)) <|
        sif ((33:Nat)≤List.length ([D.int IntKind.i64 c26.fst]++(c26.snd.fst++[]))) <|
        sif (List.length (List.take (32:Nat) (List.drop (1:Nat) ([D.int IntKind.i64 c26.fst]++(c26.snd.fst++[]))))=(32:Nat)) <|
        sif ((0:Int)≤c26.fst) <|
        sif (Int.toNat c26.fst < (52:Nat)) <|
        getK U17 x11 fun d27=>
        sif ((0:Nat)+Int.toNat c26.fst*(32:Nat)+(32:Nat)≤List.length d27) <|
        sif (List.length (List.take (32:Nat) (List.drop (1:Nat) ([D.int IntKind.i64 c26.fst]++(c26.snd.fst++[]))))=(32:Nat)) <|
        sif (zf4 (List.take (32:Nat) (List.drop (1:Nat) ([D.int IntKind.i64 c26.fst]++(c26.snd.fst++[]))))=true) <|
        sif (zf4 (List.take (32:Nat) (List.drop ((0:Nat)+Int.toNat c26.fst*(32:Nat)) d27))=true) <|
        letT (zaM U17 x11 ((0:Nat)+Int.toNat c26.fst*(32:Nat)) (List.take (32:Nat) (List.drop (1:Nat) ([D.int IntKind.i64 c26.fst]++(c26.snd.fst++[]))))) fun U28=>
        letN (IntKind.wrap IntKind.i64 (i16+(1:Int))) fun n29=>
        again10 (((x11,(x12,x13,x14),i15,n29,PUnit.unit),U28,PUnit.unit)))
        (getK U17 x11 fun d30=>
        sif ((1665:Nat)≤List.length d30) <|
        letT (zaM U17 x11 (1664:Nat) [D.sl Tag.own []]) fun U31=>
        some (Ans.mk (D.int IntKind.i64 (0:Int)) [] [U31])))
      (((a0,(a0,(0:Nat),List.length l6),(↑(List.length l6):Int),(0:Int),PUnit.unit),T0,PUnit.unit)))
theorem zlN (a0:Nat) (T0:Tb):denS Try.prog (zay []) zfC [0] ID.disk_Disk_Flush [.h 7649 a0 0] [T0]=zei a0 T0:=by kernel_rfl
theorem zjb (a0:Nat) (T0:Tb):zba [.h 7649 a0 0] [T0]=zei a0 T0:=zlN a0 T0
def zeB:Ann:={ loops:=[],ks:=[(3840,false),(7649,true)] }
noncomputable def zaX:List D→List Tb→Option Ans:=denS Try.prog (zay [(ID.bench_Bench_may,(.st [] [0] [(3840,false)] zaj)),(ID.disk_Disk_Flush,(.st [] [0] [(7649,true)] zba))]) zeB [0] ID.bench_Bench_Flush
theorem zhl:za6 Try.prog ID.bench_Bench_Flush (.st [] [0] [(3840,false),(7649,true)] zaX):=zbd (zaC [zdn,zja]) zbw ⟨Try.f79,by kernel_rfl,by kernel_rfl,by kernel_rfl⟩
noncomputable def zhM:Fact Try.prog:=⟨ID.bench_Bench_Flush,(.st [] [0] [(3840,false),(7649,true)] zaX),zhl⟩
noncomputable def zdH (zaj:List D→List Tb→Option Ans) (zba:List D→List Tb→Option Ans) (a0:Nat) (a1:Int) (T0:Tb) (T1:Tb):Option Ans:=
  zaw (zaj [D.h (3840:Nat) a0 (0:Nat),D.int IntKind.i64 a1] [T0]) fun r1=>
  nilK r1.outs <|
  nilK r1.tbs <|
  asI IntKind.i64 r1.r fun i2=>
  brK (i2 != (0:Int))
    (some (Ans.mk (D.int IntKind.i64 i2) [] [T1]))
    (getK T0 a0 fun d3=>
    getK d3 ((3:Nat)) fun d4=>
    za7 d4 fun l5=>
    getK T0 a0 fun d6=>
    getK d6 ((3:Nat)) fun d7=>
    za7 d7 fun l8=>
    sif ((0:Int)≤a1) <|
    sif (Int.toNat a1 < List.length l5) <|
    getK T0 a0 fun d9=>
    getK d9 ((3:Nat)) fun d10=>
    za7 d10 fun l11=>
    getK l11 ((0:Nat)+Int.toNat a1) fun d12=>
    sif (D.isAgg d12=false) <|
    sif (D.width d12=(1:Nat)) <|
    sif (D.cell d12=true) <|
    zaw (zba [d12] [T1]) fun r13=>
    nilK r13.outs <|
    zcY r13.tbs fun c14 q15=>
    nilK q15 <|
    asI IntKind.i64 r13.r fun i16=>
    some (Ans.mk (D.int IntKind.i64 i16) [] [c14]))
theorem zj3 (zaj:List D→List Tb→Option Ans) (zba:List D→List Tb→Option Ans) (a0:Nat) (a1:Int) (T0:Tb) (T1:Tb):denS Try.prog (zay [(ID.bench_Bench_may,(.st [] [0] [(3840,false)] zaj)),(ID.disk_Disk_Flush,(.st [] [0] [(7649,true)] zba))]) zeB [0] ID.bench_Bench_Flush [.h 3840 a0 0,.int .i64 a1] [T0,T1]=zdH zaj zba a0 a1 T0 T1:=by kernel_rfl
theorem zhN (a0:Nat) (a1:Int) (T0:Tb) (T1:Tb):zaX [.h 3840 a0 0,.int .i64 a1] [T0,T1]=zdH zaj zba a0 a1 T0 T1:=zj3 zaj zba a0 a1 T0 T1
def zhz:Ann:={ loops:=[(0,[.val (.cell (.hnd (3840:Nat))),.val (.cell .lent),.dead,.dead,.dead,.dead,.dead,.dead,.val (.cell (.int .i64)),.val (.cell (.int .i64))])],ks:=[(3840,false),(7649,true)] }
noncomputable def zbh:List D→List Tb→Option Ans:=denS Try.prog (zay [(ID.bench_Bench_Len,(.st [] [0] [(3840,false)] zaA)),(ID.stripe_up,(.st [] [0] [(3840,false),(7649,false)] zaz)),(ID.bench_Bench_Flush,(.st [] [0] [(3840,false),(7649,true)] zaX))]) zhz [0] ID.stripe_Flush
theorem zk5:za6 Try.prog ID.stripe_Flush (.st [] [0] [(3840,false),(7649,true)] zbh):=zbd (zaC [zeQ,zel,zhM]) zbw ⟨Try.f34,by kernel_rfl,by kernel_rfl,by kernel_rfl⟩
noncomputable def zlO:Fact Try.prog:=⟨ID.stripe_Flush,(.st [] [0] [(3840,false),(7649,true)] zbh),zk5⟩
noncomputable def zgg (zaA:List D→List Tb→Option Ans) (zaz:List D→List Tb→Option Ans) (zaX:List D→List Tb→Option Ans) (a0:Nat) (a1:List D) (T0:Tb) (T1:Tb):Option Ans:=
  zaw (zaA [D.h (3840:Nat) a0 (0:Nat)] [T0]) fun r1=>
  nilK r1.outs <|
  nilK r1.tbs <|
  asI IntKind.i64 r1.r fun i2=>
  zcw (α:=(Nat×List D×Int×Int×PUnit)×List (List D)×List (List D)×PUnit) (fun again3 ((x4,(l5,(i6,(i7,_)))),(U8,(U9,_)))=>
    brK (decide (i7 < i6))
      (zaw (zaz [D.h (3840) x4 (0:Nat),D.sl Tag.lent l5,D.int IntKind.i64 i7] [U8,U9]) fun r10=>
      nilK r10.outs <|
      nilK r10.tbs <|
      asB r10.r fun b11=>
      brK (!b11)
        (letN (IntKind.wrap IntKind.i64 (i7+(1:Int))) fun n12=>
        again3 (((x4,l5,i6,n12,PUnit.unit),U8,U9,PUnit.unit)))
        (zaw (zaX [D.h (3840) x4 (0:Nat),D.int IntKind.i64 i7] [U8,U9]) fun r13=>
        nilK r13.outs <|
        zcY r13.tbs fun c14 q15=>
        nilK q15 <|
        asI IntKind.i64 r13.r fun i16=>
        brK (i16 != (0:Int))
          (some (Ans.mk (D.int IntKind.i64 i16) [] [c14]))
          (letN (IntKind.wrap IntKind.i64 (i7+(1:Int))) fun n17=>
          again3 (((x4,l5,i6,n17,PUnit.unit),U8,c14,PUnit.unit)))))
      (some (Ans.mk (D.int IntKind.i64 (0:Int)) [] [U9])))
    (((a0,a1,i2,(0:Int),PUnit.unit),T0,T1,PUnit.unit))
theorem zoG (zaA:List D→List Tb→Option Ans) (zaz:List D→List Tb→Option Ans) (zaX:List D→List Tb→Option Ans) (tga1:Tag) (a0:Nat) (a1:List D) (T0:Tb) (T1:Tb):denS Try.prog (zay [(ID.bench_Bench_Len,(.st [] [0] [(3840,false)] zaA)),(ID.stripe_up,(.st [] [0] [(3840,false),(7649,false)] zaz)),(ID.bench_Bench_Flush,(.st [] [0] [(3840,false),(7649,true)] zaX))]) zhz [0] ID.stripe_Flush [.h 3840 a0 0,.sl tga1 a1] [T0,T1]=zgg zaA zaz zaX a0 (D.lentL a1) T0 T1:=by kernel_rfl
theorem zlP (tga1:Tag) (a0:Nat) (a1:List D) (T0:Tb) (T1:Tb):zbh [.h 3840 a0 0,.sl tga1 a1] [T0,T1]=zgg zaA zaz zaX a0 (D.lentL a1) T0 T1:=zoG zaA zaz zaX tga1 a0 a1 T0 T1
def zdM:Ann:={ loops:=[],ks:=[(3840,false)] }
noncomputable def zaJ:List D→List Tb→Option Ans:=denS Try.prog (zay []) zdM [0] ID.bench_counter_Writes
theorem zfJ:za6 Try.prog ID.bench_counter_Writes (.st [] [0] [(3840,false)] zaJ):=zbd (zaC []) zbw ⟨Try.f37,by kernel_rfl,by kernel_rfl,by kernel_rfl⟩
noncomputable def zgh:Fact Try.prog:=⟨ID.bench_counter_Writes,(.st [] [0] [(3840,false)] zaJ),zfJ⟩
noncomputable def zcP (a0:Nat) (T0:Tb):Option Ans:=
  getK T0 a0 fun d1=>
  getK d1 ((0:Nat)) fun d2=>
  asI IntKind.i64 d2 fun i3=>
  some (Ans.mk (D.int IntKind.i64 i3) [] [])
theorem zhO (a0:Nat) (T0:Tb):denS Try.prog (zay []) zdM [0] ID.bench_counter_Writes [.h 3840 a0 0] [T0]=zcP a0 T0:=by kernel_rfl
theorem zgi (a0:Nat) (T0:Tb):zaJ [.h 3840 a0 0] [T0]=zcP a0 T0:=zhO a0 T0
def zd1:Ann:={ loops:=[],ks:=[(3840,true)] }
noncomputable def zaP:List D→List Tb→Option Ans:=denS Try.prog (zay []) zd1 [] ID.bench_counter_Limit
theorem zgj:za6 Try.prog ID.bench_counter_Limit (.st [] [] [(3840,true)] zaP):=zbd (zaC []) zbw ⟨Try.f38,by kernel_rfl,by kernel_rfl,by kernel_rfl⟩
noncomputable def zgO:Fact Try.prog:=⟨ID.bench_counter_Limit,(.st [] [] [(3840,true)] zaP),zgj⟩
noncomputable def zc8 (a0:Nat) (a1:Int) (T0:Tb):Option Ans:=
  letN (max (-1:Int) a1) fun n1=>
  getK T0 a0 fun d2=>
  sif ((2:Nat)≤List.length d2) <|
  sif (zf4 (List.take (1:Nat) (List.drop (1:Nat) d2))=true) <|
  letT (zaM T0 a0 (1:Nat) [D.int IntKind.i64 n1]) fun U3=>
  some (Ans.mk (D.tup []) [] [U3])
theorem ziB (a0:Nat) (a1:Int) (T0:Tb):denS Try.prog (zay []) zd1 [] ID.bench_counter_Limit [.h 3840 a0 0,.int .i64 a1] [T0]=zc8 a0 a1 T0:=by kernel_rfl
theorem zgP (a0:Nat) (a1:Int) (T0:Tb):zaP [.h 3840 a0 0,.int .i64 a1] [T0]=zc8 a0 a1 T0:=ziB a0 a1 T0
end Wf

namespace Wf
open Go Go.RowKit Go.Proofs
set_option linter.unusedSimpArgs false
set_option linter.unusedVariables false
theorem zsk (c:Int):zaB [.sl .full [.int .i64 1,.int .i64 2,.int .i64 4],.int .i64 c]=some (.bool (c == 1 || c == 2 || c == 4)):=by
  rw [ze1]
  unfold zcq
  rw [zf6]
  unfold zcN
  obtain ⟨m,hm⟩:=zwV
  by_cases h1:c=1<;>by_cases h2:c=2<;>by_cases h4:c=4<;>
    simp [zcw,hm,fixN,zct,h1,h2,h4,zaq]<;>omega
theorem zgQ (l d c:Int):zai [gD l d c]=some (iD (if zhs l d c then 0 else 1)):=by
  rw [znS]
  unfold zij
  have hc:=zsk c
  unfold zhs
  obtain ⟨q,hq⟩:∃ q,(c == 1 || c == 2 || c == 4)=q:=⟨_,rfl⟩
  rw [hq] at hc ⊢
  by_cases h5:l=5
  · subst h5
    by_cases h3:d < 3<;>by_cases h8:8 < d<;>cases q<;>simp [zuX,zgp,setD,hc,zct,h3,h8]<;>omega
  · by_cases h6:l=6
    · subst h6
      by_cases h3:d < 4<;>by_cases h8:8 < d<;>cases q<;>simp [zuX,zgp,setD,hc,zct,h3,h8]<;>omega
    · simp [zuX,zgp,setD,hc,zct,h5,h6]
theorem zob (l d c:Int):zaU [gD l d c]=some (iD (zqs l d c)):=by
  rw [zms]
  unfold zhc zqs
  rw [zgQ]
  cases h:zhs l d c
  · simp [zct]
  · have:=zkE.1 h
    simp [zct]
    exact zaq (by omega) (by omega)
theorem zpB (l d c:Int):zab [gD l d c]=some (iD (zma l d c)):=by
  rw [znV]
  unfold zin zma
  rw [zgQ,zob]
  unfold zqs
  cases h:zhs l d c
  · simp [zct]
  · have:=zkE.1 h
    simp [zct]
    exact zaq (by omega) (by omega)
theorem zqT (l d c:Int):zbf [gD l d c]=some (iD (capG l d c)):=by
  rw [zk0]
  unfold zfy capG
  rw [zpB]
  have:=zyd l d c
  simp
  exact zaq (by omega) (by omega)
theorem zBB (a n:Int) (h:1≤n) (h9:n < 1000000000):zad [.int .i64 a,.int .i64 n]=some (iD (a % n)):=by
  rw [zhC]
  unfold zdC
  have hm:=zvc a n h
  have hlt:=Int.lt_tmod_of_pos a (show 0 < n by omega)
  have h1:¬ n < 1:=by omega
  have h0:n≠0:=by omega
  rcases hm with ⟨k1,k2⟩ | ⟨k1,k2⟩
  · simp [zct,h1,h0,Int.not_lt.2 k1,k2]
  · simp [zct,h1,h0,k1,k2]
    exact zaq (by omega) (by omega)
theorem ziC (g:Geo):zab [gD g.l g.d g.c]=some (iD g.width):=zpB ..
theorem zAl (g:Geo):zbf [gD g.l g.d g.c]=some (iD g.cap):=zqT ..
section
variable (a b c x y z k:Int)
end
section
variable (g:Geo) (a row k:Int)
theorem zqU:zaZ [g.D,.int .i64 row]=some (.bool (zbU g row)):=by
  unfold Geo.D
  rw [zqA]
  unfold zlw
  rw [zgQ]
  unfold zbU Geo.ok
  cases zhs g.l g.d g.c<;>simp [zct]<;>(by_cases h:0≤row<;>simp [h])
theorem zsl:zas [g.D,.int .i64 row]=some (.tup [iD (parP g row).1,iD (parP g row).2]):=by
  have hi:=zqU g row
  unfold Geo.D at*
  rw [zlx]
  unfold zf8
  rw [hi]
  unfold parP
  cases h:zbU g row
  · simp [zct]
  · obtain ⟨hk,h0,h1⟩:=zbA.1 h
    have hd:=ok_d hk
    have hv:=zBz hk h0
    have hp:=zmb hk row
    have w1:IntKind.i64.wrap (g.d - 1)=g.d - 1:=zaq (by omega) (by omega)
    have w2:IntKind.i64.wrap (row.tdiv g.c)=row / g.c:=by rw [zwY hk h0]; exact zaq (by omega) (by omega)
    have w3:IntKind.i64.wrap (g.d - 1 - (row / g.c).tmod g.d)=parA g row:=by rw [zpq hv.1]; exact zaq (by unfold parA at hp; omega) (by unfold parA at hp; omega)
    have w4:IntKind.i64.wrap (parA g row+1)=parA g row+1:=zaq (by omega) (by omega)
    have t4:(parA g row+1).tmod g.d=(parA g row+1) % g.d:=zpq (by omega)
    by_cases h5:g.l=5
    · simp [zct,show g.c≠0 by omega,show g.d≠0 by omega,w1,w2,w3,h5]
    · simp [zct,show g.c≠0 by omega,show g.d≠0 by omega,w1,w2,w3,h5,w4,t4]
theorem zpC:zaE [g.D,.int .i64 row,.int .i64 k]=some (iD (zcG g row k)):=by
  have hi:=zqU g row
  have hp:=zsl g row
  unfold Geo.D at*
  rw [znW]
  unfold zio
  rw [hi,hp,ziC,zob]
  unfold zcG
  cases h:zbU g row
  · simp [zct]
  · obtain ⟨hk,h0,h1⟩:=zbA.1 h
    have hd:=ok_d hk
    have hw:=zcm hk
    have hb:=zwX hk
    have hl:=zeu.1 hk
    have hpa:=zmb hk row
    by_cases k0:k < 0
    · simp [zct,k0,show ¬ 0≤k by omega]
    · by_cases k1:g.width≤k
      · simp [zct,k0,k1,show ¬ k < g.width by omega]
      · have w1:IntKind.i64.wrap (parA g row+(g.l - 4))=parA g row+(g.l - 4):=zaq (by omega) (by omega)
        have w2:IntKind.i64.wrap (parA g row+(g.l - 4)+k)=parA g row+(g.l - 4)+k:=zaq (by omega) (by omega)
        have t2:(parA g row+(g.l - 4)+k).tmod g.d=(parA g row+(g.l - 4)+k) % g.d:=zpq (by omega)
        have hp1:(parP g row).1=parA g row:=by unfold parP; simp [h]
        simp [zct,k0,k1,show 0≤k by omega,show k < g.width by omega,hb,hp1,w1,w2,t2,show g.d≠0 by omega]
theorem zyt:zb8 [g.D,.int .i64 a]=some (ofD (ofP g a)):=by
  have hdk:=fun row k=>zpC g row k
  unfold Geo.D at*
  rw [zqP]
  unfold zlF
  rw [ziC,zAl]
  unfold ofP ofD
  by_cases h0:a < 0
  · simp [zct,h0,show ¬ 0≤a by omega]
  · by_cases h1:g.cap≤a
    · simp [zct,h0,h1,show ¬ a < g.cap by omega]
    · have h0:0≤a:=by omega
      have h1:a < g.cap:=by omega
      have hk:=zup h0 h1
      have hd:=ok_d hk
      have hw:=zcm hk
      have hv:=zBz hk h0
      have hr:=zuq h0 h1
      have hca:g.cap=g.width*16:=rfl
      have hvw:a / g.c / g.width≤a / g.c:=Int.ediv_le_self _ hv.1
      have w1:IntKind.i64.wrap (a.tdiv g.c)=a / g.c:=by rw [zwY hk h0]; exact zaq (by omega) (by omega)
      have w2:IntKind.i64.wrap ((a / g.c).tdiv g.width)=a / g.c / g.width:=by rw [Int.tdiv_eq_ediv_of_nonneg hv.1]; exact zaq (by omega) (by omega)
      have hm:0≤a / g.c / g.width*g.c:=Int.mul_nonneg hr.2.2.1 (by omega)
      have w3:IntKind.i64.wrap (a / g.c / g.width*g.c)=a / g.c / g.width*g.c:=zaq (by omega) (by omega)
      have w4:IntKind.i64.wrap (a / g.c / g.width*g.c+a.tmod g.c)=rowG g a:=by rw [zpq h0]; exact zaq (by omega) (by omega)
      have t5:(a / g.c).tmod g.width=zev g a:=zpq hv.1
      simp [zct,h0,h1,show ¬ a < 0 by omega,show ¬ g.cap≤a by omega,w1,w2,w3,w4,t5,show g.c≠0 by omega,show g.width≠0 by omega,hdk]
end
section
variable (l d c a row k:Int)
end
section
variable (g:Geo) (row k:Int)
theorem zsm (h:zbU g row=true) (k0:0≤k) (k1:k≤8):zbt [gD g.l g.d g.c,.int .i64 row,.int .i64 k]=some (iD (numP g row k)):=by
  obtain ⟨hk,h0,h1⟩:=zbA.1 h
  obtain ⟨w1,w2,w3,w4,w5⟩:=zAj hk h0 h1 k0 k1
  have hd:=ok_d hk
  rw [zlH]
  unfold zge
  rw [ziC]
  simp [show g.c≠0 by omega,w1,w2,w3,w4,w5]
theorem zvk:zbg [g.D,.int .i64 row]=some (.sl .own (zwZ g row)):=by
  have hi:=zqU g row
  unfold Geo.D at*
  rw [zk3]
  unfold zfz
  rw [hi,ziC]
  unfold zwZ
  cases h:zbU g row
  · simp [zct]
  · obtain ⟨hk,h0,h1⟩:=zbA.1 h
    have hw:=zcm hk
    simp only [zak,zdg,zct,iD,zbO,Bool.not_true,Bool.false_eq_true,if_false,if_true]
    refine zgz (fun a=>(g.width - a.1.2.2.2.2.1).toNat) (fun _=>some (D.sl Tag.own (numD g row g.width.toNat))) (fun a=>∃ n:Nat,n≤g.width∧
      a=((row,(g.l,g.d,g.c,PUnit.unit),numD g row n,g.width,(n:Int),PUnit.unit),PUnit.unit)) ?_ ⟨0,by omega,rfl⟩ ?_
    rotate_left
    · simp; omega
    rintro again _ ⟨n,hn,rfl⟩ ih
    dsimp only
    by_cases hl:(n:Int) < g.width
    · have:=ih _ ⟨n+1,by omega,rfl⟩ (by dsimp only; omega)
      have wn:IntKind.i64.wrap ((n:Int)+1)=(n:Int)+1:=zaq (by omega) (by omega)
      rw [zw0] at this
      simp [hl,zsm g row n h (by omega) (by omega),zkF,wn,show n+1≤4294967296 by omega]
      simpa using this
    · have hnw:g.width.toNat=n:=by omega
      simp only [hl,decide_false,hnw,Bool.false_eq_true,if_false]
      simp [zkF,zw1]
end
section
variable (l d c row k:Int)
end
end Wf

namespace Wf
open Go Go.RowKit Go.Proofs
set_option linter.unusedSimpArgs false
set_option linter.unusedVariables false
theorem zqV (a n:Int) (h:1≤n) (h9:n < 1000000000):zad [.int .i64 a,.int .i64 n]=some (.int .i64 (a % n)):=zBB a n h h9
theorem zw6 (t t':Tag) (l m:List Int) (hl:l.length < 1000000000):zaI [.sl t (uL l),.sl t' (uL m)]=some (.bool (decide (l=m))):=by
  rw [zgd,zcA,zcA]
  unfold zcO
  by_cases hlen:l.length=m.length
  · simp only [zfW,hlen,bne_self_eq_false,zaG]
    refine zgz (fun a=>(m.length:Int).toNat - a.1.2.2.1.toNat) (fun _=>some (D.bool (decide (l=m))))
      (fun a=>∃ k:Nat,k≤m.length∧l.take k=m.take k∧a=((uL l,uL m,(k:Int),PUnit.unit),PUnit.unit)) ?_ ⟨0,by omega,by simp,rfl⟩ (by simp; omega)
    rintro again _ ⟨k,hk,he,rfl⟩ hag
    dsimp only
    rw [zfW,hlen]
    by_cases hkm:k < m.length
    · have h1:l[k]? =some l[k]:=List.getElem?_eq_getElem (by omega)
      have h2:m[k]? =some m[k]:=List.getElem?_eq_getElem hkm
      have hd:decide ((k:Int) < (m.length:Int))=true:=by simp; omega
      rw [hd,zbu,zah (by omega),zam (by simpa using znG h1),zbO,zah (by omega),zam (by simpa using znG h2),zbO]
      by_cases hx:l[k]=m[k]
      · have hb:(l[k] != m[k])=false:=by simp [hx]
        rw [hb,zaG,zbb,zaq (by omega) (by omega)]
        exact hag _ ⟨k+1,by omega,by rw [List.take_add_one,List.take_add_one,he,h1,h2,hx],rfl⟩ (by simp; omega)
      · have hb:(l[k] != m[k])=true:=by simp [hx]
        rw [hb,zbu]
        congr 2
        symm
        simp
        intro e
        subst e
        exact hx rfl
    · have hd:decide ((k:Int) < (m.length:Int))=false:=by simp; omega
      rw [hd,zaG]
      have:l=m:=by
        have e1:l.take k=l:=List.take_of_length_le (by omega)
        have e2:m.take k=m:=List.take_of_length_le (by omega)
        rw [←e1,←e2,he]
      simp [this]
  · have hb:((l.length:Int) != (m.length:Int))=true:=by simp; omega
    simp only [zfW,hb,zbu]
    congr 2
    symm
    simp
    intro e; subst e; exact hlen rfl
theorem ze8 {R:Type} (a:Int) {b:List Int} (h:b.length=32) (f:LfT [.int .i64,.arr 32]→Option R):zap [.int .i64,.arr 32] (.int .i64 a::uL b) f=f (a,uL b,()):=by
  have e1:(uL b).take 32=uL b:=List.take_of_length_le (by simp [h])
  have e2:(uL b).drop 32=[]:=List.drop_of_length_le (by simp [h])
  simp [zap,zcF,Lf.get,h,e1,e2]
theorem zlQ {R:Type} {b:List Int} (h:b.length=32) (f:LfT [.arr 32]→Option R):zap [.arr 32] (uL b) f=f (uL b,()):=by
  have e1:(uL b).take 32=uL b:=List.take_of_length_le (by simp [h])
  have e2:(uL b).drop 32=[]:=List.drop_of_length_le (by simp [h])
  simp [zap,zcF,Lf.get,h,e1,e2]
theorem zBC {T:Tb} {i:Nat} {s:DS} (h:T[i]? =some s.cells) (hs:s.Ok) (a:Int):zaH [.h kD i 0,.int .i64 a] [T]=some (Ans.mk (.int .i64 (s.may a)) [] []):=by
  rw [zkH]
  unfold zfo DS.may
  rw [zam h,zam (zkB hs.len),zdg]
  cases hf:s.failed
  · by_cases h0:a < 0
    · simp [zct,h0]
    · by_cases h1:52≤a
      · simp [zct,h0,h1]
      · simp [zct,h0,h1]
  · simp [zct]
theorem zyu {T:Tb} {i:Nat} {s:DS} (h:T[i]? =some s.cells) (hs:s.Ok):za2 [.h kD i 0] [T]=some (Ans.mk (.bool s.failed) [] []):=by
  rw [zih]
  unfold zdX
  rw [zam h,zam (zkB hs.len),zdg]
theorem zoc {b:List Int} (h:b.length≤4294967296) (tg:Tag):zae [.sl tg (uL b)]=some (.sl .own (uL b)):=by
  cases b with
  | nil=>exact ze3 tg
  | cons n b=>
    show zae [.sl tg (.int .u8 n::uL b)]=some (.sl .own (.int .u8 n::uL b))
    rw [zfs,zcA]
    unfold zcu
    have h1:(D.lent (.int .u8 n)::uL b)=uL (n::b):=by simp [uL]
    rw [h1]
    simp only [zfW,zx8,zg8,zah,h]
    simp [uL]
theorem zBD (w:Int×List Int):(wD w).free=true:=by
  simp only [wD,D.free,D.freeL,zmN,Bool.and_self]
theorem zze (w:Int×List Int):(wD w).lent=wD w:=by
  simp only [wD,D.lent,D.lentL,zcA]
theorem zAm (p:List (Int×List Int)):D.lentL (p.map wD)=p.map wD:=by
  induction p with
  | nil=>rfl
  | cons w p ih=>simp [ih,zze]
theorem zAn {p:List (Int×List Int)} (h:∀ w∈p,Sec w.2):zds 33 (p.map wD)=true:=by
  simp only [zds,List.all_map,List.all_eq_true]
  intro w hw
  have:=(h w hw).len
  simp [wD,D.width,D.isAgg,D.cell,this]
theorem zAo {p:List (Int×List Int)} (hp:∀ w∈p,Sec w.2) (h:p.length≤4294967296) (tg:Tag):zag [.sl tg (p.map wD)]=some (.sl .own (p.map wD)):=by
  cases p with
  | nil=>exact zcT tg
  | cons w p=>
    have hok:=zAn hp
    rw [List.map_cons] at hok ⊢
    rw [zc3,zAm,zze]
    unfold zbC
    have hf:(wD w::p.map wD).all D.free=true:=by
      rw [←List.map_cons (f:=wD),List.all_map,List.all_eq_true]; intro w _; exact zBD w
    have hl:(wD w::p.map wD).length≤4294967296:=by simpa using h
    simp only [zah,hl,hok,hf]
theorem zzf {p:List (Int×List Int)} {k:Nat} {w:Int×List Int} (h:p[k]? =some w):(p.map wD)[k]? =some (.agg (.int .i64 w.1::uL w.2)):=by simp [h,wD]
theorem zsn (l:List D):D.width (.agg l)=l.length:=rfl
theorem zBE {T:Tb} {i:Nat} {s:DS} (h:T[i]? =some s.cells) (hs:s.Ok) (hn:s.pend.length≤1000000) (a:Int):
    zbe [.h kD i 0,.int .i64 a] [T]=some (Ans.mk (.tup [.sl .own (uL (s.read a).1),.int .i64 (s.read a).2]) [] []):=by
  rw [zjR]
  unfold zeG DS.read
  rw [zBC h hs a,zak,zfU,zfU,zbO]
  by_cases hm:s.may a=0
  · rw [hm]
    have hb:((0:Int) != 0)=false:=rfl
    rw [hb,zaG,if_neg (by simp)]
    have ha:0≤a∧a < 52:=by
      unfold DS.may at hm
      split at hm
      · omega
      · split at hm<;>omega
    have hp:=znH (s:=s) hs.len
    have hbase:=zwL (s:=s) hs.len (a:=a.toNat) (by omega)
    have hsec:=zx9 hs (a:=a.toNat) (by omega)
    rw [zah ha.1,zah (by omega),zam h,zah (by rw [zjh hs.len]; omega),Nat.zero_add,hbase]
    rw [zah (zx7 _),zah (by simp [hsec.len]),zah (by simp [hsec.len]),zam h,zam hp,zb4,zam h,zam hp,zb4,zah (by simp)]
    rw [zlQ hsec.len,List.length_map]
    refine zea (R:=Ans) (α:=(Int×(List D×PUnit)×(Nat×Nat×Nat)×Int×Int×PUnit)×List (List D)×PUnit)
      (fun k=>((a,(uL (look (s.pend.take k) a (s.base a.toNat)),PUnit.unit),(i,0,s.pend.length),(s.pend.length:Int),(k:Int),PUnit.unit),T,PUnit.unit)) s.pend.length (by omega) ?_ ?_
    · intro again k hk
      dsimp only
      obtain ⟨w,hw⟩:∃ w,s.pend[k]? =some w:=⟨_,List.getElem?_eq_getElem hk⟩
      have hws:=hs.ps w (List.mem_of_getElem? hw)
      have hd:decide ((k:Int) < (s.pend.length:Int))=true:=by simp; omega
      have hlk:(look (s.pend.take k) a (s.base a.toNat)).length=32:=zuj (fun w hw=>(hs.ps w (List.mem_of_mem_take hw)).len) hsec.len
      rw [hd,zbu,zam h,zam hp,zb4,zah (by omega),zah (by simpa using hk),zam h,zam hp,zb4,zam (by simpa using zzf hw),zwu,ze8 _ hws.len]
      dsimp only
      simp only [List.append_nil,List.cons_append,List.nil_append,zsn,List.length_cons,zfW,hws.len,hlk,zah]
      by_cases hwa:w.1=a
      · have hb:(w.1 == a)=true:=by simp [hwa]
        rw [hb,zbu,List.drop_succ_cons,List.drop_zero]
        have et:(uL w.2).take 32=uL w.2:=List.take_of_length_le (by simp [hws.len])
        rw [et,zah (by omega),zah (by simp [hws.len]),zah (by simp [hws.len]),zah (by omega),zbb,zaq (by omega) (by omega),zyV (by simp [hws.len])]
        have e3:(uL (look (s.pend.take k) a (s.base a.toNat))).take 0++uL w.2++(uL (look (s.pend.take k) a (s.base a.toNat))).drop (0+32)=uL w.2:=by
          rw [List.drop_of_length_le (by simp [hlk])]; simp
        rw [e3,zlQ hws.len,zr2 hw,if_pos hwa]
        rfl
      · have hb:(w.1 == a)=false:=by simp [hwa]
        rw [hb,zaG,zbb,zaq (by omega) (by omega),zlQ hlk,zr2 hw,if_neg hwa]
        rfl
    · intro again
      have hlk:=zuj (p:=s.pend) (a:=a) (fun w hw=>(hs.ps w hw).len) hsec.len
      have hd:decide ((s.pend.length:Int) < (s.pend.length:Int))=false:=by simp
      dsimp only
      rw [hd,zaG,List.take_length]
      simp only [List.append_nil,zfW,hlk,Nat.le_refl,zah]
      have ec:cut 0 32 (uL (look s.pend a (s.base a.toNat)))=uL (look s.pend a (s.base a.toNat)):=by
        have:=zet (uL (look s.pend a (s.base a.toNat)))
        rw [zfW,hlk] at this; exact this
      rw [ec,zoc (by rw [hlk]; omega),zak,zb4]
      simp
      rfl
  · have hb:(s.may a != 0)=true:=by simp [hm]
    rw [hb,zbu,if_pos hm]
    rfl
theorem zBF {T:Tb} {i:Nat} {s:DS} (h:T[i]? =some s.cells) (hs:s.Ok) (a:Int) (tg:Tag) (b:List Int):
    zbk [.h kD i 0,.int .i64 a,.sl tg (uL b)] [T]=some (Ans.mk (.tup [wD (putR s a b).1,.int .i64 (putR s a b).2]) [] []):=by
  rw [zkJ,zcA]
  unfold zfp putR
  rw [zBC h hs a,zak,zfU,zfU,zbO]
  by_cases hm:s.may a=0
  · rw [hm]
    have hb:((0:Int) != 0)=false:=rfl
    rw [hb,zaG,if_neg (by simp)]
    by_cases hl:b.length=32
    · have hb2:(((uL b).length:Int) != 32)=false:=by simp [hl]
      rw [hb2,zaG,if_neg (by simp [hl]),zah (zuh _),zah (by simp [hl])]
      have et:(D.int .i64 a::uL b).take 33=.int .i64 a::uL b:=List.take_of_length_le (by simp [hl])
      simp only [List.append_nil,List.cons_append,List.nil_append,List.length_cons,zfW,hl,List.drop_zero,et]
      rw [zah (by omega),ze8 _ hl]
      dsimp only
      simp only [zfW,hl,Nat.le_refl,zah,List.take_of_length_le,et]
      rw [ze8 _ hl]
      dsimp only
      rw [zah (by simp only [D.free,D.freeL,zmN,Bool.and_self])]
      rfl
    · have hb2:(((uL b).length:Int) != 32)=true:=by simp; omega
      rw [hb2,zbu,if_pos hl]
      rfl
  · have hb:(s.may a != 0)=true:=by simp [hm]
    rw [hb,zbu,if_pos hm]
    rfl
theorem zso (p:List (Int×List Int)):zcM (p.map wD)=true:=by
  simp only [zcM,List.all_map,List.all_eq_true]
  intro w _
  simp [wD,D.flatEl,D.flat,uL]
theorem zuu {p:List (Int×List Int)} (h:∀ w∈p,Sec w.2):zeM 33 (p.map wD)=true:=by
  simp only [zeM,List.all_map,List.all_eq_true]
  intro w hw
  have:=(h w hw).len
  simp [wD,D.width,this]
theorem zyv (T:Tb):zls T=some (Ans.mk (.h kD T.length 0) [] [T++[List.replicate 1664 (D.int .u8 0)++[.sl .own [],.bool false]]]):=by kernel_rfl
theorem zCv (T:Tb):zch [] [T]=some (Ans.mk (.h kD T.length 0) [] [T++[DS.new.cells]]):=by
  rw [zqx]
  have e:DS.new.cells=List.replicate 1664 (D.int .u8 0)++[.sl .own [],.bool false]:=by
    show uL (List.replicate 1664 0)++[.sl .own [],.bool false]=_
    rw [←zpm]
  rw [e]
  exact zyv T
theorem ztr {R:Type} {n:Nat} {b:List Int} (h:b.length=n) (f:LfT [.arr n]→Option R):zap [.arr n] (uL b) f=f (uL b,()):=by
  subst h
  have e1:(uL b).take b.length=uL b:=List.take_of_length_le (by simp)
  have e2:(uL b).drop b.length=[]:=List.drop_of_length_le (by simp)
  simp [zap,zcF,Lf.get,e1,e2]
theorem zpD {n:Nat} {b:List Int} (h:b.length=n):(uL b).take n=uL b:=List.take_of_length_le (by simp [h])
theorem zyw {a:Int} {b:List Int} (h:b.length=32):zds 33 [D.agg (D.int .i64 a::uL b)]=true:=by simp [zds,D.width,D.isAgg,D.cell,h]
theorem zw7 {a:Int} {b:List Int} (h:b.length=32):zeM 33 [D.agg (D.int .i64 a::uL b)]=true:=by simp [zeM,D.width,h]
theorem zvl (a:Int) (b:List Int):zcM [D.agg (D.int .i64 a::uL b)]=true:=by
  have h:(uL b).all D.flat=true:=zAc b
  show ((D.agg (D.int .i64 a::uL b)).flatEl && true)=true
  show ((true && (uL b).all D.flat) && true)=true
  rw [h]; rfl
section
variable {T:Tb} {i:Nat} {s:DS}
theorem zyx (h:T[i]? =some s.cells) (hl:s.l.length=1664) (p:List (Int×List Int)) (l:List D) (e:l=p.map wD):zaM (setT T i 1664 .undef) i 1664 [.sl .own l]=T.set i ({ s with pend:=p }:DS).cells:=by
  subst e
  rw [zqh h (by rw [zjh hl]; omega),zpn hl]
theorem zsp (h:T[i]? =some s.cells) (hl:s.l.length=1664) (p:List (Int×List Int)):zaM T i 1664 [.sl .own (p.map wD)]=T.set i ({ s with pend:=p }:DS).cells:=by
  rw [zdB h]
  exact congrArg _ (zpn hl p)
theorem zqW (h:T[i]? =some s.cells) (hs:s.Ok) (hn:s.pend.length≤1000000) (a:Int) (tg:Tag) (b:List Int):
    za1 [.h kD i 0,.int .i64 a,.sl tg (uL b)] [T]=some (Ans.mk (.int .i64 (s.write a b).1) [] [T.set i (s.write a b).2.cells]):=by
  rw [zi9,zcA]
  unfold zeh DS.write
  have hpl:=zya s a b
  by_cases he:(putR s a b).2=0
  · obtain ⟨h1,h2,h3,h4,h5⟩:=zwN he
    simp (disch:=first | omega | assumption | (simp; done) | fail) [zBF h hs,wD,ze8 _ hpl,he,h3,zam h,zam (znH hs.len),hpl,h2,ztr h2,zpD h2,zyw h2,zw7 h2,zww h,zjh hs.len,zso,zvl,zuu hs.ps]
    exact zyx h hs.len (s.pend++[(a,b)]) _ (by simp [wD])
  · simp (disch:=first | omega | assumption | (simp; done) | fail) [zBF h hs,wD,ze8 _ hpl,he,hpl,set_same h]
theorem zqX {β:Type} {l:List β} {n:Nat} (h:l.length=n):cut 0 n l=l:=by subst h; exact zet l
theorem zBG (l:List Int):(uL l).map D.hide=uL l:=by
  unfold uL; rw [List.map_map]; apply List.map_congr_left; intro n _; rfl
theorem zzg (l:List Int):(uL l).map D.own0=uL l:=by
  unfold uL; rw [List.map_map]; apply List.map_congr_left; intro n _; rfl
theorem zts (h:T[i]? =some s.cells) (hs:s.Ok) (hn:s.pend.length≤1000000):za9 [.h kD i 0] [T]=some (Ans.mk (.h kD T.length 0) [] [T++[s.cells]]):=by
  rw [zi7]
  unfold zeg
  have e1:List.map D.hide (List.take 1666 (List.drop 0 s.cells))=uL s.l++[D.undef,D.bool s.failed]:=by
    rw [List.drop_zero,List.take_of_length_le (by rw [zjh hs.len]; omega)]
    unfold DS.cells
    rw [List.map_append,zBG]; rfl
  have e2:∀ (x:List D),x.length=1666→spl 0 1666 x (uL s.l++[D.undef,D.bool s.failed])=uL s.l++[D.undef,D.bool s.failed]:=by
    intro x hx; unfold spl; rw [if_pos ⟨rfl,hx.symm⟩]
  have e3:((uL s.l++[D.undef,D.bool s.failed]).set 1664 .nilp).all D.own0ok=true:=by
    rw [List.set_append_right _ _ (by simp [hs.len]),List.all_append,zl9 (fun _=>rfl)]
    simp [hs.len,D.own0ok,D.flat]
  have e4:((uL s.l++[D.undef,D.bool s.failed]).map D.own0).set 1664 (.sl .own (s.pend.map wD))=s.cells:=by
    rw [List.map_append,zzg,List.set_append_right _ _ (by simp [hs.len])]
    simp [hs.len,DS.cells,D.own0]
  have e5:(uL s.l++[D.undef,D.bool s.failed]).length=1666:=by simp [hs.len]
  have e6:(List.reverse ([D.bool false,D.sl Tag.nil []]++List.replicate 1664 (D.int IntKind.u8 (0:Int)))).length=1666:=by rw [List.length_reverse,List.length_append,List.length_replicate]; rfl
  have e7:((true && decide ((1:Nat)=(1:Nat)) && List.all [(1664:Nat)] fun k=>decide (k < 1666))=true):=by decide
  rw [zam h,e1,e2 _ e6]
  generalize (uL s.l++[D.undef,D.bool s.failed])=X at*
  simp (disch:=first | omega | assumption | (simp; done) | fail) [e3,e4,e5,e7,zqX,zam h,zam (znH hs.len),zjh hs.len,zAo hs.ps,zso,zuu hs.ps]
theorem zAp (h:T[i]? =some s.cells) (hs:s.Ok) (hn:s.pend.length≤1000000):zba [.h kD i 0] [T]=some (Ans.mk (.int .i64 s.flush.1) [] [T.set i s.flush.2.cells]):=by
  rw [zjb]
  unfold zei DS.flush
  cases hf:s.failed
  · have hlp:(s.pend.map wD).length=s.pend.length:=by simp
    simp (disch:=first | omega | assumption | (simp; done) | fail) only [zam h,zam (zkB hs.len),zam (znH hs.len),hf,zdg,zaG,zb4,zah,Nat.zero_add,Nat.le_refl,hlp]
    let st:Nat→(Nat×(Nat×Nat×Nat)×Int×Int×PUnit)×List (List D)×PUnit:=fun k=>((i,(i,0,s.pend.length),(s.pend.length:Int),(k:Int),PUnit.unit),T.set i (s.puts (s.pend.take k)).cells,PUnit.unit)
    have hst:st 0=((i,(i,0,s.pend.length),(s.pend.length:Int),0,PUnit.unit),T,PUnit.unit):=by
      show ((i,(i,0,s.pend.length),(s.pend.length:Int),0,PUnit.unit),T.set i (s.puts []).cells,PUnit.unit)=_
      rw [show s.puts []=s from rfl,set_same h]
    rw [←hst]
    refine zea st s.pend.length (by omega) ?_ ?_
    · intro again k hk
      dsimp only [st]
      obtain ⟨w,hw⟩:∃ w,s.pend[k]? =some w:=⟨_,List.getElem?_eq_getElem hk⟩
      obtain ⟨hws,hw0,hw1⟩:=hs.pend w (List.mem_of_getElem? hw)
      obtain ⟨pk,pf,pp⟩:=znJ hs (s.pend.take k) fun w hw=>hs.pend w (List.mem_of_mem_take hw)
      have hU:=zkt h (s.puts (s.pend.take k)).cells
      have hpd:=znH (s:=s.puts (s.pend.take k)) pk.len
      rw [pp] at hpd
      have hnx:zaM (T.set i (s.puts (s.pend.take k)).cells) i (w.1.toNat*32) (uL w.2)=T.set i (s.puts (s.pend.take (k+1))).cells:=by
        rw [zdB hU,zfW,hws.len,zBs pk.len (by omega),List.set_set,List.take_add_one,hw]
        show _=T.set i (s.puts (s.pend.take k++[w])).cells
        unfold DS.puts
        rw [List.foldl_append]; rfl
      simp (disch:=first | omega | assumption | (simp; done) | fail) [zam hU,zam hpd,zam (zzf hw),ze8 _ hws.len,hws.len,zpD hws.len,zjh pk.len,hk,zsn,zwL pk.len,hw0,hw1,zaq,hnx]
    · intro again
      dsimp only [st]
      rw [List.take_length]
      obtain ⟨pk,pf,pp⟩:=znJ hs s.pend hs.pend
      have hU:=zkt h (s.puts s.pend).cells
      have hz:=zsp hU pk.len []
      have hz':zaM (T.set i (s.puts s.pend).cells) i 1664 [D.sl Tag.own []]=T.set i s.flushed.cells:=by
        have:=zsp hU pk.len []
        rw [List.set_set] at this; exact this
      simp (disch:=first | omega | assumption | (simp; done) | fail) [zam hU,zjh pk.len,hz']
  · simp (disch:=first | omega | assumption | (simp; done) | fail) [zam h,zam (zkB hs.len),hf,set_same h]
theorem zBH (h:T[i]? =some s.cells) (hs:s.Ok):zbs [.h kD i 0] [T]=some (Ans.mk (.tup []) [] [T.set i DS.dead.cells]):=by
  rw [zjO]
  unfold zeE
  have e:List.map D.own0 (List.set (List.reverse ([D.bool false,D.sl Tag.nil []]++List.replicate 1664 (D.int IntKind.u8 (0:Int)))) 1665 (D.bool true))=DS.dead.cells:=by
    rw [List.reverse_append,List.reverse_replicate]
    show List.map D.own0 (List.set (List.replicate 1664 (D.int IntKind.u8 (0:Int))++[D.sl Tag.nil [],D.bool false]) 1665 (D.bool true))=uL (List.replicate 1664 0)++[.sl .own [],.bool true]
    rw [List.set_append_right _ _ (by rw [List.length_replicate]; omega),List.length_replicate,List.map_append,zpm,zzg]
    rfl
  have hl:DS.dead.cells.length=1666:=zjh (s:=DS.dead) (List.length_replicate ..)
  have hset:zaM T i 0 DS.dead.cells=T.set i DS.dead.cells:=by
    rw [zdB h,hl]
    rw [List.take_zero,List.nil_append,List.drop_of_length_le (by rw [zjh hs.len]; omega),List.append_nil]
  rw [e,hset,zam h,zjh hs.len]
  simp
end
end Wf

namespace Wf
open Go Go.RowKit Go.Proofs
set_option linter.unusedSimpArgs false
set_option linter.unusedVariables false
section
variable {T0 T1:Tb} {b:Nat} {idx:List Nat} {B:Ben}
theorem At.ds (h:At T0 T1 b idx B) (hw:B.w≤1000000) (d:Int):(B.dk d).Ok∧(B.dk d).pend.length≤1000000:=by
  have:=zol h.ok d
  exact ⟨this.1,by have:=this.2; omega⟩
theorem zw8 (h:At T0 T1 b idx B):zaA [.h kB b 0] [P0 T0 b idx B]=some (Ans.mk (.int .i64 B.n) [] []):=by
  rw [zi3]
  unfold zec
  simp [zam h.get0,bRow,h.len,Ben.n]
theorem b_is (h:At T0 T1 b idx B) (d:Int):zal [.h kB b 0,.int .i64 d] [P0 T0 b idx B]=some (Ans.mk (.bool (B.is d)) [] []):=by
  rw [zjL]
  unfold zeD Ben.is Ben.n
  by_cases h0:0≤d
  · simp [zam h.get0,bRow,h0,h.len]
  · simp [h0]
theorem zyy (h:At T0 T1 b idx B) (d:Int):zaR [.h kB b 0,.int .i64 d] [P0 T0 b idx B,P1 T1 idx B]=some (Ans.mk (.bool (B.failed d)) [] []):=by
  rw [zhb]
  unfold zdm Ben.failed
  cases hd:B.is d
  · simp [b_is h d,hd]
  · obtain ⟨h0,h1⟩:=zfl.1 hd
    have h1':d.toNat < idx.length:=by have:=h.len; unfold Ben.n at h1; omega
    simp (disch:=first | omega | assumption | (simp; done) | fail) [b_is h d,hd,zam h.get0,bRow,h0,h1',zam (h.hd hd),D.isAgg,D.width,D.cell,zyu (h.get1 hd) (zol h.ok d).1]
theorem zsq (h:At T0 T1 b idx B) (d:Int):zaj [.h kB b 0,.int .i64 d] [P0 T0 b idx B]=some (Ans.mk (.int .i64 (B.may d)) [] []):=by
  rw [zi4]
  unfold zed Ben.may
  cases hd:B.is d
  · simp [b_is h d,hd]
  · cases hw:B.down<;>simp [b_is h d,hd,zam h.get0,bRow,hw]
theorem zw9 (h:At T0 T1 b idx B) (hw:B.w≤1000000) (d a:Int):zau [.h kB b 0,.int .i64 d,.int .i64 a] [P0 T0 b idx B,P1 T1 idx B]=some (Ans.mk (.tup [.sl .own (uL (B.read d a).1),.int .i64 (B.read d a).2]) [] []):=by
  rw [zil]
  unfold zdY Ben.read
  by_cases hm:B.may d=0
  · obtain ⟨hd,hdn⟩:=may0.1 hm
    obtain ⟨h0,h1⟩:=zfl.1 hd
    have h1':d.toNat < idx.length:=by have:=h.len; unfold Ben.n at h1; omega
    have hu:=zg8 ((B.dk d).read a).1
    simp only [List.all_eq_true] at hu
    simp (disch:=first | omega | assumption | (simp; done) | fail) [zsq h d,hm,zam h.get0,bRow,h0,h1',zam (h.hd hd),D.isAgg,D.width,D.cell,zBE (h.get1 hd) (h.ds hw d).1 (h.ds hw d).2]
  · simp [zsq h d,hm]; rfl
theorem zyz (h:At T0 T1 b idx B) (tg:Tag) (live:List Bool) {d:Int} (h0:0≤d):zaz [.h kB b 0,.sl tg (live.map D.bool),.int .i64 d] [P0 T0 b idx B,P1 T1 idx B]=some (Ans.mk (.bool (B.up live d)) [] []):=by
  have hl:D.lentL (live.map D.bool)=live.map D.bool:=by
    induction live with
    | nil=>rfl
    | cons x l ih=>simp [ih]
  rw [zoo,hl]
  unfold zjP Ben.up
  by_cases h1:d < B.n
  · by_cases h2:d < live.length
    · have e:live[d.toNat]? =some (live[d.toNat]'(by omega)):=List.getElem?_eq_getElem (by omega)
      have e':(live.map D.bool)[d.toNat]? =some (.bool (live[d.toNat]'(by omega))):=by simp [e]
      cases hv:live[d.toNat]'(by omega)
      · rw [hv] at e e'
        simp [zw8 h,h1,h2,h0,zam e',e,hv]
      · rw [hv] at e e'
        simp [zw8 h,h1,h2,h0,zam e',e,zyy h d,hv]
    · have e:live[d.toNat]? =none:=List.getElem?_eq_none (by omega)
      simp [zw8 h,h1,h2,e]
  · simp [zw8 h,h1]
theorem zxa (h:At T0 T1 b idx B) (hw:B.w≤1000000):zaO [.h kB b 0] [P0 T0 b idx B]=some (Ans.mk (.bool (decide (B.left≠0))) [] [P0 T0 b idx (if B.left=0 then B.off else B.less)]):=by
  rw [zgM]
  unfold zc7
  have hw0:=h.ok.w0
  have hlf:=h.ok.lf
  have hg:=h.get0
  have hset:∀ (B':Ben) (T:Tb) (cs:List D) (o:Nat) (x:D),T=P0 T0 b idx B'→cs=bRow B' idx→∀ B'':Ben,cs.take o++[x]++cs.drop (o+1)=bRow B'' idx→zaM T b o [x]=P0 T0 b idx B'':=by
    rintro B' _ _ o x rfl rfl B'' e
    have hg':(P0 T0 b idx B')[b]? =some (bRow B' idx):=by unfold P0; rw [List.getElem?_set,if_pos rfl,if_pos h.b]
    rw [zdB hg']
    show (P0 T0 b idx B').set b ((bRow B' idx).take o++[x]++(bRow B' idx).drop (o+1))=_
    rw [e,zza]
  by_cases hl:B.left=0
  · have e1:=hset B _ _ 2 (.bool true) rfl rfl B.off rfl
    simp (disch:=first | omega | assumption | (simp; done) | fail) [zam hg,bRow,hl,e1,zf4,D.flat]
  · by_cases hp:0 < B.left
    · let B1:Ben:={ B with left:=B.left - 1 }
      have e1:=hset B _ _ 1 (.int .i64 (B.left - 1)) rfl rfl B1 rfl
      have hg1:(P0 T0 b idx B1)[b]? =some (bRow B1 idx):=by unfold P0; rw [List.getElem?_set,if_pos rfl,if_pos h.b]
      have e2:=hset B1 _ _ 0 (.int .i64 (B.w+1)) rfl rfl B.less (by unfold Ben.less; rw [if_pos hp]; rfl)
      have e3:bRow B1 idx=[.int .i64 B.w,.int .i64 (B.left - 1),.bool B.down,.sl .own (idx.map hD)]:=rfl
      rw [e3] at hg1
      simp (disch:=first | omega | assumption | (simp; done) | fail) [zam hg,zam hg1,bRow,hl,hp,e1,e2,zf4,D.flat,zaq]
    · have e1:=hset B _ _ 0 (.int .i64 (B.w+1)) rfl rfl B.less (by unfold Ben.less; rw [if_neg hp]; rfl)
      simp (disch:=first | omega | assumption | (simp; done) | fail) [zam hg,bRow,hl,hp,e1,zf4,D.flat,zaq]
theorem zAq (h:At T0 T1 b idx B) (hw:B.w≤1000000) (d a:Int) (tg:Tag) (x:List Int):
    zaW [.h kB b 0,.int .i64 d,.int .i64 a,.sl tg (uL x)] [P0 T0 b idx B,P1 T1 idx B]=some (Ans.mk (.int .i64 (B.write d a x).1) [] [P0 T0 b idx (B.write d a x).2,P1 T1 idx (B.write d a x).2]):=by
  rw [zhL,zcA]
  unfold zdG Ben.write
  by_cases hm:B.may d=0
  · obtain ⟨hd,hdn⟩:=may0.1 hm
    obtain ⟨h0,h1⟩:=zfl.1 hd
    obtain ⟨ho,hp⟩:=h.ds hw d
    have h1':d.toNat < idx.length:=by have:=h.len; unfold Ben.n at h1; omega
    have hT:(P1 T1 idx B++[(B.dk d).cells])[(P1 T1 idx B).length]? =some (B.dk d).cells:=by simp
    have hj:(P1 T1 idx B++[(B.dk d).cells]).set (P1 T1 idx B).length ((B.dk d).write a x).2.cells=P1 T1 idx (B.junk ((B.dk d).write a x).2):=by
      rw [List.set_append_right _ _ (Nat.le_refl _),Nat.sub_self,←zAf]; rfl
    have hJ:At T0 T1 b idx (B.junk ((B.dk d).write a x).2):=h.nx (K:=0) ⟨znL h.ok _,rfl,by simp,by simp⟩
    have hd':(B.junk ((B.dk d).write a x).2).is d=true:=hd
    have hg1:=hJ.get1 hd'
    have hset:=hJ.set1 hd' ((B.dk d).write a x).2
    have hw1:=zqW (T:=P1 T1 idx (B.junk ((B.dk d).write a x).2)) (i:=ix idx d) (s:=B.dk d) hg1 ho hp a .lent x
    have hgr:∀ B':Ben,(P0 T0 b idx B')[b]? =some [.int .i64 B'.w,.int .i64 B'.left,.bool B'.down,.sl .own (idx.map hD)]:=by
      intro B'; unfold P0; rw [List.getElem?_set,if_pos rfl,if_pos h.b]; rfl
    by_cases he:(B.dk d).mayW a x=0
    · have e1:((B.dk d).write a x).1=0:=he
      have e2:((B.dk d).write a x).2=(B.dk d).add a x:=by unfold DS.write; rw [if_pos he]
      by_cases hl:B.left=0
      · simp (disch:=first | omega | assumption | (simp; done) | fail) [zsq h d,hm,zam (hgr _),h0,h1',zam (h.hd hd),D.isAgg,D.width,D.cell,zts (h.get1 hd) ho hp,zeN,zqW hT ho hp,hj,he,e1,zxa h hw,hl]
        exact ⟨rfl,rfl⟩
      · simp (disch:=first | omega | assumption | (simp; done) | fail) [zsq h d,hm,zam (hgr _),h0,h1',zam (h.hd hd),D.isAgg,D.width,D.cell,zts (h.get1 hd) ho hp,zeN,zqW hT ho hp,hj,he,e1,zxa h hw,hl,hw1,hset]
        rw [e2]; exact ⟨rfl,rfl⟩
    · have e1:¬ ((B.dk d).write a x).1=0:=he
      simp (disch:=first | omega | assumption | (simp; done) | fail) [zsq h d,hm,zam (hgr _),h0,h1',zam (h.hd hd),D.isAgg,D.width,D.cell,zts (h.get1 hd) ho hp,zeN,zqW hT ho hp,hj,he,e1]
      exact ⟨rfl,rfl⟩
  · simp [zsq h d,hm]
theorem zAr (h:At T0 T1 b idx B) (hw:B.w≤1000000) (d:Int):
    zaX [.h kB b 0,.int .i64 d] [P0 T0 b idx B,P1 T1 idx B]=some (Ans.mk (.int .i64 (B.flush d).1) [] [P1 T1 idx (B.flush d).2]):=by
  rw [zhN]
  unfold zdH Ben.flush
  by_cases hm:B.may d=0
  · obtain ⟨hd,hdn⟩:=may0.1 hm
    obtain ⟨h0,h1⟩:=zfl.1 hd
    obtain ⟨ho,hp⟩:=h.ds hw d
    have h1':d.toNat < idx.length:=by have:=h.len; unfold Ben.n at h1; omega
    simp (disch:=first | omega | assumption | (simp; done) | fail) [zsq h d,hm,zam h.get0,bRow,h0,h1',zam (h.hd hd),D.isAgg,D.width,D.cell,zAp (h.get1 hd) ho hp,h.set1 hd]
  · simp [zsq h d,hm]
theorem zBI (h:At T0 T1 b idx B) (d:Int):
    zdV [.h kB b 0,.int .i64 d] [P0 T0 b idx B,P1 T1 idx B]=some (Ans.mk (.int .i64 (B.fail d).1) [] [P1 T1 idx (B.fail d).2]):=by
  rw [zie]
  unfold zdW Ben.fail
  cases hd:B.is d
  · simp [b_is h d,hd]
  · obtain ⟨h0,h1⟩:=zfl.1 hd
    have h1':d.toNat < idx.length:=by have:=h.len; unfold Ben.n at h1; omega
    simp (disch:=first | omega | assumption | (simp; done) | fail) [b_is h d,hd,zam h.get0,bRow,h0,h1',zam (h.hd hd),D.isAgg,D.width,D.cell,zBH (h.get1 hd) (zol h.ok d).1,h.set1 hd]
theorem zyA (h:At T0 T1 b idx B):zaJ [.h kB b 0] [P0 T0 b idx B]=some (Ans.mk (.int .i64 B.w) [] []):=by
  rw [zgi]
  unfold zcP
  simp [zam h.get0,bRow]
def Ben.limit (B:Ben) (n:Int):Ben:={ B with left:=max (-1) n }
theorem zAs (h:At T0 T1 b idx B) (n:Int):zaP [.h kB b 0,.int .i64 n] [P0 T0 b idx B]=some (Ans.mk (.tup []) [] [P0 T0 b idx (B.limit n)]):=by
  rw [zgP]
  unfold zc8
  have hset:zaM (P0 T0 b idx B) b 1 [.int .i64 (max (-1) n)]=P0 T0 b idx (B.limit n):=by
    rw [zdB h.get0]
    show (P0 T0 b idx B).set b (bRow (B.limit n) idx)=_
    rw [zza]
  simp (disch:=first | omega | assumption | (simp; done) | fail) [zam h.get0,bRow,hset,zf4,D.flat]
end
end Wf

namespace Wf
open Go Go.RowKit Go.Proofs
set_option linter.unusedSimpArgs false
set_option linter.unusedVariables false
theorem gf_double (a:Int):zaN [.int .u8 a]=some (.int .u8 (dbl a)):=by
  rw [zot]
  unfold zjU dbl
  by_cases h:128≤a
  · simp [h]
  · simp [h]
theorem zBJ (a b:Int) (h0:0≤b) (h1:b < 256):zdx [.int .u8 a,.int .u8 b]=some (.int .u8 (mul8 a b)):=by
  rw [ztj]
  unfold zqB
  refine zgz (fun x=>x.1.2.1.toNat) (fun _=>some (D.int .u8 (mul8 a b)))
    (fun x=>∃ (n:Nat) (a' b' o:Int),0≤b'∧b' < 2 ^ n∧n≤8∧mulA n a' b' o=mul8 a b∧x=((a',b',o,PUnit.unit),PUnit.unit)) ?_ ⟨8,a,b,0,h0,h1,Nat.le_refl _,rfl,rfl⟩ (by simp; omega)
  rintro again _ ⟨n,a',b',o,p0,p1,p2,p3,rfl⟩ hag
  dsimp only
  by_cases hb:b' > 0
  · have hd:decide (b' > 0)=true:=by simp [hb]
    rw [hd,zbu,zbb]
    cases n with
    | zero=>simp at p1; omega
    | succ n=>
      have hdiv:b'.fdiv 2=b' / 2:=Int.fdiv_eq_ediv_of_nonneg _ (by omega)
      have hlt:b' / 2 < 2 ^ n:=by
        have:(2:Int) ^ (n+1)=2 ^ n*2:=Int.pow_succ ..
        omega
      by_cases hone:bits .and .u8 b' 1=1
      · have hbo:(bits .and .u8 b' 1 == 1)=true:=by simp [hone]
        rw [hbo,zbu,zbb,gf_double,zak,zbO,zbb,hdiv]
        refine hag _ ⟨n,_,_,_,by omega,hlt,by omega,?_,rfl⟩ (by simp; omega)
        rw [←p3]
        show _=mulA n (dbl a') (b' / 2) (if bits .and .u8 b' 1=1 then xor8 o a' else o)
        rw [if_pos hone]
      · have hbo:(bits .and .u8 b' 1 == 1)=false:=by simp [hone]
        rw [hbo,zaG,gf_double,zak,zbO,zbb,hdiv]
        refine hag _ ⟨n,_,_,_,by omega,hlt,by omega,?_,rfl⟩ (by simp; omega)
        rw [←p3]
        show _=mulA n (dbl a') (b' / 2) (if bits .and .u8 b' 1=1 then xor8 o a' else o)
        rw [if_neg hone]
  · have hd:decide (b' > 0)=false:=by simp [hb]
    have:b'=0:=by omega
    subst this
    rw [hd,zaG,←p3,zwz]
theorem zyB {a b:List Int} {k:Nat} {x y:Int} (h1:a[k]? =some x) (h2:b[k]? =some y):(List.zipWith xor8 a b).take (k+1)=(List.zipWith xor8 a b).take k++[xor8 x y]:=by
  rw [List.take_add_one]
  congr 1
  simp [List.getElem?_zipWith,h1,h2]
theorem zf1 (t t':Tag) (a b:List Int) (ha:a.length < 100000):zat [.sl t (uL a),.sl t' (uL b)]=some (.sl .own (uL (addL a b))):=by
  rw [zqC,zcA,zcA]
  unfold zlB addL
  by_cases hl:a.length=b.length
  · have hb:(((uL a).length:Int) != ((uL b).length:Int))=false:=by simp [hl]
    rw [hb,zaG,if_pos hl]
    let st:Nat→(List D×List D×List D×Int×Int×PUnit)×PUnit:=fun k=>((uL b,uL ((List.zipWith xor8 a b).take k),uL a,(a.length:Int),(k:Int),PUnit.unit),PUnit.unit)
    have hst:st 0=((uL b,[],uL a,((uL a).length:Int),0,PUnit.unit),PUnit.unit):=by simp [st,uL]
    rw [←hst]
    refine zcK st a.length ha ?_ ?_
    · intro again k hk
      dsimp only [st]
      have h1:a[k]? =some a[k]:=List.getElem?_eq_getElem hk
      have h2:b[k]? =some (b[k]'(by omega)):=List.getElem?_eq_getElem (by omega)
      have hd:decide ((k:Int) < (a.length:Int))=true:=by simp; omega
      rw [hd,zbu,zah (by omega),zam (by simpa using znG h1),zbO,zah (by omega),zam (by simpa using znG h2),zbO,zbb,zah (by simp; omega),zah (by rfl),zbb,zaq (by omega) (by omega),zah (by simp)]
      rw [zyB h1 h2,←zwK]
      rfl
    · intro again
      dsimp only [st]
      have hd:decide ((a.length:Int) < (a.length:Int))=false:=by simp
      have ht:(List.zipWith xor8 a b).take a.length=List.zipWith xor8 a b:=List.take_of_length_le (by simp; omega)
      rw [hd,zaG,zah (by rfl),zah (zg8 _),ht]
  · have hb:(((uL a).length:Int) != ((uL b).length:Int))=true:=by simp; omega
    rw [hb,zbu,if_neg hl]
    rfl
theorem zgR (t:Tag) (a:List Int) (ha:a.length < 100000) {f:Int} (h0:0≤f) (h1:f < 256):zar [.sl t (uL a),.int .u8 f]=some (.sl .own (uL (a.map (mul8 · f)))):=by
  rw [zn2,zcA]
  unfold zir
  let st:Nat→(Int×List D×List D×Int×Int×PUnit)×PUnit:=fun k=>((f,uL ((a.map (mul8 · f)).take k),uL a,(a.length:Int),(k:Int),PUnit.unit),PUnit.unit)
  have hst:st 0=((f,[],uL a,((uL a).length:Int),0,PUnit.unit),PUnit.unit):=by simp [st,uL]
  rw [←hst]
  refine zcK st a.length ha ?_ ?_
  · intro again k hk
    dsimp only [st]
    have h2:a[k]? =some a[k]:=List.getElem?_eq_getElem hk
    have hd:decide ((k:Int) < (a.length:Int))=true:=by simp; omega
    rw [hd,zbu,zah (by omega),zam (by simpa using znG h2),zbO,zBJ _ _ h0 h1,zak,zbO,zah (by simp; omega),zah (by rfl),zbb,zaq (by omega) (by omega),zah (by simp)]
    have:(a.map (mul8 · f)).take (k+1)=(a.map (mul8 · f)).take k++[mul8 a[k] f]:=by rw [List.take_add_one]; simp [h2]
    rw [this,←zwK]
    rfl
  · intro again
    dsimp only [st]
    have hd:decide ((a.length:Int) < (a.length:Int))=false:=by simp
    have ht:(a.map (mul8 · f)).take a.length=a.map (mul8 · f):=List.take_of_length_le (by simp)
    rw [hd,zaG,zah (by rfl),zah (zg8 _),ht]
abbrev Part:=Tag×List Int
def pL (ps:List Part):List D:=ps.map fun x=>.sl x.1 (uL x.2)
def zbL (t:Tag) (l:List Int):Tag:=match t,l with
  | .nil,_=>.nil
  | .nn,[]=>.nn
  | .nul,[]=>.nul
  | _,_=>.lent
theorem zAt (t:Tag) (l:List Int):D.lent (.sl t (uL l))=.sl (zbL t l) (uL l):=by
  have h:=zcA l
  cases l with
  | nil=>cases t<;>rfl
  | cons n l=>
    have e:uL (n::l)=.int .u8 n::uL l:=rfl
    rw [e] at h ⊢
    cases t<;>simp only [D.lent,h,zbL]<;>simp [D.lentL,D.lent,zcA]
theorem zcC (ps:List Part):D.lentL (pL ps)=pL (ps.map fun x=>(zbL x.1 x.2,x.2)):=by
  unfold pL
  rw [zni,List.map_map,List.map_map]
  apply List.map_congr_left
  intro x _
  exact zAt x.1 x.2
@[simp] theorem zxb (ps:List Part):(pL ps).length=ps.length:=by simp [pL]
theorem zdN {ps:List Part} {k:Nat} {x:Part} (h:ps[k]? =some x):(pL ps)[k]? =some (.sl x.1 (uL x.2)):=by simp [pL,h]
theorem zxc (ps:List Part) (t:Tag) (l:List Int):pL ps++[.sl t (uL l)]=pL (ps++[(t,l)]):=by simp [pL]
theorem zsr (ps:List Part) (i:Nat) (t:Tag) (l:List Int):(pL ps).set i (.sl t (uL l))=pL (ps.set i (t,l)):=by simp [pL,List.map_set]
def Part.free (x:Part):Bool:=x.1=.fresh || x.1=.full || x.1=.nil
theorem zod {ps:List Part} (h:∀ x∈ps,x.free=true):(pL ps).all D.free=true:=by
  unfold pL
  rw [List.all_map,List.all_eq_true]
  intro x hx
  have:=h x hx
  obtain ⟨t,l⟩:=x
  cases t<;>first | (exact zmN l) | (exact absurd this (by simp [Part.free]))
theorem zss (k:Nat) (hk:k < 255):zaF [.int .i64 k]=some (.int .u8 (pow8 k)):=by
  rw [zn3]
  unfold zmO
  have e1:Int.tmod (k:Int) 255=k:=by rw [Int.tmod_eq_emod_of_nonneg (by omega),Int.emod_eq_of_lt (by omega) (by omega)]
  have e2:Int.tmod ((k:Int)+255) 255=k:=by
    rw [Int.tmod_eq_emod_of_nonneg (by omega),Int.add_emod_right,Int.emod_eq_of_lt (by omega) (by omega)]
  rw [zbb,e1,zbb,zaq (by omega) (by omega),zbb,e2]
  refine zcK (fun j=>((pow8 j,(k:Int),(j:Int),PUnit.unit),PUnit.unit)) k (by omega) ?_ ?_
  · intro again j hj
    dsimp only
    have hd:decide ((j:Int) < (k:Int))=true:=by simp; omega
    rw [hd,zbu,gf_double,zak,zbO,zbb,zaq (by omega) (by omega)]
    rfl
  · intro again
    have hd:decide ((k:Int) < (k:Int))=false:=by simp
    dsimp only
    rw [hd,zaG]
theorem zxd (tg:Tag) {ps:List Part} {n:Nat} (hn:n < 100000) (h0:0 < ps.length) (h1:ps.length < 255) (h:∀ x∈ps,x.2.length=n):
    zbp [.sl tg (pL ps)]=some (.sl .own (uL (sumP n (ps.map (·.2))))):=by
  rw [ztk,zcC]
  unfold zqG
  have hsum:∀ {qs:List Part},0 < qs.length→qs.length < 255→(∀ x∈qs,x.2.length=n)→∀ tg,zbj [.sl tg (pL qs),.fn ID.synd_P_1 [] []]=some (.sl .own (uL (sumP n (qs.map (·.2))))):=by
    intro qs h0 h1 h tg
    rw [zmx,zcC]
    have hl':∀ x∈(qs.map fun x=>(zbL x.1 x.2,x.2)),x.2.length=n:=by
      intro x hx; obtain ⟨y,hy,rfl⟩:=List.mem_map.1 hx; exact h y hy
    have hm:(qs.map fun x=>(zbL x.1 x.2,x.2)).map (·.2)=qs.map (·.2):=by rw [List.map_map]; rfl
    rw [←hm]
    have hlen:(qs.map fun x=>(zbL x.1 x.2,x.2)).length=qs.length:=by simp
    rw [←hlen] at h0 h1
    generalize (qs.map fun x=>(zbL x.1 x.2,x.2))=rs at*
    clear hm hlen h qs
    unfold zhe
    have hb:(((pL rs).length:Int) == 0)=false:=by simp; intro e; rw [e] at h0; simp at h0
    obtain ⟨x0,hx0⟩:∃ x,rs[0]? =some x:=⟨_,List.getElem?_eq_getElem h0⟩
    have hx0l:=hl' x0 (List.mem_of_getElem? hx0)
    rw [hb,zaG,zam (zdN hx0),zh5,zah (by rfl),zfW,hx0l,zah (by omega),zah (by omega),zah (by simp),Int.toNat_natCast,zpm]
    have hls:∀ l∈rs.map (·.2),l.length=n:=by intro l hl; obtain ⟨y,hy,rfl⟩:=List.mem_map.1 hl; exact hl' y hy
    let st:Nat→(List D×List D×Int×Int×PUnit)×PUnit:=fun k=>((uL (sumK (fun _=>1) n (rs.map (·.2)) k),pL rs,((pL rs).length:Int),(k:Int),PUnit.unit),PUnit.unit)
    have hst:st 0=((uL (List.replicate n 0),pL rs,((pL rs).length:Int),0,PUnit.unit),PUnit.unit):=rfl
    rw [←hst]
    refine zcK st rs.length (by omega) ?_ ?_
    · intro again k hk
      dsimp only [st]
      obtain ⟨x,hx⟩:∃ x,rs[k]? =some x:=⟨_,List.getElem?_eq_getElem hk⟩
      have hxl:=hl' x (List.mem_of_getElem? hx)
      have hd:decide ((k:Int) < ((pL rs).length:Int))=true:=by simp; omega
      have hsl:=ziR (f:=fun _=>1) hls (k:=k) (by simp; omega)
      rw [hd,zbu,zah (by omega),zam (by simpa using zdN hx),zh5,zah (by omega)]
      have hb2:(((uL x.2).length:Int) != ((uL (sumK (fun _=>1) n (rs.map (·.2)) k)).length:Int))=false:=by simp [hxl,hsl]
      have hone:za8 [.int .i64 (k:Int)]=some (.int .u8 1):=by rw [zqD]; rfl
      rw [hb2,zaG,hone,zak,zbO,zgR _ _ (by omega) (by omega) (by omega),zak,zb4,zah (by omega),zah (by omega),zet,zet,zf1 _ _ _ _ (by omega),zak,zb4,zbb,
        zaq (by omega) (by omega),zah (by rfl)]
      have he:addL (sumK (fun _=>1) n (rs.map (·.2)) k) (x.2.map (mul8 · 1))=sumK (fun _=>1) n (rs.map (·.2)) (k+1):=by
        unfold addL
        rw [if_pos (by simp [hsl,hxl])]
        have:(rs.map (·.2)).getD k []=x.2:=by simp [List.getD_eq_getElem?_getD,hx]
        simp only [sumK,this]
      rw [he]
      rfl
    · intro again
      dsimp only [st]
      have hd:decide ((rs.length:Int) < ((pL rs).length:Int))=false:=by simp
      rw [hd,zaG,zah (by rfl),zah (zg8 _)]
      simp [sumP]
  rw [hsum (by simpa using h0) (by simpa using h1) (by intro x hx; obtain ⟨y,hy,rfl⟩:=List.mem_map.1 hx; exact h y hy),zak,zb4,zah (by rfl),zah (zg8 _),List.map_map]
  rfl
theorem zxe (tg:Tag) {ps:List Part} {n:Nat} (hn:n < 100000) (h0:0 < ps.length) (h1:ps.length < 255) (h:∀ x∈ps,x.2.length=n):
    zbq [.sl tg (pL ps)]=some (.sl .own (uL (sumQ n (ps.map (·.2))))):=by
  rw [ztl,zcC]
  unfold zqH
  have hsum:∀ {qs:List Part},0 < qs.length→qs.length < 255→(∀ x∈qs,x.2.length=n)→∀ tg,zbj [.sl tg (pL qs),.fn ID.gf_Pow [] []]=some (.sl .own (uL (sumQ n (qs.map (·.2))))):=by
    intro qs h0 h1 h tg
    rw [zmy,zcC]
    have hl':∀ x∈(qs.map fun x=>(zbL x.1 x.2,x.2)),x.2.length=n:=by
      intro x hx; obtain ⟨y,hy,rfl⟩:=List.mem_map.1 hx; exact h y hy
    have hm:(qs.map fun x=>(zbL x.1 x.2,x.2)).map (·.2)=qs.map (·.2):=by rw [List.map_map]; rfl
    rw [←hm]
    have hlen:(qs.map fun x=>(zbL x.1 x.2,x.2)).length=qs.length:=by simp
    rw [←hlen] at h0 h1
    generalize (qs.map fun x=>(zbL x.1 x.2,x.2))=rs at*
    clear hm hlen h qs
    unfold zhf
    have hb:(((pL rs).length:Int) == 0)=false:=by simp; intro e; rw [e] at h0; simp at h0
    obtain ⟨x0,hx0⟩:∃ x,rs[0]? =some x:=⟨_,List.getElem?_eq_getElem h0⟩
    have hx0l:=hl' x0 (List.mem_of_getElem? hx0)
    rw [hb,zaG,zam (zdN hx0),zh5,zah (by rfl),zfW,hx0l,zah (by omega),zah (by omega),zah (by simp),Int.toNat_natCast,zpm]
    have hls:∀ l∈rs.map (·.2),l.length=n:=by intro l hl; obtain ⟨y,hy,rfl⟩:=List.mem_map.1 hl; exact hl' y hy
    let st:Nat→(List D×List D×Int×Int×PUnit)×PUnit:=fun k=>((uL (sumK pow8 n (rs.map (·.2)) k),pL rs,((pL rs).length:Int),(k:Int),PUnit.unit),PUnit.unit)
    have hst:st 0=((uL (List.replicate n 0),pL rs,((pL rs).length:Int),0,PUnit.unit),PUnit.unit):=rfl
    rw [←hst]
    refine zcK st rs.length (by omega) ?_ ?_
    · intro again k hk
      dsimp only [st]
      obtain ⟨x,hx⟩:∃ x,rs[k]? =some x:=⟨_,List.getElem?_eq_getElem hk⟩
      have hxl:=hl' x (List.mem_of_getElem? hx)
      have hd:decide ((k:Int) < ((pL rs).length:Int))=true:=by simp; omega
      have hsl:=ziR (f:=pow8) hls (k:=k) (by simp; omega)
      rw [hd,zbu,zah (by omega),zam (by simpa using zdN hx),zh5,zah (by omega)]
      have hb2:(((uL x.2).length:Int) != ((uL (sumK pow8 n (rs.map (·.2)) k)).length:Int))=false:=by simp [hxl,hsl]
      have hone:=zss k (by omega)
      rw [hb2,zaG,hone,zak,zbO,zgR _ _ (by omega) (zgA k).1 (zgA k).2,zak,zb4,zah (by omega),zah (by omega),zet,zet,zf1 _ _ _ _ (by omega),zak,zb4,zbb,
        zaq (by omega) (by omega),zah (by rfl)]
      have he:addL (sumK pow8 n (rs.map (·.2)) k) (x.2.map (mul8 · (pow8 k)))=sumK pow8 n (rs.map (·.2)) (k+1):=by
        unfold addL
        rw [if_pos (by simp [hsl,hxl])]
        have:(rs.map (·.2)).getD k []=x.2:=by simp [List.getD_eq_getElem?_getD,hx]
        simp only [sumK,this]
      rw [he]
      rfl
    · intro again
      dsimp only [st]
      have hd:decide ((rs.length:Int) < ((pL rs).length:Int))=false:=by simp
      rw [hd,zaG,zah (by rfl),zah (zg8 _)]
      simp [sumQ]
  rw [hsum (by simpa using h0) (by simpa using h1) (by intro x hx; obtain ⟨y,hy,rfl⟩:=List.mem_map.1 hx; exact h y hy),zak,zb4,zah (by rfl),zah (zg8 _),List.map_map]
  rfl
end Wf

namespace Wf
open Go Go.RowKit Go.Proofs
set_option linter.unusedSimpArgs false
set_option linter.unusedVariables false
theorem zxf (l:List Int):(intL l).all D.free=true:=by simp [intL,D.free]
theorem zxg (l:List Int) (n:Int):intL l++[.int .i64 n]=intL (l++[n]):=by simp [intL]
def ztt (ls:List (List Int)) (k:Nat):List Int:=((List.range k).filter fun i=>(ls.getD i []).isEmpty).map Int.ofNat
def miss (ls:List (List Int)):List Int:=ztt ls ls.length
theorem zvm (ls:List (List Int)) (k:Nat):ztt ls (k+1)=ztt ls k++if (ls.getD k []).isEmpty then [(k:Int)] else []:=by
  unfold ztt
  rw [List.range_succ,List.filter_append,List.map_append]
  congr 1
  by_cases h:(ls.getD k []).isEmpty=true
  · rw [if_pos h,List.filter_cons_of_pos (p:=fun i=>(ls.getD i []).isEmpty) h]; rfl
  · rw [if_neg h,List.filter_cons_of_neg (p:=fun i=>(ls.getD i []).isEmpty) h]; rfl
theorem zxh (ls:List (List Int)) (k:Nat):(ztt ls k).length≤k:=by
  unfold ztt
  rw [List.length_map]
  exact Nat.le_trans (List.length_filter_le _ _) (by simp)
theorem zk6 (tg:Tag) (ps:List Part) (hn:ps.length < 100000):zbc [.sl tg (pL ps)]=some (.sl .own (intL (miss (ps.map (·.2))))):=by
  rw [zkQ,zcC]
  have hm:(ps.map fun x=>(zbL x.1 x.2,x.2)).map (·.2)=ps.map (·.2):=by rw [List.map_map]; rfl
  have hlen:(ps.map fun x=>(zbL x.1 x.2,x.2)).length=ps.length:=by simp
  rw [←hm]
  rw [←hlen] at hn
  generalize (ps.map fun x=>(zbL x.1 x.2,x.2))=rs at*
  unfold zfu
  let st:Nat→(List D×List D×Int×Int×PUnit)×PUnit:=fun k=>((intL (ztt (rs.map (·.2)) k),pL rs,((pL rs).length:Int),(k:Int),PUnit.unit),PUnit.unit)
  have hst:st 0=(([],pL rs,((pL rs).length:Int),0,PUnit.unit),PUnit.unit):=rfl
  rw [←hst]
  refine zcK st rs.length (by omega) ?_ ?_
  · intro again k hk
    dsimp only [st]
    obtain ⟨x,hx⟩:∃ x,rs[k]? =some x:=⟨_,List.getElem?_eq_getElem hk⟩
    have hd:decide ((k:Int) < ((pL rs).length:Int))=true:=by simp; omega
    have hk2:=zxh (rs.map (·.2)) k
    have hgd:(rs.map (·.2)).getD k []=x.2:=by simp [List.getD_eq_getElem?_getD,hx]
    rw [hd,zbu,zah (by omega),zam (by simpa using zdN hx),zh5,zvm,hgd]
    by_cases he:x.2=[]
    · have hb:(((uL x.2).length:Int) == 0)=true:=by simp [he]
      rw [hb,zbu,zah (by rw [ziQ]; omega),zah (by rfl),zbb,zaq (by omega) (by omega),zah (by simp),zxg,he]
      rfl
    · have hb:(((uL x.2).length:Int) == 0)=false:=by simp; omega
      have hb2:x.2.isEmpty=false:=by simp [he]
      rw [hb,zaG,zbb,zaq (by omega) (by omega),zah (by rfl),hb2]
      simp
  · intro again
    dsimp only [st]
    have hd:decide ((rs.length:Int) < ((pL rs).length:Int))=false:=by simp
    rw [hd,zaG,zah (by rfl),zah (zxf _)]
    simp [miss]
theorem zCw (t:Tag) (l:List Int) (n:Int):zan [.sl t (uL l),.at_ (.int .i64 n)]=some (.bool (!fitS n l)):=by
  rw [zly,zcA]
  unfold zf9 fitS
  cases l with
  | nil=>simp
  | cons a l=>
    have hd:decide (((uL (a::l)).length:Int) > 0)=true:=by simp
    rw [hd,zbu]
    simp [bne]
    rfl
theorem zoH (tg:Tag) (ps:List Part) (hn:ps.length < 100000) (n:Int):
    ∃ r,zac [.sl tg (pL ps),.fn ID.erase_fits_1 [] [.at_ (.int .i64 n)]]=some r∧∃ i:Int,r=.int .i64 i∧decide (i≥0)= !(ps.all fun x=>fitS n x.2):=by
  rw [zdo,zcC]
  have hm:(ps.all fun x=>fitS n x.2)=((ps.map fun x=>(zbL x.1 x.2,x.2)).all fun x=>fitS n x.2):=by rw [List.all_map]; rfl
  have hlen:(ps.map fun x=>(zbL x.1 x.2,x.2)).length=ps.length:=by simp
  rw [hm]
  rw [←hlen] at hn
  generalize (ps.map fun x=>(zbL x.1 x.2,x.2))=rs at*
  unfold zbH
  refine zub (fun a=>(rs.length:Nat) - a.1.2.2.2.1.toNat) (fun r=>∃ i:Int,r=D.int .i64 i∧decide (i≥0)= !(rs.all fun x=>fitS n x.2))
    (fun a=>∃ k:Nat,k≤rs.length∧((rs.take k).all fun x=>fitS n x.2)=true∧a=((pL rs,n,(rs.length:Int),(k:Int),PUnit.unit),PUnit.unit)) ?_ ⟨0,by omega,by simp,by rw [zxb]; rfl⟩ (by simp; omega)
  rintro again _ ⟨k,hk,he,rfl⟩ hag
  dsimp only
  by_cases hkm:k < rs.length
  · obtain ⟨x,hx⟩:∃ x,rs[k]? =some x:=⟨_,List.getElem?_eq_getElem hkm⟩
    have hd:decide ((k:Int) < (rs.length:Int))=true:=by simp; omega
    rw [hd,zbu,zah (by omega),zam (by simpa using zdN hx),zh5,zCw,zak,zdg]
    cases hf:fitS n x.2
    · refine ⟨_,rfl,_,rfl,?_⟩
      have:(rs.all fun x=>fitS n x.2)=false:=by
        rw [List.all_eq_false]
        exact ⟨x,List.mem_of_getElem? hx,by simp [hf]⟩
      rw [this]
      simp
    · simp only [Bool.not_true,zaG,zbb]
      rw [zaq (by omega) (by omega)]
      refine hag _ ⟨k+1,by omega,?_,rfl⟩ (by simp; omega)
      rw [List.take_add_one,hx,List.all_append,he]
      simp [hf]
  · have hd:decide ((k:Int) < (rs.length:Int))=false:=by simp; omega
    rw [hd,zaG]
    refine ⟨_,rfl,_,rfl,?_⟩
    rw [List.take_of_length_le (by omega)] at he
    rw [he]
    rfl
theorem erase_fits (tg:Tag) (ps:List Part) (hn:ps.length < 100000) (n:Int):zbB [.int .i64 n,.sl tg (pL ps)]=some (.bool (ps.all fun x=>fitS n x.2)):=by
  rw [zn0,zcC]
  have hm:(ps.all fun x=>fitS n x.2)=((ps.map fun x=>(zbL x.1 x.2,x.2)).all fun x=>fitS n x.2):=by rw [List.all_map]; rfl
  have hlen:(ps.map fun x=>(zbL x.1 x.2,x.2)).length=ps.length:=by simp
  rw [hm]
  rw [←hlen] at hn
  generalize (ps.map fun x=>(zbL x.1 x.2,x.2))=rs at*
  unfold ziq
  have:zaa [.sl .lent (pL rs),.fn ID.erase_fits_1 [] [.at_ (.int .i64 n)]]=some (.bool (!(rs.all fun x=>fitS n x.2))):=by
    rw [zcV,zcC]
    have hm:(rs.all fun x=>fitS n x.2)=((rs.map fun x=>(zbL x.1 x.2,x.2)).all fun x=>fitS n x.2):=by rw [List.all_map]; rfl
    have hlen:(rs.map fun x=>(zbL x.1 x.2,x.2)).length=rs.length:=by simp
    rw [hm]
    rw [←hlen] at hn
    generalize (rs.map fun x=>(zbL x.1 x.2,x.2))=qs at*
    unfold zby
    obtain ⟨r,h1,i,rfl,h2⟩:=zoH .lent qs hn n
    rw [h1,zak,zbO,h2]
  rw [this,zak,zdg,Bool.not_not]
theorem zAu {l:List D} {n:Nat} (h:l.length=n):cut 0 n l=l:=by subst h; exact zet l
theorem erase_filled (n:Nat) (hn0:n < 100000) (tg:Tag) (ps:List Part) (hn:ps.length < 100000):zbl [.int .i64 n,.sl tg (pL ps)]=some (.sl .own (pL (ps.map fun x=>(Tag.fresh,zia n x.2)))):=by
  rw [zlA,zcC]
  have hm:(ps.map fun x=>(Tag.fresh,zia n x.2))=((ps.map fun x=>(zbL x.1 x.2,x.2)).map fun x=>(Tag.fresh,zia n x.2)):=by rw [List.map_map]; rfl
  have hlen:(ps.map fun x=>(zbL x.1 x.2,x.2)).length=ps.length:=by simp
  rw [hm]
  rw [←hlen] at hn
  generalize (ps.map fun x=>(zbL x.1 x.2,x.2))=rs at*
  unfold zga
  let st:Nat→(Int×List D×List D×Int×Int×PUnit)×PUnit:=fun k=>(((n:Int),pL ((rs.take k).map fun x=>(Tag.fresh,zia n x.2)),pL rs,((pL rs).length:Int),(k:Int),PUnit.unit),PUnit.unit)
  have hst:st 0=(((n:Int),[],pL rs,((pL rs).length:Int),0,PUnit.unit),PUnit.unit):=rfl
  rw [←hst]
  refine zcK st rs.length (by omega) ?_ ?_
  · intro again k hk
    dsimp only [st]
    obtain ⟨x,hx⟩:∃ x,rs[k]? =some x:=⟨_,List.getElem?_eq_getElem hk⟩
    have hd:decide ((k:Int) < ((pL rs).length:Int))=true:=by simp; omega
    have hfill:([]++List.take (Int.toNat (n:Int)) (uL x.2)++List.drop ((0:Nat)+List.length (List.take (Int.toNat (n:Int)) (uL x.2))) (List.replicate (Int.toNat (n:Int)) (D.int IntKind.u8 (0:Int))))=uL (zia n x.2):=by
      rw [Int.toNat_natCast,zqp,zpm,zs7,Nat.zero_add,zfW,List.nil_append,←zwJ]; rfl
    rw [hd,zbu,zah (by omega),zam (by simpa using zdN hx),zh5,zah (by omega),zah (by rfl),zah (by omega),zah (by omega),zah (by simp),zah (zuh _),hfill,zah (by simp [zgB]),zah (by simp; omega),zah (by rfl),
      zbb,zaq (by omega) (by omega),zah (by simp),zAu (by simp [zgB]),zxc]
    have:(rs.take (k+1)).map (fun x=>(Tag.fresh,zia n x.2))=(rs.take k).map (fun x=>(Tag.fresh,zia n x.2))++[(Tag.fresh,zia n x.2)]:=by rw [List.take_add_one,hx]; simp
    rw [this]
    rfl
  · intro again
    dsimp only [st]
    have hd:decide ((rs.length:Int) < ((pL rs).length:Int))=false:=by simp
    rw [hd,zaG,zah (by rfl),List.take_length,zah (zod (by intro x hx; obtain ⟨y,hy,rfl⟩:=List.mem_map.1 hx; rfl))]
def fP (ls:List (List Int)):List Part:=ls.map fun l=>(Tag.fresh,l)
@[simp] theorem zBK (ls:List (List Int)):(fP ls).length=ls.length:=by simp [fP]
theorem zuv (ls:List (List Int)):(fP ls).map (·.2)=ls:=by
  unfold fP
  rw [List.map_map]
  exact List.map_id ls
theorem zhm (ls:List (List Int)):(pL (fP ls)).all D.free=true:=zod (by intro x hx; obtain ⟨y,_,rfl⟩:=List.mem_map.1 hx; rfl)
theorem zBL (ls:List (List Int)) (i:Nat) (l:List Int):(fP ls).set i (Tag.fresh,l)=fP (ls.set i l):=by simp [fP,List.map_set]
theorem zxi {ls:List (List Int)} {k:Nat} {l:List Int} (h:ls[k]? =some l):(fP ls)[k]? =some (Tag.fresh,l):=by simp [fP,h]
theorem zyC (ps:List Part):(ps.map fun x=>(Tag.fresh,zia 32 x.2))=fP (zbT (ps.map (·.2))):=by simp [fP,zbT]
theorem zyD (ls:List (List Int)):miss ls=(zcp ls).map Int.ofNat:=rfl
theorem zvn (k:Nat) (hk:k < 100000):zaF [.int .i64 k]=some (.int .u8 (pow8 (k % 255))):=by
  have h:=zss (k % 255) (Nat.mod_lt _ (by omega))
  rw [zn3] at h ⊢
  unfold zmO at h ⊢
  have e1:Int.tmod (k:Int) 255=((k % 255:Nat):Int):=by rw [Int.tmod_eq_emod_of_nonneg (by omega)]; omega
  have e2:Int.tmod ((k % 255:Nat):Int) 255=((k % 255:Nat):Int):=by rw [Int.tmod_eq_emod_of_nonneg (by omega)]; omega
  rw [e1]
  rw [e2] at h
  exact h
theorem zBM {a:Nat} (ha:a < 256):zdy [.int .u8 a]=some (.int .i64 (if logN a=255 then -1 else (logN a:Int))):=by
  rw [ztn]
  unfold zqI
  refine zgz (a:=(((a:Int),(1:Int),(0:Int),PUnit.unit),PUnit.unit)) (fun x=>(255 - x.1.2.2.1).toNat) (fun x=>some (D.int .i64 (if logF a (255 - x.1.2.2.1.toNat) x.1.2.1.toNat x.1.2.2.1.toNat=255 then -1 else (logF a (255 - x.1.2.2.1.toNat) x.1.2.1.toNat x.1.2.2.1.toNat:Int))))
    (fun x=>∃ n y:Nat,n≤255∧y < 256∧x=(((a:Int),(y:Int),(n:Int),PUnit.unit),PUnit.unit)) ?_ ⟨0,1,by omega,by omega,rfl⟩ (by simp)
  rintro again _ ⟨n,y,hn,hy,rfl⟩ hag
  dsimp only
  rw [Int.toNat_natCast,Int.toNat_natCast]
  by_cases h:n < 255
  · have e:255 - n=(255 - (n+1))+1:=by omega
    have hd:decide ((n:Int) < 255)=true:=by simp; omega
    rw [hd,zbu,e]
    by_cases hya:y=a
    · subst hya
      have:logF y (255 - (n+1)+1) y n=n:=by unfold logF; rw [if_pos rfl]
      rw [this,if_neg (by omega)]
      simp
    · have hb:((y:Int) == (a:Int))=false:=by simp; omega
      have:logF a (255 - (n+1)+1) y n=logF a (255 - (n+1)) (dblN y) (n+1):=by rw [logF,if_neg hya]
      have hh:=hag (((a:Int),((dblN y:Nat):Int),((n+1:Nat):Int),PUnit.unit),PUnit.unit) ⟨n+1,dblN y,by omega,zh7 hy,rfl⟩ (by dsimp only; omega)
      dsimp only at hh
      rw [Int.toNat_natCast,Int.toNat_natCast] at hh
      rw [hb,zaG,gf_double,zak,zbO,zbb,zaq (by omega) (by omega),zsY hy,this]
      exact hh
  · have:n=255:=by omega
    subst this
    simp [logF]
theorem zzh {a:Int} (ha:Byt a):zb0 [.int .u8 a]=some (.int .u8 (inv8 a)):=by
  obtain ⟨m,hm,rfl⟩:=zdU ha
  rw [zto]
  unfold zqJ inv8 invN
  rw [Int.toNat_natCast]
  by_cases h0:m=0
  · subst h0; simp
  · obtain ⟨h1,h2⟩:=zz9 m hm h0
    have hb:((m:Int) == 0)=false:=by simp; omega
    rw [hb,zaG,zBM hm,zak,zbO,if_neg (by omega),if_neg h0,zbb,zaq (by omega) (by omega),show (255:Int) - (logN m:Int)=((255 - logN m:Nat):Int) by omega,zvn _ (by omega),zak,zbO,zkx]
section
variable {ps:List Part} (h1:0 < ps.length) (h8:ps.length≤8) (hs:∀ x∈ps,x.2.length=32)
include h1 h8 hs
theorem by_q (tq tg:Tag) {q:List Int} (hq:q.length=32) {k:Nat} (hk:k < 8):
    zbP [.sl tq (uL q),.sl tg (pL ps),.int .i64 k]=some (.sl .own (uL (byQ q (ps.map (·.2)) k))):=by
  rw [zoA,zcA,zcC]
  have hm:(ps.map fun x=>(zbL x.1 x.2,x.2)).map (·.2)=ps.map (·.2):=by rw [List.map_map]; rfl
  have hlen:(ps.map fun x=>(zbL x.1 x.2,x.2)).length=ps.length:=by simp
  have hs':∀ x∈(ps.map fun x=>(zbL x.1 x.2,x.2)),x.2.length=32:=by intro x hx; obtain ⟨y,hy,rfl⟩:=List.mem_map.1 hx; exact hs y hy
  rw [←hm]
  rw [←hlen] at h1 h8
  generalize (ps.map fun x=>(zbL x.1 x.2,x.2))=rs at*
  unfold zjY
  have hQ:=zxe (n:=32) .lent (ps:=rs) (by omega) h1 (by omega) hs'
  have hr:Byt (inv8 (pow8 k)):=zug _
  have ha:(addL q (sumQ 32 (rs.map (·.2)))).length < 100000:=by unfold addL; split<;>simp<;>omega
  simp (disch:=first | omega | assumption | (simp; done) | fail) [-List.all_eq_true,hQ,zf1 _ _ _ _ (show q.length < 100000 by omega),zss k (by omega),zzh (zuc k),zgR _ _ ha hr.1 hr.2]
  rfl
theorem zBN (tp tq tg:Tag) {p q:List Int} (hp:p.length=32) (hq:q.length=32) {j k:Nat} (hj:j < 8) (hk:k < 8):
    zb2 [.sl tp (uL p),.sl tq (uL q),.sl tg (pL ps),.int .i64 j,.int .i64 k]=some (.tup [.sl .own (uL (twoX p q (ps.map (·.2)) j k)),.sl .own (uL (twoY p q (ps.map (·.2)) j k))]):=by
  rw [zoy,zcA,zcA,zcC]
  have hm:(ps.map fun x=>(zbL x.1 x.2,x.2)).map (·.2)=ps.map (·.2):=by rw [List.map_map]; rfl
  have hlen:(ps.map fun x=>(zbL x.1 x.2,x.2)).length=ps.length:=by simp
  have hs':∀ x∈(ps.map fun x=>(zbL x.1 x.2,x.2)),x.2.length=32:=by intro x hx; obtain ⟨y,hy,rfl⟩:=List.mem_map.1 hx; exact hs y hy
  rw [←hm]
  rw [←hlen] at h1 h8
  generalize (ps.map fun x=>(zbL x.1 x.2,x.2))=rs at*
  unfold zjX
  have hQ:=zxe (n:=32) .lent (ps:=rs) (by omega) h1 (by omega) hs'
  have hP:=zxd (n:=32) .lent (ps:=rs) (by omega) h1 (by omega) hs'
  have hr:Byt (inv8 (xor8 (pow8 j) (pow8 k))):=zug _
  have addl:∀ {a b:List Int},a.length≤32→(addL a b).length≤32:=by intro a b h; unfold addL; split<;>simp<;>omega
  have h2:(addL p (sumP 32 (rs.map (·.2)))).length≤32:=addl (by omega)
  have h3:(addL q (sumQ 32 (rs.map (·.2)))).length≤32:=addl (by omega)
  have h4:(addL (addL q (sumQ 32 (rs.map (·.2)))) ((addL p (sumP 32 (rs.map (·.2)))).map (mul8 · (pow8 k)))).length≤32:=addl h3
  simp (disch:=first | omega | assumption | (simp; done) | fail) [-List.all_eq_true,hQ,hP,zf1 _ _ _ _ (show q.length < 100000 by omega),zf1 _ _ _ _ (show p.length < 100000 by omega),zss j (by omega),zss k (by omega),zzh (zkv _ _),
    zgR _ _ (show (addL p (sumP 32 (rs.map (·.2)))).length < 100000 by omega) (zgA k).1 (zgA k).2,zf1 _ _ _ _ (show (addL q (sumQ 32 (rs.map (·.2)))).length < 100000 by omega),zf1 _ _ _ _ (show (addL p (sumP 32 (rs.map (·.2)))).length < 100000 by omega),
    zgR _ _ (show (addL (addL q (sumQ 32 (rs.map (·.2)))) ((addL p (sumP 32 (rs.map (·.2)))).map (mul8 · (pow8 k)))).length < 100000 by omega) hr.1 hr.2]
  exact ⟨rfl,rfl⟩
end
end Wf

namespace Wf
open Go Go.RowKit Go.Proofs
set_option linter.unusedSimpArgs false
set_option linter.unusedVariables false
set_option maxHeartbeats 4000000
def solD:Option (List (List Int))→D
  | none=>.tup [.sl .own [],.bool false]
  | some o=>.tup [.sl .own (pL (fP o)),.bool true]
theorem pLs (ls:List (List Int)) (i:Nat) (l:List Int):(pL (fP ls)).set i (.sl .fresh (uL l))=pL (fP (ls.set i l)):=by rw [zsr,zBL]
theorem zqY {ls:List (List Int)} {i:Nat} (h:i < ls.length):(pL (fP ls))[i]? =some (.sl .fresh (uL (ls.getD i []))):=by
  have e:ls[i]? =some (ls.getD i []):=by rw [List.getD_eq_getElem?_getD,List.getElem?_eq_getElem h]; rfl
  exact zdN (zxi e)
theorem zyE (tp tq tg:Tag) (p q:List Int) {ps:List Part} (hn:ps.length < 100000):
    zbv [.int .i64 32,.sl tp (uL p),.sl tq (uL q),.sl tg (pL ps)]=some (solD (zkA p q (ps.map (·.2)))):=by
  rw [zmA,zcA,zcA,zcC]
  have hm:(ps.map fun x=>(zbL x.1 x.2,x.2)).map (·.2)=ps.map (·.2):=by rw [List.map_map]; rfl
  have hlen:(ps.map fun x=>(zbL x.1 x.2,x.2)).length=ps.length:=by simp
  rw [←hm]
  rw [←hlen] at hn
  generalize (ps.map fun x=>(zbL x.1 x.2,x.2))=rs at*
  clear hm hlen ps
  unfold zhg zkA
  have hmi:=zk6 .lent rs hn
  rw [zyD] at hmi
  have hpq:zbc [.sl .full [.sl .lent (uL p),.sl .lent (uL q)]]=some (.sl .own (intL ((zcp [p,q]).map Int.ofNat))):=zk6 .full [(Tag.lent,p),(Tag.lent,q)] (by simp)
  have hfi:=erase_fits .lent rs hn 32
  have hfa:(rs.all fun x=>fitS 32 x.2)=(rs.map (·.2)).all (fitS 32):=by rw [List.all_map]; rfl
  rw [hfa] at hfi
  have hfpq:zbB [.int .i64 32,.sl .full [.sl .lent (uL p),.sl .lent (uL q)]]=some (.bool ([p,q].all (fitS 32))):=erase_fits .full [(Tag.lent,p),(Tag.lent,q)] (by simp) 32
  have hfl:zbl [.int .i64 32,.sl .lent (pL rs)]=some (.sl .own (pL (fP (zbT (rs.map (·.2)))))):=by
    have:=erase_filled 32 (by omega) .lent rs hn
    rw [zyC] at this
    exact this
  have hl:(rs.map (·.2)).length=rs.length:=by simp
  generalize hls:rs.map (·.2)=ls at*
  have hfill:(zbT ls).length=rs.length:=by rw [zca,hl]
  by_cases c1:rs.length < 1
  · rw [if_pos (.inl (by omega))]
    simp (disch:=first | omega | assumption | (simp; done) | fail) [-List.all_eq_true,hmi,c1,solD]
  by_cases c2:8 < rs.length
  · rw [if_pos (.inr (.inl (by omega)))]
    simp (disch:=first | omega | assumption | (simp; done) | fail) [-List.all_eq_true,hmi,c1,c2,solD]
  cases c3:ls.all (fitS 32)
  · rw [if_pos (.inr (.inr (.inl rfl)))]
    simp (disch:=first | omega | assumption | (simp; done) | fail) [-List.all_eq_true,hmi,c1,c2,hfi,c3,solD]
  cases c4:[p,q].all (fitS 32)
  · rw [if_pos (.inr (.inr (.inr rfl)))]
    simp (disch:=first | omega | assumption | (simp; done) | fail) [-List.all_eq_true,-List.all_cons,hmi,c1,c2,hfi,c3,hfpq,c4,solD]
  rw [if_neg (by rintro (e | e | e | e)<;>first | omega | cases e)]
  have hml:(zcp ls).length≤8:=by
    have:(zcp ls).length≤ls.length:=by unfold zcp; exact Nat.le_trans (List.length_filter_le _ _) (by simp)
    omega
  have hml2:=zs6 p q
  have hml3:(zcp [p,q]).length≤2:=by rw [hml2]; split<;>split<;>omega
  by_cases c5:2 < (zcp ls).length+(zcp [p,q]).length
  · rw [if_pos c5]
    simp (disch:=first | omega | assumption | (simp; done) | fail) [-List.all_eq_true,-List.all_cons,hmi,c1,c2,hfi,c3,hfpq,c4,hpq,ziQ,zaq,solD]
  rw [if_neg c5]
  rcases hmm:zcp ls with _ | ⟨j,_ | ⟨k,_ | ⟨m,t⟩⟩⟩
  · rw [hmm] at c5 hmi
    simp (disch:=first | omega | assumption | (simp; done) | fail) [-List.all_eq_true,-List.all_cons,hmi,c1,c2,hfi,c3,hfpq,c4,hpq,ziQ,zaq,solD,hfl,zhm]
  · have hj:=zdi.1 (show j∈zcp ls by rw [hmm]; simp)
    rw [hmm] at c5 hmi
    have hi1:intL [(j:Int)]=[.int .i64 j]:=rfl
    have c6:¬ 2 < 1+((zcp [p,q]).length:Int):=by simp at c5; omega
    have hg:=zqY (ls:=zbT ls) (i:=j) (by omega)
    dsimp only
    by_cases hp:0 < p.length
    · rw [if_pos hp]
      have hP:=zxd (n:=32) .lent (ps:=fP (zbT ls)) (by omega) (by simp; omega) (by simp; omega) (by intro x hx; obtain ⟨l,hl,rfl⟩:=List.mem_map.1 hx; unfold zbT at hl; obtain ⟨y,_,rfl⟩:=List.mem_map.1 hl; exact zgB 32 y)
      rw [zuv] at hP
      have hpl:p.length=32:=by
        simp [fitS] at c4
        rcases c4.1 with e | e
        · rw [e] at hp; cases hp
        · omega
      simp (disch:=first | omega | assumption | (simp; done) | fail) [-List.all_eq_true,-List.all_cons,hmi,c1,c2,hfi,c3,hfpq,c4,hpq,ziQ,hi1,zaq,solD,hfl,hP,hp,zf1,zam hg,pLs,zhm,hfill,c6,D.isAgg]
    · rw [if_neg hp]
      have hq:q.length=32:=by
        have hp0:p=[]:=by cases p; rfl; simp at hp
        have hq0:¬ q=[]:=by intro e; rw [hml2,if_pos hp0,if_pos e] at c5; simp at c5
        simp [fitS] at c4
        rcases c4.2 with e | e
        · exact absurd e hq0
        · omega
      have hQ:=by_q (ps:=fP (zbT ls)) (by simp; omega) (by simp; omega) (by intro x hx; obtain ⟨l,hl,rfl⟩:=List.mem_map.1 hx; unfold zbT at hl; obtain ⟨y,_,rfl⟩:=List.mem_map.1 hl; exact zgB 32 y) .lent .lent hq (k:=j) (by omega)
      rw [zuv] at hQ
      simp (disch:=first | omega | assumption | (simp; done) | fail) [-List.all_eq_true,-List.all_cons,hmi,c1,c2,hfi,c3,hfpq,c4,hpq,ziQ,hi1,zaq,solD,hfl,hQ,hp,zam hg,pLs,zhm,hfill,c6,D.isAgg]
  · have hj:=zdi.1 (show j∈zcp ls by rw [hmm]; simp)
    have hk:=zdi.1 (show k∈zcp ls by rw [hmm]; simp)
    have hjk:j < k:=by have:=zjF ls; rw [hmm] at this; simpa using this
    rw [hmm] at c5 hmi
    have hi1:intL [(j:Int),(k:Int)]=[.int .i64 j,.int .i64 k]:=rfl
    have c6:¬ 2 < 2+((zcp [p,q]).length:Int):=by simp at c5; simp [c5]
    have hp0:¬ p=[]:=by intro e; rw [hml2,if_pos e] at c5; simp at c5
    have hq0:¬ q=[]:=by intro e; rw [hml2,if_pos e] at c5; simp at c5
    have hpl:p.length=32∧q.length=32:=by
      simp [fitS] at c4
      exact ⟨by rcases c4.1 with e | e; exact absurd e hp0; omega,by rcases c4.2 with e | e; exact absurd e hq0; omega⟩
    have hT:=zBN (ps:=fP (zbT ls)) (by simp; omega) (by simp; omega) (by intro x hx; obtain ⟨l,hl,rfl⟩:=List.mem_map.1 hx; unfold zbT at hl; obtain ⟨y,_,rfl⟩:=List.mem_map.1 hl; exact zgB 32 y) .lent .lent .lent hpl.1 hpl.2 (j:=j) (k:=k) (by omega) (by omega)
    rw [zuv] at hT
    have hg:=zqY (ls:=zbT ls) (i:=j) (by omega)
    have hg2:=zqY (ls:=(zbT ls).set j (twoX p q (zbT ls) j k)) (i:=k) (by simp; omega)
    dsimp only
    simp (disch:=first | omega | assumption | (simp; done) | fail) [-List.all_eq_true,-List.all_cons,hmi,c1,c2,hfi,c3,hfpq,c4,hpq,ziQ,hi1,zaq,solD,hfl,hT,zam hg,zam hg2,pLs,zhm,hfill,c6,D.isAgg]
  · rw [hmm] at c5; simp at c5; omega
end Wf

namespace Wf
open Go Go.RowKit Go.Proofs
set_option linter.unusedSimpArgs false
set_option linter.unusedVariables false
def zdv (n:Int) (i:Nat):Int:=IntKind.u8.wrap (IntKind.i64.wrap (n+IntKind.i64.wrap ((i:Int)*bits .or .i64 (IntKind.i64.wrap (n.tdiv 7)) 1)))
def secN (n:Int):List Int:=if n % 11=10 then List.replicate 32 0 else (List.range 32).map (zdv n)
theorem zyF (n:Int):Sec (secN n):=by
  unfold secN
  split
  · exact zkz
  · refine ⟨by simp,fun x h=>?_⟩
    obtain ⟨i,_,rfl⟩:=List.mem_map.1 h
    exact znE _
theorem ztu (n:Int):zfm [.int .i64 n]=some (.sl .own (uL (secN n))):=by
  rw [zhD]
  unfold zdD
  rw [zqV n 11 (by omega) (by omega),zak,zbO]
  unfold secN
  by_cases h:n % 11=10
  · rw [if_pos h]; simp [h]; rfl
  · rw [if_neg h]
    have hb:(n % 11 == 10)=false:=by simp [h]
    rw [hb,zaG]
    have:=zcK (R:=D) (α:=(Int×List D×Int×Int×PUnit)×PUnit)
      (fun k=>((n,uL ((List.range 32).map fun i=>if i < k then zdv n i else 0),32,(k:Int),PUnit.unit),PUnit.unit)) 32 (by omega)
      (B:=?B) (r:=some (.sl .own (uL ((List.range 32).map (zdv n))))) ?_ ?_
    · exact this
    · intro again k hk
      dsimp only
      have hd:decide ((k:Int) < 32)=true:=by simp; omega
      have hg:((List.range 32).map fun i=>if i < k then zdv n i else 0)[k]? =some 0:=by simp [hk]
      have hv:zdv n k=IntKind.u8.wrap (IntKind.i64.wrap (n+IntKind.i64.wrap ((k:Int)*bits .or .i64 (IntKind.i64.wrap (n.tdiv 7)) 1))):=rfl
      rw [hd,zbu,zbb,zbb,zbb,zbb,zbb,←hv,zah (by omega),zah (by simp; omega),zam (by simpa using znG hg)]
      rw [zah (by rfl),zbb,zaq (n:=(k:Int)+1) (by omega) (by omega),zah (by simp)]
      have:(uL ((List.range 32).map fun i=>if i < k then zdv n i else 0)).set (0+Int.toNat (k:Int)) (.int .u8 (zdv n k))=uL ((List.range 32).map fun i=>if i < k+1 then zdv n i else 0):=by
        rw [zy7]
        congr 1
        apply List.ext_getElem?
        intro j
        rw [List.getElem?_set]
        by_cases hj:j < 32
        · by_cases hjk:k=j
          · subst hjk; simp [hj]
          · have:(0+Int.toNat (k:Int))≠j:=by simp; exact hjk
            rw [if_neg this]
            simp [hj]
            by_cases h1:j < k
            · rw [if_pos h1,if_pos (by omega)]
            · rw [if_neg h1,if_neg (by omega)]
        · simp [hj]
          omega
      rw [this]
      rfl
    · intro again
      have e:((List.range 32).map fun i=>if i < 32 then zdv n i else 0)=(List.range 32).map (zdv n):=by
        apply List.map_congr_left; intro i hi; rw [if_pos (List.mem_range.1 hi)]
      dsimp only
      rw [e]
      simp
def secL (l:List Int) (n:Nat):List (List Int):=(List.range n).map fun (i:Nat)=>secN (l.getD i (3*(i:Int)))
@[simp] theorem zB7 (l:List Int) (n:Nat):(secL l n).length=n:=by simp [secL]
end Wf

namespace Wf
open Go Go.RowKit Go.Proofs
set_option linter.unusedSimpArgs false
set_option linter.unusedVariables false
set_option maxHeartbeats 4000000
section
variable (g:Geo) (row k n:Int)
theorem zj4:zbZ [.agg [.int .i64 g.l,.int .i64 g.d,.int .i64 g.c],.int .i64 row]=some (.bool (zbU g row)):=by
  rw [ztg]
  unfold zqy
  rw [show D.agg [.int .i64 g.l,.int .i64 g.d,.int .i64 g.c]=gD g.l g.d g.c from rfl,zgQ,zak]
  show asI IntKind.i64 (.int .i64 _) _=_
  rw [zbO]
  unfold zbU
  cases h:g.ok
  · have:zhs g.l g.d g.c=false:=h
    simp [this]
  · have:zhs g.l g.d g.c=true:=h
    by_cases h0:0≤row
    · simp [this,h0]
    · simp [this,h0]
theorem ziV:zas [.agg [.int .i64 g.l,.int .i64 g.d,.int .i64 g.c],.int .i64 row]=some (.tup [.int .i64 (parP g row).1,.int .i64 (parP g row).2]):=zsl g row
theorem zoe:zaE [.agg [.int .i64 g.l,.int .i64 g.d,.int .i64 g.c],.int .i64 row,.int .i64 k]=some (.int .i64 (zcG g row k)):=zpC g row k
theorem ziW:zab [.agg [.int .i64 g.l,.int .i64 g.d,.int .i64 g.c]]=some (.int .i64 g.width):=ziC g
theorem zxj:zb8 [.agg [.int .i64 g.l,.int .i64 g.d,.int .i64 g.c],.int .i64 n]=some (.tup [.int .i64 (ofP g n).1,.int .i64 (ofP g n).2.1,.bool (ofP g n).2.2]):=zyt g n
theorem ztv:zbg [.agg [.int .i64 g.l,.int .i64 g.d,.int .i64 g.c],.int .i64 row]=some (.sl .own (zwZ g row)):=zvk g row
end
def ziD (g:Geo) (row:Int) (ls:List (List Int)):Nat→List Part
  | 0=>List.replicate g.d.toNat (Tag.nil,[])
  | k+1=>(ziD g row ls k).set (zcG g row (k:Int)).toNat (Tag.fresh,ls.getD k [])
def zxk (g:Geo) (row:Int) (ls:List (List Int)) (p q:List Int):List Part:=
  if (parP g row).2 < 0 then (ziD g row ls g.width.toNat).set (parP g row).1.toNat (Tag.fresh,p)
  else ((ziD g row ls g.width.toNat).set (parP g row).1.toNat (Tag.fresh,p)).set (parP g row).2.toNat (Tag.fresh,q)
theorem zfD (g:Geo) (row:Int) (ls:List (List Int)) (k:Nat):(ziD g row ls k).length=g.d.toNat:=by
  induction k with
  | zero=>simp [ziD]
  | succ k ih=>simp [ziD,ih]
theorem zvo (g:Geo) (row:Int) (ls:List (List Int)) (k:Nat):∀ x∈ziD g row ls k,Part.free x=true:=by
  induction k with
  | zero=>intro x hx; rw [(List.mem_replicate.1 hx).2]; rfl
  | succ k ih=>
    intro x hx
    rcases List.mem_or_eq_of_mem_set hx with hx | hx
    · exact ih x hx
    · rw [hx]; rfl
theorem zuw {ps:List Part} (h:∀ x∈ps,Part.free x=true) (i:Nat) (l:List Int):∀ x∈ps.set i (Tag.fresh,l),Part.free x=true:=by
  intro x hx
  rcases List.mem_or_eq_of_mem_set hx with hx | hx
  · exact h x hx
  · rw [hx]; rfl
theorem zmP (t:Tag) (l:List D):D.isAgg (.sl t l)=false:=rfl
theorem zyG (n:Nat):pL (List.replicate n (Tag.nil,[]))=List.replicate n (D.sl .nil []):=by simp [pL,uL]
section
variable {g:Geo} {row:Int} (h:zbU g row=true)
include h
theorem zux {ls:List (List Int)} {d:Int} (d0:0≤d) (d1:d < g.d) (h1:d≠(parP g row).1) (h2:d≠(parP g row).2):∀ k:Nat,(k:Int)≤g.width→
    (ziD g row ls k)[d.toNat]? =some (if zeb g d row < k then (Tag.fresh,ls.getD (zeb g d row).toNat []) else (Tag.nil,[]))
  | 0,_=>by
    obtain ⟨c0,c1,c2⟩:=ziU h d0 d1 h1 h2
    unfold ziD
    rw [List.getElem?_replicate,if_pos (by omega),if_neg (by omega)]
  | k+1,hk=>by
    obtain ⟨c0,c1,c2⟩:=ziU h d0 d1 h1 h2
    have hdi:=zjH h (k:=(k:Int)) (by omega) (by omega)
    have ih:=zux (ls:=ls) d0 d1 h1 h2 k (by omega)
    unfold ziD
    rw [List.getElem?_set]
    by_cases e:zeb g d row=k
    · have e2:zcG g row k=d:=by rw [←e]; exact c2
      rw [if_pos (by rw [e2]),if_pos (by rw [zfD,e2]; omega),if_pos (by omega)]
      congr 3
      rw [e]; rfl
    · have e2:zcG g row k≠d:=fun e2=>e (znO h c0 c1 (by omega) (by omega) (by rw [c2,e2]))
      rw [if_neg (by omega),ih]
      by_cases hlt:zeb g d row < k
      · rw [if_pos hlt,if_pos (by omega)]
      · rw [if_neg hlt,if_neg (by omega)]
theorem zvp (ls:List (List Int)) (p q:List Int) (hp:p=sumP 32 ls) (hq:q=sumQ 32 ls∨g.l=5):zxk g row ls p q=fP (zid g row ls):=by
  obtain ⟨hk,r0,r1⟩:=zbA.1 h
  have hw:=zcm hk
  obtain ⟨p0,p1,p2⟩:=zqt h
  have hpq:=zzc h
  have hlen:(zxk g row ls p q).length=g.d.toNat:=by unfold zxk; split<;>simp [zfD]
  apply List.ext_getElem?
  intro i
  by_cases hi:i < g.d.toNat
  · have hr:(fP (zid g row ls))[i]? =some (Tag.fresh,atR g row ls i):=zxi (zpr (by omega))
    rw [hr]
    have hbase:∀ d:Int,0≤d→d < g.d→d≠(parP g row).1→d≠(parP g row).2→(ziD g row ls g.width.toNat)[d.toNat]? =some (Tag.fresh,atR g row ls d):=by
      intro d d0 d1 n1 n2
      obtain ⟨c0,c1,c2⟩:=ziU h d0 d1 n1 n2
      rw [zux h d0 d1 n1 n2 _ (by omega),if_pos (by omega)]
      unfold atR
      rw [if_neg n1,if_neg n2]
    unfold zxk
    by_cases e1:(i:Int)=(parP g row).1
    · have ha:atR g row ls i=p:=by rw [e1,at_p h,hp]
      rw [ha]
      split
      · rw [List.getElem?_set,if_pos (by omega),if_pos (by rw [zfD]; omega)]
      · rw [List.getElem?_set,if_neg (by omega),List.getElem?_set,if_pos (by omega),if_pos (by rw [zfD]; omega)]
    · by_cases e2:(i:Int)=(parP g row).2
      · have ha:atR g row ls i=sumQ 32 ls:=by rw [e2,at_q h]
        have h6:¬ (parP g row).2 < 0:=by omega
        rw [ha,if_neg h6,List.getElem?_set,if_pos (by omega),if_pos (by rw [List.length_set,zfD]; omega)]
        rcases hq with hq | hq
        · rw [hq]
        · rcases p2 with ⟨e,_⟩ | ⟨_,_,e⟩<;>omega
      · have:=hbase i (by omega) (by omega) e1 e2
        rw [Int.toNat_natCast] at this
        split
        · rw [List.getElem?_set,if_neg (by omega),this]
        · rw [List.getElem?_set,if_neg (by omega),List.getElem?_set,if_neg (by omega),this]
  · rw [List.getElem?_eq_none (by omega),List.getElem?_eq_none (by simp [zps]; omega)]
end
theorem zyH (t:Tag) (l:List Int):zaf [.sl t (uL l)]=some (.bool (!decide (l.length=32))):=by
  rw [zkS,zcA]
  unfold zfv
  simp only [zfW]
  congr 2
  by_cases h:l.length=32
  · simp [h]
  · simp [h]; omega
theorem zlR (tg:Tag) (ps:List Part) (hn:ps.length < 100000):
    ∃ r,zac [.sl tg (pL ps),.fn ID.row_sectors_1 [] []]=some r∧∃ i:Int,r=.int .i64 i∧decide (i≥0)= !(ps.all fun x=>decide (x.2.length=32)):=by
  rw [zcU,zcC]
  have hm:(ps.all fun x=>decide (x.2.length=32))=((ps.map fun x=>(zbL x.1 x.2,x.2)).all fun x=>decide (x.2.length=32)):=by rw [List.all_map]; rfl
  have hlen:(ps.map fun x=>(zbL x.1 x.2,x.2)).length=ps.length:=by simp
  rw [hm]
  rw [←hlen] at hn
  generalize (ps.map fun x=>(zbL x.1 x.2,x.2))=rs at*
  unfold zbx
  refine zub (fun a=>(rs.length:Nat) - a.1.2.2.1.toNat) (fun r=>∃ i:Int,r=D.int .i64 i∧decide (i≥0)= !(rs.all fun x=>decide (x.2.length=32)))
    (fun a=>∃ k:Nat,k≤rs.length∧((rs.take k).all fun x=>decide (x.2.length=32))=true∧a=((pL rs,(rs.length:Int),(k:Int),PUnit.unit),PUnit.unit)) ?_ ⟨0,by omega,by simp,by rw [zxb]; rfl⟩ (by simp; omega)
  rintro again _ ⟨k,hk,he,rfl⟩ hag
  dsimp only
  by_cases hkm:k < rs.length
  · obtain ⟨x,hx⟩:∃ x,rs[k]? =some x:=⟨_,List.getElem?_eq_getElem hkm⟩
    have hd:decide ((k:Int) < (rs.length:Int))=true:=by simp; omega
    rw [hd,zbu,zah (by omega),zam (by simpa using zdN hx),zh5,zyH,zak,zdg]
    by_cases hf:x.2.length=32
    · simp only [hf,decide_true,Bool.not_true,zaG,zbb]
      rw [zaq (by omega) (by omega)]
      refine hag _ ⟨k+1,by omega,?_,rfl⟩ (by simp; omega)
      rw [List.take_add_one,hx,List.all_append,he]
      simp [hf]
    · simp only [hf,decide_false,Bool.not_false,zbu]
      refine ⟨_,rfl,_,rfl,?_⟩
      have:(rs.all fun x=>decide (x.2.length=32))=false:=by
        rw [List.all_eq_false]
        exact ⟨x,List.mem_of_getElem? hx,by simp [hf]⟩
      rw [this]
      simp
  · have hd:decide ((k:Int) < (rs.length:Int))=false:=by simp; omega
    rw [hd,zaG]
    refine ⟨_,rfl,_,rfl,?_⟩
    rw [List.take_of_length_le (by omega)] at he
    rw [he]
    rfl
theorem row_sectors (tg:Tag) (ps:List Part) (hn:ps.length < 100000):zbD [.sl tg (pL ps)]=some (.bool (ps.all fun x=>decide (x.2.length=32))):=by
  rw [zmE,zcC]
  have hm:(ps.all fun x=>decide (x.2.length=32))=((ps.map fun x=>(zbL x.1 x.2,x.2)).all fun x=>decide (x.2.length=32)):=by rw [List.all_map]; rfl
  have hlen:(ps.map fun x=>(zbL x.1 x.2,x.2)).length=ps.length:=by simp
  rw [hm]
  rw [←hlen] at hn
  generalize (ps.map fun x=>(zbL x.1 x.2,x.2))=rs at*
  unfold zhj
  have:zaa [.sl .lent (pL rs),.fn ID.row_sectors_1 [] []]=some (.bool (!(rs.all fun x=>decide (x.2.length=32)))):=by
    rw [zcB,zcC]
    have hm:(rs.all fun x=>decide (x.2.length=32))=((rs.map fun x=>(zbL x.1 x.2,x.2)).all fun x=>decide (x.2.length=32)):=by rw [List.all_map]; rfl
    have hlen:(rs.map fun x=>(zbL x.1 x.2,x.2)).length=rs.length:=by simp
    rw [hm]
    rw [←hlen] at hn
    generalize (rs.map fun x=>(zbL x.1 x.2,x.2))=qs at*
    unfold zbo
    obtain ⟨r,h1,i,rfl,h2⟩:=zlR .lent qs hn
    rw [h1,zak,zbO,h2]
  rw [this,zak,zdg,Bool.not_not]
theorem zuy (g:Geo) (row:Int) (tg:Tag) {ps:List Part} (hn:ps.length < 100000):
    zcj [.agg [.int .i64 g.l,.int .i64 g.d,.int .i64 g.c],.int .i64 row,.sl tg (pL ps)]=some (solD (zlr g row (ps.map (·.2)))):=by
  rw [zqS,zcC]
  have hlen:(ps.map fun x=>(zbL x.1 x.2,x.2)).length=ps.length:=by simp
  have hm:(ps.map fun x=>(zbL x.1 x.2,x.2)).map (·.2)=ps.map (·.2):=by rw [List.map_map]; rfl
  rw [←hlen] at hn
  rw [←hm]
  generalize (ps.map fun x=>(zbL x.1 x.2,x.2))=rs at*
  clear hm hlen ps
  unfold zlJ zlr
  cases h:zbU g row
  · simp [zj4,h,solD]
  by_cases hl:(rs.length:Int)=g.width
  · have hall:((rs.map (·.2)).all fun x=>decide (x.length=32))=(rs.all fun x=>decide (x.2.length=32)):=by rw [List.all_map]; rfl
    rw [hall]
    cases hs:(rs.all fun x=>decide (x.2.length=32))
    · simp [zj4,h,solD,ziW,hl,row_sectors _ _ hn,hs]
    · have hl':∀ x∈rs,x.2.length=32:=fun x hx=>by rw [List.all_eq_true] at hs; simpa using hs x hx
      rw [if_pos ⟨rfl,by simp [hl],rfl⟩]
      obtain ⟨hk,r0,r1⟩:=zbA.1 h
      have hw:=zcm hk
      have hdd:=ok_d hk
      have hb:((((pL rs).length:Nat):Int) != g.width)=false:=by simp [hl]
      have hrl:rs.length=g.width.toNat:=by omega
      rw [zj4,zak,zdg,h,Bool.not_true,zaG,ziW,zak,zbO,hb,zaG,row_sectors _ _ hn,zak,zdg,hs,Bool.not_true,zaG,zah (by omega),zah (by rfl),zah (by omega),zah (by omega),zah (by simp)]
      let st:Nat→(Int×List D×(Int×Int×Int×PUnit)×List D×List D×Int×Int×PUnit)×PUnit:=fun k=>((row,pL rs,(g.l,g.d,g.c,PUnit.unit),pL (ziD g row (rs.map (·.2)) k),pL rs,((pL rs).length:Int),(k:Int),PUnit.unit),PUnit.unit)
      have hst:st 0=((row,pL rs,(g.l,g.d,g.c,PUnit.unit),List.replicate g.d.toNat (D.sl .nil []),pL rs,((pL rs).length:Int),0,PUnit.unit),PUnit.unit):=by
        simp only [st,ziD,zyG]; rfl
      rw [←hst]
      refine zea st rs.length (by omega) ?_ ?_
      · intro again k hk'
        dsimp only [st]
        obtain ⟨x,hx⟩:∃ x,rs[k]? =some x:=⟨_,List.getElem?_eq_getElem hk'⟩
        have hxs:=hl' x (List.mem_of_getElem? hx)
        have hxe:rs[k]=x:=by rw [List.getElem?_eq_getElem hk'] at hx; exact Option.some.inj hx
        have hdi:=zjH h (k:=(k:Int)) (by omega) (by omega)
        have hfl:=zfD g row (rs.map (·.2)) k
        obtain ⟨y,hy⟩:∃ y,(ziD g row (rs.map (·.2)) k)[(zcG g row (k:Int)).toNat]? =some y:=⟨_,List.getElem?_eq_getElem (by omega)⟩
        have hgd:(rs.map (·.2)).getD k []=x.2:=by simp [List.getD_eq_getElem?_getD,hx]
        have hgx:(pL rs)[k]? =some (.sl x.1 (uL x.2)):=zdN hx
        have hlt:(zcG g row (k:Int)).toNat < g.d.toNat:=by omega
        simp (disch:=first | omega | assumption | (simp; done) | fail) [-List.all_eq_true,hk',zam hgx,zoe,zoc (show x.2.length≤4294967296 by omega),hdi.1,hfl,hlt,zam (zdN hy),zmP,zaq,zsr,ziD]
        rw [hxe]
      · intro again
        dsimp only [st]
        obtain ⟨p0,p1,p2⟩:=zqt h
        have hfl:=zfD g row (rs.map (·.2)) rs.length
        obtain ⟨y,hy⟩:∃ y,(ziD g row (rs.map (·.2)) rs.length)[(parP g row).1.toNat]? =some y:=⟨_,List.getElem?_eq_getElem (by omega)⟩
        have hrp:=zxd (n:=32) .lent (ps:=rs) (by omega) (by omega) (by omega) hl'
        have hrq:=zxe (n:=32) .lent (ps:=rs) (by omega) (by omega) (by omega) hl'
        have hff:=zvp h (rs.map (·.2)) (sumP 32 (rs.map (·.2))) (sumQ 32 (rs.map (·.2))) rfl (.inl rfl)
        have hfree:=zuw (zvo g row (rs.map (·.2)) rs.length) (parP g row).1.toNat (sumP 32 (rs.map (·.2)))
        have hfree2:=zuw hfree (parP g row).2.toNat (sumQ 32 (rs.map (·.2)))
        have hlt:(parP g row).1.toNat < g.d.toNat:=by omega
        unfold zxk at hff
        rw [←hrl] at hff
        rcases p2 with ⟨p2,_⟩ | ⟨q0,q1,_⟩
        · rw [if_pos (by omega)] at hff
          have hq:¬ (0≤(parP g row).2):=by omega
          simp (disch:=first | omega | assumption | (simp; done) | fail) [-List.all_eq_true,ziV,hrp,p0,hfl,hlt,zam (zdN hy),zmP,hq,zsr,zod hfree,solD,hff,zhm]
        · rw [if_neg (by omega)] at hff
          have hlt2:(parP g row).2.toNat < g.d.toNat:=by omega
          obtain ⟨z,hz⟩:∃ z,((ziD g row (rs.map (·.2)) rs.length).set (parP g row).1.toNat (Tag.fresh,sumP 32 (rs.map (·.2))))[(parP g row).2.toNat]? =some z:=⟨_,List.getElem?_eq_getElem (by simp [hfl]; omega)⟩
          simp (disch:=first | omega | assumption | (simp; done) | fail) [-List.all_eq_true,ziV,hrp,hrq,p0,q0,hfl,hlt,hlt2,zam (zdN hy),zam (zdN hz),zmP,zsr,zod hfree,zod hfree2,solD,hff,zhm]
  · have h2:¬ (true=true∧(((rs.map (·.2)).length:Nat):Int)=g.width∧((rs.map (·.2)).all fun x=>decide (x.length=32))=true):=by rintro ⟨_,e,_⟩; simp at e; exact hl e
    rw [if_neg h2]
    simp [zj4,h,solD,ziW,hl]
end Wf

namespace Wf
open Go Go.RowKit Go.Proofs
set_option linter.unusedSimpArgs false
set_option linter.unusedVariables false
set_option maxHeartbeats 4000000
def zen (g:Geo) (row:Int) (rs:List Part) (k:Nat):List Part:=(List.range k).map fun (j:Nat)=>rs.getD (zcG g row (j:Int)).toNat (.nil,[])
theorem zst (g:Geo) (row:Int) (rs:List Part):(zen g row rs g.width.toNat).map (·.2)=zeC g row (rs.map (·.2)):=by
  unfold zen zeC
  rw [List.map_map]
  apply List.map_congr_left
  intro j _
  simp [List.getD_eq_getElem?_getD]
  cases rs[(zcG g row (j:Int)).toNat]? <;>rfl
theorem zqZ (g:Geo) (row:Int) (rs:List Part) {k:Nat} {x:Part} (h:rs[(zcG g row (k:Int)).toNat]? =some x):zen g row rs (k+1)=zen g row rs k++[x]:=by
  unfold zen
  rw [List.range_succ,List.map_append]
  simp [List.getD_eq_getElem?_getD,h]
theorem zxl {R:Type} (a b:D) (f:LfT [.any,.any]→Option R):zap [.any,.any] [a,b] f=f (a,b,()):=by rw [zes,zes,zh6]
theorem zyI (g:Geo) (row:Int) (tg:Tag) {ps:List Part} (hn:ps.length < 100000):
    zci [.agg [.int .i64 g.l,.int .i64 g.d,.int .i64 g.c],.int .i64 row,.sl tg (pL ps)]=some (solD (zqu g row (ps.map (·.2)))):=by
  rw [zqM,zcC]
  have hm:(ps.map fun x=>(zbL x.1 x.2,x.2)).map (·.2)=ps.map (·.2):=by rw [List.map_map]; rfl
  have hlen:(ps.map fun x=>(zbL x.1 x.2,x.2)).length=ps.length:=by simp
  rw [←hm]
  rw [←hlen] at hn
  generalize (ps.map fun x=>(zbL x.1 x.2,x.2))=rs at*
  clear hm hlen ps
  unfold zlD zqu
  cases h:zbU g row
  · simp [zj4,h,solD]
  by_cases hl:(rs.length:Int)=g.d
  · rw [if_pos ⟨rfl,by simp [hl]⟩]
    have hk:=(zbA.1 h).1
    have hw:=zcm hk
    have hdd:=ok_d hk
    have hb:((((pL rs).length:Nat):Int) != g.d)=false:=by simp [hl]
    rw [zj4,zak,zdg,h,Bool.not_true,zaG,hb,zaG,ziW,zak,zbO]
    let st:Nat→(Int×List D×(Int×Int×Int×PUnit)×List D×Int×Int×PUnit)×PUnit:=fun k=>((row,pL rs,(g.l,g.d,g.c,PUnit.unit),pL (zen g row rs k),g.width,(k:Int),PUnit.unit),PUnit.unit)
    have hst:st 0=((row,pL rs,(g.l,g.d,g.c,PUnit.unit),[],g.width,0,PUnit.unit),PUnit.unit):=rfl
    rw [←hst]
    refine zea st g.width.toNat (by omega) ?_ ?_
    · intro again k hk'
      dsimp only [st]
      have hd:(k:Int) < g.width:=by omega
      have hdi:=zjH h (k:=(k:Int)) (by omega) (by omega)
      obtain ⟨x,hx⟩:∃ x,rs[(zcG g row (k:Int)).toNat]? =some x:=⟨_,List.getElem?_eq_getElem (by omega)⟩
      have hpl:(zen g row rs k).length=k:=by simp [zen]
      simp (disch:=first | omega | assumption | (simp; done) | fail) [-List.all_eq_true,hd,zoe,hdi.1,zam (zdN hx),hpl,zaq,zxc,zqZ g row rs hx]
    · intro again
      dsimp only [st]
      have hd:¬ ((g.width.toNat:Nat):Int) < g.width:=by omega
      obtain ⟨p0,p1,p2⟩:=zqt h
      obtain ⟨xp,hxp⟩:∃ x,rs[(parP g row).1.toNat]? =some x:=⟨_,List.getElem?_eq_getElem (by omega)⟩
      have hpo:pOf g row (rs.map (·.2))=xp.2:=by unfold pOf; simp [List.getD_eq_getElem?_getD,hxp]
      have hrl:(zen g row rs g.width.toNat).length < 100000:=by simp [zen]; omega
      have hsol:=fun tq q=>zyE xp.1 tq .lent xp.2 q hrl
      rw [zst] at hsol
      rw [hpo]
      rcases p2 with ⟨p2,_⟩ | ⟨q0,q1,_⟩
      · have hqo:qOf g row (rs.map (·.2))=[]:=by unfold qOf; rw [if_pos (by omega)]
        have hq:(parP g row).2 < 0:=by omega
        have hs:=hsol .nil []
        rw [show uL []=([]:List D) from rfl] at hs
        rw [hqo]
        simp (disch:=first | omega | assumption | (simp; done) | fail) [-List.all_eq_true,zqX,hd,ziV,hq,p0,zam (zdN hxp),hs]
        cases zkA xp.2 [] (zeC g row (rs.map (·.2)))<;>simp [-List.all_eq_true,solD,zhm]
      · obtain ⟨xq,hxq⟩:∃ x,rs[(parP g row).2.toNat]? =some x:=⟨_,List.getElem?_eq_getElem (by omega)⟩
        have hqo:qOf g row (rs.map (·.2))=xq.2:=by unfold qOf; rw [if_neg (by omega)]; simp [List.getD_eq_getElem?_getD,hxq]
        have hq:¬ (parP g row).2 < 0:=by omega
        rw [hqo]
        simp (disch:=first | omega | assumption | (simp; done) | fail) [-List.all_eq_true,zqX,hd,ziV,hq,p0,q0,zam (zdN hxp),zam (zdN hxq),hsol]
        cases zkA xp.2 xq.2 (zeC g row (rs.map (·.2)))<;>simp [-List.all_eq_true,solD,zhm]
  · have h2:¬ (true=true∧(((rs.map (·.2)).length:Nat):Int)=g.d):=by rintro ⟨_,e⟩; simp at e; exact hl e
    rw [if_neg h2]
    simp [zj4,h,solD,hl]
end Wf

namespace Wf
open Go Go.RowKit Go.Proofs
set_option linter.unusedSimpArgs false
set_option linter.unusedVariables false
set_option maxHeartbeats 4000000
theorem zgS (live:List Bool):D.lentL (live.map D.bool)=live.map D.bool:=by
  induction live with
  | nil=>rfl
  | cons x l ih=>simp [ih]
theorem zof (acts:Nat→List Act):∀ (n k:Nat) (B:Ben),runE (fun k B=>runA (acts k) B) k n B=runA ((List.range' k n).flatMap acts) B
  | 0,k,B=>rfl
  | n+1,k,B=>by
    rw [List.range'_succ,List.flatMap_cons,znN]
    show (if (runA (acts k) B).1=0 then _ else _)=_
    rw [zof acts n (k+1)]
theorem zmQ (a:Act) (B:Ben):runA [a] B=B.act a:=by
  rw [znM]
  by_cases h:(B.act a).1=0
  · rw [if_pos h]
    show (0,(B.act a).2)=B.act a
    rw [←h]
  · rw [if_neg h]
section
variable {B:Ben} {d a e:Int} {x:List Int}
theorem zog {s:DS} (hd:B.is d=true) (hf:s.failed=(B.dk d).failed):(B.setD d s).failed e=B.failed e:=by
  unfold Ben.failed
  rw [zta]
  cases he:B.is e
  · rfl
  · rw [zjG hd (zfl.1 he).1]
    split
    · rename_i q; subst q; rw [hf]
    · rfl
theorem zvq (B:Ben) (d a:Int) (x:List Int):(B.write d a x).2.n=B.n∧∀ e,(B.write d a x).2.failed e=B.failed e:=by
  unfold Ben.write
  split
  · exact ⟨rfl,fun _=>rfl⟩
  · rename_i h0
    have hd:=(may0.1 (Classical.not_not.1 h0)).1
    split
    · exact ⟨rfl,fun _=>rfl⟩
    · split
      · exact ⟨rfl,fun _=>rfl⟩
      · exact ⟨by simp,fun e=>zog (B:=(B.junk _).less) hd rfl⟩
theorem zvr (hB:B.Ok) (d:Int):(B.flush d).2.n=B.n∧∀ e,(B.flush d).2.failed e=B.failed e:=by
  unfold Ben.flush
  split
  · exact ⟨rfl,fun _=>rfl⟩
  · rename_i h0
    have hd:=(may0.1 (Classical.not_not.1 h0)).1
    refine ⟨by simp,fun e=>zog hd ?_⟩
    unfold DS.flush
    split
    · rfl
    · exact zji (zol hB d).1
def Like (B B':Ben):Prop:=B'.n=B.n∧∀ e,B'.failed e=B.failed e
theorem Like.refl (B:Ben):Like B B:=⟨rfl,fun _=>rfl⟩
theorem Like.trans {A B C:Ben} (h1:Like A B) (h2:Like B C):Like A C:=⟨h2.1.trans h1.1,fun e=>(h2.2 e).trans (h1.2 e)⟩
theorem Like.up {B B':Ben} (h:Like B B') (live:List Bool) (e:Int):B'.up live e=B.up live e:=by unfold Ben.up; rw [h.1,h.2]
end
section
variable {T0 T1:Tb} {b:Nat} {idx:List Nat} {B:Ben}
theorem zmj (h:At T0 T1 b idx B) (hw:B.w≤999000) (tg:Tag) (live:List Bool) (g:Geo) (r:Int) (tg2:Tag) {ps:List Part} (hn:ps.length < 100000) (hs:∀ x∈ps,Sec x.2):
    zaD [.h kB b 0,.sl tg (live.map D.bool),.agg [.int .i64 g.l,.int .i64 g.d,.int .i64 g.c],.int .i64 r,.sl tg2 (pL ps)] [P0 T0 b idx B,P1 T1 idx B]=
      some (Ans.mk (.int .i64 (B.sWrite live g r (ps.map (·.2))).1) [] [P0 T0 b idx (B.sWrite live g r (ps.map (·.2))).2,P1 T1 idx (B.sWrite live g r (ps.map (·.2))).2]):=by
  rw [zgN,zgS,zcC]
  have hlen:(ps.map fun x=>(zbL x.1 x.2,x.2)).length=ps.length:=by simp
  have hm:(ps.map fun x=>(zbL x.1 x.2,x.2)).map (·.2)=ps.map (·.2):=by rw [List.map_map]; rfl
  have hs':∀ x∈(ps.map fun x=>(zbL x.1 x.2,x.2)),Sec x.2:=by intro x hx; obtain ⟨y,hy,rfl⟩:=List.mem_map.1 hx; exact hs y hy
  rw [←hlen] at hn
  rw [←hm]
  generalize (ps.map fun x=>(zbL x.1 x.2,x.2))=rs at*
  clear hm hlen hs ps
  unfold zem Ben.sWrite
  have hfill:=zuy g r .lent hn
  cases hf:zlr g r (rs.map (·.2)) with
  | none=>
    rw [hf] at hfill
    simp [hfill,solD]
  | some o=>
    have hf0:=hf
    unfold zlr at hf0
    split at hf0
    rotate_left
    · cases hf0
    rename_i hc
    obtain ⟨hr,hlw,hall⟩:=hc
    cases hf0
    have hR:Row g (rs.map (·.2)):=⟨hlw,by intro x hx; obtain ⟨y,hy,rfl⟩:=List.mem_map.1 hx; exact hs' y hy⟩
    generalize rs.map (·.2)=data at*
    rw [hf] at hfill
    obtain ⟨hk,r0,r1⟩:=zbA.1 hr
    have hdd:=ok_d hk
    rw [if_neg (by simp)]
    have hrl:=zps g r data
    let acts:Nat→List Act:=fun d=>if B.up live d then [.w d (36+r) (atR g r data d)] else []
    have hacts:B.wActs live g r data=(List.range' 0 g.d.toNat).flatMap acts:=by unfold Ben.wActs; rw [List.range_eq_range']
    rw [hacts,←zof]
    let st:Nat→Ben→(Nat×List D×Int×List D×Int×Int×PUnit)×List (List D)×List (List D)×PUnit:=fun k B'=>((b,live.map D.bool,r,pL (fP (zid g r data)),(g.d.toNat:Int),(k:Int),PUnit.unit),P0 T0 b idx B',P1 T1 idx B',PUnit.unit)
    have hst:st 0 B=((b,live.map D.bool,r,pL (fP (zid g r data)),(g.d.toNat:Int),0,PUnit.unit),P0 T0 b idx B,P1 T1 idx B,PUnit.unit):=rfl
    simp (disch:=first | omega | assumption | (simp; done) | fail) only [hfill,solD,zak,zrW,zxl,zb4,zdg,Bool.not_true,zaG,zah,Nat.zero_add,Nat.le_refl,zxb,zBK,hrl]
    rw [←hst]
    refine zr4 (fun k B'=>runA (acts k) B') (fun k B'=>Nx k B B'∧Like B B') st (fun y=>some (Ans.mk (.int .i64 y.1) [] [P0 T0 b idx y.2,P1 T1 idx y.2])) g.d.toNat (by omega) ⟨.rfl' h.ok (by omega),.refl B⟩ ?_ ?_ ?_
    · rintro k B' hk' ⟨hx,hL⟩ he
      dsimp only [acts] at he ⊢
      have hsec:=zzd hr hR (d:=(k:Int)) (by omega) (by omega)
      cases hu:B.up live (k:Int)
      · exact ⟨hx.mono (by omega),hL⟩
      · rw [if_pos rfl,zmQ]
        exact ⟨(hx.trans (zyb hx.ok (.inl hsec))).mono (by omega),hL.trans (zvq ..)⟩
    · rintro again k B' hk' ⟨hx,hL⟩
      dsimp only [st]
      have hA:=h.nx hx
      have hxw:=hx.w
      have hw':B'.w≤1000000:=by omega
      have hg:(pL (fP (zid g r data)))[k]? =some (.sl .fresh (uL (atR g r data k))):=zdN (zxi (zpr (by omega)))
      have hup:=zyz hA .lent live (d:=(k:Int)) (by omega)
      rw [hL.up] at hup
      by_cases hu:B.up live (k:Int)=true
      rotate_left
      · have hu':B.up live (k:Int)=false:=by simpa using hu
        rw [hu'] at hup
        rw [show acts k=[] from if_neg hu]
        simp (disch:=first | omega | assumption | (simp; done) | fail) [hk',hrl,zam hg,hup,zaq,runA]
      · rw [hu] at hup
        rw [show acts k=[.w k (36+r) (atR g r data k)] from if_pos hu,zmQ]
        have hwr:=zAq hA hw' (k:Int) (36+r) .fresh (atR g r data k)
        by_cases he:(B'.write k (36+r) (atR g r data k)).1=0
        · simp (disch:=first | omega | assumption | (simp; done) | fail) [hk',hrl,zam hg,hup,zaq,hwr,he,Ben.act]
        · simp (disch:=first | omega | assumption | (simp; done) | fail) [hk',hrl,zam hg,hup,zaq,hwr,he,Ben.act]
    · rintro again B' ⟨hx,hL⟩
      dsimp only [st]
      simp
theorem zmk (h:At T0 T1 b idx B) (hw:B.w≤999000) (tg:Tag) (live:List Bool):
    zbh [.h kB b 0,.sl tg (live.map D.bool)] [P0 T0 b idx B,P1 T1 idx B]=some (Ans.mk (.int .i64 (B.sFlush live).1) [] [P1 T1 idx (B.sFlush live).2]):=by
  rw [zlP,zgS]
  unfold zgg Ben.sFlush
  let acts:Nat→List Act:=fun d=>if B.up live d then [.f d] else []
  have hacts:B.fActs live=(List.range' 0 B.ds.length).flatMap acts:=by unfold Ben.fActs; rw [List.range_eq_range']
  have hsm:=h.ok.small
  rw [hacts,←zof]
  let st:Nat→Ben→(Nat×List D×Int×Int×PUnit)×List (List D)×List (List D)×PUnit:=fun k B'=>((b,live.map D.bool,(B.ds.length:Int),(k:Int),PUnit.unit),P0 T0 b idx B,P1 T1 idx B',PUnit.unit)
  have hst:st 0 B=((b,live.map D.bool,(B.ds.length:Int),0,PUnit.unit),P0 T0 b idx B,P1 T1 idx B,PUnit.unit):=rfl
  have hl:=zw8 h
  unfold Ben.n at hl
  simp (disch:=first | omega | assumption | (simp; done) | fail) only [hl,zak,zfU,zbO]
  rw [←hst]
  refine zr4 (fun k B'=>runA (acts k) B') (fun k B'=>Nx 0 B B'∧Like B B'∧P0 T0 b idx B'=P0 T0 b idx B) st (fun y=>some (Ans.mk (.int .i64 y.1) [] [P1 T1 idx y.2])) B.ds.length (by omega) ⟨.rfl' h.ok (by omega),.refl B,rfl⟩ ?_ ?_ ?_
  · rintro k B' hk' ⟨hx,hL,h0⟩ he
    dsimp only [acts] at he ⊢
    cases hu:B.up live (k:Int)
    · exact ⟨hx,hL,h0⟩
    · rw [if_pos rfl,zmQ]
      refine ⟨(hx.trans (zyc hx.ok)).mono (by omega),hL.trans (zvr hx.ok _),?_⟩
      show P0 T0 b idx (B'.flush k).2=_
      rw [←h0]
      unfold Ben.flush
      split<;>rfl
  · rintro again k B' hk' ⟨hx,hL,h0⟩
    dsimp only [st]
    have hA:=h.nx hx
    have hxw:=hx.w
    have hw':B'.w≤1000000:=by omega
    have hup:=zyz hA .lent live (d:=(k:Int)) (by omega)
    rw [hL.up,h0] at hup
    by_cases hu:B.up live (k:Int)=true
    rotate_left
    · have hu':B.up live (k:Int)=false:=by simpa using hu
      rw [hu'] at hup
      rw [show acts k=[] from if_neg hu]
      simp (disch:=first | omega | assumption | (simp; done) | fail) [hk',hup,zaq,runA]
    · rw [hu] at hup
      rw [show acts k=[.f k] from if_pos hu,zmQ]
      have hfl:=zAr hA hw' (k:Int)
      rw [h0] at hfl
      by_cases he:(B'.flush k).1=0
      · simp (disch:=first | omega | assumption | (simp; done) | fail) [hk',hup,zaq,hfl,he,Ben.act]
      · simp (disch:=first | omega | assumption | (simp; done) | fail) [hk',hup,zaq,hfl,he,Ben.act]
  · rintro again B' ⟨hx,hL,h0⟩
    dsimp only [st]
    simp
end
end Wf

namespace Wf
open Go Go.RowKit Go.Proofs
set_option linter.unusedSimpArgs false
set_option linter.unusedVariables false
set_option maxHeartbeats 4000000
theorem zxm (l:List Int):(D.sl .fresh (uL l)).free=true:=by simp only [D.free,zmN]
theorem zxn {p q:List Int} {ls o:List (List Int)} (h:zkA p q ls=some o):o.length=ls.length:=by
  unfold zkA at h
  split at h
  · cases h
  split at h
  · cases h
  split at h
  · cases h; simp [zca]
  · split at h
    · cases h; simp [zca]
    · cases h; simp [zca]
  · cases h; simp [zca]
theorem zyJ {g:Geo} {r:Int} {ls o:List (List Int)} (h:zqu g r ls=some o):o.length=g.width.toNat:=by
  unfold zqu at h
  split at h
  · rw [zxn h]; simp [zeC]
  · cases h
theorem zAv {g:Geo} {r j k:Int} (h:zbU g r=true) (j0:0≤j) (j1:j < g.width) (k0:0≤k) (k1:k < g.width) (e:numP g r j=numP g r k):j=k:=by
  have h1:=zzb h j0 j1
  have h2:=zzb h k0 k1
  rw [e,h2] at h1
  injection h1 with h1 _
  exact znO h j0 j1 k0 k1 h1.symm
theorem zxo {g:Geo} {n:Int} (n0:0≤n) (n1:n < g.cap):numP g (rowG g n) (zev g n)=n:=by
  have hk:=zup n0 n1
  have hw:=zcm hk
  have hc:=(zeu.1 hk).2.2
  rw [zwW] at n1
  unfold numP rowG zev
  generalize g.c=c at*
  generalize g.width=w at*
  have hw:w=2∨w=3∨w=4∨w=5∨w=6∨w=7:=by omega
  rcases hc with rfl | rfl | rfl<;>rcases hw with rfl | rfl | rfl | rfl | rfl | rfl<;>omega
section
variable {T0 T1:Tb} {b:Nat} {idx:List Nat} {B:Ben}
theorem zAw {live:List Bool} {d a:Int} (hdn:B.down=false) (d0:0≤d) (hu:B.up live d=true) (a0:0≤a) (a1:a < 52):B.read d a=(B.cur d a,0):=by
  obtain ⟨h1,h2,_⟩:=zyj d0 hu
  rw [zib h1] at h2
  unfold Ben.read
  rw [if_neg (by rw [may0.2 ⟨h1,hdn⟩]; simp)]
  unfold DS.read
  rw [if_neg (by rw [znI.2 ⟨h2,a0,a1⟩]; simp)]
  rfl
theorem zsu {live:List Bool} {d:Int} (a:Int) (hdn:B.down=true) (d0:0≤d) (hu:B.up live d=true):B.read d a=([],6):=by
  obtain ⟨h1,h2,_⟩:=zyj d0 hu
  have hm:B.may d=6:=by unfold Ben.may; rw [h1,hdn]; rfl
  unfold Ben.read
  rw [hm]; simp
def Ben.secP (B:Ben) (live:List Bool) (r:Int) (n k:Nat):List Part:=(List.range n).map fun (d:Nat)=>if d < k then (if B.up live d then (Tag.fresh,B.cur d (36+r)) else (Tag.nil,[])) else (Tag.nil,[])
theorem zyK (live:List Bool) (r:Int) (n:Nat):(B.secP live r n n).map (·.2)=B.secs live r n:=by
  unfold Ben.secP Ben.secs
  rw [List.map_map]
  apply List.map_congr_left
  intro d hd
  have:=List.mem_range.1 hd
  simp only [Function.comp_apply,if_pos this]
  split<;>rfl
@[simp] theorem zq0 (live:List Bool) (r:Int) (n k:Nat):(B.secP live r n k).length=n:=by simp [Ben.secP]
theorem zxp (live:List Bool) (r:Int) {n k:Nat} (hk:k < n) (hu:B.up live k=true):(B.secP live r n k).set k (Tag.fresh,B.cur k (36+r))=B.secP live r n (k+1):=by
  apply List.ext_getElem?
  intro j
  rw [List.getElem?_set]
  unfold Ben.secP
  by_cases hj:j < n
  · by_cases hjk:k=j
    · subst hjk; simp [hj,hu]
    · rw [if_neg hjk]
      simp only [List.getElem?_map,List.getElem?_range hj,Option.map_some]
      by_cases h1:j < k
      · simp only [if_pos h1,if_pos (show j < k+1 by omega)]
      · simp only [if_neg h1,if_neg (show ¬ j < k+1 by omega)]
  · have h1:k≠j:=by omega
    rw [if_neg h1,List.getElem?_eq_none (by simp; omega),List.getElem?_eq_none (by simp; omega)]
theorem zxq (live:List Bool) (r:Int) {n k:Nat} (hk:k < n) (hu:B.up live k=false):B.secP live r n k=B.secP live r n (k+1):=by
  unfold Ben.secP
  apply List.map_congr_left
  intro j hj
  by_cases h1:j < k
  · simp only [if_pos h1,if_pos (show j < k+1 by omega)]
  · by_cases hjk:j=k
    · subst hjk; simp [hu]
    · simp only [if_neg h1,if_neg (show ¬ j < k+1 by omega)]
theorem zxr (live:List Bool) (r:Int) (n:Nat):pL (B.secP live r n 0)=List.replicate n (D.sl .nil []):=by
  unfold Ben.secP pL
  rw [List.map_map]
  apply List.ext_getElem?
  intro j
  by_cases hj:j < n
  · simp [hj,uL]
  · rw [List.getElem?_eq_none (by simp; omega),List.getElem?_eq_none (by simp; omega)]
theorem zAx (live:List Bool) (r:Int) {n k:Nat} (hk:k < n):(B.secP live r n k)[k]? =some (Tag.nil,[]):=by unfold Ben.secP; simp [hk]
theorem zfE (h:At T0 T1 b idx B) (hw:B.w≤1000000) (tg:Tag) (live:List Bool) (g:Geo) (r:Int):
    zao [.h kB b 0,.sl tg (live.map D.bool),.agg [.int .i64 g.l,.int .i64 g.d,.int .i64 g.c],.int .i64 r] [P0 T0 b idx B,P1 T1 idx B]=
      some (Ans.mk (.tup [.sl .own (pL (fP (B.sRead live g r).1)),.int .i64 (B.sRead live g r).2]) [] []):=by
  rw [zmB,zgS]
  unfold zhh Ben.sRead
  have hck:zai [.agg [.int .i64 g.l,.int .i64 g.d,.int .i64 g.c]]=some (.int .i64 (if g.ok then 0 else 1)):=zgQ g.l g.d g.c
  cases hk:g.ok
  · have hf:zbU g r=false:=by unfold zbU; rw [hk]; rfl
    rw [hk] at hck
    simp [hck,hf]; rfl
  rw [hk] at hck
  by_cases r0:r < 0
  · have hf:zbU g r=false:=by unfold zbU; rw [hk]; simp; omega
    simp [hck,hf,r0]; rfl
  by_cases r1:r≥16
  · have hf:zbU g r=false:=by unfold zbU; rw [hk]; simp; omega
    simp [hck,hf,r0,show 16≤r by omega]; rfl
  have hr:zbU g r=true:=zbA.2 ⟨hk,by omega,by omega⟩
  have hdd:=ok_d hk
  rw [if_neg (by simp [hr])]
  have r1':¬ 16≤r:=by omega
  simp (disch:=first | omega | assumption | (simp; done) | fail) only [hck,if_true,zak,zbO,zy3,zCo,zah,List.length_replicate,Nat.zero_add,Nat.le_refl]
  let st:Nat→(Nat×List D×Int×(Int×Int×Int×PUnit)×List D×Int×Int×PUnit)×List (List D)×List (List D)×PUnit:=fun k=>
    ((b,live.map D.bool,r,(g.l,g.d,g.c,PUnit.unit),pL (B.secP live r g.d.toNat k),((g.d.toNat:Nat):Int),(k:Int),PUnit.unit),P0 T0 b idx B,P1 T1 idx B,PUnit.unit)
  have hst:st 0=((b,live.map D.bool,r,(g.l,g.d,g.c,PUnit.unit),List.replicate g.d.toNat (D.sl .nil []),((g.d.toNat:Nat):Int),0,PUnit.unit),P0 T0 b idx B,P1 T1 idx B,PUnit.unit):=by
    simp only [st,zxr]; rfl
  rw [←hst]
  refine zgz (fun x=>g.d.toNat - x.1.2.2.2.2.2.2.1.toNat) (fun _=>_) (fun x=>∃ k:Nat,k≤g.d.toNat∧(B.down=true→∀ j:Nat,j < k→B.up live j=false)∧x=st k) ?_ ⟨0,by omega,fun _ j hj=>by omega,rfl⟩ (by simp [st]; omega)
  rintro again _ ⟨k,hk',hdn,rfl⟩ hag
  dsimp only [st]
  by_cases hlt:k < g.d.toNat
  · have hup:=zyz h .lent live (d:=(k:Int)) (by omega)
    by_cases hu:B.up live (k:Int)=true
    · rw [hu] at hup
      cases hdo:B.down
      · have hrd:=zw9 h hw (k:Int) (36+r)
        rw [zAw hdo (by omega) hu (by omega) (by omega)] at hrd
        have hg:=zAx (B:=B) live r hlt
        have:=hag (st (k+1)) ⟨k+1,by omega,fun e=>(by rw [hdo] at e; cases e),rfl⟩ (by simp [st]; omega)
        dsimp only [st] at this
        rw [←zxp live r hlt hu] at this
        simp (disch:=first | omega | assumption | (simp; done) | fail) [hlt,hup,hrd,zaq,zq0,zam (zdN hg),zmP,zsr]
        rw [show ((k+1:Nat):Int)=(k:Int)+1 by omega] at this
        simpa [hdo] using this
      · have hrd:=zw9 h hw (k:Int) (36+r)
        rw [zsu (36+r) hdo (by omega) hu] at hrd
        have hany:(List.range g.d.toNat).any (fun (d:Nat)=>B.up live d)=true:=by
          rw [List.any_eq_true]; exact ⟨k,List.mem_range.2 hlt,hu⟩
        rw [hany]
        simp (disch:=first | omega | assumption | (simp; done) | fail) [hlt,hup,hrd,zaq]
        rfl
    · have hu':B.up live (k:Int)=false:=by simpa using hu
      rw [hu'] at hup
      have:=hag (st (k+1)) ⟨k+1,by omega,fun e j hj=>by
        by_cases ej:j=k
        · subst ej; exact hu'
        · exact hdn e j (by omega),rfl⟩ (by simp [st]; omega)
      dsimp only [st] at this
      rw [←zxq live r hlt hu'] at this
      rw [show ((k+1:Nat):Int)=(k:Int)+1 by omega] at this
      simp (disch:=first | omega | assumption | (simp; done) | fail) [hlt,hup,zaq]
      simpa using this
  · have hke:k=g.d.toNat:=by omega
    have hno:¬ (B.down=true∧(List.range g.d.toNat).any (fun (d:Nat)=>B.up live d)=true):=by
      rintro ⟨e1,e2⟩
      rw [List.any_eq_true] at e2
      obtain ⟨j,hj,hu⟩:=e2
      rw [hdn e1 j (by rw [hke]; exact List.mem_range.1 hj)] at hu; cases hu
    rw [if_neg hno]
    have htk:=zyI g r .lent (ps:=B.secP live r g.d.toNat g.d.toNat) (by rw [zq0]; omega)
    rw [zyK] at htk
    subst hke
    simp (disch:=first | omega | assumption | (simp; done) | fail) [-List.all_eq_true,zqX,zq0,htk]
    cases zqu g r (B.secs live r g.d.toNat) with
    | none=>simp [-List.all_eq_true,solD]; rfl
    | some o=>simp [-List.all_eq_true,solD,zhm]
def Ben.oneT (B:Ben) (live:List Bool) (g:Geo) (n:Int):Tag:=
  if (ofP g n).2.2=false then .nil
  else if B.up live (ofP g n).1 then .fresh
  else if (B.sRead live g (ofP g n).2.1).2≠0 then .nil
  else .fresh
theorem zpE (h:At T0 T1 b idx B) (hw:B.w≤1000000) (tg:Tag) (live:List Bool) (g:Geo) (n:Int):
    zbn [.h kB b 0,.sl tg (live.map D.bool),.agg [.int .i64 g.l,.int .i64 g.d,.int .i64 g.c],.int .i64 n] [P0 T0 b idx B,P1 T1 idx B]=
      some (Ans.mk (.tup [.sl (B.oneT live g n) (uL (B.sOne live g n).1),.int .i64 (B.sOne live g n).2]) [] []):=by
  rw [zoa,zgS]
  unfold ziv Ben.sOne Ben.oneT
  have hof:=zxj g n
  by_cases hc:0≤n∧n < g.cap
  · have ho:ofP g n=(zcG g (rowG g n) (zev g n),rowG g n,true):=by unfold ofP; rw [if_pos hc]
    have hk:=zup hc.1 hc.2
    have hrf:=zuq hc.1 hc.2
    have hr:zbU g (rowG g n)=true:=zbA.2 ⟨hk,hrf.1,hrf.2.1⟩
    have hcol:0≤zev g n∧zev g n < g.width:=zCu hk (n / g.c)
    have hdi:=zjH hr hcol.1 hcol.2
    have hw2:=zcm hk
    rw [ho] at hof ⊢
    have hup:=zyz h .lent live (d:=zcG g (rowG g n) (zev g n)) hdi.1
    have hrd:=zw9 h hw (zcG g (rowG g n) (zev g n)) (36+rowG g n)
    have hsr:=zfE h hw .lent live g (rowG g n)
    dsimp only at hof ⊢
    by_cases hu:B.up live (zcG g (rowG g n) (zev g n))=true
    · rw [hu] at hup
      simp (disch:=first | omega | assumption | (simp; done) | fail) [-List.all_eq_true,hof,hup,hrd,zaq,hu,zxm]
    · have hu':B.up live (zcG g (rowG g n) (zev g n))=false:=by simpa using hu
      rw [hu'] at hup
      by_cases he:(B.sRead live g (rowG g n)).2=0
      · have hlen:(B.sRead live g (rowG g n)).1.length=g.width.toNat:=by
          unfold Ben.sRead at he ⊢
          rw [if_neg (by simp [hr])] at he ⊢
          split
          · rename_i hx; rw [if_pos hx] at he; exact absurd he (by decide)
          · rename_i hx
            rw [if_neg hx] at he
            cases ht:zqu g (rowG g n) (B.secs live (rowG g n) g.d.toNat) with
            | none=>rw [ht] at he; exact absurd he (by decide)
            | some o=>exact zyJ ht
        have hnums:=ztv g (rowG g n)
        have hnd:zwZ g (rowG g n)=numD g (rowG g n) g.width.toNat:=by unfold zwZ; rw [if_pos hr]
        rw [hnd] at hnums
        rw [he] at hsr
        simp (disch:=first | omega | assumption | (simp; done) | fail) only [hof,zak,zrW,zes,zh6,zbO,zdg,Bool.not_true,zaG,hup,zfU,hsr,zb4,zy3,hnums,zah,Nat.zero_add,Nat.le_refl,zkF,hu',he,if_true,if_false,ne_eq,not_true_eq_false,Bool.false_eq_true,reduceCtorEq]
        generalize (B.sRead live g (rowG g n)).1=out at*
        let s2:Nat→(Int×List D×List D×Int×Int×PUnit)×List (List D)×List (List D)×PUnit:=fun j=>((n,pL (fP out),numD g (rowG g n) g.width.toNat,((g.width.toNat:Nat):Int),(j:Int),PUnit.unit),P0 T0 b idx B,P1 T1 idx B,PUnit.unit)
        show zcw _ (s2 0)=_
        refine zea s2 (zev g n).toNat (by omega) ?_ ?_
        · intro again j hj
          dsimp only [s2]
          have hne:¬ numP g (rowG g n) j=n:=by
            intro e
            have:=zAv hr (j:=(j:Int)) (k:=zev g n) (by omega) (by omega) hcol.1 hcol.2 (by rw [e,zxo hc.1 hc.2])
            omega
          have hgn:(numD g (rowG g n) g.width.toNat)[j]? =some (.int .i64 (numP g (rowG g n) j)):=zur g (rowG g n) g.width.toNat (by omega)
          have hlt:(j:Int) < ((g.width.toNat:Nat):Int):=by omega
          have hlt2:j < g.width.toNat:=by omega
          simp (disch:=first | omega | assumption | (simp; done) | fail) [-List.all_eq_true,hlt,hlt2,zkF,zam hgn,hne,zaq]
        · intro again
          dsimp only [s2]
          have hgn:(numD g (rowG g n) g.width.toNat)[(zev g n).toNat]? =some (.int .i64 (numP g (rowG g n) ((zev g n).toNat:Int))):=zur g (rowG g n) g.width.toNat (by omega)
          rw [show (((zev g n).toNat:Nat):Int)=zev g n by omega,zxo hc.1 hc.2] at hgn
          have hgo:(pL (fP out))[(zev g n).toNat]? =some (.sl .fresh (uL (out.getD (zev g n).toNat []))):=zqY (by omega)
          rw [show (((zev g n).toNat:Nat):Int)=zev g n by omega]
          have hlt:zev g n < ((g.width.toNat:Nat):Int):=by omega
          have hlt2:(zev g n).toNat < g.width.toNat:=by omega
          simp (disch:=first | omega | assumption | (simp; done) | fail) [-List.all_eq_true,hlt,hlt2,hcol.1,zkF,zam hgn,zam hgo,hlen,zxm]
      · simp (disch:=first | omega | assumption | (simp; done) | fail) [-List.all_eq_true,hof,hup,hsr,hu',he]
        rfl
  · have ho:ofP g n=(0,0,false):=by unfold ofP; rw [if_neg hc]
    rw [ho] at hof ⊢
    simp [hof]
    rfl
end
end Wf

namespace Wf
open Go Go.RowKit Go.Proofs
set_option linter.unusedSimpArgs false
set_option linter.unusedVariables false
set_option maxHeartbeats 4000000
def ztw (w left:Int) (down:Bool) (hs:List D):List D:=[.int .i64 w,.int .i64 left,.bool down,.sl .own hs]
theorem ztx (m k:Nat):((List.range k).map fun j=>hD (m+j))++[hD (m+k)]=(List.range (k+1)).map fun j=>hD (m+j):=by simp [List.range_succ]
theorem zvs (l:List Nat):zcM (l.map hD)=true:=by simp only [zcM,List.all_map,List.all_eq_true]; intro i _; rfl
theorem zxs (l:List Nat):zeM 1 (l.map hD)=true:=by simp only [zeM,List.all_map,List.all_eq_true]; intro i _; rfl
theorem zoI {α:Type} (k:Nat) (a:α):List.replicate k a++[a]=List.replicate (k+1) a:=by
  rw [List.replicate_succ']
theorem zyL (T0 T1:Tb) {n:Int} (h0:1≤n) (h1:n≤8):
    za3 [.int .i64 n] [T0,T1]=some (Ans.mk (.tup [.h kB T0.length 0,.int .i64 0]) []
      [T0++[ztw 0 (-1) false ((List.range n.toNat).map fun j=>hD (T1.length+j))],T1++List.replicate n.toNat DS.new.cells]):=by
  rw [zon]
  unfold zjJ
  have d1:decide (n < 1)=false:=by simp; omega
  have d2:decide (n > 8)=false:=by simp; omega
  rw [d1,zaG,d2,zaG,zsW]
  have hn:n=(n.toNat:Int):=by omega
  let st:Nat→(Nat×Int×Int×PUnit)×List (List D)×List (List D)×PUnit:=fun k=>
    ((T0.length,n,(k:Int),PUnit.unit),T0++[ztw 0 (-1) false ((List.range k).map fun j=>hD (T1.length+j))],T1++List.replicate k DS.new.cells,PUnit.unit)
  have h00:st 0=((T0.length,n,0,PUnit.unit),T0++[[D.own0 (D.int IntKind.i64 (0:Int)),D.own0 (D.int IntKind.i64 (-1:Int)),D.own0 (D.bool false),D.own0 (D.sl Tag.nil [])]],T1,PUnit.unit):=by
    simp [st,ztw,D.own0]
  rw [←h00]
  refine zcK st n.toNat (by omega) ?_ ?_
  · intro again k hk
    dsimp only [st]
    have hd:decide ((k:Int) < n)=true:=by simp; omega
    have hrow:(T0++[ztw 0 (-1) false ((List.range k).map fun j=>hD (T1.length+j))])[T0.length]? =some (ztw 0 (-1) false ((List.range k).map fun j=>hD (T1.length+j))):=by simp
    have hnew:=zCv (T1++List.replicate k DS.new.cells)
    have hl:(T1++List.replicate k DS.new.cells).length=T1.length+k:=by simp
    rw [hl,List.append_assoc,zoI] at hnew
    rw [hd,zbu,zam hrow]
    unfold ztw at hrow ⊢
    rw [zgy,zgy,zgy,zrX,zb4,hnew,zak,zfU,zu8,zfU,zah (by rfl),zah (by rfl),zam hrow,zgy,zgy,zgy,zrX,zb4]
    rw [zah (by simp; omega),zah (by rfl),zah (by rfl),zsW,zsX hrow]
    have hset:=zkt hrow (List.set [D.int .i64 0,.int .i64 (-1),.bool false,.sl .own ((List.range k).map fun j=>hD (T1.length+j))] 3 .undef)
    have hsn:=ztx T1.length k
    unfold hD at hsn
    have hH:(List.map (fun j=>hD (T1.length+j)) (List.range k))++[D.h kD (T1.length+k) 0]=(List.range (k+1)).map fun j=>hD (T1.length+j):=hsn
    dsimp only
    rw [zam hset,zah (by simp),hH,zah (by simp)]
    have e1:((List.range (k+1)).map fun j=>hD (T1.length+j))=((List.range (k+1)).map fun j=>T1.length+j).map hD:=by rw [List.map_map]; rfl
    rw [e1,zah (zvs _),zah (zxs _),zsW,zbb,zaq (by omega) (by omega),zdB hset,←e1,List.set_set]
    simp [ztw]
  · intro again
    dsimp only [st]
    have hd:decide (((n.toNat:Nat):Int) < n)=false:=by simp; omega
    rw [hd,zaG]
def nIdx (T1:Tb) (n:Nat):List Nat:=(List.range n).map fun j=>T1.length+j
def nT0 (T0 T1:Tb) (n:Nat):Tb:=T0++[bRow (Ben.new n) (nIdx T1 n)]
def nT1 (T1:Tb) (n:Nat):Tb:=T1++List.replicate n DS.new.cells
theorem zAy (T1:Tb) (n:Nat):((List.range n).map fun j=>hD (T1.length+j))=(nIdx T1 n).map hD:=by unfold nIdx; rw [List.map_map]; rfl
theorem zzi (T0 T1:Tb) {n:Nat} (h8:n≤8):At (nT0 T0 T1 n) (nT1 T1 n) T0.length (nIdx T1 n) (Ben.new n):=by
  refine ⟨by simp [nT0],?_,fun i hi=>?_,by simp [nIdx,Ben.new],zpp h8⟩
  · unfold List.Nodup nIdx
    rw [List.pairwise_map]
    exact List.Pairwise.imp (fun h e=>h (by omega)) (List.nodup_range (n:=n))
  · unfold nIdx at hi
    obtain ⟨j,hj,rfl⟩:=List.mem_map.1 hi
    have:=List.mem_range.1 hj
    simp [nT1]; omega
theorem zBO (T0 T1:Tb) (n:Nat):P0 (nT0 T0 T1 n) T0.length (nIdx T1 n) (Ben.new n)=nT0 T0 T1 n:=zAg (by unfold nT0; simp)
theorem zBP (T1:Tb) (n:Nat):P1 (nT1 T1 n) (nIdx T1 n) (Ben.new n)=nT1 T1 n:=by
  unfold P1
  show putL _ _ _++[]=_
  rw [List.append_nil]
  refine zr5 fun j i c h1 h2=>?_
  have hj:j < n:=by have:=zaK h1; simpa [nIdx] using this
  have e1:i=T1.length+j:=by
    unfold nIdx at h1
    rw [List.getElem?_map,List.getElem?_range hj] at h1
    simpa using h1.symm
  have e2:c=DS.new.cells:=by
    have:(Ben.new n).ds.map DS.cells=List.replicate n DS.new.cells:=by unfold Ben.new; simp
    rw [this] at h2
    rw [List.getElem?_replicate,if_pos hj] at h2
    exact (Option.some.inj h2).symm
  subst e1 e2
  unfold nT1
  rw [List.getElem?_append_right (by omega),show T1.length+j - T1.length=j by omega,List.getElem?_replicate,if_pos hj]
theorem zBQ (T0 T1:Tb) {n:Nat} (h0:1≤n) (h8:n≤8):
    za3 [.int .i64 n] [T0,T1]=some (Ans.mk (.tup [.h kB T0.length 0,.int .i64 0]) [] [P0 (nT0 T0 T1 n) T0.length (nIdx T1 n) (Ben.new n),P1 (nT1 T1 n) (nIdx T1 n) (Ben.new n)]):=by
  rw [zyL T0 T1 (by omega) (by omega),zBO,zBP,Int.toNat_natCast,zAy]
  rfl
structure Still (B:Ben):Prop where
  ok:B.Ok
  down:B.down=false
  ds:∀ s∈B.ds,s.failed=false∧s.pend=[]
theorem Still.dk {B:Ben} (h:Still B) (d:Int):(B.dk d).failed=false∧(B.dk d).pend=[]:=by
  unfold Ben.dk
  cases e:B.ds[d.toNat]? with
  | none=>exact ⟨rfl,rfl⟩
  | some s=>exact h.ds s (List.mem_of_getElem? e)
theorem Still.failed {B:Ben} (h:Still B) (d:Int):B.failed d=false:=by unfold Ben.failed; rw [(h.dk d).1,Bool.and_false]
theorem zsv {n:Nat} (h:n≤8):Still (Ben.new n):=⟨zpp h,rfl,fun s hs=>by
  unfold Ben.new at hs
  rw [(List.mem_replicate.1 hs).2]; exact ⟨rfl,rfl⟩⟩
theorem zBR (n:Nat) (d:Int):(Ben.new n).dk d=DS.new:=by
  unfold Ben.dk Ben.new
  dsimp only
  rw [List.getElem?_replicate]
  split<;>rfl
theorem zyM {a:Nat} (ha:a < 52):DS.new.base a=zdl:=by
  unfold DS.base
  show ((List.replicate 1664 (0:Int)).drop (a*32)).take 32=_
  rw [List.drop_replicate,List.take_replicate]
  unfold zdl
  congr 1
  omega
theorem zAz (n:Nat) (d:Int) {a:Int} (a0:0≤a) (a1:a < 52):(Ben.new n).cur d a=zdl:=by
  unfold Ben.cur
  rw [zBR]
  show look [] a (DS.new.base a.toNat)=_
  rw [zui,zyM (by omega)]
section
variable {B:Ben} {d a:Int} {x:List Int}
end
def rowL (g:Geo) (l:List Int) (r:Nat):List (List Int):=secL (l.drop (min r l.length)) g.width.toNat
structure Filld (gs:Nat→Geo) (l:List Int) (n:Nat) (R:Nat) (B:Ben):Prop where
  still:Still B
  num:B.n=n
  w:B.w=0
  left:B.left= -1
  cur:∀ d a:Int,0≤d→0≤a→a < 52→B.cur d a=if 36≤a∧a < 36+R∧d < (gs (a - 36).toNat).d∧d < n then atR (gs (a - 36).toNat) (a - 36) (rowL (gs (a - 36).toNat) l (a - 36).toNat) d else zdl
end Wf

namespace Wf
open Go Go.RowKit Go.Proofs
set_option linter.unusedSimpArgs false
set_option linter.unusedVariables false
set_option maxHeartbeats 4000000
section
variable {T0 T1:Tb}
end
end Wf

