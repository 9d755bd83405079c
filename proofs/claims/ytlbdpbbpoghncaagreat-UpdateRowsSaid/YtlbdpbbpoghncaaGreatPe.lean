/- A part of the proof: lemmas that the law's row leans on. -/
import Derived.Test.YtlbdpbbpoghncaaGreatPd
set_option linter.all false
namespace Wf
open Go Go.RowKit Go.Proofs
open PUnit (unit)
abbrev Zp:=List D→Option D
abbrev Zs:=List D→List Tb→Option Ans
def dd:Nat→List SS→List SS
 | 0,l=>l
 | n+1,l=>.dead::dd n l
set_option linter.unusedVariables false
set_option maxRecDepth 100000
def zgP:Ann:={ loops:=[] }
noncomputable def zac:Zp:=denP Tryz.prog (zaz []) zgP [0] ID.wattlekeep_Within
theorem zj7:za1 Tryz.prog ID.wattlekeep_Within (.pure [0] zac):=zam (zaC []) zbm ⟨Tryz.f12,by kernel_rfl,by kernel_rfl,by kernel_rfl⟩
noncomputable def zdA:Fact Tryz.prog:=⟨ID.wattlekeep_Within,(.pure [0] zac),zj7⟩
noncomputable def zfu (a0 a1:Int):Option D:=
 brK (decide (a1 < 1))
  (some (.int .i64 0))
  (sif (a1≠0) <|
  letN (Int.tmod a0 a1) fun n1=>
  brK (decide (n1 < 0))
   (letN (IntKind.i64.wrap (n1+a1)) fun n2=>
   some (.int .i64 n2))
   (some (.int .i64 n1)))
theorem znD (a0 a1:Int):denP Tryz.prog (zaz []) zgP [0] ID.wattlekeep_Within [.int .i64 a0,.int .i64 a1]=zfu a0 a1:=by kernel_rfl
theorem zkQ (a0 a1:Int):zac [.int .i64 a0,.int .i64 a1]=zfu a0 a1:=znD a0 a1
def zhS:Ann:={ loops:=[] }
noncomputable def zbH:Zp:=denP Tryz.prog (zaz [(ID.wattlekeep_Within,(.pure [0] zac))]) zhS [0] ID.wattleplay_Geom
theorem zlA:za1 Tryz.prog ID.wattleplay_Geom (.pure [0] zbH):=zam (zaC [zdA]) zbm ⟨Tryz.f45,by kernel_rfl,by kernel_rfl,by kernel_rfl⟩
noncomputable def zmG:Fact Tryz.prog:=⟨ID.wattleplay_Geom,(.pure [0] zbH),zlA⟩
noncomputable def zgu (zac:Zp) (a0:Int):Option D:=
 zar (zac [.int .i64 a0,.int .i64 2]) fun r1=>
 asI .i64 r1 fun i2=>
 letN (IntKind.i64.wrap (5+i2)) fun n3=>
 letN (IntKind.i64.wrap (Int.tdiv a0 (2:Int))) fun n4=>
 zar (zac [.int .i64 n4,.int .i64 3]) fun r5=>
 asI .i64 r5 fun i6=>
 sif (0≤i6) <|
 getK ([.int .i64 1,.int .i64 2,.int .i64 4]) (i6.toNat) fun d7=>
 asI .i64 d7 fun i8=>
 letN (IntKind.i64.wrap (Int.tdiv a0 (6:Int))) fun n9=>
 zar (zac [.int .i64 n9,.int .i64 4]) fun r10=>
 asI .i64 r10 fun i11=>
 letN (IntKind.i64.wrap (3+i11)) fun n12=>
 brK (n3 == 6)
  (letN (IntKind.i64.wrap (Int.tdiv a0 (6:Int))) fun n13=>
  zar (zac [.int .i64 n13,.int .i64 4]) fun r14=>
  asI .i64 r14 fun i15=>
  letN (IntKind.i64.wrap (4+i15)) fun n16=>
  letN (IntKind.i64.wrap (Int.tdiv a0 (24:Int))) fun n17=>
  zar (zac [.int .i64 n17,.int .i64 40]) fun r18=>
  asI .i64 r18 fun i19=>
  brK (i19 == 36)
   (zar (zac [.int .i64 a0,.int .i64 9]) fun r20=>
   asI .i64 r20 fun i21=>
   some (.agg [.int .i64 i21,.int .i64 n16,.int .i64 i8]))
   (brK (i19 == 37)
    (zar (zac [.int .i64 a0,.int .i64 12]) fun r22=>
    asI .i64 r22 fun i23=>
    letN (IntKind.i64.wrap (i23 - 1)) fun n24=>
    some (.agg [.int .i64 n3,.int .i64 n24,.int .i64 i8]))
    (brK (i19 == 38)
     (zar (zac [.int .i64 a0,.int .i64 9]) fun r25=>
     asI .i64 r25 fun i26=>
     letN (IntKind.i64.wrap (i26 - 1)) fun n27=>
     some (.agg [.int .i64 n3,.int .i64 n16,.int .i64 n27]))
     (brK (i19 == 39)
      (some (.agg [.int .i64 n3,.int .i64 8,.int .i64 i8]))
      (some (.agg [.int .i64 n3,.int .i64 n16,.int .i64 i8]))))))
  (letN (IntKind.i64.wrap (Int.tdiv a0 (24:Int))) fun n28=>
  zar (zac [.int .i64 n28,.int .i64 40]) fun r29=>
  asI .i64 r29 fun i30=>
  brK (i30 == 36)
   (zar (zac [.int .i64 a0,.int .i64 9]) fun r31=>
   asI .i64 r31 fun i32=>
   some (.agg [.int .i64 i32,.int .i64 n12,.int .i64 i8]))
   (brK (i30 == 37)
    (zar (zac [.int .i64 a0,.int .i64 12]) fun r33=>
    asI .i64 r33 fun i34=>
    letN (IntKind.i64.wrap (i34 - 1)) fun n35=>
    some (.agg [.int .i64 n3,.int .i64 n35,.int .i64 i8]))
    (brK (i30 == 38)
     (zar (zac [.int .i64 a0,.int .i64 9]) fun r36=>
     asI .i64 r36 fun i37=>
     letN (IntKind.i64.wrap (i37 - 1)) fun n38=>
     some (.agg [.int .i64 n3,.int .i64 n12,.int .i64 n38]))
     (brK (i30 == 39)
      (some (.agg [.int .i64 n3,.int .i64 8,.int .i64 i8]))
      (some (.agg [.int .i64 n3,.int .i64 n12,.int .i64 i8]))))))
theorem zp9 (zac:Zp) (a0:Int):denP Tryz.prog (zaz [(ID.wattlekeep_Within,(.pure [0] zac))]) zhS [0] ID.wattleplay_Geom [.int .i64 a0]=zgu zac a0:=by kernel_rfl
theorem zmH (a0:Int):zbH [.int .i64 a0]=zgu zac a0:=zp9 zac a0
def zgQ:Ann:={ loops:=[] }
noncomputable def zae:Zp:=denP Tryz.prog (zaz []) zgQ [0] ID.wattleref01_Check
theorem zj8:za1 Tryz.prog ID.wattleref01_Check (.pure [0] zae):=zam (zaC []) zbm ⟨Tryz.f46,by kernel_rfl,by kernel_rfl,by kernel_rfl⟩
noncomputable def zcQ:Fact Tryz.prog:=⟨ID.wattleref01_Check,(.pure [0] zae),zj8⟩
noncomputable def zfv (a0_0 a0_1 a0_2:Int):Option D:=
 brK (a0_0 == 6)
  (brK (a0_0 == 5)
   (brK (decide (a0_1≥4))
    (brK (decide (a0_1≤8))
     (brK (a0_2 == 1)
      (some (.bool true))
      (brK (a0_2 == 2)
       (some (.bool true))
       (some (.bool (a0_2 == 4)))))
     (some (.bool false)))
    (some (.bool false)))
   (brK (a0_0 == 6)
    (brK (decide (a0_1≥4))
     (brK (decide (a0_1≤8))
      (brK (a0_2 == 1)
       (some (.bool true))
       (brK (a0_2 == 2)
        (some (.bool true))
        (some (.bool (a0_2 == 4)))))
      (some (.bool false)))
     (some (.bool false)))
    (some (.bool false))))
  (brK (a0_0 == 5)
   (brK (decide (a0_1≥3))
    (brK (decide (a0_1≤8))
     (brK (a0_2 == 1)
      (some (.bool true))
      (brK (a0_2 == 2)
       (some (.bool true))
       (some (.bool (a0_2 == 4)))))
     (some (.bool false)))
    (some (.bool false)))
   (brK (a0_0 == 6)
    (brK (decide (a0_1≥3))
     (brK (decide (a0_1≤8))
      (brK (a0_2 == 1)
       (some (.bool true))
       (brK (a0_2 == 2)
        (some (.bool true))
        (some (.bool (a0_2 == 4)))))
      (some (.bool false)))
     (some (.bool false)))
    (some (.bool false))))
theorem znE (a0_0 a0_1 a0_2:Int):denP Tryz.prog (zaz []) zgQ [0] ID.wattleref01_Check [.agg [.int .i64 a0_0,.int .i64 a0_1,.int .i64 a0_2]]=zfv a0_0 a0_1 a0_2:=by kernel_rfl
theorem zkR (a0_0 a0_1 a0_2:Int):zae [.agg [.int .i64 a0_0,.int .i64 a0_1,.int .i64 a0_2]]=zfv a0_0 a0_1 a0_2:=znE a0_0 a0_1 a0_2
def zhT:Ann:={ loops:=[] }
noncomputable def zbI:Zp:=denP Tryz.prog (zaz [(ID.wattleplay_Geom,(.pure [0] zbH)),(ID.wattleref01_Check,(.pure [0] zae))]) zhT [0] ID.wattleplay_Good
theorem zlB:za1 Tryz.prog ID.wattleplay_Good (.pure [0] zbI):=zam (zaC [zmG,zcQ]) zbm ⟨Tryz.f9,by kernel_rfl,by kernel_rfl,by kernel_rfl⟩
noncomputable def zmI:Fact Tryz.prog:=⟨ID.wattleplay_Good,(.pure [0] zbI),zlB⟩
noncomputable def zgv (zbH zae:Zp) (a0:Int):Option D:=
 zar (zbH [.int .i64 a0]) fun r1=>
 asAgg r1 fun cs2=>
 zay ([Lf.int .i64,Lf.int .i64,Lf.int .i64]) cs2 fun c3=>
 zar (zae [.agg [.int .i64 c3.1,.int .i64 c3.2.1,.int .i64 c3.2.2.1]]) fun r4=>
 asB r4 fun b5=>
 brK (!b5)
  (some (.agg [.int .i64 5,.int .i64 3,.int .i64 1]))
  (some (.agg [.int .i64 c3.1,.int .i64 c3.2.1,.int .i64 c3.2.2.1]))
theorem zqa (zbH zae:Zp) (a0:Int):denP Tryz.prog (zaz [(ID.wattleplay_Geom,(.pure [0] zbH)),(ID.wattleref01_Check,(.pure [0] zae))]) zhT [0] ID.wattleplay_Good [.int .i64 a0]=zgv zbH zae a0:=by kernel_rfl
theorem zmJ (a0:Int):zbI [.int .i64 a0]=zgv zbH zae a0:=zqa zbH zae a0
def zq4:Ann:={ loops:=[],pubs:=[(1,[(0,128,8225)])],ks:=[(8225,true)] }
noncomputable def zdI:Zs:=denS Tryz.prog (zaz []) zq4 [0] ID.disk_New
theorem ztQ:za1 Tryz.prog ID.disk_New (.st [] [0] [(8225,true)] zdI):=zbg (zaC []) zbm ⟨Tryz.f94,by kernel_rfl,by kernel_rfl,by kernel_rfl⟩
noncomputable def zwD:Fact Tryz.prog:=⟨ID.disk_New,(.st [] [0] [(8225,true)] zdI),ztQ⟩
noncomputable def zqb (T0:Tb):Option Ans:=
 letT (T0++[List.map D.own0 (List.reverse ([.bool false,.sl .nil []]++List.replicate 1664 (.int .u8 0)))]) fun U1=>
 some (Ans.mk (.h (8225:Nat) (T0.length) (0:Nat)) [] [U1])
theorem zCj (T0:Tb):denS Tryz.prog (zaz []) zq4 [0] ID.disk_New [] [T0]=zqb T0:=by kernel_rfl
theorem zwE (T0:Tb):zdI [] [T0]=zqb T0:=zCj T0
def zo0:Ann:={ loops:=[(1,dd 4 (.val (.cell (.hnd (2496:Nat)))::dd 9 [.val (.cell (.int .i64)),.val (.cell (.int .i64))]))],pubs:=[(3,[(4,42,2496)])],ks:=[(2496,true),(8225,true)] }
noncomputable def zbD:Zs:=denS Tryz.prog (zaz [(ID.disk_New,(.st [] [0] [(8225,true)] zdI))]) zo0 [0,0] ID.bench_New
theorem zsR:za1 Tryz.prog ID.bench_New (.st [] [0,0] [(2496,true),(8225,true)] zbD):=zbg (zaC [zwD]) zbm ⟨Tryz.f47,by kernel_rfl,by kernel_rfl,by kernel_rfl⟩
noncomputable def zne:Fact Tryz.prog:=⟨ID.bench_New,(.st [] [0,0] [(2496,true),(8225,true)] zbD),zsR⟩
noncomputable def znF (zdI:Zs) (a0:Int) (T0 T1:Tb):Option Ans:=
 brK (decide (a0 < 1))
  (some (Ans.mk (.tup [D.nilp,.int .i64 1]) [] [T0,T1]))
  (brK (decide (a0 > 8))
   (some (Ans.mk (.tup [D.nilp,.int .i64 1]) [] [T0,T1]))
   (letT (T0++[[D.own0 (.int .i64 0),D.own0 (.int .i64 (-1)),D.own0 (.bool false),D.own0 (.sl .nil [])]]) fun U1=>
   zb1 (α:=(Nat×Int×Int×PUnit)×List (List D)×List (List D)×PUnit) (fun again2 ((x3,(i4,(i5,_))),(U6,(U7,_)))=>
    brK (decide (i5 < i4))
     (getK U6 x3 fun d8=>
     getK d8 ((3:Nat)) fun d9=>
     zbi d9 fun l10=>
     zar (zdI [] [U7]) fun r11=>
     nilK r11.outs <|
     zd0 r11.tbs fun c12 q13=>
     nilK q13 <|
     sif (zjh r11.r=true) <|
     sif (zd9 (1:Nat) [r11.r]=true) <|
     getK U6 x3 fun d14=>
     getK d14 ((3:Nat)) fun d15=>
     zbi d15 fun l16=>
     sif (l10.length+1≤4294967296) <|
     sif (zd9 (1:Nat) [r11.r]=true) <|
     sif (l10.length=l16.length) <|
     letT (setT U6 x3 (3:Nat) D.undef) fun U17=>
     getK U17 x3 fun d18=>
     sif (4≤d18.length) <|
     sif (l10.length+1=List.length (l16++[r11.r])) <|
     sif (zdn (l16++[r11.r])=true) <|
     sif (zgg (1:Nat) (l16++[r11.r])=true) <|
     letT (za8 U17 x3 (3:Nat) [.sl .own (l16++[r11.r])]) fun U19=>
     letN (IntKind.i64.wrap (i5+1)) fun n20=>
     again2 (((x3,i4,n20,unit),U19,c12,unit)))
     (some (Ans.mk (.tup [.h (2496) x3 (0:Nat),.int .i64 0]) [] [U6,U7])))
    (((T0.length,a0,(0:Int),unit),U1,T1,unit))))
theorem zz5 (zdI:Zs) (a0:Int) (T0 T1:Tb):denS Tryz.prog (zaz [(ID.disk_New,(.st [] [0] [(8225,true)] zdI))]) zo0 [0,0] ID.bench_New [.int .i64 a0] [T0,T1]=znF zdI a0 T0 T1:=by kernel_rfl
theorem ztR (a0:Int) (T0 T1:Tb):zbD [.int .i64 a0] [T0,T1]=znF zdI a0 T0 T1:=zz5 zdI a0 T0 T1
def zgh:Ann:={ loops:=[] }
noncomputable def zaM:Zp:=denP Tryz.prog (zaz [(ID.wattleref01_Check,(.pure [0] zae))]) zgh [0] ID.wattleref01_Budget
theorem zjq:za1 Tryz.prog ID.wattleref01_Budget (.pure [0] zaM):=zam (zaC [zcQ]) zbm ⟨Tryz.f95,by kernel_rfl,by kernel_rfl,by kernel_rfl⟩
noncomputable def zfX:Fact Tryz.prog:=⟨ID.wattleref01_Budget,(.pure [0] zaM),zjq⟩
noncomputable def ze6 (zae:Zp) (a0_0 a0_1 a0_2:Int):Option D:=
 zar (zae [.agg [.int .i64 a0_0,.int .i64 a0_1,.int .i64 a0_2]]) fun r1=>
 asB r1 fun b2=>
 brK (!b2)
  (some (.int .i64 0))
  (letN (IntKind.i64.wrap (a0_0 - 4)) fun n3=>
  some (.int .i64 n3))
theorem zmK (zae:Zp) (a0_0 a0_1 a0_2:Int):denP Tryz.prog (zaz [(ID.wattleref01_Check,(.pure [0] zae))]) zgh [0] ID.wattleref01_Budget [.agg [.int .i64 a0_0,.int .i64 a0_1,.int .i64 a0_2]]=ze6 zae a0_0 a0_1 a0_2:=by kernel_rfl
theorem zj9 (a0_0 a0_1 a0_2:Int):zaM [.agg [.int .i64 a0_0,.int .i64 a0_1,.int .i64 a0_2]]=ze6 zae a0_0 a0_1 a0_2:=zmK zae a0_0 a0_1 a0_2
def zgR:Ann:={ loops:=[] }
noncomputable def zad:Zp:=denP Tryz.prog (zaz [(ID.wattleref01_Check,(.pure [0] zae)),(ID.wattleref01_Budget,(.pure [0] zaM))]) zgR [0] ID.wattleref01_Width
theorem zka:za1 Tryz.prog ID.wattleref01_Width (.pure [0] zad):=zam (zaC [zcQ,zfX]) zbm ⟨Tryz.f49,by kernel_rfl,by kernel_rfl,by kernel_rfl⟩
noncomputable def zcR:Fact Tryz.prog:=⟨ID.wattleref01_Width,(.pure [0] zad),zka⟩
noncomputable def zfw (zae zaM:Zp) (a0_0 a0_1 a0_2:Int):Option D:=
 zar (zae [.agg [.int .i64 a0_0,.int .i64 a0_1,.int .i64 a0_2]]) fun r1=>
 asB r1 fun b2=>
 brK (!b2)
  (some (.int .i64 0))
  (zar (zaM [.agg [.int .i64 a0_0,.int .i64 a0_1,.int .i64 a0_2]]) fun r3=>
  asI .i64 r3 fun i4=>
  letN (IntKind.i64.wrap (a0_1 - i4)) fun n5=>
  some (.int .i64 n5))
theorem znG (zae zaM:Zp) (a0_0 a0_1 a0_2:Int):denP Tryz.prog (zaz [(ID.wattleref01_Check,(.pure [0] zae)),(ID.wattleref01_Budget,(.pure [0] zaM))]) zgR [0] ID.wattleref01_Width [.agg [.int .i64 a0_0,.int .i64 a0_1,.int .i64 a0_2]]=zfw zae zaM a0_0 a0_1 a0_2:=by kernel_rfl
theorem zkS (a0_0 a0_1 a0_2:Int):zad [.agg [.int .i64 a0_0,.int .i64 a0_1,.int .i64 a0_2]]=zfw zae zaM a0_0 a0_1 a0_2:=znG zae zaM a0_0 a0_1 a0_2
def zgS:Ann:={ loops:=[(1,.val (.cell (.int .i64))::dd 2 (.own 1::dd 7 [.val (.cell (.int .i64)),.val (.cell (.int .i64))]))] }
noncomputable def zaw:Zp:=denP Tryz.prog (zaz [(ID.wattlekeep_Within,(.pure [0] zac))]) zgS [1] ID.wattleplay_Sector
theorem zkb:za1 Tryz.prog ID.wattleplay_Sector (.pure [1] zaw):=zam (zaC [zdA]) zbm ⟨Tryz.f13,by kernel_rfl,by kernel_rfl,by kernel_rfl⟩
noncomputable def zeu:Fact Tryz.prog:=⟨ID.wattleplay_Sector,(.pure [1] zaw),zkb⟩
noncomputable def zfx (zac:Zp) (a0:Int):Option D:=
 zar (zac [.int .i64 a0,.int .i64 11]) fun r1=>
 asI .i64 r1 fun i2=>
 brK (i2 == 10)
  (some (.sl .own [.int .u8 0,.int .u8 0,.int .u8 0,.int .u8 0,.int .u8 0,.int .u8 0,.int .u8 0,.int .u8 0,.int .u8 0,.int .u8 0,.int .u8 0,.int .u8 0,.int .u8 0,.int .u8 0,.int .u8 0,.int .u8 0,.int .u8 0,.int .u8 0,.int .u8 0,.int .u8 0,.int .u8 0,.int .u8 0,.int .u8 0,.int .u8 0,.int .u8 0,.int .u8 0,.int .u8 0,.int .u8 0,.int .u8 0,.int .u8 0,.int .u8 0,.int .u8 0]))
  (zb1 (α:=(Int×List D×Int×Int×PUnit)×PUnit) (fun again3 ((i4,(l5,(i6,(i7,_)))),_)=>
   brK (decide (i7 < i6))
    (letN (IntKind.i64.wrap (Int.tdiv i4 (7:Int))) fun n8=>
    letN (bits BinOp.or IntKind.i64 n8 (1:Int)) fun n9=>
    letN (IntKind.i64.wrap (i7*n9)) fun n10=>
    letN (IntKind.i64.wrap (i4+n10)) fun n11=>
    letN (IntKind.wrap IntKind.u8 n11) fun n12=>
    sif (0≤i7) <|
    sif (i7.toNat < l5.length) <|
    getK l5 (0+i7.toNat) fun d13=>
    sif (D.isAgg d13=false) <|
    letN (IntKind.i64.wrap (i7+1)) fun n14=>
    sif (l5.length=List.length (List.set l5 (0+i7.toNat) (D.int .u8 n12))) <|
    again3 (((i4,List.set l5 (0+i7.toNat) (.int .u8 n12),i6,n14,unit),unit)))
    (sif (l5.length=l5.length) <|
    sif (List.all l5 D.free=true) <|
    some (.sl .own l5)))
   (((a0,[.int .u8 0,.int .u8 0,.int .u8 0,.int .u8 0,.int .u8 0,.int .u8 0,.int .u8 0,.int .u8 0,.int .u8 0,.int .u8 0,.int .u8 0,.int .u8 0,.int .u8 0,.int .u8 0,.int .u8 0,.int .u8 0,.int .u8 0,.int .u8 0,.int .u8 0,.int .u8 0,.int .u8 0,.int .u8 0,.int .u8 0,.int .u8 0,.int .u8 0,.int .u8 0,.int .u8 0,.int .u8 0,.int .u8 0,.int .u8 0,.int .u8 0,.int .u8 0],(32:Int),(0:Int),unit),unit)))
theorem znH (zac:Zp) (a0:Int):denP Tryz.prog (zaz [(ID.wattlekeep_Within,(.pure [0] zac))]) zgS [1] ID.wattleplay_Sector [.int .i64 a0]=zfx zac a0:=by kernel_rfl
theorem zkT (a0:Int):zaw [.int .i64 a0]=zfx zac a0:=znH zac a0
def zgi:Ann:={ loops:=[(0,.val (.cell .lent)::.val (.cell (.int .i64))::dd 3 [.own 1,.val (.cell (.int .i64))])] }
noncomputable def zbn:Zp:=denP Tryz.prog (zaz [(ID.wattleplay_Sector,(.pure [1] zaw))]) zgi [1] ID.wattleplay_Sectors
theorem zjr:za1 Tryz.prog ID.wattleplay_Sectors (.pure [1] zbn):=zam (zaC [zeu]) zbm ⟨Tryz.f48,by kernel_rfl,by kernel_rfl,by kernel_rfl⟩
noncomputable def zkc:Fact Tryz.prog:=⟨ID.wattleplay_Sectors,(.pure [1] zbn),zjr⟩
noncomputable def ze7 (zaw:Zp) (a0:List D) (a1:Int):Option D:=
 zb1 (α:=(List D×Int×List D×Int×PUnit)×PUnit) (fun again1 ((l2,(i3,(l4,(i5,_)))),_)=>
  brK (decide (i5 < i3))
   (letN (IntKind.i64.wrap ((3:Int)*i5)) fun n6=>
   brK (decide (i5 < (↑(l2.length):Int)))
    (sif (0≤i5) <|
    getK l2 (i5.toNat) fun d7=>
    asI .i64 d7 fun i8=>
    zar (zaw [.int .i64 i8]) fun r9=>
    zbi r9 fun l10=>
    sif (0+l10.length≤l10.length) <|
    sif (l4.length+1≤4294967296) <|
    sif (l4.length=l4.length) <|
    letN (IntKind.i64.wrap (i5+1)) fun n11=>
    sif (l4.length+1=List.length (l4++[D.sl .fresh (cut 0 l10.length l10)])) <|
    again1 (((l2,i3,l4++[.sl .fresh (cut 0 l10.length l10)],n11,unit),unit)))
    (zar (zaw [.int .i64 n6]) fun r12=>
    zbi r12 fun l13=>
    sif (0+l13.length≤l13.length) <|
    sif (l4.length+1≤4294967296) <|
    sif (l4.length=l4.length) <|
    letN (IntKind.i64.wrap (i5+1)) fun n14=>
    sif (l4.length+1=List.length (l4++[D.sl .fresh (cut 0 l13.length l13)])) <|
    again1 (((l2,i3,l4++[.sl .fresh (cut 0 l13.length l13)],n14,unit),unit))))
   (sif (l4.length=l4.length) <|
   sif (List.all l4 D.free=true) <|
   some (.sl .own l4)))
  (((a0,a1,[],(0:Int),unit),unit))
theorem zmL (zaw:Zp) (tga0:Tag) (a0:List D) (a1:Int):denP Tryz.prog (zaz [(ID.wattleplay_Sector,(.pure [1] zaw))]) zgi [1] ID.wattleplay_Sectors [.sl tga0 a0,.int .i64 a1]=ze7 zaw (D.lentL a0) a1:=by kernel_rfl
theorem zkd (tga0:Tag) (a0:List D) (a1:Int):zbn [.sl tga0 a0,.int .i64 a1]=ze7 zaw (D.lentL a0) a1:=zmL zaw tga0 a0 a1
def zhc:Ann:={ loops:=[] }
noncomputable def zaB:Zp:=denP Tryz.prog (zaz [(ID.wattleref01_Check,(.pure [0] zae))]) zhc [0] ID.wattleref01_fine
theorem zkU:za1 Tryz.prog ID.wattleref01_fine (.pure [0] zaB):=zam (zaC [zcQ]) zbm ⟨Tryz.f59,by kernel_rfl,by kernel_rfl,by kernel_rfl⟩
noncomputable def zeM:Fact Tryz.prog:=⟨ID.wattleref01_fine,(.pure [0] zaB),zkU⟩
noncomputable def zfY (zae:Zp) (a0_0 a0_1 a0_2 a1:Int):Option D:=
 zar (zae [.agg [.int .i64 a0_0,.int .i64 a0_1,.int .i64 a0_2]]) fun r1=>
 asB r1 fun b2=>
 brK b2
  (brK (decide (a1≥0))
   (some (.bool (decide (a1 < 16))))
   (some (.bool false)))
  (some (.bool false))
theorem zo1 (zae:Zp) (a0_0 a0_1 a0_2 a1:Int):denP Tryz.prog (zaz [(ID.wattleref01_Check,(.pure [0] zae))]) zhc [0] ID.wattleref01_fine [.agg [.int .i64 a0_0,.int .i64 a0_1,.int .i64 a0_2],.int .i64 a1]=zfY zae a0_0 a0_1 a0_2 a1:=by kernel_rfl
theorem zlC (a0_0 a0_1 a0_2 a1:Int):zaB [.agg [.int .i64 a0_0,.int .i64 a0_1,.int .i64 a0_2],.int .i64 a1]=zfY zae a0_0 a0_1 a0_2 a1:=zo1 zae a0_0 a0_1 a0_2 a1
def zgj:Ann:={ loops:=[] }
noncomputable def zaK:Zp:=denP Tryz.prog (zaz [(ID.wattleref01_fine,(.pure [0] zaB))]) zgj [0,0] ID.wattleref01_Parity
theorem zjs:za1 Tryz.prog ID.wattleref01_Parity (.pure [0,0] zaK):=zam (zaC [zeM]) zbm ⟨Tryz.f91,by kernel_rfl,by kernel_rfl,by kernel_rfl⟩
noncomputable def zfZ:Fact Tryz.prog:=⟨ID.wattleref01_Parity,(.pure [0,0] zaK),zjs⟩
noncomputable def ze8 (zaB:Zp) (a0_0 a0_1 a0_2 a1:Int):Option D:=
 zar (zaB [.agg [.int .i64 a0_0,.int .i64 a0_1,.int .i64 a0_2],.int .i64 a1]) fun r1=>
 asB r1 fun b2=>
 brK (!b2)
  (some (.tup [.int .i64 (-1),.int .i64 (-1)]))
  (letN (IntKind.i64.wrap (a0_1 - 1)) fun n3=>
  sif (a0_2≠0) <|
  letN (IntKind.i64.wrap (Int.tdiv a1 a0_2)) fun n4=>
  sif (a0_1≠0) <|
  letN (Int.tmod n4 a0_1) fun n5=>
  letN (IntKind.i64.wrap (n3 - n5)) fun n6=>
  brK (a0_0 == 5)
   (some (.tup [.int .i64 n6,.int .i64 (-1)]))
   (letN (IntKind.i64.wrap (n6+1)) fun n7=>
   sif (a0_1≠0) <|
   letN (Int.tmod n7 a0_1) fun n8=>
   some (.tup [.int .i64 n6,.int .i64 n8])))
theorem zmM (zaB:Zp) (a0_0 a0_1 a0_2 a1:Int):denP Tryz.prog (zaz [(ID.wattleref01_fine,(.pure [0] zaB))]) zgj [0,0] ID.wattleref01_Parity [.agg [.int .i64 a0_0,.int .i64 a0_1,.int .i64 a0_2],.int .i64 a1]=ze8 zaB a0_0 a0_1 a0_2 a1:=by kernel_rfl
theorem zke (a0_0 a0_1 a0_2 a1:Int):zaK [.agg [.int .i64 a0_0,.int .i64 a0_1,.int .i64 a0_2],.int .i64 a1]=ze8 zaB a0_0 a0_1 a0_2 a1:=zmM zaB a0_0 a0_1 a0_2 a1
def zhd:Ann:={ loops:=[] }
noncomputable def zaU:Zp:=denP Tryz.prog (zaz [(ID.wattleref01_fine,(.pure [0] zaB)),(ID.wattleref01_Width,(.pure [0] zad)),(ID.wattleref01_Parity,(.pure [0,0] zaK)),(ID.wattleref01_Budget,(.pure [0] zaM))]) zhd [0] ID.wattleref01_Disk
theorem zkV:za1 Tryz.prog ID.wattleref01_Disk (.pure [0] zaU):=zam (zaC [zeM,zcR,zfZ,zfX]) zbm ⟨Tryz.f52,by kernel_rfl,by kernel_rfl,by kernel_rfl⟩
noncomputable def zgT:Fact Tryz.prog:=⟨ID.wattleref01_Disk,(.pure [0] zaU),zkV⟩
noncomputable def zf0 (zaB zad zaK zaM:Zp) (a0_0 a0_1 a0_2 a1 a2:Int):Option D:=
 zar (zaB [.agg [.int .i64 a0_0,.int .i64 a0_1,.int .i64 a0_2],.int .i64 a1]) fun r1=>
 asB r1 fun b2=>
 brK (!b2)
  (some (.int .i64 (-1)))
  (brK (decide (a2 < 0))
   (some (.int .i64 (-1)))
   (zar (zad [.agg [.int .i64 a0_0,.int .i64 a0_1,.int .i64 a0_2]]) fun r3=>
   asI .i64 r3 fun i4=>
   brK (decide (a2≥i4))
    (some (.int .i64 (-1)))
    (zar (zaK [.agg [.int .i64 a0_0,.int .i64 a0_1,.int .i64 a0_2],.int .i64 a1]) fun r5=>
    zej r5 fun ts6=>
    zay ([Lf.any,Lf.any]) ts6 fun c7=>
    asI .i64 c7.1 fun i8=>
    asI .i64 c7.2.1 fun i9=>
    zar (zaM [.agg [.int .i64 a0_0,.int .i64 a0_1,.int .i64 a0_2]]) fun r10=>
    asI .i64 r10 fun i11=>
    letN (IntKind.i64.wrap (i8+i11)) fun n12=>
    letN (IntKind.i64.wrap (n12+a2)) fun n13=>
    sif (a0_1≠0) <|
    letN (Int.tmod n13 a0_1) fun n14=>
    some (.int .i64 n14))))
theorem zo2 (zaB zad zaK zaM:Zp) (a0_0 a0_1 a0_2 a1 a2:Int):denP Tryz.prog (zaz [(ID.wattleref01_fine,(.pure [0] zaB)),(ID.wattleref01_Width,(.pure [0] zad)),(ID.wattleref01_Parity,(.pure [0,0] zaK)),(ID.wattleref01_Budget,(.pure [0] zaM))]) zhd [0] ID.wattleref01_Disk [.agg [.int .i64 a0_0,.int .i64 a0_1,.int .i64 a0_2],.int .i64 a1,.int .i64 a2]=zf0 zaB zad zaK zaM a0_0 a0_1 a0_2 a1 a2:=by kernel_rfl
theorem zlD (a0_0 a0_1 a0_2 a1 a2:Int):zaU [.agg [.int .i64 a0_0,.int .i64 a0_1,.int .i64 a0_2],.int .i64 a1,.int .i64 a2]=zf0 zaB zad zaK zaM a0_0 a0_1 a0_2 a1 a2:=zo2 zaB zad zaK zaM a0_0 a0_1 a0_2 a1 a2
def zgU:Ann:={ loops:=[(0,.val (.cell .lent)::dd 4 [.val (.cell .lent),.val (.cell (.int .i64)),.val (.cell (.int .i64))])] }
noncomputable def zaR:Zp:=denP Tryz.prog (zaz []) zgU [0] ID.wattleref01_alike
theorem zkf:za1 Tryz.prog ID.wattleref01_alike (.pure [0] zaR):=zam (zaC []) zbm ⟨Tryz.f126,by kernel_rfl,by kernel_rfl,by kernel_rfl⟩
noncomputable def zgk:Fact Tryz.prog:=⟨ID.wattleref01_alike,(.pure [0] zaR),zkf⟩
noncomputable def zfy (a0:List D):Option D:=
 zb1 (α:=(List D×List D×Int×Int×PUnit)×PUnit) (fun again1 ((l2,(l3,(i4,(i5,_)))),_)=>
  brK (decide (i5 < i4))
   (sif (0≤i5) <|
   getK l3 (i5.toNat) fun d6=>
   asSl d6 fun t7 l8=>
   getK l2 ((0:Nat)) fun d9=>
   asSl d9 fun t10 l11=>
   brK ((↑(l8.length):Int) != (↑(l11.length):Int))
    (some (.bool false))
    (letN (IntKind.i64.wrap (i5+1)) fun n12=>
    again1 (((l2,l3,i4,n12,unit),unit))))
   (some (.bool (decide ((↑(l2.length):Int) > 0)))))
  (((a0,a0,(↑(a0.length):Int),(0:Int),unit),unit))
theorem znI (tga0:Tag) (a0:List D):denP Tryz.prog (zaz []) zgU [0] ID.wattleref01_alike [.sl tga0 a0]=zfy (D.lentL a0):=by kernel_rfl
theorem zkW (tga0:Tag) (a0:List D):zaR [.sl tga0 a0]=zfy (D.lentL a0):=znI tga0 a0
def zjt:Ann:={ loops:=[(1,dd 3 (.own 1::dd 12 [.val (.cell .lent),.val (.cell (.int .i64)),.val (.cell (.int .i64))])),(3,dd 3 (.own 1::dd 12 (.val (.cell .lent)::.val (.cell (.int .i64))::.val (.cell (.int .i64))::dd 3 [.val (.cell .sl),.val (.cell (.int .i64)),.val (.cell (.int .i64))])))] }
noncomputable def zb2:Zp:=denP Tryz.prog (zaz [(ID.wattleref01_alike,(.pure [0] zaR))]) zjt [1] ID.wattleref01_P
theorem znJ:za1 Tryz.prog ID.wattleref01_P (.pure [1] zb2):=zam (zaC [zgk]) zbm ⟨Tryz.f92,by kernel_rfl,by kernel_rfl,by kernel_rfl⟩
noncomputable def zo3:Fact Tryz.prog:=⟨ID.wattleref01_P,(.pure [1] zb2),znJ⟩
noncomputable def zhU (zaR:Zp) (a0:List D):Option D:=
 zar (zaR [.sl .lent a0]) fun r1=>
 asB r1 fun b2=>
 brK (!b2)
  (some (.sl .own []))
  (getK a0 ((0:Nat)) fun d3=>
  asSl d3 fun t4 l5=>
  sif ((↑(l5.length):Int)=(↑(l5.length):Int)) <|
  sif ((↑(l5.length):Int)*1≤140737488355328) <|
  sif ((↑(l5.length):Int)≤140737488355328) <|
  sif (Int.toNat (↑(l5.length):Int)=List.length (List.replicate (Int.toNat (↑(l5.length):Int)) (D.int .u8 0))) <|
  zb1 (α:=(List D×List D×Int×Int×PUnit)×PUnit) (fun again6 ((l7,(l8,(i9,(i10,_)))),_)=>
   brK (decide (i10 < i9))
    (sif (0≤i10) <|
    getK l8 (i10.toNat) fun d11=>
    asSl d11 fun t12 l13=>
    sif (l7.length=l7.length) <|
    zb1 (α:=(List D×List D×Int×Int×(Tag×List D)×Int×Int×PUnit)×PUnit) (fun again14 ((l15,(l16,(i17,(i18,((t19,l20),(i21,(i22,_))))))),_)=>
     brK (decide (i22 < i21))
      (sif (0≤i22) <|
      getK l20 (i22.toNat) fun d23=>
      asI .u8 d23 fun i24=>
      sif (0≤i22) <|
      sif (i22.toNat < l15.length) <|
      getK l15 (0+i22.toNat) fun d25=>
      asI .u8 d25 fun i26=>
      letN (bits BinOp.xor IntKind.u8 i26 i24) fun n27=>
      sif (0≤i22) <|
      sif (i22.toNat < l15.length) <|
      getK l15 (0+i22.toNat) fun d28=>
      sif (D.isAgg d28=false) <|
      letN (IntKind.i64.wrap (i22+1)) fun n29=>
      sif (l15.length=List.length (List.set l15 (0+i22.toNat) (D.int .u8 n27))) <|
      again14 (((List.set l15 (0+i22.toNat) (.int .u8 n27),l16,i17,i18,(t19,l20),i21,n29,unit),unit)))
      (letN (IntKind.i64.wrap (i18+1)) fun n30=>
      sif (l15.length=l15.length) <|
      again6 (((l15,l16,i17,n30,unit),unit))))
     (((l7,l8,i9,i10,(t12,l13),(↑(l13.length):Int),(0:Int),unit),unit)))
    (sif (l7.length=l7.length) <|
    sif (List.all l7 D.free=true) <|
    some (.sl .own l7)))
   (((List.replicate (Int.toNat (↑(l5.length):Int)) (.int .u8 0),a0,(↑(a0.length):Int),(0:Int),unit),unit)))
theorem zsS (zaR:Zp) (tga0:Tag) (a0:List D):denP Tryz.prog (zaz [(ID.wattleref01_alike,(.pure [0] zaR))]) zjt [1] ID.wattleref01_P [.sl tga0 a0]=zhU zaR (D.lentL a0):=by kernel_rfl
theorem zo4 (tga0:Tag) (a0:List D):zb2 [.sl tga0 a0]=zhU zaR (D.lentL a0):=zsS zaR tga0 a0
def zhV:Ann:={ loops:=[(0,.dead::.val (.cell (.int .u8))::dd 3 [.val (.cell (.int .i64)),.val (.cell (.int .i64)),.val (.cell (.int .i64))])] }
noncomputable def zaY:Zp:=denP Tryz.prog (zaz []) zhV [0] ID.wattleref01_Mul
theorem zlE:za1 Tryz.prog ID.wattleref01_Mul (.pure [0] zaY):=zam (zaC []) zbm ⟨Tryz.f128,by kernel_rfl,by kernel_rfl,by kernel_rfl⟩
noncomputable def zhe:Fact Tryz.prog:=⟨ID.wattleref01_Mul,(.pure [0] zaY),zlE⟩
noncomputable def zgw (a0 a1:Int):Option D:=
 letN (IntKind.wrap IntKind.i64 a0) fun n1=>
 zb1 (α:=(Int×Int×Int×Int×PUnit)×PUnit) (fun again2 ((i3,(i4,(i5,(i6,_)))),_)=>
  brK (decide (i6 < 8))
   (letN (IntKind.wrap IntKind.u64 i6) fun n7=>
   sif (0≤n7) <|
   letN (Int.fdiv i3 ((2:Int) ^ min (n7.toNat) (8:Nat))) fun n8=>
   letN (bits BinOp.and IntKind.u8 n8 (1:Int)) fun n9=>
   brK (n9 == 1)
    (letN (bits BinOp.xor IntKind.i64 i5 i4) fun n10=>
    letN (IntKind.i64.wrap (i4*2)) fun n11=>
    brK (decide (n11 > 255))
     (letN (bits BinOp.xor IntKind.i64 n11 (285:Int)) fun n12=>
     letN (IntKind.i64.wrap (i6+1)) fun n13=>
     again2 (((i3,n12,n10,n13,unit),unit)))
     (letN (IntKind.i64.wrap (i6+1)) fun n14=>
     again2 (((i3,n11,n10,n14,unit),unit))))
    (letN (IntKind.i64.wrap (i4*2)) fun n15=>
    brK (decide (n15 > 255))
     (letN (bits BinOp.xor IntKind.i64 n15 (285:Int)) fun n16=>
     letN (IntKind.i64.wrap (i6+1)) fun n17=>
     again2 (((i3,n16,i5,n17,unit),unit)))
     (letN (IntKind.i64.wrap (i6+1)) fun n18=>
     again2 (((i3,n15,i5,n18,unit),unit)))))
   (letN (IntKind.wrap IntKind.u8 i5) fun n19=>
   some (.int .u8 n19)))
  (((a1,n1,(0:Int),(0:Int),unit),unit))
theorem zqc (a0 a1:Int):denP Tryz.prog (zaz []) zhV [0] ID.wattleref01_Mul [.int .u8 a0,.int .u8 a1]=zgw a0 a1:=by kernel_rfl
theorem zmN (a0 a1:Int):zaY [.int .u8 a0,.int .u8 a1]=zgw a0 a1:=zqc a0 a1
def zhW:Ann:={ loops:=[(1,[.val (.cell (.int .i64)),.dead,.dead,.val (.cell (.int .u8))])] }
noncomputable def zbJ:Zp:=denP Tryz.prog (zaz [(ID.wattleref01_Mul,(.pure [0] zaY))]) zhW [0] ID.wattleref01_Pow
theorem zlF:za1 Tryz.prog ID.wattleref01_Pow (.pure [0] zbJ):=zam (zaC [zhe]) zbm ⟨Tryz.f127,by kernel_rfl,by kernel_rfl,by kernel_rfl⟩
noncomputable def zmO:Fact Tryz.prog:=⟨ID.wattleref01_Pow,(.pure [0] zbJ),zlF⟩
noncomputable def zgx (zaY:Zp) (a0:Int):Option D:=
 letN (Int.tmod a0 (255:Int)) fun n1=>
 brK (decide (n1 < 0))
  (letN (IntKind.i64.wrap (n1+255)) fun n2=>
  zb1 (α:=(Int×Int×PUnit)×PUnit) (fun again3 ((i4,(i5,_)),_)=>
   brK (decide (i4 > 0))
    (zar (zaY [.int .u8 i5,.int .u8 2]) fun r6=>
    asI .u8 r6 fun i7=>
    letN (IntKind.i64.wrap (i4 - 1)) fun n8=>
    again3 (((n8,i7,unit),unit)))
    (some (.int .u8 i5)))
   (((n2,(1:Int),unit),unit)))
  (zb1 (α:=(Int×Int×PUnit)×PUnit) (fun again9 ((i10,(i11,_)),_)=>
   brK (decide (i10 > 0))
    (zar (zaY [.int .u8 i11,.int .u8 2]) fun r12=>
    asI .u8 r12 fun i13=>
    letN (IntKind.i64.wrap (i10 - 1)) fun n14=>
    again9 (((n14,i13,unit),unit)))
    (some (.int .u8 i11)))
   (((n1,(1:Int),unit),unit)))
theorem zqd (zaY:Zp) (a0:Int):denP Tryz.prog (zaz [(ID.wattleref01_Mul,(.pure [0] zaY))]) zhW [0] ID.wattleref01_Pow [.int .i64 a0]=zgx zaY a0:=by kernel_rfl
theorem zmP (a0:Int):zbJ [.int .i64 a0]=zgx zaY a0:=zqd zaY a0
def zju:Ann:={ loops:=[(1,dd 3 (.own 1::dd 13 [.val (.cell .lent),.val (.cell (.int .i64)),.val (.cell (.int .i64))])),(3,dd 3 (.own 1::dd 2 (.val (.cell (.int .u8))::dd 10 (.val (.cell .lent)::.val (.cell (.int .i64))::.val (.cell (.int .i64))::dd 6 [.val (.cell .sl),.val (.cell (.int .i64)),.val (.cell (.int .i64))]))))] }
noncomputable def zb3:Zp:=denP Tryz.prog (zaz [(ID.wattleref01_alike,(.pure [0] zaR)),(ID.wattleref01_Pow,(.pure [0] zbJ)),(ID.wattleref01_Mul,(.pure [0] zaY))]) zju [1] ID.wattleref01_Q
theorem znK:za1 Tryz.prog ID.wattleref01_Q (.pure [1] zb3):=zam (zaC [zgk,zmO,zhe]) zbm ⟨Tryz.f93,by kernel_rfl,by kernel_rfl,by kernel_rfl⟩
noncomputable def zo5:Fact Tryz.prog:=⟨ID.wattleref01_Q,(.pure [1] zb3),znK⟩
noncomputable def zhX (zaR zbJ zaY:Zp) (a0:List D):Option D:=
 zar (zaR [.sl .lent a0]) fun r1=>
 asB r1 fun b2=>
 brK (!b2)
  (some (.sl .own []))
  (getK a0 ((0:Nat)) fun d3=>
  asSl d3 fun t4 l5=>
  sif ((↑(l5.length):Int)=(↑(l5.length):Int)) <|
  sif ((↑(l5.length):Int)*1≤140737488355328) <|
  sif ((↑(l5.length):Int)≤140737488355328) <|
  sif (Int.toNat (↑(l5.length):Int)=List.length (List.replicate (Int.toNat (↑(l5.length):Int)) (D.int .u8 0))) <|
  zb1 (α:=(List D×List D×Int×Int×PUnit)×PUnit) (fun again6 ((l7,(l8,(i9,(i10,_)))),_)=>
   brK (decide (i10 < i9))
    (sif (0≤i10) <|
    getK l8 (i10.toNat) fun d11=>
    asSl d11 fun t12 l13=>
    zar (zbJ [.int .i64 i10]) fun r14=>
    asI .u8 r14 fun i15=>
    sif (l7.length=l7.length) <|
    zb1 (α:=(List D×Int×List D×Int×Int×(Tag×List D)×Int×Int×PUnit)×PUnit) (fun again16 ((l17,(i18,(l19,(i20,(i21,((t22,l23),(i24,(i25,_)))))))),_)=>
     brK (decide (i25 < i24))
      (sif (0≤i25) <|
      getK l23 (i25.toNat) fun d26=>
      asI .u8 d26 fun i27=>
      sif (0≤i25) <|
      sif (i25.toNat < l17.length) <|
      getK l17 (0+i25.toNat) fun d28=>
      asI .u8 d28 fun i29=>
      zar (zaY [.int .u8 i27,.int .u8 i18]) fun r30=>
      asI .u8 r30 fun i31=>
      letN (bits BinOp.xor IntKind.u8 i29 i31) fun n32=>
      sif (0≤i25) <|
      sif (i25.toNat < l17.length) <|
      getK l17 (0+i25.toNat) fun d33=>
      sif (D.isAgg d33=false) <|
      letN (IntKind.i64.wrap (i25+1)) fun n34=>
      sif (l17.length=List.length (List.set l17 (0+i25.toNat) (D.int .u8 n32))) <|
      again16 (((List.set l17 (0+i25.toNat) (.int .u8 n32),i18,l19,i20,i21,(t22,l23),i24,n34,unit),unit)))
      (letN (IntKind.i64.wrap (i21+1)) fun n35=>
      sif (l17.length=l17.length) <|
      again6 (((l17,l19,i20,n35,unit),unit))))
     (((l7,i15,l8,i9,i10,(t12,l13),(↑(l13.length):Int),(0:Int),unit),unit)))
    (sif (l7.length=l7.length) <|
    sif (List.all l7 D.free=true) <|
    some (.sl .own l7)))
   (((List.replicate (Int.toNat (↑(l5.length):Int)) (.int .u8 0),a0,(↑(a0.length):Int),(0:Int),unit),unit)))
theorem zsT (zaR zbJ zaY:Zp) (tga0:Tag) (a0:List D):denP Tryz.prog (zaz [(ID.wattleref01_alike,(.pure [0] zaR)),(ID.wattleref01_Pow,(.pure [0] zbJ)),(ID.wattleref01_Mul,(.pure [0] zaY))]) zju [1] ID.wattleref01_Q [.sl tga0 a0]=zhX zaR zbJ zaY (D.lentL a0):=by kernel_rfl
theorem zo6 (tga0:Tag) (a0:List D):zb3 [.sl tga0 a0]=zhX zaR zbJ zaY (D.lentL a0):=zsT zaR zbJ zaY tga0 a0
def zhf:Ann:={ loops:=[(1,.dead::.val (.cell (.int .i64))::.val (.cell .lent)::.box true [(.int .i64),(.int .i64),(.int .i64)]::dd 4 (.own 1::dd 18 [.val (.cell .lent),.val (.cell (.int .i64)),.val (.cell (.int .i64))]))] }
noncomputable def zbA:Zp:=denP Tryz.prog (zaz [(ID.wattleref01_fine,(.pure [0] zaB)),(ID.wattleref01_Width,(.pure [0] zad)),(ID.wattleref01_Disk,(.pure [0] zaU)),(ID.wattleref01_Parity,(.pure [0,0] zaK)),(ID.wattleref01_P,(.pure [1] zb2)),(ID.wattleref01_Q,(.pure [1] zb3))]) zhf [1,0] ID.wattleref01_Fill
theorem zkX:za1 Tryz.prog ID.wattleref01_Fill (.pure [1,0] zbA):=zam (zaC [zeM,zcR,zgT,zfZ,zo3,zo5]) zbm ⟨Tryz.f43,by kernel_rfl,by kernel_rfl,by kernel_rfl⟩
noncomputable def zlG:Fact Tryz.prog:=⟨ID.wattleref01_Fill,(.pure [1,0] zbA),zkX⟩
noncomputable def zf1 (zaB zad zaU zaK zb2 zb3:Zp) (a0_0 a0_1 a0_2 a1:Int) (a2:List D):Option D:=
 zar (zaB [.agg [.int .i64 a0_0,.int .i64 a0_1,.int .i64 a0_2],.int .i64 a1]) fun r1=>
 asB r1 fun b2=>
 brK (!b2)
  (some (.tup [.sl .own [],.bool false]))
  (zar (zad [.agg [.int .i64 a0_0,.int .i64 a0_1,.int .i64 a0_2]]) fun r3=>
  asI .i64 r3 fun i4=>
  brK ((↑(a2.length):Int) != i4)
   (some (.tup [.sl .own [],.bool false]))
   (sif (0≤a0_1) <|
   sif (a0_1=a0_1) <|
   sif (a0_1*24≤140737488355328) <|
   sif (a0_1≤140737488355328) <|
   sif (a0_1.toNat=List.length (List.replicate (a0_1.toNat) (D.sl .nil []))) <|
   zb1 (α:=(Int×List D×(Int×Int×Int×PUnit)×List D×List D×Int×Int×PUnit)×PUnit) (fun again5 ((i6,(l7,((i8,(i9,(i10,_))),(l11,(l12,(i13,(i14,_))))))),_)=>
    brK (decide (i14 < i13))
     (sif (0≤i14) <|
     getK l12 (i14.toNat) fun d15=>
     asSl d15 fun t16 l17=>
     brK ((↑(l17.length):Int) != 32)
      (some (.tup [.sl .own [],.bool false]))
      (zar (zaU [.agg [.int .i64 i8,.int .i64 i9,.int .i64 i10],.int .i64 i6,.int .i64 i14]) fun r18=>
      asI .i64 r18 fun i19=>
      sif (l17.length≤4294967296) <|
      sif (zd9 (1:Nat) l17=true) <|
      sif (0≤i19) <|
      sif (i19.toNat < l11.length) <|
      sif (0+l17.length≤l17.length) <|
      getK l11 (0+i19.toNat) fun d20=>
      sif (0+l17.length≤l17.length) <|
      sif (D.isAgg d20=false) <|
      letN (IntKind.i64.wrap (i14+1)) fun n21=>
      sif (l11.length=List.length (List.set l11 (0+i19.toNat) (D.sl .fresh (cut 0 l17.length l17)))) <|
      again5 (((i6,l7,(i8,i9,i10,unit),List.set l11 (0+i19.toNat) (.sl .fresh (cut 0 l17.length l17)),l12,i13,n21,unit),unit))))
     (zar (zaK [.agg [.int .i64 i8,.int .i64 i9,.int .i64 i10],.int .i64 i6]) fun r22=>
     zej r22 fun ts23=>
     zay ([Lf.any,Lf.any]) ts23 fun c24=>
     asI .i64 c24.1 fun i25=>
     asI .i64 c24.2.1 fun i26=>
     zar (zb2 [.sl .lent l7]) fun r27=>
     zbi r27 fun l28=>
     sif (0≤i25) <|
     sif (i25.toNat < l11.length) <|
     sif (0+l28.length≤l28.length) <|
     getK l11 (0+i25.toNat) fun d29=>
     sif (0+l28.length≤l28.length) <|
     sif (D.isAgg d29=false) <|
     brK (decide (i26≥0))
      (zar (zb3 [.sl .lent l7]) fun r30=>
      zbi r30 fun l31=>
      sif (0≤i26) <|
      sif (i26.toNat < l11.length) <|
      sif (0+l31.length≤l31.length) <|
      getK (List.set l11 (0+i25.toNat) (.sl .fresh (cut 0 l28.length l28))) (0+i26.toNat) fun d32=>
      sif (0+l31.length≤l31.length) <|
      sif (D.isAgg d32=false) <|
      sif (l11.length=List.length (List.set (List.set l11 (0+i25.toNat) (D.sl .fresh (cut 0 l28.length l28))) (0+i26.toNat) (D.sl .fresh (cut 0 l31.length l31)))) <|
      sif (List.all (List.set (List.set l11 (0+i25.toNat) (D.sl .fresh (cut 0 l28.length l28))) (0+i26.toNat) (D.sl .fresh (cut 0 l31.length l31))) D.free=true) <|
      some (.tup [.sl .own (List.set (List.set l11 (0+i25.toNat) (.sl .fresh (cut 0 l28.length l28))) (0+i26.toNat) (.sl .fresh (cut 0 l31.length l31))),.bool true]))
      (sif (l11.length=List.length (List.set l11 (0+i25.toNat) (.sl .fresh (cut 0 l28.length l28)))) <|
      sif (List.all (List.set l11 (0+i25.toNat) (D.sl .fresh (cut 0 l28.length l28))) D.free=true) <|
      some (.tup [.sl .own (List.set l11 (0+i25.toNat) (.sl .fresh (cut 0 l28.length l28))),.bool true]))))
    (((a1,a2,(a0_0,a0_1,a0_2,unit),List.replicate (a0_1.toNat) (.sl .nil []),a2,(↑(a2.length):Int),(0:Int),unit),unit))))
theorem zo7 (zaB zad zaU zaK zb2 zb3:Zp) (tga2:Tag) (a0_0 a0_1 a0_2 a1:Int) (a2:List D):denP Tryz.prog (zaz [(ID.wattleref01_fine,(.pure [0] zaB)),(ID.wattleref01_Width,(.pure [0] zad)),(ID.wattleref01_Disk,(.pure [0] zaU)),(ID.wattleref01_Parity,(.pure [0,0] zaK)),(ID.wattleref01_P,(.pure [1] zb2)),(ID.wattleref01_Q,(.pure [1] zb3))]) zhf [1,0] ID.wattleref01_Fill [.agg [.int .i64 a0_0,.int .i64 a0_1,.int .i64 a0_2],.int .i64 a1,.sl tga2 a2]=zf1 zaB zad zaU zaK zb2 zb3 a0_0 a0_1 a0_2 a1 (D.lentL a2):=by kernel_rfl
theorem zlH (tga2:Tag) (a0_0 a0_1 a0_2 a1:Int) (a2:List D):zbA [.agg [.int .i64 a0_0,.int .i64 a0_1,.int .i64 a0_2],.int .i64 a1,.sl tga2 a2]=zf1 zaB zad zaU zaK zb2 zb3 a0_0 a0_1 a0_2 a1 (D.lentL a2):=zo7 zaB zad zaU zaK zb2 zb3 tga2 a0_0 a0_1 a0_2 a1 a2
def ziE:Ann:={ loops:=[],ks:=[(2496,false)] }
noncomputable def zau:Zs:=denS Tryz.prog (zaz []) ziE [0] ID.bench_Bench_is
theorem zmQ:za1 Tryz.prog ID.bench_Bench_is (.st [] [0] [(2496,false)] zau):=zbg (zaC []) zbm ⟨Tryz.f74,by kernel_rfl,by kernel_rfl,by kernel_rfl⟩
noncomputable def zfz:Fact Tryz.prog:=⟨ID.bench_Bench_is,(.st [] [0] [(2496,false)] zau),zmQ⟩
noncomputable def zg1 (a0:Nat) (a1:Int) (T0:Tb):Option Ans:=
 brK (decide (a1≥0))
  (getK T0 a0 fun d1=>
  getK d1 ((3:Nat)) fun d2=>
  zbi d2 fun l3=>
  getK T0 a0 fun d4=>
  getK d4 ((3:Nat)) fun d5=>
  zbi d5 fun l6=>
  sif (0+l3.length≤l6.length) <|
  some (Ans.mk (.bool (decide (a1 < (↑(l3.length):Int)))) [] []))
  (some (Ans.mk (.bool false) [] []))
theorem zrh (a0:Nat) (a1:Int) (T0:Tb):denS Tryz.prog (zaz []) ziE [0] ID.bench_Bench_is [.h 2496 a0 0,.int .i64 a1] [T0]=zg1 a0 a1 T0:=by kernel_rfl
theorem znL (a0:Nat) (a1:Int) (T0:Tb):zau [.h 2496 a0 0,.int .i64 a1] [T0]=zg1 a0 a1 T0:=zrh a0 a1 T0
def zjv:Ann:={ loops:=[],ks:=[(8225,false)] }
noncomputable def za6:Zs:=denS Tryz.prog (zaz []) zjv [0] ID.disk_Disk_may
theorem znM:za1 Tryz.prog ID.disk_Disk_may (.st [] [0] [(8225,false)] za6):=zbg (zaC []) zbm ⟨Tryz.f98,by kernel_rfl,by kernel_rfl,by kernel_rfl⟩
noncomputable def ziF:Fact Tryz.prog:=⟨ID.disk_Disk_may,(.st [] [0] [(8225,false)] za6),znM⟩
noncomputable def zhY (a0:Nat) (a1:Int) (T0:Tb):Option Ans:=
 getK T0 a0 fun d1=>
 getK d1 ((1665:Nat)) fun d2=>
 asB d2 fun b3=>
 brK b3
  (some (Ans.mk (.int .i64 5) [] []))
  (brK (decide (a1 < 0))
   (some (Ans.mk (.int .i64 4) [] []))
   (brK (decide (a1≥52))
    (some (Ans.mk (.int .i64 4) [] []))
    (some (Ans.mk (.int .i64 0) [] []))))
theorem zsU (a0:Nat) (a1:Int) (T0:Tb):denS Tryz.prog (zaz []) zjv [0] ID.disk_Disk_may [.h 8225 a0 0,.int .i64 a1] [T0]=zhY a0 a1 T0:=by kernel_rfl
theorem zo8 (a0:Nat) (a1:Int) (T0:Tb):za6 [.h 8225 a0 0,.int .i64 a1] [T0]=zhY a0 a1 T0:=zsU a0 a1 T0
def zjw:Ann:={ loops:=[],ks:=[(8225,false)] }
noncomputable def za7:Zs:=denS Tryz.prog (zaz [(ID.disk_Disk_may,(.st [] [0] [(8225,false)] za6))]) zjw [0,0] ID.disk_Disk_put
theorem znN:za1 Tryz.prog ID.disk_Disk_put (.st [] [0,0] [(8225,false)] za7):=zbg (zaC [ziF]) zbm ⟨Tryz.f129,by kernel_rfl,by kernel_rfl,by kernel_rfl⟩
noncomputable def ziG:Fact Tryz.prog:=⟨ID.disk_Disk_put,(.st [] [0,0] [(8225,false)] za7),znN⟩
noncomputable def zhZ (za6:Zs) (a0:Nat) (a1:Int) (a2:List D) (T0:Tb):Option Ans:=
 zar (za6 [.h 8225 a0 0,.int .i64 a1] [T0]) fun r1=>
 nilK r1.outs <|
 nilK r1.tbs <|
 asI .i64 r1.r fun i2=>
 brK (i2 != 0)
  (some (Ans.mk (.tup [.agg [.int .i64 0,.int .u8 0,.int .u8 0,.int .u8 0,.int .u8 0,.int .u8 0,.int .u8 0,.int .u8 0,.int .u8 0,.int .u8 0,.int .u8 0,.int .u8 0,.int .u8 0,.int .u8 0,.int .u8 0,.int .u8 0,.int .u8 0,.int .u8 0,.int .u8 0,.int .u8 0,.int .u8 0,.int .u8 0,.int .u8 0,.int .u8 0,.int .u8 0,.int .u8 0,.int .u8 0,.int .u8 0,.int .u8 0,.int .u8 0,.int .u8 0,.int .u8 0,.int .u8 0],.int .i64 i2]) [] []))
  (brK ((↑(a2.length):Int) != 32)
   (some (Ans.mk (.tup [.agg [.int .i64 0,.int .u8 0,.int .u8 0,.int .u8 0,.int .u8 0,.int .u8 0,.int .u8 0,.int .u8 0,.int .u8 0,.int .u8 0,.int .u8 0,.int .u8 0,.int .u8 0,.int .u8 0,.int .u8 0,.int .u8 0,.int .u8 0,.int .u8 0,.int .u8 0,.int .u8 0,.int .u8 0,.int .u8 0,.int .u8 0,.int .u8 0,.int .u8 0,.int .u8 0,.int .u8 0,.int .u8 0,.int .u8 0,.int .u8 0,.int .u8 0,.int .u8 0,.int .u8 0],.int .i64 1]) [] []))
   (sif (cells a2=true) <|
   sif (a2.length=(32:Nat)) <|
   sif (33≤List.length ([D.int .i64 a1]++(a2++[]))) <|
   zay ([Lf.int .i64,Lf.arr (32)]) (List.take (33:Nat) (List.drop (0:Nat) ([.int .i64 a1]++(a2++[])))) fun c3=>
   sif (List.length ([D.int .i64 c3.1]++(c3.2.1++[]))=(33:Nat)) <|
   sif (33≤List.length ([D.int .i64 c3.1]++(c3.2.1++[]))) <|
   zay ([Lf.int .i64,Lf.arr (32)]) (List.take (33:Nat) (List.drop (0:Nat) ([.int .i64 c3.1]++(c3.2.1++[])))) fun c4=>
   sif (D.free (D.agg ([D.int .i64 c4.1]++(c4.2.1++[])))=true) <|
   some (Ans.mk (.tup [.agg ([.int .i64 c4.1]++(c4.2.1++[])),.int .i64 0]) [] [])))
theorem zsV (za6:Zs) (tga2:Tag) (a0:Nat) (a1:Int) (a2:List D) (T0:Tb):denS Tryz.prog (zaz [(ID.disk_Disk_may,(.st [] [0] [(8225,false)] za6))]) zjw [0,0] ID.disk_Disk_put [.h 8225 a0 0,.int .i64 a1,.sl tga2 a2] [T0]=zhZ za6 a0 a1 (D.lentL a2) T0:=by kernel_rfl
theorem zo9 (tga2:Tag) (a0:Nat) (a1:Int) (a2:List D) (T0:Tb):za7 [.h 8225 a0 0,.int .i64 a1,.sl tga2 a2] [T0]=zhZ za6 a0 a1 (D.lentL a2) T0:=zsV za6 tga2 a0 a1 a2 T0
def zc9:Ann:={ loops:=[] }
noncomputable def zaf:Zp:=denE Tryz.prog (zaz []) zc9 [33] ID.slices_Clone_disk_write_disk_write
theorem zeA:za1 Tryz.prog ID.slices_Clone_disk_write_disk_write (.pure [33] zaf):=zu0 (zaC []) zbm ⟨Tryz.f97,by kernel_rfl,by kernel_rfl,by kernel_rfl⟩
noncomputable def zc2:Fact Tryz.prog:=⟨ID.slices_Clone_disk_write_disk_write,(.pure [33] zaf),zeA⟩
noncomputable def zcu (a0:D) (b0:List D):Option D:=
 sif (List.length (a0::b0)≤4294967296) <|
 sif (zd9 (33:Nat) (a0::b0)=true) <|
 sif (List.length (a0::b0)=List.length (a0::b0)) <|
 sif (List.all (a0::b0) D.free=true) <|
 some (.sl .own (a0::b0))
theorem zfk (tga0:Tag) (a0:D) (b0:List D):denE Tryz.prog (zaz []) zc9 [33] ID.slices_Clone_disk_write_disk_write [.sl tga0 (a0::b0)]=zcu (D.lent a0) (D.lentL b0):=by kernel_rfl
theorem zeN (tga0:Tag) (a0:D) (b0:List D):zaf [.sl tga0 (a0::b0)]=zcu (D.lent a0) (D.lentL b0):=zfk tga0 a0 b0
theorem zeB (tg:Tag):zaf [.sl tg []]=some (.sl .own []):=(zq1 (some (.sl .own [])))
def zgl:Ann:={ loops:=[],hints:=[(1,.at1 (.int .i64))] }
noncomputable def zaQ:Zp:=denP Tryz.prog (zaz []) zgl [0] ID.disk_Disk_Damage_1
theorem zjx:za1 Tryz.prog ID.disk_Disk_Damage_1 (.pure [0] zaQ):=zam (zaC []) zbm ⟨Tryz.f131,by kernel_rfl,by kernel_rfl,by kernel_rfl⟩
noncomputable def zf2:Fact Tryz.prog:=⟨ID.disk_Disk_Damage_1,(.pure [0] zaQ),zjx⟩
noncomputable def ze9 (a0:List D) (c0:Int):Option D:=
 zay ([Lf.int .i64,Lf.arr (32)]) a0 fun c1=>
 some (.bool (c1.1 == c0))
theorem zmR (a0:List D) (c0:Int):denP Tryz.prog (zaz []) zgl [0] ID.disk_Disk_Damage_1 [.agg a0,.at_ (.int .i64 c0)]=ze9 (List.map D.lnt1 a0) c0:=by kernel_rfl
theorem zkg (a0:List D) (c0:Int):zaQ [.agg a0,.at_ (.int .i64 c0)]=ze9 (List.map D.lnt1 a0) c0:=zmR a0 c0
def zcM:Ann:={ loops:=[(0,.val (.cell .lent)::.val (.fn1 (131:FuncId) (.int .i64))::dd 5 [.val (.cell (.int .i64)),.val (.cell (.int .i64))])] }
noncomputable def zav:Zp:=denP Tryz.prog (zaz [(ID.disk_Disk_Damage_1,(.pure [0] zaQ))]) zcM [0] ID.slices_IndexFunc_disk_write_disk_write
theorem zea:za1 Tryz.prog ID.slices_IndexFunc_disk_write_disk_write (.pure [0] zav):=zam (zaC [zf2]) zbm ⟨Tryz.f152,by kernel_rfl,by kernel_rfl,by kernel_rfl⟩
noncomputable def zef:Fact Tryz.prog:=⟨ID.slices_IndexFunc_disk_write_disk_write,(.pure [0] zav),zea⟩
noncomputable def zbO (zaQ:Zp) (a0:List D) (c0:Int):Option D:=
 zb1 (α:=(List D×Int×Int×Int×PUnit)×PUnit) (fun again1 ((l2,(i3,(i4,(i5,_)))),_)=>
  brK (decide (i5 < i4))
   (sif (0≤i5) <|
   getK l2 (i5.toNat) fun d6=>
   asAgg d6 fun cs7=>
   zay ([Lf.int .i64,Lf.arr (32)]) cs7 fun c8=>
   sif (D.width (D.agg ([D.int .i64 c8.1]++(c8.2.1++[])))=(33:Nat)) <|
   zay ([Lf.int .i64,Lf.arr (32)]) ([.int .i64 c8.1]++(c8.2.1++[])) fun c9=>
   sif (D.width (D.agg ([D.int .i64 c9.1]++(c9.2.1++[])))=(33:Nat)) <|
   zar (zaQ [.agg ([.int .i64 c9.1]++(c9.2.1++[])),D.at_ (.int .i64 i3)]) fun r10=>
   asB r10 fun b11=>
   brK b11
    (some (.int .i64 i5))
    (letN (IntKind.i64.wrap (i5+1)) fun n12=>
    again1 (((l2,i3,i4,n12,unit),unit))))
   (some (.int .i64 (-1))))
  (((a0,c0,(↑(a0.length):Int),(0:Int),unit),unit))
theorem zdM (zaQ:Zp) (tga0:Tag) (a0:List D) (c0:Int):denP Tryz.prog (zaz [(ID.disk_Disk_Damage_1,(.pure [0] zaQ))]) zcM [0] ID.slices_IndexFunc_disk_write_disk_write [.sl tga0 a0,.fn 131 [] [.at_ (.int .i64 c0)]]=zbO zaQ (D.lentL a0) c0:=by kernel_rfl
theorem zdx (tga0:Tag) (a0:List D) (c0:Int):zav [.sl tga0 a0,.fn 131 [] [.at_ (.int .i64 c0)]]=zbO zaQ (D.lentL a0) c0:=zdM zaQ tga0 a0 c0
def zcJ:Ann:={ loops:=[(1,.own 33::.val (.fn1 (131:FuncId) (.int .i64))::dd 3 [.val (.cell (.int .i64)),.val (.cell (.int .i64))])],pms:=[(.own,33)] }
noncomputable def zas:Zs:=denS Tryz.prog (zaz [(ID.slices_IndexFunc_disk_write_disk_write,(.pure [0] zav)),(ID.disk_Disk_Damage_1,(.pure [0] zaQ))]) zcJ [33] ID.slices_DeleteFunc_disk_write_disk_write
theorem zd2:za1 Tryz.prog ID.slices_DeleteFunc_disk_write_disk_write (.st [(.own,33)] [33] [] zas):=zbg (zaC [zef,zf2]) zbm ⟨Tryz.f130,by kernel_rfl,by kernel_rfl,by kernel_rfl⟩
noncomputable def zeb:Fact Tryz.prog:=⟨ID.slices_DeleteFunc_disk_write_disk_write,(.st [(.own,33)] [33] [] zas),zd2⟩
noncomputable def zbG (zav zaQ:Zp) (a0:List D) (c0:Int):Option Ans:=
 sif (0+a0.length≤a0.length) <|
 zar (zav [.sl .lent (cut 0 a0.length a0),.fn (131:FuncId) [] [D.at_ (.int .i64 c0)]]) fun r1=>
 asI .i64 r1 fun i2=>
 brK (i2 == (-1:Int))
  (sif (a0.length=a0.length) <|
  sif (List.all a0 D.free=true) <|
  some (Ans.mk (.sl .own a0) [] []))
  (letN (IntKind.i64.wrap (i2+1)) fun n3=>
  none)
theorem zdG (zav zaQ:Zp) (a0:List D) (c0:Int):denS Tryz.prog (zaz [(ID.slices_IndexFunc_disk_write_disk_write,(.pure [0] zav)),(ID.disk_Disk_Damage_1,(.pure [0] zaQ))]) zcJ [33] ID.slices_DeleteFunc_disk_write_disk_write [.sl .own a0,.fn 131 [] [.at_ (.int .i64 c0)]] []=zbG zav zaQ a0 c0:=by kernel_rfl
theorem zdu (a0:List D) (c0:Int):zas [.sl .own a0,.fn 131 [] [.at_ (.int .i64 c0)]] []=zbG zav zaQ a0 c0:=zdG zav zaQ a0 c0
def zhg:Ann:={ loops:=[],ks:=[(8225,true)] }
noncomputable def zbB:Zs:=denS Tryz.prog (zaz [(ID.disk_Disk_put,(.st [] [0,0] [(8225,false)] za7)),(ID.slices_Clone_disk_write_disk_write,(.pure [33] zaf)),(ID.slices_DeleteFunc_disk_write_disk_write,(.st [(.own,33)] [33] [] zas))]) zhg [0] ID.disk_Disk_Damage
theorem zkY:za1 Tryz.prog ID.disk_Disk_Damage (.st [] [0] [(8225,true)] zbB):=zbg (zaC [ziG,zc2,zeb]) zbm ⟨Tryz.f96,by kernel_rfl,by kernel_rfl,by kernel_rfl⟩
noncomputable def zlI:Fact Tryz.prog:=⟨ID.disk_Disk_Damage,(.st [] [0] [(8225,true)] zbB),zkY⟩
noncomputable def zf3 (za7:Zs) (zaf:Zp) (zas:Zs) (a0:Nat) (a1:Int) (a2:List D) (T0:Tb):Option Ans:=
 zar (za7 [.h 8225 a0 0,.int .i64 a1,.sl .lent a2] [T0]) fun r1=>
 nilK r1.outs <|
 nilK r1.tbs <|
 zej r1.r fun ts2=>
 zay ([Lf.any,Lf.any]) ts2 fun c3=>
 asAgg c3.1 fun cs4=>
 zay ([Lf.int .i64,Lf.arr (32)]) cs4 fun c5=>
 asI .i64 c3.2.1 fun i6=>
 sif (List.length ([D.int .i64 c5.1]++(c5.2.1++[]))=(33:Nat)) <|
 brK (i6 != 0)
  (some (Ans.mk (.int .i64 i6) [] [T0]))
  (sif (33≤List.length ([.int .i64 c5.1]++(c5.2.1++[]))) <|
  sif (List.length (List.take (32:Nat) (List.drop (1:Nat) ([D.int .i64 c5.1]++(c5.2.1++[]))))=(32:Nat)) <|
  sif (0≤a1) <|
  sif (a1.toNat < 52) <|
  getK T0 a0 fun d7=>
  sif (0+a1.toNat*32+32≤d7.length) <|
  sif (List.length (List.take (32:Nat) (List.drop (1:Nat) ([D.int .i64 c5.1]++(c5.2.1++[]))))=(32:Nat)) <|
  sif (zhO (List.take (32:Nat) (List.drop (1:Nat) ([D.int .i64 c5.1]++(c5.2.1++[]))))=true) <|
  sif (zhO (List.take (32:Nat) (List.drop (0+a1.toNat*32) d7))=true) <|
  letT (za8 T0 a0 (0+a1.toNat*32) (List.take (32:Nat) (List.drop (1:Nat) ([.int .i64 c5.1]++(c5.2.1++[]))))) fun U8=>
  getK U8 a0 fun d9=>
  getK d9 ((1664:Nat)) fun d10=>
  zbi d10 fun l11=>
  getK U8 a0 fun d12=>
  getK d12 ((1664:Nat)) fun d13=>
  zbi d13 fun l14=>
  sif (0+l11.length≤l14.length) <|
  zar (zaf [.sl .lent (cut 0 l11.length l14)]) fun r15=>
  zbi r15 fun l16=>
  sif (l16.length=l16.length) <|
  sif (zdn l16=true) <|
  zar (zas [.sl .own l16,.fn (131:Nat) [] [D.at_ (.int .i64 a1)]] []) fun r17=>
  nilK r17.outs <|
  nilK r17.tbs <|
  zbi r17.r fun l18=>
  sif (0+l18.length≤l18.length) <|
  getK U8 a0 fun d19=>
  sif (1665≤d19.length) <|
  sif (l18.length=l18.length) <|
  sif (zdn l18=true) <|
  sif (zgg (33:Nat) l18=true) <|
  letT (za8 U8 a0 (1664:Nat) [.sl .own l18]) fun U20=>
  some (Ans.mk (.int .i64 0) [] [U20]))
theorem zpa (za7:Zs) (zaf:Zp) (zas:Zs) (tga2:Tag) (a0:Nat) (a1:Int) (a2:List D) (T0:Tb):denS Tryz.prog (zaz [(ID.disk_Disk_put,(.st [] [0,0] [(8225,false)] za7)),(ID.slices_Clone_disk_write_disk_write,(.pure [33] zaf)),(ID.slices_DeleteFunc_disk_write_disk_write,(.st [(.own,33)] [33] [] zas))]) zhg [0] ID.disk_Disk_Damage [.h 8225 a0 0,.int .i64 a1,.sl tga2 a2] [T0]=zf3 za7 zaf zas a0 a1 (D.lentL a2) T0:=by kernel_rfl
theorem zlJ (tga2:Tag) (a0:Nat) (a1:Int) (a2:List D) (T0:Tb):zbB [.h 8225 a0 0,.int .i64 a1,.sl tga2 a2] [T0]=zf3 za7 zaf zas a0 a1 (D.lentL a2) T0:=zpa za7 zaf zas tga2 a0 a1 a2 T0
def zgm:Ann:={ loops:=[],ks:=[(2496,false),(8225,true)] }
noncomputable def zbo:Zs:=denS Tryz.prog (zaz [(ID.bench_Bench_is,(.st [] [0] [(2496,false)] zau)),(ID.disk_Disk_Damage,(.st [] [0] [(8225,true)] zbB))]) zgm [0] ID.bench_Bench_Damage
theorem zjy:za1 Tryz.prog ID.bench_Bench_Damage (.st [] [0] [(2496,false),(8225,true)] zbo):=zbg (zaC [zfz,zlI]) zbm ⟨Tryz.f50,by kernel_rfl,by kernel_rfl,by kernel_rfl⟩
noncomputable def zkh:Fact Tryz.prog:=⟨ID.bench_Bench_Damage,(.st [] [0] [(2496,false),(8225,true)] zbo),zjy⟩
noncomputable def zfa (zau zbB:Zs) (a0:Nat) (a1 a2:Int) (a3:List D) (T0 T1:Tb):Option Ans:=
 zar (zau [.h 2496 a0 0,.int .i64 a1] [T0]) fun r1=>
 nilK r1.outs <|
 nilK r1.tbs <|
 asB r1.r fun b2=>
 brK (!b2)
  (some (Ans.mk (.int .i64 1) [] [T1]))
  (getK T0 a0 fun d3=>
  getK d3 ((3:Nat)) fun d4=>
  zbi d4 fun l5=>
  getK T0 a0 fun d6=>
  getK d6 ((3:Nat)) fun d7=>
  zbi d7 fun l8=>
  sif (0≤a1) <|
  sif (a1.toNat < l5.length) <|
  getK T0 a0 fun d9=>
  getK d9 ((3:Nat)) fun d10=>
  zbi d10 fun l11=>
  getK l11 (0+a1.toNat) fun d12=>
  sif (D.isAgg d12=false) <|
  sif (D.width d12=(1:Nat)) <|
  sif (D.cell d12=true) <|
  zar (zbB [d12,.int .i64 a2,.sl .lent a3] [T1]) fun r13=>
  nilK r13.outs <|
  zd0 r13.tbs fun c14 q15=>
  nilK q15 <|
  asI .i64 r13.r fun i16=>
  some (Ans.mk (.int .i64 i16) [] [c14]))
theorem zmS (zau zbB:Zs) (tga3:Tag) (a0:Nat) (a1 a2:Int) (a3:List D) (T0 T1:Tb):denS Tryz.prog (zaz [(ID.bench_Bench_is,(.st [] [0] [(2496,false)] zau)),(ID.disk_Disk_Damage,(.st [] [0] [(8225,true)] zbB))]) zgm [0] ID.bench_Bench_Damage [.h 2496 a0 0,.int .i64 a1,.int .i64 a2,.sl tga3 a3] [T0,T1]=zfa zau zbB a0 a1 a2 (D.lentL a3) T0 T1:=by kernel_rfl
theorem zki (tga3:Tag) (a0:Nat) (a1 a2:Int) (a3:List D) (T0 T1:Tb):zbo [.h 2496 a0 0,.int .i64 a1,.int .i64 a2,.sl tga3 a3] [T0,T1]=zfa zau zbB a0 a1 a2 (D.lentL a3) T0 T1:=zmS zau zbB tga3 a0 a1 a2 a3 T0 T1
def zgn:Ann:={ loops:=[(1,.dead::.val (.cell (.int .i64))::.val (.cell .lent)::.box true [(.int .i64),(.int .i64),(.int .i64)]::dd 3 [.ptr 2496,.dead,.val (.cell (.int .i64))]),(3,.dead::.val (.cell (.int .i64))::.val (.cell .lent)::.box true [(.int .i64),(.int .i64),(.int .i64)]::dd 3 [.ptr 2496,.dead,.val (.cell (.int .i64)),.own 1,.val (.cell .bool),.val (.cell (.int .i64))])],ks:=[(2496,true),(8225,true)] }
noncomputable def zbd:Zs:=denS Tryz.prog (zaz [(ID.bench_New,(.st [] [0,0] [(2496,true),(8225,true)] zbD)),(ID.wattleref01_Width,(.pure [0] zad)),(ID.wattleplay_Sectors,(.pure [1] zbn)),(ID.wattleref01_Fill,(.pure [1,0] zbA)),(ID.bench_Bench_Damage,(.st [] [0] [(2496,false),(8225,true)] zbo))]) zgn [0] ID.wattlelaw14_Filled
theorem zjz:za1 Tryz.prog ID.wattlelaw14_Filled (.st [] [0] [(2496,true),(8225,true)] zbd):=zbg (zaC [zne,zcR,zkc,zlG,zkh]) zbm ⟨Tryz.f10,by kernel_rfl,by kernel_rfl,by kernel_rfl⟩
noncomputable def zkj:Fact Tryz.prog:=⟨ID.wattlelaw14_Filled,(.st [] [0] [(2496,true),(8225,true)] zbd),zjz⟩
noncomputable def zfb (zbD:Zs) (zad zbn zbA:Zp) (zbo:Zs) (a0_0 a0_1 a0_2 a1:Int) (a2:List D) (T0 T1:Tb):Option Ans:=
 zar (zbD [.int .i64 a1] [T0,T1]) fun r1=>
 nilK r1.outs <|
 zd0 r1.tbs fun c2 q3=>
 zd0 q3 fun c4 q5=>
 nilK q5 <|
 zej r1.r fun ts6=>
 zay ([Lf.any,Lf.any]) ts6 fun c7=>
 sif (zjh c7.1=true) <|
 asI .i64 c7.2.1 fun i8=>
 brK (i8 != 0)
  (some (Ans.mk D.nilp [] [c2,c4]))
  (zoD c7.1 fun b9=>
  brK b9
   (some (Ans.mk D.nilp [] [c2,c4]))
   (zb1 (α:=(Int×List D×(Int×Int×Int×PUnit)×D×Int×PUnit)×List (List D)×List (List D)×PUnit) (fun again10 ((i11,(l12,((i13,(i14,(i15,_))),(x16,(i17,_))))),(U18,(U19,_)))=>
    brK (decide (i17 < 16))
     (letN (min i17 (↑(l12.length):Int)) fun n20=>
     sif (0≤n20) <|
     sif (n20≤(↑(l12.length):Int)) <|
     sif ((↑(l12.length):Int)≤(↑(l12.length):Int)) <|
     sif ((↑(l12.length):Int)=(↑(l12.length):Int)) <|
     sif (zrf (1:Nat) l12=true) <|
     zar (zad [.agg [.int .i64 i13,.int .i64 i14,.int .i64 i15]]) fun r21=>
     asI .i64 r21 fun i22=>
     zar (zbn [.sl (zdX Tag.lent false (decide ((↑(l12.length):Int)=(↑(l12.length):Int)))) (cutI n20 (↑(l12.length):Int) l12),.int .i64 i22]) fun r23=>
     zbi r23 fun l24=>
     sif (0+l24.length≤l24.length) <|
     zar (zbA [.agg [.int .i64 i13,.int .i64 i14,.int .i64 i15],.int .i64 i17,.sl .lent (cut 0 l24.length l24)]) fun r25=>
     zej r25 fun ts26=>
     zay ([Lf.any,Lf.any]) ts26 fun c27=>
     zbi c27.1 fun l28=>
     asB c27.2.1 fun b29=>
     sif (l28.length=l28.length) <|
     zb1 (α:=(Int×List D×(Int×Int×Int×PUnit)×D×Int×List D×Bool×Int×PUnit)×List (List D)×List (List D)×PUnit) (fun again30 ((i31,(l32,((i33,(i34,(i35,_))),(x36,(i37,(l38,(b39,(i40,_)))))))),(U41,(U42,_)))=>
      brK b39
       (sif (0+l38.length≤l38.length) <|
       brK (decide (i40 < (↑(l38.length):Int)))
        (brK (decide (i40 < i31))
         (letN (IntKind.i64.wrap (36+i37)) fun n43=>
         sif (0≤i40) <|
         sif (i40.toNat < l38.length) <|
         getK l38 (0+i40.toNat) fun d44=>
         asSl d44 fun t45 l46=>
         zar (zbo [x36,.int .i64 i40,.int .i64 n43,.sl t45 l46] [U41,U42]) fun r47=>
         nilK r47.outs <|
         zd0 r47.tbs fun c48 q49=>
         nilK q49 <|
         asI .i64 r47.r fun i50=>
         letN (IntKind.i64.wrap (i40+1)) fun n51=>
         sif (l38.length=l38.length) <|
         again30 (((i31,l32,(i33,i34,i35,unit),x36,i37,l38,b39,n51,unit),U41,c48,unit)))
         (letN (IntKind.i64.wrap (i37+1)) fun n52=>
         again10 (((i31,l32,(i33,i34,i35,unit),x36,n52,unit),U41,U42,unit))))
        (letN (IntKind.i64.wrap (i37+1)) fun n53=>
        again10 (((i31,l32,(i33,i34,i35,unit),x36,n53,unit),U41,U42,unit))))
       (letN (IntKind.i64.wrap (i37+1)) fun n54=>
       again10 (((i31,l32,(i33,i34,i35,unit),x36,n54,unit),U41,U42,unit))))
      (((i11,l12,(i13,i14,i15,unit),x16,i17,l28,b29,(0:Int),unit),U18,U19,unit)))
     (sif (D.free x16=true) <|
     some (Ans.mk x16 [] [U18,U19])))
    (((a1,a2,(a0_0,a0_1,a0_2,unit),c7.1,(0:Int),unit),c2,c4,unit))))
theorem zmT (zbD:Zs) (zad zbn zbA:Zp) (zbo:Zs) (tga2:Tag) (a0_0 a0_1 a0_2 a1:Int) (a2:List D) (T0 T1:Tb):denS Tryz.prog (zaz [(ID.bench_New,(.st [] [0,0] [(2496,true),(8225,true)] zbD)),(ID.wattleref01_Width,(.pure [0] zad)),(ID.wattleplay_Sectors,(.pure [1] zbn)),(ID.wattleref01_Fill,(.pure [1,0] zbA)),(ID.bench_Bench_Damage,(.st [] [0] [(2496,false),(8225,true)] zbo))]) zgn [0] ID.wattlelaw14_Filled [.agg [.int .i64 a0_0,.int .i64 a0_1,.int .i64 a0_2],.int .i64 a1,.sl tga2 a2] [T0,T1]=zfb zbD zad zbn zbA zbo a0_0 a0_1 a0_2 a1 (D.lentL a2) T0 T1:=by kernel_rfl
theorem zkk (tga2:Tag) (a0_0 a0_1 a0_2 a1:Int) (a2:List D) (T0 T1:Tb):zbd [.agg [.int .i64 a0_0,.int .i64 a0_1,.int .i64 a0_2],.int .i64 a1,.sl tga2 a2] [T0,T1]=zfb zbD zad zbn zbA zbo a0_0 a0_1 a0_2 a1 (D.lentL a2) T0 T1:=zmT zbD zad zbn zbA zbo tga2 a0_0 a0_1 a0_2 a1 a2 T0 T1
def zh0:Ann:={ loops:=[(0,.val (.cell (.int .i64))::.val (.cell (.int .i64))::dd 3 (.own 1::dd 4 [.val (.cell (.int .i64)),.val (.cell (.int .i64))]))] }
noncomputable def zbK:Zp:=denP Tryz.prog (zaz [(ID.wattlekeep_Within,(.pure [0] zac))]) zh0 [1] ID.wattleplay_Live
theorem zlK:za1 Tryz.prog ID.wattleplay_Live (.pure [1] zbK):=zam (zaC [zdA]) zbm ⟨Tryz.f11,by kernel_rfl,by kernel_rfl,by kernel_rfl⟩
noncomputable def zmU:Fact Tryz.prog:=⟨ID.wattleplay_Live,(.pure [1] zbK),zlK⟩
noncomputable def zgy (zac:Zp) (a0 a1:Int):Option D:=
 sif (0≤a1) <|
 sif (a1=a1) <|
 sif (a1*1≤140737488355328) <|
 sif (a1≤140737488355328) <|
 sif (0+a1.toNat≤List.length (List.replicate (a1.toNat) (D.bool false))) <|
 sif (a1.toNat=List.length (List.replicate (a1.toNat) (D.bool false))) <|
 zb1 (α:=(Int×Int×List D×Int×Int×PUnit)×PUnit) (fun again1 ((i2,(i3,(l4,(i5,(i6,_))))),_)=>
  brK (decide (i6 < i5))
   (sif (0≤i6) <|
   sif (i6.toNat < l4.length) <|
   getK l4 (0+i6.toNat) fun d7=>
   sif (D.isAgg d7=false) <|
   letN (IntKind.i64.wrap (i6+1)) fun n8=>
   sif (l4.length=List.length (List.set l4 (0+i6.toNat) (D.bool true))) <|
   again1 (((i2,i3,List.set l4 (0+i6.toNat) (.bool true),i5,n8,unit),unit)))
   (brK (decide (i3 > 0))
    (zar (zac [.int .i64 i2,.int .i64 3]) fun r9=>
    asI .i64 r9 fun i10=>
    brK (decide (i10 > 0))
     (letN (IntKind.i64.wrap (Int.tdiv i2 (3:Int))) fun n11=>
     zar (zac [.int .i64 n11,.int .i64 i3]) fun r12=>
     asI .i64 r12 fun i13=>
     sif (0≤i13) <|
     sif (i13.toNat < l4.length) <|
     getK l4 (0+i13.toNat) fun d14=>
     sif (D.isAgg d14=false) <|
     brK (decide (i3 > 0))
      (zar (zac [.int .i64 i2,.int .i64 9]) fun r15=>
      asI .i64 r15 fun i16=>
      brK (i16 == 8)
       (letN (IntKind.i64.wrap (Int.tdiv i2 (27:Int))) fun n17=>
       zar (zac [.int .i64 n17,.int .i64 i3]) fun r18=>
       asI .i64 r18 fun i19=>
       sif (0≤i19) <|
       sif (i19.toNat < l4.length) <|
       getK (List.set l4 (0+i13.toNat) (.bool false)) (0+i19.toNat) fun d20=>
       sif (D.isAgg d20=false) <|
       sif (l4.length=List.length (List.set (List.set l4 (0+i13.toNat) (D.bool false)) (0+i19.toNat) (D.bool false))) <|
       sif (List.all (List.set (List.set l4 (0+i13.toNat) (D.bool false)) (0+i19.toNat) (D.bool false)) D.free=true) <|
       some (.sl .own (List.set (List.set l4 (0+i13.toNat) (.bool false)) (0+i19.toNat) (.bool false))))
       (sif (l4.length=List.length (List.set l4 (0+i13.toNat) (.bool false))) <|
       sif (List.all (List.set l4 (0+i13.toNat) (D.bool false)) D.free=true) <|
       some (.sl .own (List.set l4 (0+i13.toNat) (.bool false)))))
      (sif (l4.length=List.length (List.set l4 (0+i13.toNat) (.bool false))) <|
      sif (List.all (List.set l4 (0+i13.toNat) (D.bool false)) D.free=true) <|
      some (.sl .own (List.set l4 (0+i13.toNat) (.bool false)))))
     (brK (decide (i3 > 0))
      (zar (zac [.int .i64 i2,.int .i64 9]) fun r21=>
      asI .i64 r21 fun i22=>
      brK (i22 == 8)
       (letN (IntKind.i64.wrap (Int.tdiv i2 (27:Int))) fun n23=>
       zar (zac [.int .i64 n23,.int .i64 i3]) fun r24=>
       asI .i64 r24 fun i25=>
       sif (0≤i25) <|
       sif (i25.toNat < l4.length) <|
       getK l4 (0+i25.toNat) fun d26=>
       sif (D.isAgg d26=false) <|
       sif (l4.length=List.length (List.set l4 (0+i25.toNat) (D.bool false))) <|
       sif (List.all (List.set l4 (0+i25.toNat) (D.bool false)) D.free=true) <|
       some (.sl .own (List.set l4 (0+i25.toNat) (.bool false))))
       (sif (l4.length=l4.length) <|
       sif (List.all l4 D.free=true) <|
       some (.sl .own l4)))
      (sif (l4.length=l4.length) <|
      sif (List.all l4 D.free=true) <|
      some (.sl .own l4))))
    (brK (decide (i3 > 0))
     (zar (zac [.int .i64 i2,.int .i64 9]) fun r27=>
     asI .i64 r27 fun i28=>
     brK (i28 == 8)
      (letN (IntKind.i64.wrap (Int.tdiv i2 (27:Int))) fun n29=>
      zar (zac [.int .i64 n29,.int .i64 i3]) fun r30=>
      asI .i64 r30 fun i31=>
      sif (0≤i31) <|
      sif (i31.toNat < l4.length) <|
      getK l4 (0+i31.toNat) fun d32=>
      sif (D.isAgg d32=false) <|
      sif (l4.length=List.length (List.set l4 (0+i31.toNat) (D.bool false))) <|
      sif (List.all (List.set l4 (0+i31.toNat) (D.bool false)) D.free=true) <|
      some (.sl .own (List.set l4 (0+i31.toNat) (.bool false))))
      (sif (l4.length=l4.length) <|
      sif (List.all l4 D.free=true) <|
      some (.sl .own l4)))
     (sif (l4.length=l4.length) <|
     sif (List.all l4 D.free=true) <|
     some (.sl .own l4)))))
  (((a0,a1,List.replicate (a1.toNat) (.bool false),(↑(a1.toNat):Int),(0:Int),unit),unit))
theorem zqe (zac:Zp) (a0 a1:Int):denP Tryz.prog (zaz [(ID.wattlekeep_Within,(.pure [0] zac))]) zh0 [1] ID.wattleplay_Live [.int .i64 a0,.int .i64 a1]=zgy zac a0 a1:=by kernel_rfl
theorem zmV (a0 a1:Int):zbK [.int .i64 a0,.int .i64 a1]=zgy zac a0 a1:=zqe zac a0 a1
def zfI:Ann:={ loops:=[(0,.val (.cell .lent)::.val (.cell (.int .i64))::dd 5 [.val (.cell (.int .i64)),.val (.cell (.int .i64))])] }
noncomputable def zaI:Zp:=denP Tryz.prog (zaz []) zfI [0] ID.slices_Index_int_int
theorem zio:za1 Tryz.prog ID.slices_Index_int_int (.pure [0] zaI):=zam (zaC []) zbm ⟨Tryz.f66,by kernel_rfl,by kernel_rfl,by kernel_rfl⟩
noncomputable def zfl:Fact Tryz.prog:=⟨ID.slices_Index_int_int,(.pure [0] zaI),zio⟩
noncomputable def zdB (a0:List D) (a1:Int):Option D:=
 zb1 (α:=(List D×Int×Int×Int×PUnit)×PUnit) (fun again1 ((l2,(i3,(i4,(i5,_)))),_)=>
  brK (decide (i5 < i4))
   (sif (0≤i5) <|
   getK l2 (i5.toNat) fun d6=>
   asI .i64 d6 fun i7=>
   brK (i3 == i7)
    (some (.int .i64 i5))
    (letN (IntKind.i64.wrap (i5+1)) fun n8=>
    again1 (((l2,i3,i4,n8,unit),unit))))
   (some (.int .i64 (-1))))
  (((a0,a1,(↑(a0.length):Int),(0:Int),unit),unit))
theorem zkZ (tga0:Tag) (a0:List D) (a1:Int):denP Tryz.prog (zaz []) zfI [0] ID.slices_Index_int_int [.sl tga0 a0,.int .i64 a1]=zdB (D.lentL a0) a1:=by kernel_rfl
theorem zfm (tga0:Tag) (a0:List D) (a1:Int):zaI [.sl tga0 a0,.int .i64 a1]=zdB (D.lentL a0) a1:=zkZ tga0 a0 a1
def zeO:Ann:={ loops:=[] }
noncomputable def za0:Zp:=denP Tryz.prog (zaz [(ID.slices_Index_int_int,(.pure [0] zaI))]) zeO [0] ID.slices_Contains_int_int
theorem zg2:za1 Tryz.prog ID.slices_Contains_int_int (.pure [0] za0):=zam (zaC [zfl]) zbm ⟨Tryz.f122,by kernel_rfl,by kernel_rfl,by kernel_rfl⟩
noncomputable def zhs:Fact Tryz.prog:=⟨ID.slices_Contains_int_int,(.pure [0] za0),zg2⟩
noncomputable def zdT (zaI:Zp) (a0:List D) (a1:Int):Option D:=
 zar (zaI [.sl .lent a0,.int .i64 a1]) fun r1=>
 asI .i64 r1 fun i2=>
 some (.bool (decide (i2≥0)))
theorem ziS (zaI:Zp) (tga0:Tag) (a0:List D) (a1:Int):denP Tryz.prog (zaz [(ID.slices_Index_int_int,(.pure [0] zaI))]) zeO [0] ID.slices_Contains_int_int [.sl tga0 a0,.int .i64 a1]=zdT zaI (D.lentL a0) a1:=by kernel_rfl
theorem zht (tga0:Tag) (a0:List D) (a1:Int):za0 [.sl tga0 a0,.int .i64 a1]=zdT zaI (D.lentL a0) a1:=ziS zaI tga0 a0 a1
def znf:Ann:={ loops:=[] }
noncomputable def zaF:Zp:=denP Tryz.prog (zaz [(ID.slices_Contains_int_int,(.pure [0] za0))]) znf [0] ID.geom_Check
theorem zri:za1 Tryz.prog ID.geom_Check (.pure [0] zaF):=zam (zaC [zhs]) zbm ⟨Tryz.f82,by kernel_rfl,by kernel_rfl,by kernel_rfl⟩
noncomputable def zeP:Fact Tryz.prog:=⟨ID.geom_Check,(.pure [0] zaF),zri⟩
noncomputable def zlL (za0:Zp) (a0_0 a0_1 a0_2:Int):Option D:=
 asI .i64 (zB3 a0_0 (.int .i64 0) (setD (6:Int) (.int .i64 4) (setD (5:Int) (.int .i64 3) []))) fun i1=>
 brK (i1 == 0)
  (some (.int .i64 1))
  (brK (decide (a0_1 < i1))
   (some (.int .i64 1))
   (brK (decide (a0_1 > 8))
    (some (.int .i64 1))
    (zar (za0 [.sl .full [.int .i64 1,.int .i64 2,.int .i64 4],.int .i64 a0_2]) fun r2=>
    asB r2 fun b3=>
    brK (!b3)
     (some (.int .i64 1))
     (some (.int .i64 0)))))
theorem zyF (za0:Zp) (a0_0 a0_1 a0_2:Int):denP Tryz.prog (zaz [(ID.slices_Contains_int_int,(.pure [0] za0))]) znf [0] ID.geom_Check [.agg [.int .i64 a0_0,.int .i64 a0_1,.int .i64 a0_2]]=zlL za0 a0_0 a0_1 a0_2:=by kernel_rfl
theorem zsW (a0_0 a0_1 a0_2:Int):zaF [.agg [.int .i64 a0_0,.int .i64 a0_1,.int .i64 a0_2]]=zlL za0 a0_0 a0_1 a0_2:=zyF za0 a0_0 a0_1 a0_2
def zlM:Ann:={ loops:=[] }
noncomputable def zbp:Zp:=denP Tryz.prog (zaz [(ID.geom_Check,(.pure [0] zaF))]) zlM [0] ID.geom_Budget
theorem zqf:za1 Tryz.prog ID.geom_Budget (.pure [0] zbp):=zam (zaC [zeP]) zbm ⟨Tryz.f132,by kernel_rfl,by kernel_rfl,by kernel_rfl⟩
noncomputable def zkF:Fact Tryz.prog:=⟨ID.geom_Budget,(.pure [0] zbp),zqf⟩
noncomputable def zkl (zaF:Zp) (a0_0 a0_1 a0_2:Int):Option D:=
 zar (zaF [.agg [.int .i64 a0_0,.int .i64 a0_1,.int .i64 a0_2]]) fun r1=>
 asI .i64 r1 fun i2=>
 brK (i2 != 0)
  (some (.int .i64 0))
  (letN (IntKind.i64.wrap (a0_0 - 4)) fun n3=>
  some (.int .i64 n3))
theorem zwF (zaF:Zp) (a0_0 a0_1 a0_2:Int):denP Tryz.prog (zaz [(ID.geom_Check,(.pure [0] zaF))]) zlM [0] ID.geom_Budget [.agg [.int .i64 a0_0,.int .i64 a0_1,.int .i64 a0_2]]=zkl zaF a0_0 a0_1 a0_2:=by kernel_rfl
theorem zrj (a0_0 a0_1 a0_2:Int):zbp [.agg [.int .i64 a0_0,.int .i64 a0_1,.int .i64 a0_2]]=zkl zaF a0_0 a0_1 a0_2:=zwF zaF a0_0 a0_1 a0_2
def zng:Ann:={ loops:=[] }
noncomputable def zai:Zp:=denP Tryz.prog (zaz [(ID.geom_Check,(.pure [0] zaF)),(ID.geom_Budget,(.pure [0] zbp))]) zng [0] ID.geom_Width
theorem zrk:za1 Tryz.prog ID.geom_Width (.pure [0] zai):=zam (zaC [zeP,zkF]) zbm ⟨Tryz.f101,by kernel_rfl,by kernel_rfl,by kernel_rfl⟩
noncomputable def zdy:Fact Tryz.prog:=⟨ID.geom_Width,(.pure [0] zai),zrk⟩
noncomputable def zlN (zaF zbp:Zp) (a0_0 a0_1 a0_2:Int):Option D:=
 zar (zaF [.agg [.int .i64 a0_0,.int .i64 a0_1,.int .i64 a0_2]]) fun r1=>
 asI .i64 r1 fun i2=>
 brK (i2 != 0)
  (some (.int .i64 0))
  (zar (zbp [.agg [.int .i64 a0_0,.int .i64 a0_1,.int .i64 a0_2]]) fun r3=>
  asI .i64 r3 fun i4=>
  letN (IntKind.i64.wrap (a0_1 - i4)) fun n5=>
  some (.int .i64 n5))
theorem zyG (zaF zbp:Zp) (a0_0 a0_1 a0_2:Int):denP Tryz.prog (zaz [(ID.geom_Check,(.pure [0] zaF)),(ID.geom_Budget,(.pure [0] zbp))]) zng [0] ID.geom_Width [.agg [.int .i64 a0_0,.int .i64 a0_1,.int .i64 a0_2]]=zlN zaF zbp a0_0 a0_1 a0_2:=by kernel_rfl
theorem zsX (a0_0 a0_1 a0_2:Int):zai [.agg [.int .i64 a0_0,.int .i64 a0_1,.int .i64 a0_2]]=zlN zaF zbp a0_0 a0_1 a0_2:=zyG zaF zbp a0_0 a0_1 a0_2
def zjA:Ann:={ loops:=[] }
noncomputable def zbX:Zp:=denP Tryz.prog (zaz [(ID.geom_Width,(.pure [0] zai))]) zjA [0] ID.geom_Capacity
theorem znO:za1 Tryz.prog ID.geom_Capacity (.pure [0] zbX):=zam (zaC [zdy]) zbm ⟨Tryz.f87,by kernel_rfl,by kernel_rfl,by kernel_rfl⟩
noncomputable def zpb:Fact Tryz.prog:=⟨ID.geom_Capacity,(.pure [0] zbX),znO⟩
noncomputable def zh1 (zai:Zp) (a0_0 a0_1 a0_2:Int):Option D:=
 zar (zai [.agg [.int .i64 a0_0,.int .i64 a0_1,.int .i64 a0_2]]) fun r1=>
 asI .i64 r1 fun i2=>
 letN (IntKind.i64.wrap (i2*16)) fun n3=>
 some (.int .i64 n3)
theorem zsY (zai:Zp) (a0_0 a0_1 a0_2:Int):denP Tryz.prog (zaz [(ID.geom_Width,(.pure [0] zai))]) zjA [0] ID.geom_Capacity [.agg [.int .i64 a0_0,.int .i64 a0_1,.int .i64 a0_2]]=zh1 zai a0_0 a0_1 a0_2:=by kernel_rfl
theorem zpc (a0_0 a0_1 a0_2:Int):zbX [.agg [.int .i64 a0_0,.int .i64 a0_1,.int .i64 a0_2]]=zh1 zai a0_0 a0_1 a0_2:=zsY zai a0_0 a0_1 a0_2
def zq5:Ann:={ loops:=[] }
noncomputable def zbt:Zp:=denP Tryz.prog (zaz [(ID.geom_Check,(.pure [0] zaF))]) zq5 [0] ID.place_in
theorem ztS:za1 Tryz.prog ID.place_in (.pure [0] zbt):=zam (zaC [zeP]) zbm ⟨Tryz.f111,by kernel_rfl,by kernel_rfl,by kernel_rfl⟩
noncomputable def zkm:Fact Tryz.prog:=⟨ID.place_in,(.pure [0] zbt),ztS⟩
noncomputable def zqg (zaF:Zp) (a0_0 a0_1 a0_2 a1:Int):Option D:=
 zar (zaF [.agg [.int .i64 a0_0,.int .i64 a0_1,.int .i64 a0_2]]) fun r1=>
 asI .i64 r1 fun i2=>
 brK (i2 == 0)
  (brK (decide (a1≥0))
   (some (.bool (decide (a1 < 16))))
   (some (.bool false)))
  (some (.bool false))
theorem zCk (zaF:Zp) (a0_0 a0_1 a0_2 a1:Int):denP Tryz.prog (zaz [(ID.geom_Check,(.pure [0] zaF))]) zq5 [0] ID.place_in [.agg [.int .i64 a0_0,.int .i64 a0_1,.int .i64 a0_2],.int .i64 a1]=zqg zaF a0_0 a0_1 a0_2 a1:=by kernel_rfl
theorem zwG (a0_0 a0_1 a0_2 a1:Int):zbt [.agg [.int .i64 a0_0,.int .i64 a0_1,.int .i64 a0_2],.int .i64 a1]=zqg zaF a0_0 a0_1 a0_2 a1:=zCk zaF a0_0 a0_1 a0_2 a1
def zkG:Ann:={ loops:=[] }
noncomputable def zaD:Zp:=denP Tryz.prog (zaz [(ID.place_in,(.pure [0] zbt))]) zkG [0,0] ID.place_Parity
theorem zpd:za1 Tryz.prog ID.place_Parity (.pure [0,0] zaD):=zam (zaC [zkm]) zbm ⟨Tryz.f67,by kernel_rfl,by kernel_rfl,by kernel_rfl⟩
noncomputable def ze1:Fact Tryz.prog:=⟨ID.place_Parity,(.pure [0,0] zaD),zpd⟩
noncomputable def ziT (zbt:Zp) (a0_0 a0_1 a0_2 a1:Int):Option D:=
 zar (zbt [.agg [.int .i64 a0_0,.int .i64 a0_1,.int .i64 a0_2],.int .i64 a1]) fun r1=>
 asB r1 fun b2=>
 brK (!b2)
  (some (.tup [.int .i64 (-1),.int .i64 (-1)]))
  (letN (IntKind.i64.wrap (a0_1 - 1)) fun n3=>
  sif (a0_2≠0) <|
  letN (IntKind.i64.wrap (Int.tdiv a1 a0_2)) fun n4=>
  sif (a0_1≠0) <|
  letN (Int.tmod n4 a0_1) fun n5=>
  letN (IntKind.i64.wrap (n3 - n5)) fun n6=>
  brK (a0_0 == 5)
   (some (.tup [.int .i64 n6,.int .i64 (-1)]))
   (letN (IntKind.i64.wrap (n6+1)) fun n7=>
   sif (a0_1≠0) <|
   letN (Int.tmod n7 a0_1) fun n8=>
   some (.tup [.int .i64 n6,.int .i64 n8])))
theorem ztT (zbt:Zp) (a0_0 a0_1 a0_2 a1:Int):denP Tryz.prog (zaz [(ID.place_in,(.pure [0] zbt))]) zkG [0,0] ID.place_Parity [.agg [.int .i64 a0_0,.int .i64 a0_1,.int .i64 a0_2],.int .i64 a1]=ziT zbt a0_0 a0_1 a0_2 a1:=by kernel_rfl
theorem zqh (a0_0 a0_1 a0_2 a1:Int):zaD [.agg [.int .i64 a0_0,.int .i64 a0_1,.int .i64 a0_2],.int .i64 a1]=ziT zbt a0_0 a0_1 a0_2 a1:=ztT zbt a0_0 a0_1 a0_2 a1
def znh:Ann:={ loops:=[] }
noncomputable def za2:Zp:=denP Tryz.prog (zaz [(ID.place_in,(.pure [0] zbt)),(ID.geom_Width,(.pure [0] zai)),(ID.place_Parity,(.pure [0,0] zaD)),(ID.geom_Budget,(.pure [0] zbp))]) znh [0] ID.place_Disk
theorem zrl:za1 Tryz.prog ID.place_Disk (.pure [0] za2):=zam (zaC [zkm,zdy,ze1,zkF]) zbm ⟨Tryz.f102,by kernel_rfl,by kernel_rfl,by kernel_rfl⟩
noncomputable def zh2:Fact Tryz.prog:=⟨ID.place_Disk,(.pure [0] za2),zrl⟩
noncomputable def zlO (zbt zai zaD zbp:Zp) (a0_0 a0_1 a0_2 a1 a2:Int):Option D:=
 zar (zbt [.agg [.int .i64 a0_0,.int .i64 a0_1,.int .i64 a0_2],.int .i64 a1]) fun r1=>
 asB r1 fun b2=>
 brK (!b2)
  (some (.int .i64 (-1)))
  (brK (decide (a2 < 0))
   (some (.int .i64 (-1)))
   (zar (zai [.agg [.int .i64 a0_0,.int .i64 a0_1,.int .i64 a0_2]]) fun r3=>
   asI .i64 r3 fun i4=>
   brK (decide (a2≥i4))
    (some (.int .i64 (-1)))
    (zar (zaD [.agg [.int .i64 a0_0,.int .i64 a0_1,.int .i64 a0_2],.int .i64 a1]) fun r5=>
    zej r5 fun ts6=>
    zay ([Lf.any,Lf.any]) ts6 fun c7=>
    asI .i64 c7.1 fun i8=>
    asI .i64 c7.2.1 fun i9=>
    zar (zbp [.agg [.int .i64 a0_0,.int .i64 a0_1,.int .i64 a0_2]]) fun r10=>
    asI .i64 r10 fun i11=>
    letN (IntKind.i64.wrap (i8+i11)) fun n12=>
    letN (IntKind.i64.wrap (n12+a2)) fun n13=>
    sif (a0_1≠0) <|
    letN (Int.tmod n13 a0_1) fun n14=>
    some (.int .i64 n14))))
theorem zyH (zbt zai zaD zbp:Zp) (a0_0 a0_1 a0_2 a1 a2:Int):denP Tryz.prog (zaz [(ID.place_in,(.pure [0] zbt)),(ID.geom_Width,(.pure [0] zai)),(ID.place_Parity,(.pure [0,0] zaD)),(ID.geom_Budget,(.pure [0] zbp))]) znh [0] ID.place_Disk [.agg [.int .i64 a0_0,.int .i64 a0_1,.int .i64 a0_2],.int .i64 a1,.int .i64 a2]=zlO zbt zai zaD zbp a0_0 a0_1 a0_2 a1 a2:=by kernel_rfl
theorem zsZ (a0_0 a0_1 a0_2 a1 a2:Int):za2 [.agg [.int .i64 a0_0,.int .i64 a0_1,.int .i64 a0_2],.int .i64 a1,.int .i64 a2]=zlO zbt zai zaD zbp a0_0 a0_1 a0_2 a1 a2:=zyH zbt zai zaD zbp a0_0 a0_1 a0_2 a1 a2
def zq6:Ann:={ loops:=[] }
noncomputable def zdv:Zp:=denP Tryz.prog (zaz [(ID.geom_Capacity,(.pure [0] zbX)),(ID.geom_Width,(.pure [0] zai)),(ID.place_Disk,(.pure [0] za2))]) zq6 [0,0,0] ID.place_Of
theorem ztU:za1 Tryz.prog ID.place_Of (.pure [0,0,0] zdv):=zam (zaC [zpb,zdy,zh2]) zbm ⟨Tryz.f63,by kernel_rfl,by kernel_rfl,by kernel_rfl⟩
noncomputable def zwH:Fact Tryz.prog:=⟨ID.place_Of,(.pure [0,0,0] zdv),ztU⟩
noncomputable def zqi (zbX zai za2:Zp) (a0_0 a0_1 a0_2 a1:Int):Option D:=
 brK (decide (a1 < 0))
  (some (.tup [.int .i64 0,.int .i64 0,.bool false]))
  (zar (zbX [.agg [.int .i64 a0_0,.int .i64 a0_1,.int .i64 a0_2]]) fun r1=>
  asI .i64 r1 fun i2=>
  brK (decide (a1≥i2))
   (some (.tup [.int .i64 0,.int .i64 0,.bool false]))
   (sif (a0_2≠0) <|
   letN (IntKind.i64.wrap (Int.tdiv a1 a0_2)) fun n3=>
   zar (zai [.agg [.int .i64 a0_0,.int .i64 a0_1,.int .i64 a0_2]]) fun r4=>
   asI .i64 r4 fun i5=>
   sif (i5≠0) <|
   letN (IntKind.i64.wrap (Int.tdiv n3 i5)) fun n6=>
   letN (IntKind.i64.wrap (n6*a0_2)) fun n7=>
   sif (a0_2≠0) <|
   letN (Int.tmod a1 a0_2) fun n8=>
   letN (IntKind.i64.wrap (n7+n8)) fun n9=>
   zar (zai [.agg [.int .i64 a0_0,.int .i64 a0_1,.int .i64 a0_2]]) fun r10=>
   asI .i64 r10 fun i11=>
   sif (i11≠0) <|
   letN (Int.tmod n3 i11) fun n12=>
   zar (za2 [.agg [.int .i64 a0_0,.int .i64 a0_1,.int .i64 a0_2],.int .i64 n9,.int .i64 n12]) fun r13=>
   asI .i64 r13 fun i14=>
   some (.tup [.int .i64 i14,.int .i64 n9,.bool true])))
theorem zCl (zbX zai za2:Zp) (a0_0 a0_1 a0_2 a1:Int):denP Tryz.prog (zaz [(ID.geom_Capacity,(.pure [0] zbX)),(ID.geom_Width,(.pure [0] zai)),(ID.place_Disk,(.pure [0] za2))]) zq6 [0,0,0] ID.place_Of [.agg [.int .i64 a0_0,.int .i64 a0_1,.int .i64 a0_2],.int .i64 a1]=zqi zbX zai za2 a0_0 a0_1 a0_2 a1:=by kernel_rfl
theorem zwI (a0_0 a0_1 a0_2 a1:Int):zdv [.agg [.int .i64 a0_0,.int .i64 a0_1,.int .i64 a0_2],.int .i64 a1]=zqi zbX zai za2 a0_0 a0_1 a0_2 a1:=zCl zbX zai za2 a0_0 a0_1 a0_2 a1
def zh3:Ann:={ loops:=[],ks:=[(2496,false)] }
noncomputable def zao:Zs:=denS Tryz.prog (zaz []) zh3 [0] ID.bench_Bench_Len
theorem zlP:za1 Tryz.prog ID.bench_Bench_Len (.st [] [0] [(2496,false)] zao):=zbg (zaC []) zbm ⟨Tryz.f70,by kernel_rfl,by kernel_rfl,by kernel_rfl⟩
noncomputable def zdZ:Fact Tryz.prog:=⟨ID.bench_Bench_Len,(.st [] [0] [(2496,false)] zao),zlP⟩
noncomputable def zgz (a0:Nat) (T0:Tb):Option Ans:=
 getK T0 a0 fun d1=>
 getK d1 ((3:Nat)) fun d2=>
 zbi d2 fun l3=>
 getK T0 a0 fun d4=>
 getK d4 ((3:Nat)) fun d5=>
 zbi d5 fun l6=>
 sif (0+l3.length≤l6.length) <|
 some (Ans.mk (.int .i64 (↑(l3.length):Int)) [] [])
theorem zqj (a0:Nat) (T0:Tb):denS Tryz.prog (zaz []) zh3 [0] ID.bench_Bench_Len [.h 2496 a0 0] [T0]=zgz a0 T0:=by kernel_rfl
theorem zmW (a0:Nat) (T0:Tb):zao [.h 2496 a0 0] [T0]=zgz a0 T0:=zqj a0 T0
def zhh:Ann:={ loops:=[],ks:=[(8225,false)] }
noncomputable def zbC:Zs:=denS Tryz.prog (zaz []) zhh [0] ID.disk_Disk_Failed
theorem zk0:za1 Tryz.prog ID.disk_Disk_Failed (.st [] [0] [(8225,false)] zbC):=zbg (zaC []) zbm ⟨Tryz.f144,by kernel_rfl,by kernel_rfl,by kernel_rfl⟩
noncomputable def zlQ:Fact Tryz.prog:=⟨ID.disk_Disk_Failed,(.st [] [0] [(8225,false)] zbC),zk0⟩
noncomputable def zf4 (a0:Nat) (T0:Tb):Option Ans:=
 getK T0 a0 fun d1=>
 getK d1 ((1665:Nat)) fun d2=>
 asB d2 fun b3=>
 some (Ans.mk (.bool b3) [] [])
theorem zpe (a0:Nat) (T0:Tb):denS Tryz.prog (zaz []) zhh [0] ID.disk_Disk_Failed [.h 8225 a0 0] [T0]=zf4 a0 T0:=by kernel_rfl
theorem zlR (a0:Nat) (T0:Tb):zbC [.h 8225 a0 0] [T0]=zf4 a0 T0:=zpe a0 T0
def zgo:Ann:={ loops:=[],ks:=[(2496,false),(8225,false)] }
noncomputable def zaN:Zs:=denS Tryz.prog (zaz [(ID.bench_Bench_is,(.st [] [0] [(2496,false)] zau)),(ID.disk_Disk_Failed,(.st [] [0] [(8225,false)] zbC))]) zgo [0] ID.bench_Bench_Failed
theorem zjB:za1 Tryz.prog ID.bench_Bench_Failed (.st [] [0] [(2496,false),(8225,false)] zaN):=zbg (zaC [zfz,zlQ]) zbm ⟨Tryz.f110,by kernel_rfl,by kernel_rfl,by kernel_rfl⟩
noncomputable def zf5:Fact Tryz.prog:=⟨ID.bench_Bench_Failed,(.st [] [0] [(2496,false),(8225,false)] zaN),zjB⟩
noncomputable def zfc (zau zbC:Zs) (a0:Nat) (a1:Int) (T0 T1:Tb):Option Ans:=
 zar (zau [.h 2496 a0 0,.int .i64 a1] [T0]) fun r1=>
 nilK r1.outs <|
 nilK r1.tbs <|
 asB r1.r fun b2=>
 brK b2
  (getK T0 a0 fun d3=>
  getK d3 ((3:Nat)) fun d4=>
  zbi d4 fun l5=>
  getK T0 a0 fun d6=>
  getK d6 ((3:Nat)) fun d7=>
  zbi d7 fun l8=>
  sif (0≤a1) <|
  sif (a1.toNat < l5.length) <|
  getK T0 a0 fun d9=>
  getK d9 ((3:Nat)) fun d10=>
  zbi d10 fun l11=>
  getK l11 (0+a1.toNat) fun d12=>
  sif (D.isAgg d12=false) <|
  sif (D.width d12=(1:Nat)) <|
  sif (D.cell d12=true) <|
  zar (zbC [d12] [T1]) fun r13=>
  nilK r13.outs <|
  nilK r13.tbs <|
  asB r13.r fun b14=>
  some (Ans.mk (.bool b14) [] []))
  (some (Ans.mk (.bool false) [] []))
theorem zmX (zau zbC:Zs) (a0:Nat) (a1:Int) (T0 T1:Tb):denS Tryz.prog (zaz [(ID.bench_Bench_is,(.st [] [0] [(2496,false)] zau)),(ID.disk_Disk_Failed,(.st [] [0] [(8225,false)] zbC))]) zgo [0] ID.bench_Bench_Failed [.h 2496 a0 0,.int .i64 a1] [T0,T1]=zfc zau zbC a0 a1 T0 T1:=by kernel_rfl
theorem zkn (a0:Nat) (a1:Int) (T0 T1:Tb):zaN [.h 2496 a0 0,.int .i64 a1] [T0,T1]=zfc zau zbC a0 a1 T0 T1:=zmX zau zbC a0 a1 T0 T1
def zpf:Ann:={ loops:=[],ks:=[(2496,false),(8225,false)] }
noncomputable def zdh:Zs:=denS Tryz.prog (zaz [(ID.bench_Bench_Len,(.st [] [0] [(2496,false)] zao)),(ID.bench_Bench_Failed,(.st [] [0] [(2496,false),(8225,false)] zaN))]) zpf [0] ID.stripe_up
theorem zs0:za1 Tryz.prog ID.stripe_up (.st [] [0] [(2496,false),(8225,false)] zdh):=zbg (zaC [zdZ,zf5]) zbm ⟨Tryz.f64,by kernel_rfl,by kernel_rfl,by kernel_rfl⟩
noncomputable def ztV:Fact Tryz.prog:=⟨ID.stripe_up,(.st [] [0] [(2496,false),(8225,false)] zdh),zs0⟩
noncomputable def znP (zao zaN:Zs) (a0:Nat) (a1:List D) (a2:Int) (T0 T1:Tb):Option Ans:=
 zar (zao [.h 2496 a0 0] [T0]) fun r1=>
 nilK r1.outs <|
 nilK r1.tbs <|
 asI .i64 r1.r fun i2=>
 brK (decide (a2 < i2))
  (brK (decide (a2 < (↑(a1.length):Int)))
   (sif (0≤a2) <|
   getK a1 (a2.toNat) fun d3=>
   asB d3 fun b4=>
   brK b4
    (zar (zaN [.h 2496 a0 0,.int .i64 a2] [T0,T1]) fun r5=>
    nilK r5.outs <|
    nilK r5.tbs <|
    asB r5.r fun b6=>
    some (Ans.mk (.bool !b6) [] []))
    (some (Ans.mk (.bool false) [] [])))
   (some (Ans.mk (.bool false) [] [])))
  (some (Ans.mk (.bool false) [] []))
theorem zz6 (zao zaN:Zs) (tga1:Tag) (a0:Nat) (a1:List D) (a2:Int) (T0 T1:Tb):denS Tryz.prog (zaz [(ID.bench_Bench_Len,(.st [] [0] [(2496,false)] zao)),(ID.bench_Bench_Failed,(.st [] [0] [(2496,false),(8225,false)] zaN))]) zpf [0] ID.stripe_up [.h 2496 a0 0,.sl tga1 a1,.int .i64 a2] [T0,T1]=znP zao zaN a0 (D.lentL a1) a2 T0 T1:=by kernel_rfl
theorem ztW (tga1:Tag) (a0:Nat) (a1:List D) (a2:Int) (T0 T1:Tb):zdh [.h 2496 a0 0,.sl tga1 a1,.int .i64 a2] [T0,T1]=znP zao zaN a0 (D.lentL a1) a2 T0 T1:=zz6 zao zaN tga1 a0 a1 a2 T0 T1
def zh4:Ann:={ loops:=[],ks:=[(2496,false)] }
noncomputable def zaG:Zs:=denS Tryz.prog (zaz [(ID.bench_Bench_is,(.st [] [0] [(2496,false)] zau))]) zh4 [0] ID.bench_Bench_may
theorem zlS:za1 Tryz.prog ID.bench_Bench_may (.st [] [0] [(2496,false)] zaG):=zbg (zaC [zfz]) zbm ⟨Tryz.f53,by kernel_rfl,by kernel_rfl,by kernel_rfl⟩
noncomputable def zfd:Fact Tryz.prog:=⟨ID.bench_Bench_may,(.st [] [0] [(2496,false)] zaG),zlS⟩
noncomputable def zgA (zau:Zs) (a0:Nat) (a1:Int) (T0:Tb):Option Ans:=
 zar (zau [.h 2496 a0 0,.int .i64 a1] [T0]) fun r1=>
 nilK r1.outs <|
 nilK r1.tbs <|
 asB r1.r fun b2=>
 brK (!b2)
  (some (Ans.mk (.int .i64 1) [] []))
  (getK T0 a0 fun d3=>
  getK d3 ((2:Nat)) fun d4=>
  asB d4 fun b5=>
  brK b5
   (some (Ans.mk (.int .i64 6) [] []))
   (some (Ans.mk (.int .i64 0) [] [])))
theorem zqk (zau:Zs) (a0:Nat) (a1:Int) (T0:Tb):denS Tryz.prog (zaz [(ID.bench_Bench_is,(.st [] [0] [(2496,false)] zau))]) zh4 [0] ID.bench_Bench_may [.h 2496 a0 0,.int .i64 a1] [T0]=zgA zau a0 a1 T0:=by kernel_rfl
theorem zmY (a0:Nat) (a1:Int) (T0:Tb):zaG [.h 2496 a0 0,.int .i64 a1] [T0]=zgA zau a0 a1 T0:=zqk zau a0 a1 T0
def ze2:Ann:={ loops:=[] }
noncomputable def zag:Zp:=denE Tryz.prog (zaz []) ze2 [1] ID.slices_Clone_byte_byte
theorem zhu:za1 Tryz.prog ID.slices_Clone_byte_byte (.pure [1] zag):=zu0 (zaC []) zbm ⟨Tryz.f99,by kernel_rfl,by kernel_rfl,by kernel_rfl⟩
noncomputable def zdz:Fact Tryz.prog:=⟨ID.slices_Clone_byte_byte,(.pure [1] zag),zhu⟩
noncomputable def zd3 (a0:D) (b0:List D):Option D:=
 sif (List.length (a0::b0)≤4294967296) <|
 sif (zd9 (1:Nat) (a0::b0)=true) <|
 sif (List.length (a0::b0)=List.length (a0::b0)) <|
 sif (List.all (a0::b0) D.free=true) <|
 some (.sl .own (a0::b0))
theorem zjC (tga0:Tag) (a0:D) (b0:List D):denE Tryz.prog (zaz []) ze2 [1] ID.slices_Clone_byte_byte [.sl tga0 (a0::b0)]=zd3 (D.lent a0) (D.lentL b0):=by kernel_rfl
theorem zh5 (tga0:Tag) (a0:D) (b0:List D):zag [.sl tga0 (a0::b0)]=zd3 (D.lent a0) (D.lentL b0):=zjC tga0 a0 b0
theorem zhv (tg:Tag):zag [.sl tg []]=some (.sl .own []):=(zq1 (some (.sl .own [])))
def ziH:Ann:={ loops:=[(1,.dead::.val (.cell (.int .i64))::dd 5 (.box true [(.arr 32)]::dd 17 [.view 8225 1664,.val (.cell (.int .i64)),.val (.cell (.int .i64))]))],ks:=[(8225,false)] }
noncomputable def zbT:Zs:=denS Tryz.prog (zaz [(ID.disk_Disk_may,(.st [] [0] [(8225,false)] za6)),(ID.slices_Clone_byte_byte,(.pure [1] zag))]) ziH [1,0] ID.disk_Disk_Read
theorem zmZ:za1 Tryz.prog ID.disk_Disk_Read (.st [] [1,0] [(8225,false)] zbT):=zbg (zaC [ziF,zdz]) zbm ⟨Tryz.f54,by kernel_rfl,by kernel_rfl,by kernel_rfl⟩
noncomputable def znQ:Fact Tryz.prog:=⟨ID.disk_Disk_Read,(.st [] [1,0] [(8225,false)] zbT),zmZ⟩
noncomputable def zg3 (za6:Zs) (zag:Zp) (a0:Nat) (a1:Int) (T0:Tb):Option Ans:=
 zar (za6 [.h 8225 a0 0,.int .i64 a1] [T0]) fun r1=>
 nilK r1.outs <|
 nilK r1.tbs <|
 asI .i64 r1.r fun i2=>
 brK (i2 != 0)
  (some (Ans.mk (.tup [.sl .own [],.int .i64 i2]) [] []))
  (sif (0≤a1) <|
  sif (a1.toNat < 52) <|
  getK T0 a0 fun d3=>
  sif (0+a1.toNat*32+32≤d3.length) <|
  sif (zhO (List.take (32:Nat) (List.drop (0+a1.toNat*32) d3))=true) <|
  sif (List.length (List.take (32:Nat) (List.drop (0+a1.toNat*32) d3))=(32:Nat)) <|
  sif (List.length (List.take (32:Nat) (List.drop (0+a1.toNat*32) d3))=(32:Nat)) <|
  getK T0 a0 fun d4=>
  getK d4 ((1664:Nat)) fun d5=>
  zbi d5 fun l6=>
  getK T0 a0 fun d7=>
  getK d7 ((1664:Nat)) fun d8=>
  zbi d8 fun l9=>
  sif (0+l6.length≤l9.length) <|
  zay ([Lf.arr (32)]) (List.take (32:Nat) (List.drop (0+a1.toNat*32) d3)) fun c10=>
  zb1 (α:=(Int×(List D×PUnit)×(Nat×Nat×Nat)×Int×Int×PUnit)×List (List D)×PUnit) (fun again11 ((i12,((l13,_),((x14,(x15,x16)),(i17,(i18,_))))),(U19,_))=>
   brK (decide (i18 < i17))
    (getK U19 x14 fun d20=>
    getK d20 ((1664:Nat)) fun d21=>
    zbi d21 fun l22=>
    sif (0≤i18) <|
    sif (i18.toNat < x16) <|
    getK U19 x14 fun d23=>
    getK d23 ((1664:Nat)) fun d24=>
    zbi d24 fun l25=>
    getK l25 (x15+i18.toNat) fun d26=>
    asAgg d26 fun cs27=>
    zay ([Lf.int .i64,Lf.arr (32)]) cs27 fun c28=>
    sif (D.width (D.agg ([D.int .i64 c28.1]++(c28.2.1++[])))=(33:Nat)) <|
    sif (List.length ([D.int .i64 c28.1]++(c28.2.1++[]))=(33:Nat)) <|
    brK (c28.1 == i12)
     (sif (33≤List.length ([.int .i64 c28.1]++(c28.2.1++[]))) <|
     sif (List.length (List.take (32:Nat) (List.drop (1:Nat) ([D.int .i64 c28.1]++(c28.2.1++[]))))=(32:Nat)) <|
     sif (List.length (List.take (32:Nat) (List.drop (1:Nat) ([D.int .i64 c28.1]++(c28.2.1++[]))))=(32:Nat)) <|
     sif (32≤List.length (l13++[])) <|
     letN (IntKind.i64.wrap (i18+1)) fun n29=>
     zay ([Lf.arr (32)]) (spl (0:Nat) (32:Nat) (l13++[]) (List.take (32:Nat) (List.drop (1:Nat) ([.int .i64 c28.1]++(c28.2.1++[]))))) fun c30=>
     again11 (((i12,c30,(x14,x15,x16),i17,n29,unit),U19,unit)))
     (letN (IntKind.i64.wrap (i18+1)) fun n31=>
     zay ([Lf.arr (32)]) (l13++[]) fun c32=>
     again11 (((i12,c32,(x14,x15,x16),i17,n31,unit),U19,unit))))
    (sif (32≤List.length (l13++[])) <|
    sif (32≤List.length (l13++[])) <|
    zar (zag [.sl .lent (cut (0:Nat) (32:Nat) (l13++[]))]) fun r33=>
    zbi r33 fun l34=>
    sif (l34.length=l34.length) <|
    sif (List.all l34 D.free=true) <|
    some (Ans.mk (.tup [.sl .own l34,.int .i64 0]) [] [])))
   (((a1,c10,(a0,(0:Nat),l6.length),(↑(l6.length):Int),(0:Int),unit),T0,unit)))
theorem zrm (za6:Zs) (zag:Zp) (a0:Nat) (a1:Int) (T0:Tb):denS Tryz.prog (zaz [(ID.disk_Disk_may,(.st [] [0] [(8225,false)] za6)),(ID.slices_Clone_byte_byte,(.pure [1] zag))]) ziH [1,0] ID.disk_Disk_Read [.h 8225 a0 0,.int .i64 a1] [T0]=zg3 za6 zag a0 a1 T0:=by kernel_rfl
theorem znR (a0:Nat) (a1:Int) (T0:Tb):zbT [.h 8225 a0 0,.int .i64 a1] [T0]=zg3 za6 zag a0 a1 T0:=zrm za6 zag a0 a1 T0
def zhi:Ann:={ loops:=[],ks:=[(2496,false),(8225,false)] }
noncomputable def zaL:Zs:=denS Tryz.prog (zaz [(ID.bench_Bench_may,(.st [] [0] [(2496,false)] zaG)),(ID.disk_Disk_Read,(.st [] [1,0] [(8225,false)] zbT))]) zhi [1,0] ID.bench_Bench_Read
theorem zk1:za1 Tryz.prog ID.bench_Bench_Read (.st [] [1,0] [(2496,false),(8225,false)] zaL):=zbg (zaC [zfd,znQ]) zbm ⟨Tryz.f21,by kernel_rfl,by kernel_rfl,by kernel_rfl⟩
noncomputable def zgV:Fact Tryz.prog:=⟨ID.bench_Bench_Read,(.st [] [1,0] [(2496,false),(8225,false)] zaL),zk1⟩
noncomputable def zf6 (zaG zbT:Zs) (a0:Nat) (a1 a2:Int) (T0 T1:Tb):Option Ans:=
 zar (zaG [.h 2496 a0 0,.int .i64 a1] [T0]) fun r1=>
 nilK r1.outs <|
 nilK r1.tbs <|
 asI .i64 r1.r fun i2=>
 brK (i2 != 0)
  (some (Ans.mk (.tup [.sl .own [],.int .i64 i2]) [] []))
  (getK T0 a0 fun d3=>
  getK d3 ((3:Nat)) fun d4=>
  zbi d4 fun l5=>
  getK T0 a0 fun d6=>
  getK d6 ((3:Nat)) fun d7=>
  zbi d7 fun l8=>
  sif (0≤a1) <|
  sif (a1.toNat < l5.length) <|
  getK T0 a0 fun d9=>
  getK d9 ((3:Nat)) fun d10=>
  zbi d10 fun l11=>
  getK l11 (0+a1.toNat) fun d12=>
  sif (D.isAgg d12=false) <|
  sif (D.width d12=(1:Nat)) <|
  sif (D.cell d12=true) <|
  zar (zbT [d12,.int .i64 a2] [T1]) fun r13=>
  nilK r13.outs <|
  nilK r13.tbs <|
  zej r13.r fun ts14=>
  zay ([Lf.any,Lf.any]) ts14 fun c15=>
  zbi c15.1 fun l16=>
  asI .i64 c15.2.1 fun i17=>
  sif (l16.length=l16.length) <|
  sif (List.all l16 D.free=true) <|
  some (Ans.mk (.tup [.sl .own l16,.int .i64 i17]) [] []))
theorem zpg (zaG zbT:Zs) (a0:Nat) (a1 a2:Int) (T0 T1:Tb):denS Tryz.prog (zaz [(ID.bench_Bench_may,(.st [] [0] [(2496,false)] zaG)),(ID.disk_Disk_Read,(.st [] [1,0] [(8225,false)] zbT))]) zhi [1,0] ID.bench_Bench_Read [.h 2496 a0 0,.int .i64 a1,.int .i64 a2] [T0,T1]=zf6 zaG zbT a0 a1 a2 T0 T1:=by kernel_rfl
theorem zlT (a0:Nat) (a1 a2:Int) (T0 T1:Tb):zaL [.h 2496 a0 0,.int .i64 a1,.int .i64 a2] [T0,T1]=zf6 zaG zbT a0 a1 a2 T0 T1:=zpg zaG zbT a0 a1 a2 T0 T1
def zvb:Ann:={ loops:=[] }
noncomputable def zda:Zp:=denP Tryz.prog (zaz [(ID.geom_Check,(.pure [0] zaF))]) zvb [0] ID.row_in
theorem zyI:za1 Tryz.prog ID.row_in (.pure [0] zda):=zam (zaC [zeP]) zbm ⟨Tryz.f100,by kernel_rfl,by kernel_rfl,by kernel_rfl⟩
noncomputable def zs1:Fact Tryz.prog:=⟨ID.row_in,(.pure [0] zda),zyI⟩
noncomputable def zwJ (zaF:Zp) (a0_0 a0_1 a0_2 a1:Int):Option D:=
 zar (zaF [.agg [.int .i64 a0_0,.int .i64 a0_1,.int .i64 a0_2]]) fun r1=>
 asI .i64 r1 fun i2=>
 brK (i2 == 0)
  (brK (decide (a1≥0))
   (some (.bool (decide (a1 < 16))))
   (some (.bool false)))
  (some (.bool false))
theorem zFW (zaF:Zp) (a0_0 a0_1 a0_2 a1:Int):denP Tryz.prog (zaz [(ID.geom_Check,(.pure [0] zaF))]) zvb [0] ID.row_in [.agg [.int .i64 a0_0,.int .i64 a0_1,.int .i64 a0_2],.int .i64 a1]=zwJ zaF a0_0 a0_1 a0_2 a1:=by kernel_rfl
theorem zz7 (a0_0 a0_1 a0_2 a1:Int):zda [.agg [.int .i64 a0_0,.int .i64 a0_1,.int .i64 a0_2],.int .i64 a1]=zwJ zaF a0_0 a0_1 a0_2 a1:=zFW zaF a0_0 a0_1 a0_2 a1
def zjD:Ann:={ loops:=[(0,dd 3 (.own 1::dd 2 [.val (.cell .lent),.val (.cell (.int .i64)),.val (.cell (.int .i64))]))] }
noncomputable def zbP:Zp:=denP Tryz.prog (zaz []) zjD [1] ID.erase_Missing
theorem znS:za1 Tryz.prog ID.erase_Missing (.pure [1] zbP):=zam (zaC []) zbm ⟨Tryz.f133,by kernel_rfl,by kernel_rfl,by kernel_rfl⟩
noncomputable def zph:Fact Tryz.prog:=⟨ID.erase_Missing,(.pure [1] zbP),znS⟩
noncomputable def zh6 (a0:List D):Option D:=
 zb1 (α:=(List D×List D×Int×Int×PUnit)×PUnit) (fun again1 ((l2,(l3,(i4,(i5,_)))),_)=>
  brK (decide (i5 < i4))
   (sif (0≤i5) <|
   getK l3 (i5.toNat) fun d6=>
   asSl d6 fun t7 l8=>
   brK ((↑(l8.length):Int) == 0)
    (sif (l2.length+1≤4294967296) <|
    sif (l2.length=l2.length) <|
    letN (IntKind.i64.wrap (i5+1)) fun n9=>
    sif (l2.length+1=List.length (l2++[D.int .i64 i5])) <|
    again1 (((l2++[.int .i64 i5],l3,i4,n9,unit),unit)))
    (letN (IntKind.i64.wrap (i5+1)) fun n10=>
    sif (l2.length=l2.length) <|
    again1 (((l2,l3,i4,n10,unit),unit))))
   (sif (l2.length=l2.length) <|
   sif (List.all l2 D.free=true) <|
   some (.sl .own l2)))
  ((([],a0,(↑(a0.length):Int),(0:Int),unit),unit))
theorem zs2 (tga0:Tag) (a0:List D):denP Tryz.prog (zaz []) zjD [1] ID.erase_Missing [.sl tga0 a0]=zh6 (D.lentL a0):=by kernel_rfl
theorem zpi (tga0:Tag) (a0:List D):zbP [.sl tga0 a0]=zh6 (D.lentL a0):=zs2 tga0 a0
def zkH:Ann:={ loops:=[],hints:=[(1,.at1 (.int .i64))] }
noncomputable def zaO:Zp:=denP Tryz.prog (zaz []) zkH [0] ID.erase_fits_1
theorem zpj:za1 Tryz.prog ID.erase_fits_1 (.pure [0] zaO):=zam (zaC []) zbm ⟨Tryz.f153,by kernel_rfl,by kernel_rfl,by kernel_rfl⟩
noncomputable def zjE:Fact Tryz.prog:=⟨ID.erase_fits_1,(.pure [0] zaO),zpj⟩
noncomputable def ziU (a0:List D) (c0:Int):Option D:=
 brK (decide ((↑(a0.length):Int) > 0))
  (some (.bool ((↑(a0.length):Int) != c0)))
  (some (.bool false))
theorem ztX (tga0:Tag) (a0:List D) (c0:Int):denP Tryz.prog (zaz []) zkH [0] ID.erase_fits_1 [.sl tga0 a0,.at_ (.int .i64 c0)]=ziU (D.lentL a0) c0:=by kernel_rfl
theorem zql (tga0:Tag) (a0:List D) (c0:Int):zaO [.sl tga0 a0,.at_ (.int .i64 c0)]=ziU (D.lentL a0) c0:=ztX tga0 a0 c0
def zjF:Ann:={ loops:=[] }
noncomputable def zax:Zp:=denP Tryz.prog (zaz []) zjF [0] ID.row_sectors_1
theorem znT:za1 Tryz.prog ID.row_sectors_1 (.pure [0] zax):=zam (zaC []) zbm ⟨Tryz.f139,by kernel_rfl,by kernel_rfl,by kernel_rfl⟩
noncomputable def zf7:Fact Tryz.prog:=⟨ID.row_sectors_1,(.pure [0] zax),znT⟩
noncomputable def zh7 (a0:List D):Option D:=
 some (.bool ((↑(a0.length):Int) != 32))
theorem zs3 (tga0:Tag) (a0:List D):denP Tryz.prog (zaz []) zjF [0] ID.row_sectors_1 [.sl tga0 a0]=zh7 (D.lentL a0):=by kernel_rfl
theorem zpk (tga0:Tag) (a0:List D):zax [.sl tga0 a0]=zh7 (D.lentL a0):=zs3 tga0 a0
def znU:Ann:={ loops:=[] }
noncomputable def zaH:Zp:=denP Tryz.prog (zaz []) znU [0] ID.record_Decode_1
theorem zlU:za1 Tryz.prog ID.record_Decode_1 (.pure [0] zaH):=zam (zaC []) zbm ⟨Tryz.f108,by kernel_rfl,by kernel_rfl,by kernel_rfl⟩
noncomputable def zhj:Fact Tryz.prog:=⟨ID.record_Decode_1,(.pure [0] zaH),zlU⟩
def zc3:List (Nat×Ann):=[(153,{ loops:=[(0,[.val (.cell .lent),.val (.fn1 (153:FuncId) (.int .i64)),.dead,.dead,.dead,.dead,.dead,.val (.cell (.int .i64)),.val (.cell (.int .i64))])] }),(139,{ loops:=[(0,[.val (.cell .lent),.fnc 139,.dead,.dead,.dead,.dead,.dead,.val (.cell (.int .i64)),.val (.cell (.int .i64))])] }),(108,{ loops:=[(0,[.val (.cell .lent),.fnc 108,.dead,.dead,.dead,.dead,.dead,.val (.cell (.int .i64)),.val (.cell (.int .i64))])] })]
noncomputable def zaj:Zp:=denA Tryz.prog (zaz [(ID.erase_fits_1,(.pure [0] zaO)),(ID.row_sectors_1,(.pure [0] zax)),(ID.record_Decode_1,(.pure [0] zaH))]) zc3 [0] ID.slices_IndexFunc_byte_byte
theorem zge:za1 Tryz.prog ID.slices_IndexFunc_byte_byte (.pure [0] zaj):=zu1 (zaC [zjE,zf7,zhj]) zbm ⟨Tryz.f143,by kernel_rfl,by kernel_rfl,by kernel_rfl⟩
noncomputable def zgB:Fact Tryz.prog:=⟨ID.slices_IndexFunc_byte_byte,(.pure [0] zaj),zge⟩
noncomputable def zcB (zaO zax zaH:Zp) (a0:List D) (c0:Int):Option D:=
 zb1 (α:=(List D×Int×Int×Int×PUnit)×PUnit) (fun again1 ((l2,(i3,(i4,(i5,_)))),_)=>
  brK (decide (i5 < i4))
   (sif (0≤i5) <|
   getK l2 (i5.toNat) fun d6=>
   asSl d6 fun t7 l8=>
   zar (zaO [.sl t7 l8,D.at_ (.int .i64 i3)]) fun r9=>
   asB r9 fun b10=>
   brK b10
    (some (.int .i64 i5))
    (letN (IntKind.i64.wrap (i5+1)) fun n11=>
    again1 (((l2,i3,i4,n11,unit),unit))))
   (some (.int .i64 (-1))))
  (((a0,c0,(↑(a0.length):Int),(0:Int),unit),unit))
theorem zfO (zaO zax zaH:Zp) (tga0:Tag) (a0:List D) (c0:Int):denA Tryz.prog (zaz [(ID.erase_fits_1,(.pure [0] zaO)),(ID.row_sectors_1,(.pure [0] zax)),(ID.record_Decode_1,(.pure [0] zaH))]) zc3 [0] ID.slices_IndexFunc_byte_byte [.sl tga0 a0,.fn 153 [] [.at_ (.int .i64 c0)]]=zcB zaO zax zaH (D.lentL a0) c0:=by kernel_rfl
theorem zfe (tga0:Tag) (a0:List D) (c0:Int):zaj [.sl tga0 a0,.fn 153 [] [.at_ (.int .i64 c0)]]=zcB zaO zax zaH (D.lentL a0) c0:=zfO zaO zax zaH tga0 a0 c0
noncomputable def zcq (zaO zax zaH:Zp) (a0:List D):Option D:=
 zb1 (α:=(List D×Int×Int×PUnit)×PUnit) (fun again1 ((l2,(i3,(i4,_))),_)=>
  brK (decide (i4 < i3))
   (sif (0≤i4) <|
   getK l2 (i4.toNat) fun d5=>
   asSl d5 fun t6 l7=>
   zar (zax [.sl t6 l7]) fun r8=>
   asB r8 fun b9=>
   brK b9
    (some (.int .i64 i4))
    (letN (IntKind.i64.wrap (i4+1)) fun n10=>
    again1 (((l2,i3,n10,unit),unit))))
   (some (.int .i64 (-1))))
  (((a0,(↑(a0.length):Int),(0:Int),unit),unit))
theorem zff (zaO zax zaH:Zp) (tga0:Tag) (a0:List D):denA Tryz.prog (zaz [(ID.erase_fits_1,(.pure [0] zaO)),(ID.row_sectors_1,(.pure [0] zax)),(ID.record_Decode_1,(.pure [0] zaH))]) zc3 [0] ID.slices_IndexFunc_byte_byte [.sl tga0 a0,.fn 139 [] []]=zcq zaO zax zaH (D.lentL a0):=by kernel_rfl
theorem zeC (tga0:Tag) (a0:List D):zaj [.sl tga0 a0,.fn 139 [] []]=zcq zaO zax zaH (D.lentL a0):=zff zaO zax zaH tga0 a0
def zcK:Ann:={ loops:=[] }
noncomputable def zah:Zp:=denP Tryz.prog (zaz [(ID.slices_IndexFunc_byte_byte,(.pure [0] zaj)),(ID.erase_fits_1,(.pure [0] zaO)),(ID.row_sectors_1,(.pure [0] zax)),(ID.record_Decode_1,(.pure [0] zaH))]) zcK [0] ID.slices_ContainsFunc_byte_byte
theorem zfA:za1 Tryz.prog ID.slices_ContainsFunc_byte_byte (.pure [0] zah):=zam (zaC [zgB,zjE,zf7,zhj]) zbm ⟨Tryz.f107,by kernel_rfl,by kernel_rfl,by kernel_rfl⟩
noncomputable def zdF:Fact Tryz.prog:=⟨ID.slices_ContainsFunc_byte_byte,(.pure [0] zah),zfA⟩
noncomputable def zcr (zaj zaO zax zaH:Zp) (a0:List D) (c0:Int):Option D:=
 zar (zaj [.sl .lent a0,.fn (153:FuncId) [] [D.at_ (.int .i64 c0)]]) fun r1=>
 asI .i64 r1 fun i2=>
 some (.bool (decide (i2≥0)))
theorem zfg (zaj zaO zax zaH:Zp) (tga0:Tag) (a0:List D) (c0:Int):denP Tryz.prog (zaz [(ID.slices_IndexFunc_byte_byte,(.pure [0] zaj)),(ID.erase_fits_1,(.pure [0] zaO)),(ID.row_sectors_1,(.pure [0] zax)),(ID.record_Decode_1,(.pure [0] zaH))]) zcK [0] ID.slices_ContainsFunc_byte_byte [.sl tga0 a0,.fn 153 [] [.at_ (.int .i64 c0)]]=zcr zaj zaO zax zaH (D.lentL a0) c0:=by kernel_rfl
theorem zeD (tga0:Tag) (a0:List D) (c0:Int):zah [.sl tga0 a0,.fn 153 [] [.at_ (.int .i64 c0)]]=zcr zaj zaO zax zaH (D.lentL a0) c0:=zfg zaj zaO zax zaH tga0 a0 c0
noncomputable def zcb (zaj zaO zax zaH:Zp) (a0:List D):Option D:=
 zar (zaj [.sl .lent a0,.fn (139:FuncId) [] []]) fun r1=>
 asI .i64 r1 fun i2=>
 some (.bool (decide (i2≥0)))
theorem zeE (zaj zaO zax zaH:Zp) (tga0:Tag) (a0:List D):denP Tryz.prog (zaz [(ID.slices_IndexFunc_byte_byte,(.pure [0] zaj)),(ID.erase_fits_1,(.pure [0] zaO)),(ID.row_sectors_1,(.pure [0] zax)),(ID.record_Decode_1,(.pure [0] zaH))]) zcK [0] ID.slices_ContainsFunc_byte_byte [.sl tga0 a0,.fn 139 [] []]=zcb zaj zaO zax zaH (D.lentL a0):=by kernel_rfl
theorem zeg (tga0:Tag) (a0:List D):zah [.sl tga0 a0,.fn 139 [] []]=zcb zaj zaO zax zaH (D.lentL a0):=zeE zaj zaO zax zaH tga0 a0
def zni:Ann:={ loops:=[] }
noncomputable def zcs:Zp:=denP Tryz.prog (zaz [(ID.slices_ContainsFunc_byte_byte,(.pure [0] zah))]) zni [0] ID.erase_fits
theorem zrn:za1 Tryz.prog ID.erase_fits (.pure [0] zcs):=zam (zaC [zdF]) zbm ⟨Tryz.f134,by kernel_rfl,by kernel_rfl,by kernel_rfl⟩
noncomputable def zs4:Fact Tryz.prog:=⟨ID.erase_fits,(.pure [0] zcs),zrn⟩
noncomputable def zlV (zah:Zp) (a0:Int) (a1:List D):Option D:=
 zar (zah [.sl .lent a1,.fn (153:Nat) [] [D.at_ (.int .i64 a0)]]) fun r1=>
 asB r1 fun b2=>
 some (.bool !b2)
theorem zyJ (zah:Zp) (tga1:Tag) (a0:Int) (a1:List D):denP Tryz.prog (zaz [(ID.slices_ContainsFunc_byte_byte,(.pure [0] zah))]) zni [0] ID.erase_fits [.int .i64 a0,.sl tga1 a1]=zlV zah a0 (D.lentL a1):=by kernel_rfl
theorem zs5 (tga1:Tag) (a0:Int) (a1:List D):zcs [.int .i64 a0,.sl tga1 a1]=zlV zah a0 (D.lentL a1):=zyJ zah tga1 a0 a1
def zkI:Ann:={ loops:=[(0,.val (.cell (.int .i64))::dd 4 (.own 1::dd 3 [.val (.cell .lent),.val (.cell (.int .i64)),.val (.cell (.int .i64))]))] }
noncomputable def zb6:Zp:=denP Tryz.prog (zaz []) zkI [1] ID.erase_filled
theorem zpl:za1 Tryz.prog ID.erase_filled (.pure [1] zb6):=zam (zaC []) zbm ⟨Tryz.f135,by kernel_rfl,by kernel_rfl,by kernel_rfl⟩
noncomputable def zqm:Fact Tryz.prog:=⟨ID.erase_filled,(.pure [1] zb6),zpl⟩
noncomputable def ziV (a0:Int) (a1:List D):Option D:=
 zb1 (α:=(Int×List D×List D×Int×Int×PUnit)×PUnit) (fun again1 ((i2,(l3,(l4,(i5,(i6,_))))),_)=>
  brK (decide (i6 < i5))
   (sif (0≤i6) <|
   getK l4 (i6.toNat) fun d7=>
   asSl d7 fun t8 l9=>
   sif (0≤i2) <|
   sif (i2=i2) <|
   sif (i2*1≤140737488355328) <|
   sif (i2≤140737488355328) <|
   sif (0+i2.toNat≤List.length (List.replicate (i2.toNat) (D.int .u8 0))) <|
   sif (cells l9=true) <|
   sif (0+i2.toNat≤List.length ([]++List.take (i2.toNat) l9++List.drop (0+List.length (List.take (i2.toNat) l9)) (List.replicate (i2.toNat) (D.int .u8 0)))) <|
   sif (l3.length+1≤4294967296) <|
   sif (l3.length=l3.length) <|
   letN (IntKind.i64.wrap (i6+1)) fun n10=>
   sif (l3.length+1=List.length (l3++[D.sl .fresh (cut (0:Nat) (i2.toNat) ([]++List.take (i2.toNat) l9++List.drop (0+List.length (List.take (i2.toNat) l9)) (List.replicate (i2.toNat) (D.int .u8 0))))])) <|
   again1 (((i2,l3++[.sl .fresh (cut (0:Nat) (i2.toNat) ([]++List.take (i2.toNat) l9++List.drop (0+List.length (List.take (i2.toNat) l9)) (List.replicate (i2.toNat) (.int .u8 0))))],l4,i5,n10,unit),unit)))
   (sif (l3.length=l3.length) <|
   sif (List.all l3 D.free=true) <|
   some (.sl .own l3)))
  (((a0,[],a1,(↑(a1.length):Int),(0:Int),unit),unit))
theorem ztY (tga1:Tag) (a0:Int) (a1:List D):denP Tryz.prog (zaz []) zkI [1] ID.erase_filled [.int .i64 a0,.sl tga1 a1]=ziV a0 (D.lentL a1):=by kernel_rfl
theorem zqn (tga1:Tag) (a0:Int) (a1:List D):zb6 [.int .i64 a0,.sl tga1 a1]=ziV a0 (D.lentL a1):=ztY tga1 a0 a1
def zpm:Ann:={ loops:=[] }
noncomputable def zbb:Zp:=denP Tryz.prog (zaz []) zpm [0] ID.gf_double
theorem zs6:za1 Tryz.prog ID.gf_double (.pure [0] zbb):=zam (zaC []) zbm ⟨Tryz.f156,by kernel_rfl,by kernel_rfl,by kernel_rfl⟩
noncomputable def ziW:Fact Tryz.prog:=⟨ID.gf_double,(.pure [0] zbb),zs6⟩
noncomputable def znV (a0:Int):Option D:=
 brK (decide (a0≥128))
  (letN (IntKind.u8.wrap (a0*2)) fun n1=>
  letN (bits BinOp.xor IntKind.u8 n1 (29:Int)) fun n2=>
  some (.int .u8 n2))
  (letN (IntKind.u8.wrap (a0*2)) fun n3=>
  some (.int .u8 n3))
theorem zz8 (a0:Int):denP Tryz.prog (zaz []) zpm [0] ID.gf_double [.int .u8 a0]=znV a0:=by kernel_rfl
theorem ztZ (a0:Int):zbb [.int .u8 a0]=znV a0:=zz8 a0
def zvc:Ann:={ loops:=[(0,.val (.cell (.int .u8))::.val (.cell (.int .u8))::dd 3 [.val (.cell (.int .u8))])] }
noncomputable def zfo:Zp:=denP Tryz.prog (zaz [(ID.gf_double,(.pure [0] zbb))]) zvc [0] ID.gf_Mul
theorem zyK:za1 Tryz.prog ID.gf_Mul (.pure [0] zfo):=zam (zaC [ziW]) zbm ⟨Tryz.f160,by kernel_rfl,by kernel_rfl,by kernel_rfl⟩
noncomputable def zz9:Fact Tryz.prog:=⟨ID.gf_Mul,(.pure [0] zfo),zyK⟩
noncomputable def zwK (zbb:Zp) (a0 a1:Int):Option D:=
 zb1 (α:=(Int×Int×Int×PUnit)×PUnit) (fun again1 ((i2,(i3,(i4,_))),_)=>
  brK (decide (i3 > 0))
   (letN (bits BinOp.and IntKind.u8 i3 (1:Int)) fun n5=>
   brK (n5 == 1)
    (letN (bits BinOp.xor IntKind.u8 i4 i2) fun n6=>
    zar (zbb [.int .u8 i2]) fun r7=>
    asI .u8 r7 fun i8=>
    letN (Int.fdiv i3 (2:Int)) fun n9=>
    again1 (((i8,n9,n6,unit),unit)))
    (zar (zbb [.int .u8 i2]) fun r10=>
    asI .u8 r10 fun i11=>
    letN (Int.fdiv i3 (2:Int)) fun n12=>
    again1 (((i11,n12,i4,unit),unit))))
   (some (.int .u8 i4)))
  (((a0,a1,(0:Int),unit),unit))
theorem zFX (zbb:Zp) (a0 a1:Int):denP Tryz.prog (zaz [(ID.gf_double,(.pure [0] zbb))]) zvc [0] ID.gf_Mul [.int .u8 a0,.int .u8 a1]=zwK zbb a0 a1:=by kernel_rfl
theorem zAa (a0 a1:Int):zfo [.int .u8 a0,.int .u8 a1]=zwK zbb a0 a1:=zFX zbb a0 a1
def znj:Ann:={ loops:=[(0,.dead::.val (.cell (.int .u8))::dd 3 (.own 1::dd 2 [.val (.cell .lent),.val (.cell (.int .i64)),.val (.cell (.int .i64))]))] }
noncomputable def zaT:Zp:=denP Tryz.prog (zaz [(ID.gf_Mul,(.pure [0] zfo))]) znj [1] ID.synd_Scale
theorem zro:za1 Tryz.prog ID.synd_Scale (.pure [1] zaT):=zam (zaC [zz9]) zbm ⟨Tryz.f155,by kernel_rfl,by kernel_rfl,by kernel_rfl⟩
noncomputable def zh8:Fact Tryz.prog:=⟨ID.synd_Scale,(.pure [1] zaT),zro⟩
noncomputable def zlW (zfo:Zp) (a0:List D) (a1:Int):Option D:=
 zb1 (α:=(Int×List D×List D×Int×Int×PUnit)×PUnit) (fun again1 ((i2,(l3,(l4,(i5,(i6,_))))),_)=>
  brK (decide (i6 < i5))
   (sif (0≤i6) <|
   getK l4 (i6.toNat) fun d7=>
   asI .u8 d7 fun i8=>
   zar (zfo [.int .u8 i8,.int .u8 i2]) fun r9=>
   asI .u8 r9 fun i10=>
   sif (l3.length+1≤4294967296) <|
   sif (l3.length=l3.length) <|
   letN (IntKind.i64.wrap (i6+1)) fun n11=>
   sif (l3.length+1=List.length (l3++[D.int .u8 i10])) <|
   again1 (((i2,l3++[.int .u8 i10],l4,i5,n11,unit),unit)))
   (sif (l3.length=l3.length) <|
   sif (List.all l3 D.free=true) <|
   some (.sl .own l3)))
  (((a1,[],a0,(↑(a0.length):Int),(0:Int),unit),unit))
theorem zyL (zfo:Zp) (tga0:Tag) (a0:List D) (a1:Int):denP Tryz.prog (zaz [(ID.gf_Mul,(.pure [0] zfo))]) znj [1] ID.synd_Scale [.sl tga0 a0,.int .u8 a1]=zlW zfo (D.lentL a0) a1:=by kernel_rfl
theorem zs7 (tga0:Tag) (a0:List D) (a1:Int):zaT [.sl tga0 a0,.int .u8 a1]=zlW zfo (D.lentL a0) a1:=zyL zfo tga0 a0 a1
def zq7:Ann:={ loops:=[(1,.dead::.val (.cell .lent)::dd 3 (.own 1::dd 7 [.val (.cell .lent),.val (.cell (.int .i64)),.val (.cell (.int .i64))]))] }
noncomputable def zaV:Zp:=denP Tryz.prog (zaz []) zq7 [1] ID.synd_Add
theorem zt0:za1 Tryz.prog ID.synd_Add (.pure [1] zaV):=zam (zaC []) zbm ⟨Tryz.f137,by kernel_rfl,by kernel_rfl,by kernel_rfl⟩
noncomputable def zhw:Fact Tryz.prog:=⟨ID.synd_Add,(.pure [1] zaV),zt0⟩
noncomputable def zqo (a0 a1:List D):Option D:=
 brK ((↑(a0.length):Int) != (↑(a1.length):Int))
  (some (.sl .own []))
  (zb1 (α:=(List D×List D×List D×Int×Int×PUnit)×PUnit) (fun again1 ((l2,(l3,(l4,(i5,(i6,_))))),_)=>
   brK (decide (i6 < i5))
    (sif (0≤i6) <|
    getK l4 (i6.toNat) fun d7=>
    asI .u8 d7 fun i8=>
    sif (0≤i6) <|
    getK l2 (i6.toNat) fun d9=>
    asI .u8 d9 fun i10=>
    letN (bits BinOp.xor IntKind.u8 i8 i10) fun n11=>
    sif (l3.length+1≤4294967296) <|
    sif (l3.length=l3.length) <|
    letN (IntKind.i64.wrap (i6+1)) fun n12=>
    sif (l3.length+1=List.length (l3++[D.int .u8 n11])) <|
    again1 (((l2,l3++[.int .u8 n11],l4,i5,n12,unit),unit)))
    (sif (l3.length=l3.length) <|
    sif (List.all l3 D.free=true) <|
    some (.sl .own l3)))
   (((a1,[],a0,(↑(a0.length):Int),(0:Int),unit),unit)))
theorem zCm (tga0 tga1:Tag) (a0 a1:List D):denP Tryz.prog (zaz []) zq7 [1] ID.synd_Add [.sl tga0 a0,.sl tga1 a1]=zqo (D.lentL a0) (D.lentL a1):=by kernel_rfl
theorem zwL (tga0 tga1:Tag) (a0 a1:List D):zaV [.sl tga0 a0,.sl tga1 a1]=zqo (D.lentL a0) (D.lentL a1):=zCm tga0 tga1 a0 a1
def zvd:Ann:={ loops:=[(0,dd 3 (.val (.cell (.int .u8))::dd 3 [.val (.cell (.int .i64)),.val (.cell (.int .i64))]))] }
noncomputable def za3:Zp:=denP Tryz.prog (zaz [(ID.gf_double,(.pure [0] zbb))]) zvd [0] ID.gf_Pow
theorem zyM:za1 Tryz.prog ID.gf_Pow (.pure [0] za3):=zam (zaC [ziW]) zbm ⟨Tryz.f142,by kernel_rfl,by kernel_rfl,by kernel_rfl⟩
noncomputable def zh9:Fact Tryz.prog:=⟨ID.gf_Pow,(.pure [0] za3),zyM⟩
noncomputable def zrQ (zbb:Zp) (a0:Int):Option D:=
 letN (Int.tmod a0 (255:Int)) fun n1=>
 letN (IntKind.i64.wrap (n1+255)) fun n2=>
 letN (Int.tmod n2 (255:Int)) fun n3=>
 zb1 (α:=(Int×Int×Int×PUnit)×PUnit) (fun again4 ((i5,(i6,(i7,_))),_)=>
  brK (decide (i7 < i6))
   (zar (zbb [.int .u8 i5]) fun r8=>
   asI .u8 r8 fun i9=>
   letN (IntKind.i64.wrap (i7+1)) fun n10=>
   again4 (((i9,i6,n10,unit),unit)))
   (some (.int .u8 i5)))
  ((((1:Int),n3,(0:Int),unit),unit))
theorem zFY (zbb:Zp) (a0:Int):denP Tryz.prog (zaz [(ID.gf_double,(.pure [0] zbb))]) zvd [0] ID.gf_Pow [.int .i64 a0]=zrQ zbb a0:=by kernel_rfl
theorem zs8 (a0:Int):za3 [.int .i64 a0]=zrQ zbb a0:=zFY zbb a0
def zq8:Ann:={ loops:=[] }
noncomputable def zbL:Zp:=denP Tryz.prog (zaz []) zq8 [0] ID.synd_P_1
theorem zt1:za1 Tryz.prog ID.synd_P_1 (.pure [0] zbL):=zam (zaC []) zbm ⟨Tryz.f141,by kernel_rfl,by kernel_rfl,by kernel_rfl⟩
noncomputable def zpn:Fact Tryz.prog:=⟨ID.synd_P_1,(.pure [0] zbL),zt1⟩
noncomputable def zve (a0:Int):Option D:=
 some (.int .u8 1)
theorem zCn (a0:Int):denP Tryz.prog (zaz []) zq8 [0] ID.synd_P_1 [.int .i64 a0]=zve a0:=by kernel_rfl
theorem zwM (a0:Int):zbL [.int .i64 a0]=zve a0:=zCn a0
def zlX:List (Nat×Ann):=[(141,{ loops:=[(1,[.dead,.fnc 141,.dead,.dead,.dead,.own 1,.dead,.dead,.dead,.dead,.dead,.dead,.dead,.dead,.dead,.dead,.val (.cell .lent),.val (.cell (.int .i64)),.val (.cell (.int .i64))])] }),(142,{ loops:=[(1,[.dead,.fnc 142,.dead,.dead,.dead,.own 1,.dead,.dead,.dead,.dead,.dead,.dead,.dead,.dead,.dead,.dead,.val (.cell .lent),.val (.cell (.int .i64)),.val (.cell (.int .i64))])] })]
noncomputable def zb0:Zp:=denA Tryz.prog (zaz [(ID.synd_Scale,(.pure [1] zaT)),(ID.synd_Add,(.pure [1] zaV)),(ID.gf_Pow,(.pure [0] za3)),(ID.synd_P_1,(.pure [0] zbL))]) zlX [1] ID.synd_sum
theorem zt2:za1 Tryz.prog ID.synd_sum (.pure [1] zb0):=zu1 (zaC [zh8,zhw,zh9,zpn]) zbm ⟨Tryz.f140,by kernel_rfl,by kernel_rfl,by kernel_rfl⟩
noncomputable def zpo:Fact Tryz.prog:=⟨ID.synd_sum,(.pure [1] zb0),zt2⟩
noncomputable def zko (zaT zaV za3 zbL:Zp) (a0:List D):Option D:=
 brK ((↑(a0.length):Int) == 0)
  (some (.sl .own []))
  (getK a0 ((0:Nat)) fun d1=>
  asSl d1 fun t2 l3=>
  sif ((↑(l3.length):Int)=(↑(l3.length):Int)) <|
  sif ((↑(l3.length):Int)*1≤140737488355328) <|
  sif ((↑(l3.length):Int)≤140737488355328) <|
  sif (Int.toNat (↑(l3.length):Int)=List.length (List.replicate (Int.toNat (↑(l3.length):Int)) (D.int .u8 0))) <|
  zb1 (α:=(List D×List D×Int×Int×PUnit)×PUnit) (fun again4 ((l5,(l6,(i7,(i8,_)))),_)=>
   brK (decide (i8 < i7))
    (sif (0≤i8) <|
    getK l6 (i8.toNat) fun d9=>
    asSl d9 fun t10 l11=>
    sif (0+l5.length≤l5.length) <|
    brK ((↑(l11.length):Int) != (↑(l5.length):Int))
     (some (.sl .own []))
     (zar (zbL [.int .i64 i8]) fun r12=>
     asI .u8 r12 fun i13=>
     zar (zaT [.sl t10 l11,.int .u8 i13]) fun r14=>
     zbi r14 fun l15=>
     sif (0+l5.length≤l5.length) <|
     sif (0+l15.length≤l15.length) <|
     zar (zaV [.sl .lent (cut 0 l5.length l5),.sl .lent (cut 0 l15.length l15)]) fun r16=>
     zbi r16 fun l17=>
     letN (IntKind.i64.wrap (i8+1)) fun n18=>
     sif (l17.length=l17.length) <|
     again4 (((l17,l6,i7,n18,unit),unit))))
    (sif (l5.length=l5.length) <|
    sif (List.all l5 D.free=true) <|
    some (.sl .own l5)))
   (((List.replicate (Int.toNat (↑(l3.length):Int)) (.int .u8 0),a0,(↑(a0.length):Int),(0:Int),unit),unit)))
theorem zwN (zaT zaV za3 zbL:Zp) (tga0:Tag) (a0:List D):denA Tryz.prog (zaz [(ID.synd_Scale,(.pure [1] zaT)),(ID.synd_Add,(.pure [1] zaV)),(ID.gf_Pow,(.pure [0] za3)),(ID.synd_P_1,(.pure [0] zbL))]) zlX [1] ID.synd_sum [.sl tga0 a0,.fn 141 [] []]=zko zaT zaV za3 zbL (D.lentL a0):=by kernel_rfl
theorem zrp (tga0:Tag) (a0:List D):zb0 [.sl tga0 a0,.fn 141 [] []]=zko zaT zaV za3 zbL (D.lentL a0):=zwN zaT zaV za3 zbL tga0 a0
noncomputable def zkp (zaT zaV za3 zbL:Zp) (a0:List D):Option D:=
 brK ((↑(a0.length):Int) == 0)
  (some (.sl .own []))
  (getK a0 ((0:Nat)) fun d1=>
  asSl d1 fun t2 l3=>
  sif ((↑(l3.length):Int)=(↑(l3.length):Int)) <|
  sif ((↑(l3.length):Int)*1≤140737488355328) <|
  sif ((↑(l3.length):Int)≤140737488355328) <|
  sif (Int.toNat (↑(l3.length):Int)=List.length (List.replicate (Int.toNat (↑(l3.length):Int)) (D.int .u8 0))) <|
  zb1 (α:=(List D×List D×Int×Int×PUnit)×PUnit) (fun again4 ((l5,(l6,(i7,(i8,_)))),_)=>
   brK (decide (i8 < i7))
    (sif (0≤i8) <|
    getK l6 (i8.toNat) fun d9=>
    asSl d9 fun t10 l11=>
    sif (0+l5.length≤l5.length) <|
    brK ((↑(l11.length):Int) != (↑(l5.length):Int))
     (some (.sl .own []))
     (zar (za3 [.int .i64 i8]) fun r12=>
     asI .u8 r12 fun i13=>
     zar (zaT [.sl t10 l11,.int .u8 i13]) fun r14=>
     zbi r14 fun l15=>
     sif (0+l5.length≤l5.length) <|
     sif (0+l15.length≤l15.length) <|
     zar (zaV [.sl .lent (cut 0 l5.length l5),.sl .lent (cut 0 l15.length l15)]) fun r16=>
     zbi r16 fun l17=>
     letN (IntKind.i64.wrap (i8+1)) fun n18=>
     sif (l17.length=l17.length) <|
     again4 (((l17,l6,i7,n18,unit),unit))))
    (sif (l5.length=l5.length) <|
    sif (List.all l5 D.free=true) <|
    some (.sl .own l5)))
   (((List.replicate (Int.toNat (↑(l3.length):Int)) (.int .u8 0),a0,(↑(a0.length):Int),(0:Int),unit),unit)))
theorem zwO (zaT zaV za3 zbL:Zp) (tga0:Tag) (a0:List D):denA Tryz.prog (zaz [(ID.synd_Scale,(.pure [1] zaT)),(ID.synd_Add,(.pure [1] zaV)),(ID.gf_Pow,(.pure [0] za3)),(ID.synd_P_1,(.pure [0] zbL))]) zlX [1] ID.synd_sum [.sl tga0 a0,.fn 142 [] []]=zkp zaT zaV za3 zbL (D.lentL a0):=by kernel_rfl
theorem zrq (tga0:Tag) (a0:List D):zb0 [.sl tga0 a0,.fn 142 [] []]=zkp zaT zaV za3 zbL (D.lentL a0):=zwO zaT zaV za3 zbL tga0 a0
def zvf:Ann:={ loops:=[] }
noncomputable def zcf:Zp:=denP Tryz.prog (zaz [(ID.synd_sum,(.pure [1] zb0)),(ID.synd_P_1,(.pure [0] zbL))]) zvf [1] ID.synd_P
theorem zyN:za1 Tryz.prog ID.synd_P (.pure [1] zcf):=zam (zaC [zpo,zpn]) zbm ⟨Tryz.f105,by kernel_rfl,by kernel_rfl,by kernel_rfl⟩
noncomputable def znW:Fact Tryz.prog:=⟨ID.synd_P,(.pure [1] zcf),zyN⟩
noncomputable def zwP (zb0 zbL:Zp) (a0:List D):Option D:=
 zar (zb0 [.sl .lent a0,.fn (141:Nat) [] []]) fun r1=>
 zbi r1 fun l2=>
 sif (l2.length=l2.length) <|
 sif (List.all l2 D.free=true) <|
 some (.sl .own l2)
theorem zFZ (zb0 zbL:Zp) (tga0:Tag) (a0:List D):denP Tryz.prog (zaz [(ID.synd_sum,(.pure [1] zb0)),(ID.synd_P_1,(.pure [0] zbL))]) zvf [1] ID.synd_P [.sl tga0 a0]=zwP zb0 zbL (D.lentL a0):=by kernel_rfl
theorem zAb (tga0:Tag) (a0:List D):zcf [.sl tga0 a0]=zwP zb0 zbL (D.lentL a0):=zFZ zb0 zbL tga0 a0
def zvg:Ann:={ loops:=[] }
noncomputable def zcg:Zp:=denP Tryz.prog (zaz [(ID.synd_sum,(.pure [1] zb0)),(ID.gf_Pow,(.pure [0] za3))]) zvg [1] ID.synd_Q
theorem zyO:za1 Tryz.prog ID.synd_Q (.pure [1] zcg):=zam (zaC [zpo,zh9]) zbm ⟨Tryz.f106,by kernel_rfl,by kernel_rfl,by kernel_rfl⟩
noncomputable def znX:Fact Tryz.prog:=⟨ID.synd_Q,(.pure [1] zcg),zyO⟩
noncomputable def zwQ (zb0 za3:Zp) (a0:List D):Option D:=
 zar (zb0 [.sl .lent a0,.fn (142:Nat) [] []]) fun r1=>
 zbi r1 fun l2=>
 sif (l2.length=l2.length) <|
 sif (List.all l2 D.free=true) <|
 some (.sl .own l2)
theorem zF0 (zb0 za3:Zp) (tga0:Tag) (a0:List D):denP Tryz.prog (zaz [(ID.synd_sum,(.pure [1] zb0)),(ID.gf_Pow,(.pure [0] za3))]) zvg [1] ID.synd_Q [.sl tga0 a0]=zwQ zb0 za3 (D.lentL a0):=by kernel_rfl
theorem zAc (tga0:Tag) (a0:List D):zcg [.sl tga0 a0]=zwQ zb0 za3 (D.lentL a0):=zF0 zb0 za3 tga0 a0
def zvh:Ann:={ loops:=[(0,.val (.cell (.int .u8))::dd 2 [.val (.cell (.int .u8)),.dead,.val (.cell (.int .i64))])] }
noncomputable def zfp:Zp:=denP Tryz.prog (zaz [(ID.gf_double,(.pure [0] zbb))]) zvh [0] ID.gf_Log
theorem zyP:za1 Tryz.prog ID.gf_Log (.pure [0] zfp):=zam (zaC [ziW]) zbm ⟨Tryz.f159,by kernel_rfl,by kernel_rfl,by kernel_rfl⟩
noncomputable def zAd:Fact Tryz.prog:=⟨ID.gf_Log,(.pure [0] zfp),zyP⟩
noncomputable def zwR (zbb:Zp) (a0:Int):Option D:=
 zb1 (α:=(Int×Int×Int×PUnit)×PUnit) (fun again1 ((i2,(i3,(i4,_))),_)=>
  brK (decide (i4 < 255))
   (brK (i3 == i2)
    (some (.int .i64 i4))
    (zar (zbb [.int .u8 i3]) fun r5=>
    asI .u8 r5 fun i6=>
    letN (IntKind.i64.wrap (i4+1)) fun n7=>
    again1 (((i2,i6,n7,unit),unit))))
   (some (.int .i64 (-1))))
  (((a0,(1:Int),(0:Int),unit),unit))
theorem zF1 (zbb:Zp) (a0:Int):denP Tryz.prog (zaz [(ID.gf_double,(.pure [0] zbb))]) zvh [0] ID.gf_Log [.int .u8 a0]=zwR zbb a0:=by kernel_rfl
theorem zAe (a0:Int):zfp [.int .u8 a0]=zwR zbb a0:=zF1 zbb a0
def zvi:Ann:={ loops:=[] }
noncomputable def zdb:Zp:=denP Tryz.prog (zaz [(ID.gf_Log,(.pure [0] zfp)),(ID.gf_Pow,(.pure [0] za3))]) zvi [0] ID.gf_Inv
theorem zyQ:za1 Tryz.prog ID.gf_Inv (.pure [0] zdb):=zam (zaC [zAd,zh9]) zbm ⟨Tryz.f154,by kernel_rfl,by kernel_rfl,by kernel_rfl⟩
noncomputable def zs9:Fact Tryz.prog:=⟨ID.gf_Inv,(.pure [0] zdb),zyQ⟩
noncomputable def zwS (zfp za3:Zp) (a0:Int):Option D:=
 brK (a0 == 0)
  (some (.int .u8 0))
  (zar (zfp [.int .u8 a0]) fun r1=>
  asI .i64 r1 fun i2=>
  letN (IntKind.i64.wrap ((255:Int) - i2)) fun n3=>
  zar (za3 [.int .i64 n3]) fun r4=>
  asI .u8 r4 fun i5=>
  some (.int .u8 i5))
theorem zF2 (zfp za3:Zp) (a0:Int):denP Tryz.prog (zaz [(ID.gf_Log,(.pure [0] zfp)),(ID.gf_Pow,(.pure [0] za3))]) zvi [0] ID.gf_Inv [.int .u8 a0]=zwS zfp za3 a0:=by kernel_rfl
theorem zAf (a0:Int):zdb [.int .u8 a0]=zwS zfp za3 a0:=zF2 zfp za3 a0
def zpp:Ann:={ loops:=[] }
noncomputable def zdi:Zp:=denP Tryz.prog (zaz [(ID.synd_P,(.pure [1] zcf)),(ID.synd_Add,(.pure [1] zaV)),(ID.synd_Q,(.pure [1] zcg)),(ID.gf_Pow,(.pure [0] za3)),(ID.gf_Inv,(.pure [0] zdb)),(ID.synd_Scale,(.pure [1] zaT))]) zpp [1,1] ID.erase_two
theorem zta:za1 Tryz.prog ID.erase_two (.pure [1,1] zdi):=zam (zaC [znW,zhw,znX,zh9,zs9,zh8]) zbm ⟨Tryz.f136,by kernel_rfl,by kernel_rfl,by kernel_rfl⟩
noncomputable def zt3:Fact Tryz.prog:=⟨ID.erase_two,(.pure [1,1] zdi),zta⟩
noncomputable def znY (zcf zaV zcg za3 zdb zaT:Zp) (a0 a1 a2:List D) (a3 a4:Int):Option D:=
 zar (zcf [.sl .lent a2]) fun r1=>
 zbi r1 fun l2=>
 sif (0+l2.length≤l2.length) <|
 zar (zaV [.sl .lent a0,.sl .lent (cut 0 l2.length l2)]) fun r3=>
 zbi r3 fun l4=>
 zar (zcg [.sl .lent a2]) fun r5=>
 zbi r5 fun l6=>
 sif (0+l6.length≤l6.length) <|
 zar (zaV [.sl .lent a1,.sl .lent (cut 0 l6.length l6)]) fun r7=>
 zbi r7 fun l8=>
 zar (za3 [.int .i64 a3]) fun r9=>
 asI .u8 r9 fun i10=>
 zar (za3 [.int .i64 a4]) fun r11=>
 asI .u8 r11 fun i12=>
 letN (bits BinOp.xor IntKind.u8 i10 i12) fun n13=>
 zar (zdb [.int .u8 n13]) fun r14=>
 asI .u8 r14 fun i15=>
 zar (za3 [.int .i64 a4]) fun r16=>
 asI .u8 r16 fun i17=>
 sif (0+l4.length≤l4.length) <|
 zar (zaT [.sl .lent (cut 0 l4.length l4),.int .u8 i17]) fun r18=>
 zbi r18 fun l19=>
 sif (0+l8.length≤l8.length) <|
 sif (0+l19.length≤l19.length) <|
 zar (zaV [.sl .lent (cut 0 l8.length l8),.sl .lent (cut 0 l19.length l19)]) fun r20=>
 zbi r20 fun l21=>
 sif (0+l21.length≤l21.length) <|
 zar (zaT [.sl .lent (cut 0 l21.length l21),.int .u8 i15]) fun r22=>
 zbi r22 fun l23=>
 sif (0+l4.length≤l4.length) <|
 sif (0+l23.length≤l23.length) <|
 zar (zaV [.sl .lent (cut 0 l4.length l4),.sl .lent (cut 0 l23.length l23)]) fun r24=>
 zbi r24 fun l25=>
 sif (l23.length=l23.length) <|
 sif (List.all l23 D.free=true) <|
 sif (l25.length=l25.length) <|
 sif (List.all l25 D.free=true) <|
 some (.tup [.sl .own l23,.sl .own l25])
theorem zAg (zcf zaV zcg za3 zdb zaT:Zp) (tga0 tga1 tga2:Tag) (a0 a1 a2:List D) (a3 a4:Int):denP Tryz.prog (zaz [(ID.synd_P,(.pure [1] zcf)),(ID.synd_Add,(.pure [1] zaV)),(ID.synd_Q,(.pure [1] zcg)),(ID.gf_Pow,(.pure [0] za3)),(ID.gf_Inv,(.pure [0] zdb)),(ID.synd_Scale,(.pure [1] zaT))]) zpp [1,1] ID.erase_two [.sl tga0 a0,.sl tga1 a1,.sl tga2 a2,.int .i64 a3,.int .i64 a4]=znY zcf zaV zcg za3 zdb zaT (D.lentL a0) (D.lentL a1) (D.lentL a2) a3 a4:=by kernel_rfl
theorem zt4 (tga0 tga1 tga2:Tag) (a0 a1 a2:List D) (a3 a4:Int):zdi [.sl tga0 a0,.sl tga1 a1,.sl tga2 a2,.int .i64 a3,.int .i64 a4]=znY zcf zaV zcg za3 zdb zaT (D.lentL a0) (D.lentL a1) (D.lentL a2) a3 a4:=zAg zcf zaV zcg za3 zdb zaT tga0 tga1 tga2 a0 a1 a2 a3 a4
def zpq:Ann:={ loops:=[] }
noncomputable def zcT:Zp:=denP Tryz.prog (zaz [(ID.synd_Q,(.pure [1] zcg)),(ID.synd_Add,(.pure [1] zaV)),(ID.gf_Pow,(.pure [0] za3)),(ID.gf_Inv,(.pure [0] zdb)),(ID.synd_Scale,(.pure [1] zaT))]) zpq [1] ID.erase_byQ
theorem ztb:za1 Tryz.prog ID.erase_byQ (.pure [1] zcT):=zam (zaC [znX,zhw,zh9,zs9,zh8]) zbm ⟨Tryz.f138,by kernel_rfl,by kernel_rfl,by kernel_rfl⟩
noncomputable def zt5:Fact Tryz.prog:=⟨ID.erase_byQ,(.pure [1] zcT),ztb⟩
noncomputable def znZ (zcg zaV za3 zdb zaT:Zp) (a0 a1:List D) (a2:Int):Option D:=
 zar (zcg [.sl .lent a1]) fun r1=>
 zbi r1 fun l2=>
 sif (0+l2.length≤l2.length) <|
 zar (zaV [.sl .lent a0,.sl .lent (cut 0 l2.length l2)]) fun r3=>
 zbi r3 fun l4=>
 zar (za3 [.int .i64 a2]) fun r5=>
 asI .u8 r5 fun i6=>
 zar (zdb [.int .u8 i6]) fun r7=>
 asI .u8 r7 fun i8=>
 sif (0+l4.length≤l4.length) <|
 zar (zaT [.sl .lent (cut 0 l4.length l4),.int .u8 i8]) fun r9=>
 zbi r9 fun l10=>
 sif (l10.length=l10.length) <|
 sif (List.all l10 D.free=true) <|
 some (.sl .own l10)
theorem zAh (zcg zaV za3 zdb zaT:Zp) (tga0 tga1:Tag) (a0 a1:List D) (a2:Int):denP Tryz.prog (zaz [(ID.synd_Q,(.pure [1] zcg)),(ID.synd_Add,(.pure [1] zaV)),(ID.gf_Pow,(.pure [0] za3)),(ID.gf_Inv,(.pure [0] zdb)),(ID.synd_Scale,(.pure [1] zaT))]) zpq [1] ID.erase_byQ [.sl tga0 a0,.sl tga1 a1,.int .i64 a2]=znZ zcg zaV za3 zdb zaT (D.lentL a0) (D.lentL a1) a2:=by kernel_rfl
theorem zt6 (tga0 tga1:Tag) (a0 a1:List D) (a2:Int):zcT [.sl tga0 a0,.sl tga1 a1,.int .i64 a2]=znZ zcg zaV za3 zdb zaT (D.lentL a0) (D.lentL a1) a2:=zAh zcg zaV za3 zdb zaT tga0 tga1 a0 a1 a2
def zlY:Ann:={ loops:=[] }
noncomputable def zcm:Zp:=denP Tryz.prog (zaz [(ID.erase_Missing,(.pure [1] zbP)),(ID.erase_fits,(.pure [0] zcs)),(ID.erase_filled,(.pure [1] zb6)),(ID.erase_two,(.pure [1,1] zdi)),(ID.synd_P,(.pure [1] zcf)),(ID.synd_Add,(.pure [1] zaV)),(ID.erase_byQ,(.pure [1] zcT))]) zlY [1,0] ID.erase_Solve
theorem zqp:za1 Tryz.prog ID.erase_Solve (.pure [1,0] zcm):=zam (zaC [zph,zs4,zqm,zt3,znW,zhw,zt5]) zbm ⟨Tryz.f103,by kernel_rfl,by kernel_rfl,by kernel_rfl⟩
noncomputable def zrr:Fact Tryz.prog:=⟨ID.erase_Solve,(.pure [1,0] zcm),zqp⟩
noncomputable def zkq (zbP zcs zb6 zdi zcf zaV zcT:Zp) (a0:Int) (a1 a2 a3:List D):Option D:=
 zar (zbP [.sl .lent a3]) fun r1=>
 zbi r1 fun l2=>
 brK (decide (a0 < 1))
  (some (.tup [.sl .own [],.bool false]))
  (brK (decide ((↑(a3.length):Int) < 1))
   (some (.tup [.sl .own [],.bool false]))
   (brK (decide ((↑(a3.length):Int) > 8))
    (some (.tup [.sl .own [],.bool false]))
    (zar (zcs [.int .i64 a0,.sl .lent a3]) fun r3=>
    asB r3 fun b4=>
    brK (!b4)
     (some (.tup [.sl .own [],.bool false]))
     (zar (zcs [.int .i64 a0,.sl .full [.sl .lent a1,.sl .lent a2]]) fun r5=>
     asB r5 fun b6=>
     brK (!b6)
      (some (.tup [.sl .own [],.bool false]))
      (sif (0+l2.length≤l2.length) <|
      zar (zbP [.sl .full [.sl .lent a1,.sl .lent a2]]) fun r7=>
      zbi r7 fun l8=>
      sif (0+l8.length≤l8.length) <|
      letN (IntKind.i64.wrap ((↑(l2.length):Int)+(↑(l8.length):Int))) fun n9=>
      brK (decide (n9 > 2))
       (some (.tup [.sl .own [],.bool false]))
       (zar (zb6 [.int .i64 a0,.sl .lent a3]) fun r10=>
       zbi r10 fun l11=>
       sif (0+l2.length≤l2.length) <|
       brK ((↑(l2.length):Int) == 2)
        (sif ((0:Nat) < l2.length) <|
        getK l2 ((0:Nat)) fun d12=>
        asI .i64 d12 fun i13=>
        sif ((1:Nat) < l2.length) <|
        getK l2 ((1:Nat)) fun d14=>
        asI .i64 d14 fun i15=>
        sif ((0:Nat) < l2.length) <|
        getK l2 ((0:Nat)) fun d16=>
        asI .i64 d16 fun i17=>
        sif ((1:Nat) < l2.length) <|
        getK l2 ((1:Nat)) fun d18=>
        asI .i64 d18 fun i19=>
        sif (0+l11.length≤l11.length) <|
        zar (zdi [.sl .lent a1,.sl .lent a2,.sl .lent (cut 0 l11.length l11),.int .i64 i17,.int .i64 i19]) fun r20=>
        zej r20 fun ts21=>
        zay ([Lf.any,Lf.any]) ts21 fun c22=>
        zbi c22.1 fun l23=>
        zbi c22.2.1 fun l24=>
        sif (0≤i13) <|
        sif (i13.toNat < l11.length) <|
        sif (0+l23.length≤l23.length) <|
        getK l11 (0+i13.toNat) fun d25=>
        sif (0+l23.length≤l23.length) <|
        sif (D.isAgg d25=false) <|
        sif (0≤i15) <|
        sif (i15.toNat < l11.length) <|
        sif (0+l24.length≤l24.length) <|
        getK (List.set l11 (0+i13.toNat) (.sl .fresh (cut 0 l23.length l23))) (0+i15.toNat) fun d26=>
        sif (0+l24.length≤l24.length) <|
        sif (D.isAgg d26=false) <|
        sif (l11.length=List.length (List.set (List.set l11 (0+i13.toNat) (D.sl .fresh (cut 0 l23.length l23))) (0+i15.toNat) (D.sl .fresh (cut 0 l24.length l24)))) <|
        sif (List.all (List.set (List.set l11 (0+i13.toNat) (D.sl .fresh (cut 0 l23.length l23))) (0+i15.toNat) (D.sl .fresh (cut 0 l24.length l24))) D.free=true) <|
        some (.tup [.sl .own (List.set (List.set l11 (0+i13.toNat) (.sl .fresh (cut 0 l23.length l23))) (0+i15.toNat) (.sl .fresh (cut 0 l24.length l24))),.bool true]))
        (sif (0+l2.length≤l2.length) <|
        brK ((↑(l2.length):Int) == 1)
         (brK (decide ((↑(a1.length):Int) > 0))
          (sif ((0:Nat) < l2.length) <|
          getK l2 ((0:Nat)) fun d27=>
          asI .i64 d27 fun i28=>
          sif (0+l11.length≤l11.length) <|
          zar (zcf [.sl .lent (cut 0 l11.length l11)]) fun r29=>
          zbi r29 fun l30=>
          sif (0+l30.length≤l30.length) <|
          zar (zaV [.sl .lent a1,.sl .lent (cut 0 l30.length l30)]) fun r31=>
          zbi r31 fun l32=>
          sif (0≤i28) <|
          sif (i28.toNat < l11.length) <|
          sif (0+l32.length≤l32.length) <|
          getK l11 (0+i28.toNat) fun d33=>
          sif (0+l32.length≤l32.length) <|
          sif (D.isAgg d33=false) <|
          sif (l11.length=List.length (List.set l11 (0+i28.toNat) (D.sl .fresh (cut 0 l32.length l32)))) <|
          sif (List.all (List.set l11 (0+i28.toNat) (D.sl .fresh (cut 0 l32.length l32))) D.free=true) <|
          some (.tup [.sl .own (List.set l11 (0+i28.toNat) (.sl .fresh (cut 0 l32.length l32))),.bool true]))
          (sif (0+l2.length≤l2.length) <|
          brK ((↑(l2.length):Int) == 1)
           (sif ((0:Nat) < l2.length) <|
           getK l2 ((0:Nat)) fun d34=>
           asI .i64 d34 fun i35=>
           sif ((0:Nat) < l2.length) <|
           getK l2 ((0:Nat)) fun d36=>
           asI .i64 d36 fun i37=>
           sif (0+l11.length≤l11.length) <|
           zar (zcT [.sl .lent a2,.sl .lent (cut 0 l11.length l11),.int .i64 i37]) fun r38=>
           zbi r38 fun l39=>
           sif (0≤i35) <|
           sif (i35.toNat < l11.length) <|
           sif (0+l39.length≤l39.length) <|
           getK l11 (0+i35.toNat) fun d40=>
           sif (0+l39.length≤l39.length) <|
           sif (D.isAgg d40=false) <|
           sif (l11.length=List.length (List.set l11 (0+i35.toNat) (D.sl .fresh (cut 0 l39.length l39)))) <|
           sif (List.all (List.set l11 (0+i35.toNat) (D.sl .fresh (cut 0 l39.length l39))) D.free=true) <|
           some (.tup [.sl .own (List.set l11 (0+i35.toNat) (.sl .fresh (cut 0 l39.length l39))),.bool true]))
           (sif (l11.length=l11.length) <|
           sif (List.all l11 D.free=true) <|
           some (.tup [.sl .own l11,.bool true]))))
         (sif (0+l2.length≤l2.length) <|
         brK ((↑(l2.length):Int) == 1)
          (sif ((0:Nat) < l2.length) <|
          getK l2 ((0:Nat)) fun d41=>
          asI .i64 d41 fun i42=>
          sif ((0:Nat) < l2.length) <|
          getK l2 ((0:Nat)) fun d43=>
          asI .i64 d43 fun i44=>
          sif (0+l11.length≤l11.length) <|
          zar (zcT [.sl .lent a2,.sl .lent (cut 0 l11.length l11),.int .i64 i44]) fun r45=>
          zbi r45 fun l46=>
          sif (0≤i42) <|
          sif (i42.toNat < l11.length) <|
          sif (0+l46.length≤l46.length) <|
          getK l11 (0+i42.toNat) fun d47=>
          sif (0+l46.length≤l46.length) <|
          sif (D.isAgg d47=false) <|
          sif (l11.length=List.length (List.set l11 (0+i42.toNat) (D.sl .fresh (cut 0 l46.length l46)))) <|
          sif (List.all (List.set l11 (0+i42.toNat) (D.sl .fresh (cut 0 l46.length l46))) D.free=true) <|
          some (.tup [.sl .own (List.set l11 (0+i42.toNat) (.sl .fresh (cut 0 l46.length l46))),.bool true]))
          (sif (l11.length=l11.length) <|
          sif (List.all l11 D.free=true) <|
          some (.tup [.sl .own l11,.bool true]))))))))))
theorem zwT (zbP zcs zb6 zdi zcf zaV zcT:Zp) (tga1 tga2 tga3:Tag) (a0:Int) (a1 a2 a3:List D):denP Tryz.prog (zaz [(ID.erase_Missing,(.pure [1] zbP)),(ID.erase_fits,(.pure [0] zcs)),(ID.erase_filled,(.pure [1] zb6)),(ID.erase_two,(.pure [1,1] zdi)),(ID.synd_P,(.pure [1] zcf)),(ID.synd_Add,(.pure [1] zaV)),(ID.erase_byQ,(.pure [1] zcT))]) zlY [1,0] ID.erase_Solve [.int .i64 a0,.sl tga1 a1,.sl tga2 a2,.sl tga3 a3]=zkq zbP zcs zb6 zdi zcf zaV zcT a0 (D.lentL a1) (D.lentL a2) (D.lentL a3):=by kernel_rfl
theorem zrs (tga1 tga2 tga3:Tag) (a0:Int) (a1 a2 a3:List D):zcm [.int .i64 a0,.sl tga1 a1,.sl tga2 a2,.sl tga3 a3]=zkq zbP zcs zb6 zdi zcf zaV zcT a0 (D.lentL a1) (D.lentL a2) (D.lentL a3):=zwT zbP zcs zb6 zdi zcf zaV zcT tga1 tga2 tga3 a0 a1 a2 a3
def zq9:Ann:={ loops:=[(1,.dead::.val (.cell (.int .i64))::.val (.cell .lent)::.box true [(.int .i64),(.int .i64),(.int .i64)]::dd 4 (.own 1::dd 15 [.val (.cell (.int .i64)),.val (.cell (.int .i64))]))] }
noncomputable def zcd:Zp:=denP Tryz.prog (zaz [(ID.row_in,(.pure [0] zda)),(ID.geom_Width,(.pure [0] zai)),(ID.place_Disk,(.pure [0] za2)),(ID.place_Parity,(.pure [0,0] zaD)),(ID.erase_Solve,(.pure [1,0] zcm))]) zq9 [1,0] ID.row_Take
theorem zt7:za1 Tryz.prog ID.row_Take (.pure [1,0] zcd):=zam (zaC [zs1,zdy,zh2,ze1,zrr]) zbm ⟨Tryz.f55,by kernel_rfl,by kernel_rfl,by kernel_rfl⟩
noncomputable def zpr:Fact Tryz.prog:=⟨ID.row_Take,(.pure [1,0] zcd),zt7⟩
noncomputable def zqq (zda zai za2 zaD zcm:Zp) (a0_0 a0_1 a0_2 a1:Int) (a2:List D):Option D:=
 zar (zda [.agg [.int .i64 a0_0,.int .i64 a0_1,.int .i64 a0_2],.int .i64 a1]) fun r1=>
 asB r1 fun b2=>
 brK (!b2)
  (some (.tup [.sl .own [],.bool false]))
  (brK ((↑(a2.length):Int) != a0_1)
   (some (.tup [.sl .own [],.bool false]))
   (zar (zai [.agg [.int .i64 a0_0,.int .i64 a0_1,.int .i64 a0_2]]) fun r3=>
   asI .i64 r3 fun i4=>
   zb1 (α:=(Int×List D×(Int×Int×Int×PUnit)×List D×Int×Int×PUnit)×PUnit) (fun again5 ((i6,(l7,((i8,(i9,(i10,_))),(l11,(i12,(i13,_)))))),_)=>
    brK (decide (i13 < i12))
     (zar (za2 [.agg [.int .i64 i8,.int .i64 i9,.int .i64 i10],.int .i64 i6,.int .i64 i13]) fun r14=>
     asI .i64 r14 fun i15=>
     sif (0≤i15) <|
     getK l7 (i15.toNat) fun d16=>
     asSl d16 fun t17 l18=>
     sif (l11.length+1≤4294967296) <|
     sif (l11.length=l11.length) <|
     letN (IntKind.i64.wrap (i13+1)) fun n19=>
     sif (l11.length+1=List.length (l11++[D.sl t17 l18])) <|
     again5 (((i6,l7,(i8,i9,i10,unit),l11++[.sl t17 l18],i12,n19,unit),unit)))
     (zar (zaD [.agg [.int .i64 i8,.int .i64 i9,.int .i64 i10],.int .i64 i6]) fun r20=>
     zej r20 fun ts21=>
     zay ([Lf.any,Lf.any]) ts21 fun c22=>
     asI .i64 c22.1 fun i23=>
     asI .i64 c22.2.1 fun i24=>
     brK (decide (i24 < 0))
      (sif (0≤i23) <|
      getK l7 (i23.toNat) fun d25=>
      asSl d25 fun t26 l27=>
      sif (0+l11.length≤l11.length) <|
      zar (zcm [.int .i64 32,.sl t26 l27,.sl .nil [],.sl .lent (cut 0 l11.length l11)]) fun r28=>
      zej r28 fun ts29=>
      zay ([Lf.any,Lf.any]) ts29 fun c30=>
      zbi c30.1 fun l31=>
      asB c30.2.1 fun b32=>
      sif (l31.length=l31.length) <|
      sif (List.all l31 D.free=true) <|
      some (.tup [.sl .own l31,.bool b32]))
      (sif (0≤i23) <|
      getK l7 (i23.toNat) fun d33=>
      asSl d33 fun t34 l35=>
      sif (0≤i24) <|
      getK l7 (i24.toNat) fun d36=>
      asSl d36 fun t37 l38=>
      sif (0+l11.length≤l11.length) <|
      zar (zcm [.int .i64 32,.sl t34 l35,.sl t37 l38,.sl .lent (cut 0 l11.length l11)]) fun r39=>
      zej r39 fun ts40=>
      zay ([Lf.any,Lf.any]) ts40 fun c41=>
      zbi c41.1 fun l42=>
      asB c41.2.1 fun b43=>
      sif (l42.length=l42.length) <|
      sif (List.all l42 D.free=true) <|
      some (.tup [.sl .own l42,.bool b43]))))
    (((a1,a2,(a0_0,a0_1,a0_2,unit),[],i4,(0:Int),unit),unit))))
theorem zCo (zda zai za2 zaD zcm:Zp) (tga2:Tag) (a0_0 a0_1 a0_2 a1:Int) (a2:List D):denP Tryz.prog (zaz [(ID.row_in,(.pure [0] zda)),(ID.geom_Width,(.pure [0] zai)),(ID.place_Disk,(.pure [0] za2)),(ID.place_Parity,(.pure [0,0] zaD)),(ID.erase_Solve,(.pure [1,0] zcm))]) zq9 [1,0] ID.row_Take [.agg [.int .i64 a0_0,.int .i64 a0_1,.int .i64 a0_2],.int .i64 a1,.sl tga2 a2]=zqq zda zai za2 zaD zcm a0_0 a0_1 a0_2 a1 (D.lentL a2):=by kernel_rfl
theorem zwU (tga2:Tag) (a0_0 a0_1 a0_2 a1:Int) (a2:List D):zcd [.agg [.int .i64 a0_0,.int .i64 a0_1,.int .i64 a0_2],.int .i64 a1,.sl tga2 a2]=zqq zda zai za2 zaD zcm a0_0 a0_1 a0_2 a1 (D.lentL a2):=zCo zda zai za2 zaD zcm tga2 a0_0 a0_1 a0_2 a1 a2
def zlZ:Ann:={ loops:=[(1,.val (.cell (.hnd (2496:Nat)))::.val (.cell .lent)::.dead::.val (.cell (.int .i64))::dd 2 (.box true [(.int .i64),(.int .i64),(.int .i64)]::dd 3 (.own 1::dd 20 [.val (.cell (.int .i64)),.val (.cell (.int .i64))])))],ks:=[(2496,false),(8225,false)] }
noncomputable def zcn:Zs:=denS Tryz.prog (zaz [(ID.geom_Check,(.pure [0] zaF)),(ID.stripe_up,(.st [] [0] [(2496,false),(8225,false)] zdh)),(ID.bench_Bench_Read,(.st [] [1,0] [(2496,false),(8225,false)] zaL)),(ID.row_Take,(.pure [1,0] zcd))]) zlZ [1,0] ID.stripe_Read
theorem zqr:za1 Tryz.prog ID.stripe_Read (.st [] [1,0] [(2496,false),(8225,false)] zcn):=zbg (zaC [zeP,ztV,zgV,zpr]) zbm ⟨Tryz.f37,by kernel_rfl,by kernel_rfl,by kernel_rfl⟩
noncomputable def zrt:Fact Tryz.prog:=⟨ID.stripe_Read,(.st [] [1,0] [(2496,false),(8225,false)] zcn),zqr⟩
noncomputable def zkr (zaF:Zp) (zdh zaL:Zs) (zcd:Zp) (a0:Nat) (a1:List D) (a2_0 a2_1 a2_2 a3:Int) (T0 T1:Tb):Option Ans:=
 zar (zaF [.agg [.int .i64 a2_0,.int .i64 a2_1,.int .i64 a2_2]]) fun r1=>
 asI .i64 r1 fun i2=>
 brK (i2 != 0)
  (some (Ans.mk (.tup [.sl .own [],.int .i64 1]) [] []))
  (brK (decide (a3 < 0))
   (some (Ans.mk (.tup [.sl .own [],.int .i64 1]) [] []))
   (brK (decide (a3≥16))
    (some (Ans.mk (.tup [.sl .own [],.int .i64 1]) [] []))
    (sif (0≤a2_1) <|
    sif (a2_1=a2_1) <|
    sif (a2_1*24≤140737488355328) <|
    sif (a2_1≤140737488355328) <|
    sif (0+a2_1.toNat≤List.length (List.replicate (a2_1.toNat) (D.sl .nil []))) <|
    sif (a2_1.toNat=List.length (List.replicate (a2_1.toNat) (D.sl .nil []))) <|
    zb1 (α:=(Nat×List D×Int×(Int×Int×Int×PUnit)×List D×Int×Int×PUnit)×List (List D)×List (List D)×PUnit) (fun again3 ((x4,(l5,(i6,((i7,(i8,(i9,_))),(l10,(i11,(i12,_))))))),(U13,(U14,_)))=>
     brK (decide (i12 < i11))
      (zar (zdh [.h (2496) x4 (0:Nat),.sl .lent l5,.int .i64 i12] [U13,U14]) fun r15=>
      nilK r15.outs <|
      nilK r15.tbs <|
      asB r15.r fun b16=>
      brK (!b16)
       (letN (IntKind.i64.wrap (i12+1)) fun n17=>
       sif (l10.length=l10.length) <|
       again3 (((x4,l5,i6,(i7,i8,i9,unit),l10,i11,n17,unit),U13,U14,unit)))
       (letN (IntKind.i64.wrap (36+i6)) fun n18=>
       zar (zaL [.h (2496) x4 (0:Nat),.int .i64 i12,.int .i64 n18] [U13,U14]) fun r19=>
       nilK r19.outs <|
       nilK r19.tbs <|
       zej r19.r fun ts20=>
       zay ([Lf.any,Lf.any]) ts20 fun c21=>
       zbi c21.1 fun l22=>
       asI .i64 c21.2.1 fun i23=>
       brK (i23 != 0)
        (some (Ans.mk (.tup [.sl .own [],.int .i64 i23]) [] []))
        (sif (0≤i12) <|
        sif (i12.toNat < l10.length) <|
        sif (0+l22.length≤l22.length) <|
        getK l10 (0+i12.toNat) fun d24=>
        sif (0+l22.length≤l22.length) <|
        sif (D.isAgg d24=false) <|
        letN (IntKind.i64.wrap (i12+1)) fun n25=>
        sif (l10.length=List.length (List.set l10 (0+i12.toNat) (D.sl .fresh (cut 0 l22.length l22)))) <|
        again3 (((x4,l5,i6,(i7,i8,i9,unit),List.set l10 (0+i12.toNat) (.sl .fresh (cut 0 l22.length l22)),i11,n25,unit),U13,U14,unit)))))
      (sif (0+l10.length≤l10.length) <|
      zar (zcd [.agg [.int .i64 i7,.int .i64 i8,.int .i64 i9],.int .i64 i6,.sl .lent (cut 0 l10.length l10)]) fun r26=>
      zej r26 fun ts27=>
      zay ([Lf.any,Lf.any]) ts27 fun c28=>
      zbi c28.1 fun l29=>
      asB c28.2.1 fun b30=>
      brK (!b30)
       (some (Ans.mk (.tup [.sl .own [],.int .i64 7]) [] []))
       (sif (l29.length=l29.length) <|
       sif (List.all l29 D.free=true) <|
       some (Ans.mk (.tup [.sl .own l29,.int .i64 0]) [] []))))
     (((a0,a1,a3,(a2_0,a2_1,a2_2,unit),List.replicate (a2_1.toNat) (.sl .nil []),(↑(a2_1.toNat):Int),(0:Int),unit),T0,T1,unit)))))
theorem zwV (zaF:Zp) (zdh zaL:Zs) (zcd:Zp) (tga1:Tag) (a0:Nat) (a1:List D) (a2_0 a2_1 a2_2 a3:Int) (T0 T1:Tb):denS Tryz.prog (zaz [(ID.geom_Check,(.pure [0] zaF)),(ID.stripe_up,(.st [] [0] [(2496,false),(8225,false)] zdh)),(ID.bench_Bench_Read,(.st [] [1,0] [(2496,false),(8225,false)] zaL)),(ID.row_Take,(.pure [1,0] zcd))]) zlZ [1,0] ID.stripe_Read [.h 2496 a0 0,.sl tga1 a1,.agg [.int .i64 a2_0,.int .i64 a2_1,.int .i64 a2_2],.int .i64 a3] [T0,T1]=zkr zaF zdh zaL zcd a0 (D.lentL a1) a2_0 a2_1 a2_2 a3 T0 T1:=by kernel_rfl
theorem zru (tga1:Tag) (a0:Nat) (a1:List D) (a2_0 a2_1 a2_2 a3:Int) (T0 T1:Tb):zcn [.h 2496 a0 0,.sl tga1 a1,.agg [.int .i64 a2_0,.int .i64 a2_1,.int .i64 a2_2],.int .i64 a3] [T0,T1]=zkr zaF zdh zaL zcd a0 (D.lentL a1) a2_0 a2_1 a2_2 a3 T0 T1:=zwV zaF zdh zaL zcd tga1 a0 a1 a2_0 a2_1 a2_2 a3 T0 T1
def zkJ:Ann:={ loops:=[] }
noncomputable def zcj:Zp:=denP Tryz.prog (zaz [(ID.geom_Width,(.pure [0] zai))]) zkJ [0] ID.place_number
theorem zps:za1 Tryz.prog ID.place_number (.pure [0] zcj):=zam (zaC [zdy]) zbm ⟨Tryz.f112,by kernel_rfl,by kernel_rfl,by kernel_rfl⟩
noncomputable def zqs:Fact Tryz.prog:=⟨ID.place_number,(.pure [0] zcj),zps⟩
noncomputable def ziX (zai:Zp) (a0_0 a0_1 a0_2 a1 a2:Int):Option D:=
 sif (a0_2≠0) <|
 letN (IntKind.i64.wrap (Int.tdiv a1 a0_2)) fun n1=>
 zar (zai [.agg [.int .i64 a0_0,.int .i64 a0_1,.int .i64 a0_2]]) fun r2=>
 asI .i64 r2 fun i3=>
 letN (IntKind.i64.wrap (n1*i3)) fun n4=>
 letN (IntKind.i64.wrap (n4+a2)) fun n5=>
 letN (IntKind.i64.wrap (n5*a0_2)) fun n6=>
 sif (a0_2≠0) <|
 letN (Int.tmod a1 a0_2) fun n7=>
 letN (IntKind.i64.wrap (n6+n7)) fun n8=>
 some (.int .i64 n8)
theorem zt8 (zai:Zp) (a0_0 a0_1 a0_2 a1 a2:Int):denP Tryz.prog (zaz [(ID.geom_Width,(.pure [0] zai))]) zkJ [0] ID.place_number [.agg [.int .i64 a0_0,.int .i64 a0_1,.int .i64 a0_2],.int .i64 a1,.int .i64 a2]=ziX zai a0_0 a0_1 a0_2 a1 a2:=by kernel_rfl
theorem zqt (a0_0 a0_1 a0_2 a1 a2:Int):zcj [.agg [.int .i64 a0_0,.int .i64 a0_1,.int .i64 a0_2],.int .i64 a1,.int .i64 a2]=ziX zai a0_0 a0_1 a0_2 a1 a2:=zt8 zai a0_0 a0_1 a0_2 a1 a2
def zjG:Ann:={ loops:=[(1,.dead::.val (.cell (.int .i64))::.box true [(.int .i64),(.int .i64),(.int .i64)]::dd 2 (.own 1::dd 6 [.val (.cell (.int .i64)),.val (.cell (.int .i64))]))] }
noncomputable def zbY:Zp:=denP Tryz.prog (zaz [(ID.place_in,(.pure [0] zbt)),(ID.geom_Width,(.pure [0] zai)),(ID.place_number,(.pure [0] zcj))]) zjG [1] ID.place_Numbers
theorem zn0:za1 Tryz.prog ID.place_Numbers (.pure [1] zbY):=zam (zaC [zkm,zdy,zqs]) zbm ⟨Tryz.f65,by kernel_rfl,by kernel_rfl,by kernel_rfl⟩
noncomputable def zpt:Fact Tryz.prog:=⟨ID.place_Numbers,(.pure [1] zbY),zn0⟩
noncomputable def zia (zbt zai zcj:Zp) (a0_0 a0_1 a0_2 a1:Int):Option D:=
 zar (zbt [.agg [.int .i64 a0_0,.int .i64 a0_1,.int .i64 a0_2],.int .i64 a1]) fun r1=>
 asB r1 fun b2=>
 brK (!b2)
  (some (.sl .own []))
  (zar (zai [.agg [.int .i64 a0_0,.int .i64 a0_1,.int .i64 a0_2]]) fun r3=>
  asI .i64 r3 fun i4=>
  zb1 (α:=(Int×(Int×Int×Int×PUnit)×List D×Int×Int×PUnit)×PUnit) (fun again5 ((i6,((i7,(i8,(i9,_))),(l10,(i11,(i12,_))))),_)=>
   brK (decide (i12 < i11))
    (zar (zcj [.agg [.int .i64 i7,.int .i64 i8,.int .i64 i9],.int .i64 i6,.int .i64 i12]) fun r13=>
    asI .i64 r13 fun i14=>
    sif (l10.length+1≤4294967296) <|
    sif (l10.length=l10.length) <|
    letN (IntKind.i64.wrap (i12+1)) fun n15=>
    sif (l10.length+1=List.length (l10++[D.int .i64 i14])) <|
    again5 (((i6,(i7,i8,i9,unit),l10++[.int .i64 i14],i11,n15,unit),unit)))
    (sif (l10.length=l10.length) <|
    sif (List.all l10 D.free=true) <|
    some (.sl .own l10)))
   (((a1,(a0_0,a0_1,a0_2,unit),[],i4,(0:Int),unit),unit)))
theorem ztc (zbt zai zcj:Zp) (a0_0 a0_1 a0_2 a1:Int):denP Tryz.prog (zaz [(ID.place_in,(.pure [0] zbt)),(ID.geom_Width,(.pure [0] zai)),(ID.place_number,(.pure [0] zcj))]) zjG [1] ID.place_Numbers [.agg [.int .i64 a0_0,.int .i64 a0_1,.int .i64 a0_2],.int .i64 a1]=zia zbt zai zcj a0_0 a0_1 a0_2 a1:=by kernel_rfl
theorem zpu (a0_0 a0_1 a0_2 a1:Int):zbY [.agg [.int .i64 a0_0,.int .i64 a0_1,.int .i64 a0_2],.int .i64 a1]=zia zbt zai zcj a0_0 a0_1 a0_2 a1:=ztc zbt zai zcj a0_0 a0_1 a0_2 a1
def zl0:Ann:={ loops:=[] }
noncomputable def zcw:Zp:=denP Tryz.prog (zaz [(ID.slices_ContainsFunc_byte_byte,(.pure [0] zah)),(ID.row_sectors_1,(.pure [0] zax))]) zl0 [0] ID.row_sectors
theorem zqu:za1 Tryz.prog ID.row_sectors (.pure [0] zcw):=zam (zaC [zdF,zf7]) zbm ⟨Tryz.f104,by kernel_rfl,by kernel_rfl,by kernel_rfl⟩
noncomputable def zrv:Fact Tryz.prog:=⟨ID.row_sectors,(.pure [0] zcw),zqu⟩
noncomputable def zks (zah zax:Zp) (a0:List D):Option D:=
 zar (zah [.sl .lent a0,.fn (139:Nat) [] []]) fun r1=>
 asB r1 fun b2=>
 some (.bool !b2)
theorem zwW (zah zax:Zp) (tga0:Tag) (a0:List D):denP Tryz.prog (zaz [(ID.slices_ContainsFunc_byte_byte,(.pure [0] zah)),(ID.row_sectors_1,(.pure [0] zax))]) zl0 [0] ID.row_sectors [.sl tga0 a0]=zks zah zax (D.lentL a0):=by kernel_rfl
theorem zrw (tga0:Tag) (a0:List D):zcw [.sl tga0 a0]=zks zah zax (D.lentL a0):=zwW zah zax tga0 a0
def zra:Ann:={ loops:=[(1,.dead::.val (.cell (.int .i64))::.val (.cell .lent)::.box true [(.int .i64),(.int .i64),(.int .i64)]::dd 4 (.own 1::dd 23 [.val (.cell .lent),.val (.cell (.int .i64)),.val (.cell (.int .i64))]))] }
noncomputable def zce:Zp:=denP Tryz.prog (zaz [(ID.row_in,(.pure [0] zda)),(ID.geom_Width,(.pure [0] zai)),(ID.row_sectors,(.pure [0] zcw)),(ID.place_Disk,(.pure [0] za2)),(ID.slices_Clone_byte_byte,(.pure [1] zag)),(ID.place_Parity,(.pure [0,0] zaD)),(ID.synd_P,(.pure [1] zcf)),(ID.synd_Q,(.pure [1] zcg))]) zra [1,0] ID.row_Fill
theorem zt9:za1 Tryz.prog ID.row_Fill (.pure [1,0] zce):=zam (zaC [zs1,zdy,zrv,zh2,zdz,ze1,znW,znX]) zbm ⟨Tryz.f56,by kernel_rfl,by kernel_rfl,by kernel_rfl⟩
noncomputable def zpv:Fact Tryz.prog:=⟨ID.row_Fill,(.pure [1,0] zce),zt9⟩
noncomputable def zqv (zda zai zcw za2 zag zaD zcf zcg:Zp) (a0_0 a0_1 a0_2 a1:Int) (a2:List D):Option D:=
 zar (zda [.agg [.int .i64 a0_0,.int .i64 a0_1,.int .i64 a0_2],.int .i64 a1]) fun r1=>
 asB r1 fun b2=>
 brK (!b2)
  (some (.tup [.sl .own [],.bool false]))
  (zar (zai [.agg [.int .i64 a0_0,.int .i64 a0_1,.int .i64 a0_2]]) fun r3=>
  asI .i64 r3 fun i4=>
  brK ((↑(a2.length):Int) != i4)
   (some (.tup [.sl .own [],.bool false]))
   (zar (zcw [.sl .lent a2]) fun r5=>
   asB r5 fun b6=>
   brK (!b6)
    (some (.tup [.sl .own [],.bool false]))
    (sif (0≤a0_1) <|
    sif (a0_1=a0_1) <|
    sif (a0_1*24≤140737488355328) <|
    sif (a0_1≤140737488355328) <|
    sif (a0_1.toNat=List.length (List.replicate (a0_1.toNat) (D.sl .nil []))) <|
    zb1 (α:=(Int×List D×(Int×Int×Int×PUnit)×List D×List D×Int×Int×PUnit)×PUnit) (fun again7 ((i8,(l9,((i10,(i11,(i12,_))),(l13,(l14,(i15,(i16,_))))))),_)=>
     brK (decide (i16 < i15))
      (sif (0≤i16) <|
      getK l14 (i16.toNat) fun d17=>
      asSl d17 fun t18 l19=>
      zar (za2 [.agg [.int .i64 i10,.int .i64 i11,.int .i64 i12],.int .i64 i8,.int .i64 i16]) fun r20=>
      asI .i64 r20 fun i21=>
      zar (zag [.sl t18 l19]) fun r22=>
      zbi r22 fun l23=>
      sif (0≤i21) <|
      sif (i21.toNat < l13.length) <|
      sif (0+l23.length≤l23.length) <|
      getK l13 (0+i21.toNat) fun d24=>
      sif (0+l23.length≤l23.length) <|
      sif (D.isAgg d24=false) <|
      letN (IntKind.i64.wrap (i16+1)) fun n25=>
      sif (l13.length=List.length (List.set l13 (0+i21.toNat) (D.sl .fresh (cut 0 l23.length l23)))) <|
      again7 (((i8,l9,(i10,i11,i12,unit),List.set l13 (0+i21.toNat) (.sl .fresh (cut 0 l23.length l23)),l14,i15,n25,unit),unit)))
      (zar (zaD [.agg [.int .i64 i10,.int .i64 i11,.int .i64 i12],.int .i64 i8]) fun r26=>
      zej r26 fun ts27=>
      zay ([Lf.any,Lf.any]) ts27 fun c28=>
      asI .i64 c28.1 fun i29=>
      asI .i64 c28.2.1 fun i30=>
      zar (zcf [.sl .lent l9]) fun r31=>
      zbi r31 fun l32=>
      sif (0≤i29) <|
      sif (i29.toNat < l13.length) <|
      sif (0+l32.length≤l32.length) <|
      getK l13 (0+i29.toNat) fun d33=>
      sif (0+l32.length≤l32.length) <|
      sif (D.isAgg d33=false) <|
      brK (decide (i30≥0))
       (zar (zcg [.sl .lent l9]) fun r34=>
       zbi r34 fun l35=>
       sif (0≤i30) <|
       sif (i30.toNat < l13.length) <|
       sif (0+l35.length≤l35.length) <|
       getK (List.set l13 (0+i29.toNat) (.sl .fresh (cut 0 l32.length l32))) (0+i30.toNat) fun d36=>
       sif (0+l35.length≤l35.length) <|
       sif (D.isAgg d36=false) <|
       sif (l13.length=List.length (List.set (List.set l13 (0+i29.toNat) (D.sl .fresh (cut 0 l32.length l32))) (0+i30.toNat) (D.sl .fresh (cut 0 l35.length l35)))) <|
       sif (List.all (List.set (List.set l13 (0+i29.toNat) (D.sl .fresh (cut 0 l32.length l32))) (0+i30.toNat) (D.sl .fresh (cut 0 l35.length l35))) D.free=true) <|
       some (.tup [.sl .own (List.set (List.set l13 (0+i29.toNat) (.sl .fresh (cut 0 l32.length l32))) (0+i30.toNat) (.sl .fresh (cut 0 l35.length l35))),.bool true]))
       (sif (l13.length=List.length (List.set l13 (0+i29.toNat) (.sl .fresh (cut 0 l32.length l32)))) <|
       sif (List.all (List.set l13 (0+i29.toNat) (D.sl .fresh (cut 0 l32.length l32))) D.free=true) <|
       some (.tup [.sl .own (List.set l13 (0+i29.toNat) (.sl .fresh (cut 0 l32.length l32))),.bool true]))))
     (((a1,a2,(a0_0,a0_1,a0_2,unit),List.replicate (a0_1.toNat) (.sl .nil []),a2,(↑(a2.length):Int),(0:Int),unit),unit)))))
theorem zCp (zda zai zcw za2 zag zaD zcf zcg:Zp) (tga2:Tag) (a0_0 a0_1 a0_2 a1:Int) (a2:List D):denP Tryz.prog (zaz [(ID.row_in,(.pure [0] zda)),(ID.geom_Width,(.pure [0] zai)),(ID.row_sectors,(.pure [0] zcw)),(ID.place_Disk,(.pure [0] za2)),(ID.slices_Clone_byte_byte,(.pure [1] zag)),(ID.place_Parity,(.pure [0,0] zaD)),(ID.synd_P,(.pure [1] zcf)),(ID.synd_Q,(.pure [1] zcg))]) zra [1,0] ID.row_Fill [.agg [.int .i64 a0_0,.int .i64 a0_1,.int .i64 a0_2],.int .i64 a1,.sl tga2 a2]=zqv zda zai zcw za2 zag zaD zcf zcg a0_0 a0_1 a0_2 a1 (D.lentL a2):=by kernel_rfl
theorem zwX (tga2:Tag) (a0_0 a0_1 a0_2 a1:Int) (a2:List D):zce [.agg [.int .i64 a0_0,.int .i64 a0_1,.int .i64 a0_2],.int .i64 a1,.sl tga2 a2]=zqv zda zai zcw za2 zag zaD zcf zcg a0_0 a0_1 a0_2 a1 (D.lentL a2):=zCp zda zai zcw za2 zag zaD zcf zcg tga2 a0_0 a0_1 a0_2 a1 a2
def zpw:Ann:={ loops:=[],ks:=[(2496,false),(8225,false)] }
noncomputable def zb9:Zs:=denS Tryz.prog (zaz [(ID.bench_Bench_Len,(.st [] [0] [(2496,false)] zao)),(ID.bench_Bench_Failed,(.st [] [0] [(2496,false),(8225,false)] zaN))]) zpw [0] ID.update_up
theorem ztd:za1 Tryz.prog ID.update_up (.st [] [0] [(2496,false),(8225,false)] zb9):=zbg (zaC [zdZ,zf5]) zbm ⟨Tryz.f68,by kernel_rfl,by kernel_rfl,by kernel_rfl⟩
noncomputable def zua:Fact Tryz.prog:=⟨ID.update_up,(.st [] [0] [(2496,false),(8225,false)] zb9),ztd⟩
noncomputable def zn1 (zao zaN:Zs) (a0:Nat) (a1:List D) (a2:Int) (T0 T1:Tb):Option Ans:=
 brK (decide (a2≥0))
  (zar (zao [.h 2496 a0 0] [T0]) fun r1=>
  nilK r1.outs <|
  nilK r1.tbs <|
  asI .i64 r1.r fun i2=>
  brK (decide (a2 < i2))
   (brK (decide (a2 < (↑(a1.length):Int)))
    (sif (0≤a2) <|
    getK a1 (a2.toNat) fun d3=>
    asB d3 fun b4=>
    brK b4
     (zar (zaN [.h 2496 a0 0,.int .i64 a2] [T0,T1]) fun r5=>
     nilK r5.outs <|
     nilK r5.tbs <|
     asB r5.r fun b6=>
     some (Ans.mk (.bool !b6) [] []))
     (some (Ans.mk (.bool false) [] [])))
    (some (Ans.mk (.bool false) [] [])))
   (some (Ans.mk (.bool false) [] [])))
  (some (Ans.mk (.bool false) [] []))
theorem zAi (zao zaN:Zs) (tga1:Tag) (a0:Nat) (a1:List D) (a2:Int) (T0 T1:Tb):denS Tryz.prog (zaz [(ID.bench_Bench_Len,(.st [] [0] [(2496,false)] zao)),(ID.bench_Bench_Failed,(.st [] [0] [(2496,false),(8225,false)] zaN))]) zpw [0] ID.update_up [.h 2496 a0 0,.sl tga1 a1,.int .i64 a2] [T0,T1]=zn1 zao zaN a0 (D.lentL a1) a2 T0 T1:=by kernel_rfl
theorem zub (tga1:Tag) (a0:Nat) (a1:List D) (a2:Int) (T0 T1:Tb):zb9 [.h 2496 a0 0,.sl tga1 a1,.int .i64 a2] [T0,T1]=zn1 zao zaN a0 (D.lentL a1) a2 T0 T1:=zAi zao zaN tga1 a0 a1 a2 T0 T1
def zl1:Ann:={ loops:=[],unr:=[(3,4)],ks:=[(2496,false),(8225,false)] }
noncomputable def zbq:Zs:=denS Tryz.prog (zaz [(ID.place_Of,(.pure [0,0,0] zdv)),(ID.stripe_Read,(.st [] [1,0] [(2496,false),(8225,false)] zcn)),(ID.place_Numbers,(.pure [1] zbY)),(ID.slices_Index_int_int,(.pure [0] zaI)),(ID.row_Fill,(.pure [1,0] zce)),(ID.place_Parity,(.pure [0,0] zaD)),(ID.update_up,(.st [] [0] [(2496,false),(8225,false)] zb9))]) zl1 [0,0] ID.update_Plan
theorem zqw:za1 Tryz.prog ID.update_Plan (.st [] [0,0] [(2496,false),(8225,false)] zbq):=zbg (zaC [zwH,zrt,zpt,zfl,zpv,ze1,zua]) zbm ⟨Tryz.f29,by kernel_rfl,by kernel_rfl,by kernel_rfl⟩
noncomputable def zkK:Fact Tryz.prog:=⟨ID.update_Plan,(.st [] [0,0] [(2496,false),(8225,false)] zbq),zqw⟩
noncomputable def zkt (zdv:Zp) (zcn:Zs) (zbY zaI zce zaD:Zp) (zb9:Zs) (a0:Nat) (a1:List D) (a2_0 a2_1 a2_2 a3:Int) (a4:List D) (a5:Int) (T0 T1:Tb):Option Ans:=
 brK ((↑(a4.length):Int) != 32)
  (some (Ans.mk (.tup [.agg [.int .i64 0,.sl .nil []],.int .i64 1]) [] []))
  (zar (zdv [.agg [.int .i64 a2_0,.int .i64 a2_1,.int .i64 a2_2],.int .i64 a3]) fun r1=>
  zej r1 fun ts2=>
  zay ([Lf.any,Lf.any,Lf.any]) ts2 fun c3=>
  asI .i64 c3.1 fun i4=>
  asI .i64 c3.2.1 fun i5=>
  asB c3.2.2.1 fun b6=>
  brK (!b6)
   (some (Ans.mk (.tup [.agg [.int .i64 0,.sl .nil []],.int .i64 4]) [] []))
   (zar (zcn [.h 2496 a0 0,.sl .lent a1,.agg [.int .i64 a2_0,.int .i64 a2_1,.int .i64 a2_2],.int .i64 i5] [T0,T1]) fun r7=>
   nilK r7.outs <|
   nilK r7.tbs <|
   zej r7.r fun ts8=>
   zay ([Lf.any,Lf.any]) ts8 fun c9=>
   zbi c9.1 fun l10=>
   asI .i64 c9.2.1 fun i11=>
   brK (i11 != 0)
    (some (Ans.mk (.tup [.agg [.int .i64 0,.sl .nil []],.int .i64 i11]) [] []))
    (zar (zbY [.agg [.int .i64 a2_0,.int .i64 a2_1,.int .i64 a2_2],.int .i64 i5]) fun r12=>
    zbi r12 fun l13=>
    sif (0+l13.length≤l13.length) <|
    zar (zaI [.sl .lent (cut 0 l13.length l13),.int .i64 a3]) fun r14=>
    asI .i64 r14 fun i15=>
    sif (0≤i15) <|
    sif (i15.toNat < l10.length) <|
    getK l10 (0+i15.toNat) fun d16=>
    sif (D.isAgg d16=false) <|
    sif (0+l10.length≤List.length (List.set l10 (0+i15.toNat) (D.sl .lent a4))) <|
    zar (zce [.agg [.int .i64 a2_0,.int .i64 a2_1,.int .i64 a2_2],.int .i64 i5,.sl .lent (cut 0 l10.length (List.set l10 (0+i15.toNat) (.sl .lent a4)))]) fun r17=>
    zej r17 fun ts18=>
    zay ([Lf.any,Lf.any]) ts18 fun c19=>
    zbi c19.1 fun l20=>
    asB c19.2.1 fun b21=>
    zar (zaD [.agg [.int .i64 a2_0,.int .i64 a2_1,.int .i64 a2_2],.int .i64 i5]) fun r22=>
    zej r22 fun ts23=>
    zay ([Lf.any,Lf.any]) ts23 fun c24=>
    asI .i64 c24.1 fun i25=>
    asI .i64 c24.2.1 fun i26=>
    zar (zb9 [.h 2496 a0 0,.sl .lent a1,.int .i64 i4] [T0,T1]) fun r27=>
    nilK r27.outs <|
    nilK r27.tbs <|
    asB r27.r fun b28=>
    brK b28
     (letN (IntKind.i64.wrap (36+i5)) fun n29=>
     sif (0≤i4) <|
     sif (i4.toNat < l20.length) <|
     getK l20 (0+i4.toNat) fun d30=>
     asSl d30 fun t31 l32=>
     zar (zb9 [.h 2496 a0 0,.sl .lent a1,.int .i64 i25] [T0,T1]) fun r33=>
     nilK r33.outs <|
     nilK r33.tbs <|
     asB r33.r fun b34=>
     brK b34
      (letN (IntKind.i64.wrap (36+i5)) fun n35=>
      sif (0≤i25) <|
      sif (i25.toNat < l20.length) <|
      getK l20 (0+i25.toNat) fun d36=>
      asSl d36 fun t37 l38=>
      zar (zb9 [.h 2496 a0 0,.sl .lent a1,.int .i64 i26] [T0,T1]) fun r39=>
      nilK r39.outs <|
      nilK r39.tbs <|
      asB r39.r fun b40=>
      brK b40
       (letN (IntKind.i64.wrap (36+i5)) fun n41=>
       sif (0≤i26) <|
       sif (i26.toNat < l20.length) <|
       getK l20 (0+i26.toNat) fun d42=>
       asSl d42 fun t43 l44=>
       sif (D.free (D.agg [D.int .i64 a5,D.sl .fresh [D.agg [D.int .i64 i4,D.int .i64 n29,D.sl t31 l32],D.agg [D.int .i64 i25,D.int .i64 n35,D.sl t37 l38],D.agg [D.int .i64 i26,D.int .i64 n41,D.sl t43 l44]]])=true) <|
       some (Ans.mk (.tup [.agg [.int .i64 a5,.sl .fresh [.agg [.int .i64 i4,.int .i64 n29,.sl t31 l32],.agg [.int .i64 i25,.int .i64 n35,.sl t37 l38],.agg [.int .i64 i26,.int .i64 n41,.sl t43 l44]]],.int .i64 0]) [] []))
       (sif (D.free (.agg [.int .i64 a5,.sl .fresh [.agg [.int .i64 i4,.int .i64 n29,.sl t31 l32],.agg [.int .i64 i25,.int .i64 n35,.sl t37 l38]]])=true) <|
       some (Ans.mk (.tup [.agg [.int .i64 a5,.sl .fresh [.agg [.int .i64 i4,.int .i64 n29,.sl t31 l32],.agg [.int .i64 i25,.int .i64 n35,.sl t37 l38]]],.int .i64 0]) [] [])))
      (zar (zb9 [.h 2496 a0 0,.sl .lent a1,.int .i64 i26] [T0,T1]) fun r45=>
      nilK r45.outs <|
      nilK r45.tbs <|
      asB r45.r fun b46=>
      brK b46
       (letN (IntKind.i64.wrap (36+i5)) fun n47=>
       sif (0≤i26) <|
       sif (i26.toNat < l20.length) <|
       getK l20 (0+i26.toNat) fun d48=>
       asSl d48 fun t49 l50=>
       sif (D.free (D.agg [D.int .i64 a5,D.sl .fresh [D.agg [D.int .i64 i4,D.int .i64 n29,D.sl t31 l32],D.agg [D.int .i64 i26,D.int .i64 n47,D.sl t49 l50]]])=true) <|
       some (Ans.mk (.tup [.agg [.int .i64 a5,.sl .fresh [.agg [.int .i64 i4,.int .i64 n29,.sl t31 l32],.agg [.int .i64 i26,.int .i64 n47,.sl t49 l50]]],.int .i64 0]) [] []))
       (sif (D.free (.agg [.int .i64 a5,.sl .fresh [.agg [.int .i64 i4,.int .i64 n29,.sl t31 l32]]])=true) <|
       some (Ans.mk (.tup [.agg [.int .i64 a5,.sl .fresh [.agg [.int .i64 i4,.int .i64 n29,.sl t31 l32]]],.int .i64 0]) [] []))))
     (zar (zb9 [.h 2496 a0 0,.sl .lent a1,.int .i64 i25] [T0,T1]) fun r51=>
     nilK r51.outs <|
     nilK r51.tbs <|
     asB r51.r fun b52=>
     brK b52
      (letN (IntKind.i64.wrap (36+i5)) fun n53=>
      sif (0≤i25) <|
      sif (i25.toNat < l20.length) <|
      getK l20 (0+i25.toNat) fun d54=>
      asSl d54 fun t55 l56=>
      zar (zb9 [.h 2496 a0 0,.sl .lent a1,.int .i64 i26] [T0,T1]) fun r57=>
      nilK r57.outs <|
      nilK r57.tbs <|
      asB r57.r fun b58=>
      brK b58
       (letN (IntKind.i64.wrap (36+i5)) fun n59=>
       sif (0≤i26) <|
       sif (i26.toNat < l20.length) <|
       getK l20 (0+i26.toNat) fun d60=>
       asSl d60 fun t61 l62=>
       sif (D.free (D.agg [D.int .i64 a5,D.sl .fresh [D.agg [D.int .i64 i25,D.int .i64 n53,D.sl t55 l56],D.agg [D.int .i64 i26,D.int .i64 n59,D.sl t61 l62]]])=true) <|
       some (Ans.mk (.tup [.agg [.int .i64 a5,.sl .fresh [.agg [.int .i64 i25,.int .i64 n53,.sl t55 l56],.agg [.int .i64 i26,.int .i64 n59,.sl t61 l62]]],.int .i64 0]) [] []))
       (sif (D.free (.agg [.int .i64 a5,.sl .fresh [.agg [.int .i64 i25,.int .i64 n53,.sl t55 l56]]])=true) <|
       some (Ans.mk (.tup [.agg [.int .i64 a5,.sl .fresh [.agg [.int .i64 i25,.int .i64 n53,.sl t55 l56]]],.int .i64 0]) [] [])))
      (zar (zb9 [.h 2496 a0 0,.sl .lent a1,.int .i64 i26] [T0,T1]) fun r63=>
      nilK r63.outs <|
      nilK r63.tbs <|
      asB r63.r fun b64=>
      brK b64
       (letN (IntKind.i64.wrap (36+i5)) fun n65=>
       sif (0≤i26) <|
       sif (i26.toNat < l20.length) <|
       getK l20 (0+i26.toNat) fun d66=>
       asSl d66 fun t67 l68=>
       sif (D.free (D.agg [D.int .i64 a5,D.sl .fresh [D.agg [D.int .i64 i26,D.int .i64 n65,D.sl t67 l68]]])=true) <|
       some (Ans.mk (.tup [.agg [.int .i64 a5,.sl .fresh [.agg [.int .i64 i26,.int .i64 n65,.sl t67 l68]]],.int .i64 0]) [] []))
       (some (Ans.mk (.tup [.agg [.int .i64 a5,.sl .nil []],.int .i64 0]) [] [])))))))
theorem zwY (zdv:Zp) (zcn:Zs) (zbY zaI zce zaD:Zp) (zb9:Zs) (tga1 tga4:Tag) (a0:Nat) (a1:List D) (a2_0 a2_1 a2_2 a3:Int) (a4:List D) (a5:Int) (T0 T1:Tb):denS Tryz.prog (zaz [(ID.place_Of,(.pure [0,0,0] zdv)),(ID.stripe_Read,(.st [] [1,0] [(2496,false),(8225,false)] zcn)),(ID.place_Numbers,(.pure [1] zbY)),(ID.slices_Index_int_int,(.pure [0] zaI)),(ID.row_Fill,(.pure [1,0] zce)),(ID.place_Parity,(.pure [0,0] zaD)),(ID.update_up,(.st [] [0] [(2496,false),(8225,false)] zb9))]) zl1 [0,0] ID.update_Plan [.h 2496 a0 0,.sl tga1 a1,.agg [.int .i64 a2_0,.int .i64 a2_1,.int .i64 a2_2],.int .i64 a3,.sl tga4 a4,.int .i64 a5] [T0,T1]=zkt zdv zcn zbY zaI zce zaD zb9 a0 (D.lentL a1) a2_0 a2_1 a2_2 a3 (D.lentL a4) a5 T0 T1:=by kernel_rfl
theorem zrx (tga1 tga4:Tag) (a0:Nat) (a1:List D) (a2_0 a2_1 a2_2 a3:Int) (a4:List D) (a5:Int) (T0 T1:Tb):zbq [.h 2496 a0 0,.sl tga1 a1,.agg [.int .i64 a2_0,.int .i64 a2_1,.int .i64 a2_2],.int .i64 a3,.sl tga4 a4,.int .i64 a5] [T0,T1]=zkt zdv zcn zbY zaI zce zaD zb9 a0 (D.lentL a1) a2_0 a2_1 a2_2 a3 (D.lentL a4) a5 T0 T1:=zwY zdv zcn zbY zaI zce zaD zb9 tga1 tga4 a0 a1 a2_0 a2_1 a2_2 a3 a4 a5 T0 T1
def zl2:Ann:={ loops:=[] }
noncomputable def zcx:Zp:=denP Tryz.prog (zaz []) zl2 [0] ID.record_fine
theorem zqx:za1 Tryz.prog ID.record_fine (.pure [0] zcx):=zam (zaC []) zbm ⟨Tryz.f119,by kernel_rfl,by kernel_rfl,by kernel_rfl⟩
noncomputable def zry:Fact Tryz.prog:=⟨ID.record_fine,(.pure [0] zcx),zqx⟩
noncomputable def zku (a0_0 a0_1:Int) (a0_2:List D):Option D:=
 brK (decide (a0_0≥0))
  (brK (decide (a0_0 < 8))
   (brK (decide (a0_1≥36))
    (brK (decide (a0_1 < 52))
     (some (.bool ((↑(a0_2.length):Int) == 32)))
     (some (.bool false)))
    (some (.bool false)))
   (some (.bool false)))
  (some (.bool false))
theorem zwZ (tga0_2:Tag) (a0_0 a0_1:Int) (a0_2:List D):denP Tryz.prog (zaz []) zl2 [0] ID.record_fine [.agg [.int .i64 a0_0,.int .i64 a0_1,.sl tga0_2 a0_2]]=zku a0_0 a0_1 (D.lentL a0_2):=by kernel_rfl
theorem zrz (tga0_2:Tag) (a0_0 a0_1:Int) (a0_2:List D):zcx [.agg [.int .i64 a0_0,.int .i64 a0_1,.sl tga0_2 a0_2]]=zku a0_0 a0_1 (D.lentL a0_2):=zwZ tga0_2 a0_0 a0_1 a0_2
def ziI:Ann:={ loops:=[],hints:=[(1,.atA [.int .i64,.int .i64,.sl])] }
noncomputable def za4:Zp:=denP Tryz.prog (zaz []) ziI [0] ID.record_Check_1
theorem zm0:za1 Tryz.prog ID.record_Check_1 (.pure [0] za4):=zam (zaC []) zbm ⟨Tryz.f121,by kernel_rfl,by kernel_rfl,by kernel_rfl⟩
noncomputable def zib:Fact Tryz.prog:=⟨ID.record_Check_1,(.pure [0] za4),zm0⟩
noncomputable def zg4 (a0_0 a0_1:Int) (a0_2:List D) (c0 c1:Int) (c2:List D):Option D:=
 brK (a0_0 == c0)
  (some (.bool (a0_1 == c1)))
  (some (.bool false))
theorem zrA (tga0_2:Tag) (a0_0 a0_1:Int) (a0_2:List D) (c0 c1:Int) (c2:List D):denP Tryz.prog (zaz []) ziI [0] ID.record_Check_1 [.agg [.int .i64 a0_0,.int .i64 a0_1,.sl tga0_2 a0_2],.at_ (.agg [.int .i64 c0,.int .i64 c1,.sl .lent c2])]=zg4 a0_0 a0_1 (D.lentL a0_2) c0 c1 (D.lentL c2):=by kernel_rfl
theorem zn2 (tga0_2:Tag) (a0_0 a0_1:Int) (a0_2:List D) (c0 c1:Int) (c2:List D):za4 [.agg [.int .i64 a0_0,.int .i64 a0_1,.sl tga0_2 a0_2],.at_ (.agg [.int .i64 c0,.int .i64 c1,.sl .lent c2])]=zg4 a0_0 a0_1 (D.lentL a0_2) c0 c1 (D.lentL c2):=zrA tga0_2 a0_0 a0_1 a0_2 c0 c1 c2
def zcD:Ann:={ loops:=[(0,.val (.cell .lent)::.val (.fn1 (121:FuncId) .any)::dd 5 [.val (.cell (.int .i64)),.val (.cell (.int .i64))])] }
noncomputable def zaq:Zp:=denP Tryz.prog (zaz [(ID.record_Check_1,(.pure [0] za4))]) zcD [0] ID.slices_IndexFunc_record_Item_record_Item
theorem zdW:za1 Tryz.prog ID.slices_IndexFunc_record_Item_record_Item (.pure [0] zaq):=zam (zaC [zib]) zbm ⟨Tryz.f151,by kernel_rfl,by kernel_rfl,by kernel_rfl⟩
noncomputable def zd4:Fact Tryz.prog:=⟨ID.slices_IndexFunc_record_Item_record_Item,(.pure [0] zaq),zdW⟩
noncomputable def zbR (za4:Zp) (a0:List D) (c0 c1:Int) (c2:List D):Option D:=
 zb1 (α:=(List D×D×Int×Int×PUnit)×PUnit) (fun again1 ((l2,(x3,(i4,(i5,_)))),_)=>
  brK (decide (i5 < i4))
   (sif (0≤i5) <|
   getK l2 (i5.toNat) fun d6=>
   asAgg d6 fun cs7=>
   zay ([Lf.int .i64,Lf.int .i64,Lf.sl]) cs7 fun c8=>
   zar (za4 [.agg [.int .i64 c8.1,.int .i64 c8.2.1,.sl c8.2.2.1.1 c8.2.2.1.2],D.at_ x3]) fun r9=>
   asB r9 fun b10=>
   brK b10
    (some (.int .i64 i5))
    (letN (IntKind.i64.wrap (i5+1)) fun n11=>
    again1 (((l2,x3,i4,n11,unit),unit))))
   (some (.int .i64 (-1))))
  (((a0,.agg [.int .i64 c0,.int .i64 c1,.sl .lent c2],(↑(a0.length):Int),(0:Int),unit),unit))
theorem zdU (za4:Zp) (tga0:Tag) (a0:List D) (c0 c1:Int) (c2:List D):denP Tryz.prog (zaz [(ID.record_Check_1,(.pure [0] za4))]) zcD [0] ID.slices_IndexFunc_record_Item_record_Item [.sl tga0 a0,.fn 121 [] [.at_ (.agg [.int .i64 c0,.int .i64 c1,.sl .lent c2])]]=zbR za4 (D.lentL a0) c0 c1 (D.lentL c2):=by kernel_rfl
theorem zdD (tga0:Tag) (a0:List D) (c0 c1:Int) (c2:List D):zaq [.sl tga0 a0,.fn 121 [] [.at_ (.agg [.int .i64 c0,.int .i64 c1,.sl .lent c2])]]=zbR za4 (D.lentL a0) c0 c1 (D.lentL c2):=zdU za4 tga0 a0 c0 c1 c2
def zcv:Ann:={ loops:=[] }
noncomputable def zal:Zp:=denP Tryz.prog (zaz [(ID.slices_IndexFunc_record_Item_record_Item,(.pure [0] zaq)),(ID.record_Check_1,(.pure [0] za4))]) zcv [0] ID.slices_ContainsFunc_record_Item_record_Item
theorem zdH:za1 Tryz.prog ID.slices_ContainsFunc_record_Item_record_Item (.pure [0] zal):=zam (zaC [zd4,zib]) zbm ⟨Tryz.f120,by kernel_rfl,by kernel_rfl,by kernel_rfl⟩
noncomputable def zdN:Fact Tryz.prog:=⟨ID.slices_ContainsFunc_record_Item_record_Item,(.pure [0] zal),zdH⟩
noncomputable def zbF (zaq za4:Zp) (a0:List D) (c0 c1:Int) (c2:List D):Option D:=
 zar (zaq [.sl .lent a0,.fn (121:FuncId) [] [D.at_ (.agg [.int .i64 c0,.int .i64 c1,.sl .lent c2])]]) fun r1=>
 asI .i64 r1 fun i2=>
 some (.bool (decide (i2≥0)))
theorem zdE (zaq za4:Zp) (tga0:Tag) (a0:List D) (c0 c1:Int) (c2:List D):denP Tryz.prog (zaz [(ID.slices_IndexFunc_record_Item_record_Item,(.pure [0] zaq)),(ID.record_Check_1,(.pure [0] za4))]) zcv [0] ID.slices_ContainsFunc_record_Item_record_Item [.sl tga0 a0,.fn 121 [] [.at_ (.agg [.int .i64 c0,.int .i64 c1,.sl .lent c2])]]=zbF zaq za4 (D.lentL a0) c0 c1 (D.lentL c2):=by kernel_rfl
theorem zdp (tga0:Tag) (a0:List D) (c0 c1:Int) (c2:List D):zal [.sl tga0 a0,.fn 121 [] [.at_ (.agg [.int .i64 c0,.int .i64 c1,.sl .lent c2])]]=zbF zaq za4 (D.lentL a0) c0 c1 (D.lentL c2):=zdE zaq za4 tga0 a0 c0 c1 c2
def zkL:Ann:={ loops:=[(1,.dead::.box true [(.int .i64),.lent]::dd 18 [.val (.cell .lent),.val (.cell (.int .i64)),.val (.cell (.int .i64))])] }
noncomputable def zbh:Zp:=denP Tryz.prog (zaz [(ID.record_fine,(.pure [0] zcx)),(ID.slices_ContainsFunc_record_Item_record_Item,(.pure [0] zal))]) zkL [0] ID.record_Check
theorem zpx:za1 Tryz.prog ID.record_Check (.pure [0] zbh):=zam (zaC [zry,zdN]) zbm ⟨Tryz.f80,by kernel_rfl,by kernel_rfl,by kernel_rfl⟩
noncomputable def zjH:Fact Tryz.prog:=⟨ID.record_Check,(.pure [0] zbh),zpx⟩
noncomputable def ziY (zcx zal:Zp) (a0_0:Int) (a0_1:List D):Option D:=
 brK (decide (a0_0 < 1))
  (some (.int .i64 1))
  (brK (decide (a0_0 > 2147483647))
   (some (.int .i64 1))
   (brK (decide ((↑(a0_1.length):Int) > 3))
    (some (.int .i64 1))
    (zb1 (α:=((Int×List D×PUnit)×List D×Int×Int×PUnit)×PUnit) (fun again1 (((i2,(l3,_)),(l4,(i5,(i6,_)))),_)=>
     brK (decide (i6 < i5))
      (sif (0≤i6) <|
      getK l4 (i6.toNat) fun d7=>
      asAgg d7 fun cs8=>
      zay ([Lf.int .i64,Lf.int .i64,Lf.sl]) cs8 fun c9=>
      zar (zcx [.agg [.int .i64 c9.1,.int .i64 c9.2.1,.sl c9.2.2.1.1 c9.2.2.1.2]]) fun r10=>
      asB r10 fun b11=>
      brK (!b11)
       (some (.int .i64 1))
       (sif (0≤i6) <|
       sif (i6≤(↑(l3.length):Int)) <|
       sif (i6=i6) <|
       sif (zrf (3:Nat) l3=true) <|
       zar (zal [.sl (zdX Tag.lent false (decide (i6=(↑(l3.length):Int)))) (cutI (0:Int) i6 l3),.fn (121:Nat) [] [D.at_ (.agg [.int .i64 c9.1,.int .i64 c9.2.1,.sl c9.2.2.1.1 c9.2.2.1.2])]]) fun r12=>
       asB r12 fun b13=>
       brK b13
        (some (.int .i64 1))
        (letN (IntKind.i64.wrap (i6+1)) fun n14=>
        again1 ((((i2,l3,unit),l4,i5,n14,unit),unit)))))
      (some (.int .i64 0)))
     ((((a0_0,a0_1,unit),a0_1,(↑(a0_1.length):Int),(0:Int),unit),unit)))))
theorem zuc (zcx zal:Zp) (tga0_1:Tag) (a0_0:Int) (a0_1:List D):denP Tryz.prog (zaz [(ID.record_fine,(.pure [0] zcx)),(ID.slices_ContainsFunc_record_Item_record_Item,(.pure [0] zal))]) zkL [0] ID.record_Check [.agg [.int .i64 a0_0,.sl tga0_1 a0_1]]=ziY zcx zal a0_0 (D.lentL a0_1):=by kernel_rfl
theorem zqy (tga0_1:Tag) (a0_0:Int) (a0_1:List D):zbh [.agg [.int .i64 a0_0,.sl tga0_1 a0_1]]=ziY zcx zal a0_0 (D.lentL a0_1):=zuc zcx zal tga0_1 a0_0 a0_1
def zte:Ann:={ loops:=[(0,dd 3 (.val (.cell (.int .u32))::dd 5 [.val (.cell .lent),.val (.cell (.int .i64)),.val (.cell (.int .i64))])),(2,dd 3 (.val (.cell (.int .u32))::dd 5 (.val (.cell .lent)::.val (.cell (.int .i64))::.val (.cell (.int .i64))::dd 3 [.val (.cell .sl),.val (.cell (.int .i64)),.val (.cell (.int .i64))]))),(4,dd 3 (.val (.cell (.int .u32))::dd 5 (.val (.cell .lent)::.val (.cell (.int .i64))::.val (.cell (.int .i64))::dd 3 (.val (.cell .sl)::.val (.cell (.int .i64))::.val (.cell (.int .i64))::dd 7 [.val (.cell (.int .i64))]))))] }
noncomputable def zem:Zp:=denP Tryz.prog (zaz []) zte [0] ID.crc_Sum
theorem zw0:za1 Tryz.prog ID.crc_Sum (.pure [0] zem):=zam (zaC []) zbm ⟨Tryz.f158,by kernel_rfl,by kernel_rfl,by kernel_rfl⟩
noncomputable def zyR:Fact Tryz.prog:=⟨ID.crc_Sum,(.pure [0] zem),zw0⟩
noncomputable def ztf (a0:List D):Option D:=
 zb1 (α:=(Int×List D×Int×Int×PUnit)×PUnit) (fun again1 ((i2,(l3,(i4,(i5,_)))),_)=>
  brK (decide (i5 < i4))
   (sif (0≤i5) <|
   getK l3 (i5.toNat) fun d6=>
   asSl d6 fun t7 l8=>
   zb1 (α:=(Int×List D×Int×Int×(Tag×List D)×Int×Int×PUnit)×PUnit) (fun again9 ((i10,(l11,(i12,(i13,((t14,l15),(i16,(i17,_))))))),_)=>
    brK (decide (i17 < i16))
     (sif (0≤i17) <|
     getK l15 (i17.toNat) fun d18=>
     asI .u8 d18 fun i19=>
     letN (IntKind.wrap IntKind.u32 i19) fun n20=>
     letN (bits BinOp.xor IntKind.u32 i10 n20) fun n21=>
     zb1 (α:=(Int×List D×Int×Int×(Tag×List D)×Int×Int×Int×PUnit)×PUnit) (fun again22 ((i23,(l24,(i25,(i26,((t27,l28),(i29,(i30,(i31,_)))))))),_)=>
      brK (decide (i31 < 8))
       (letN (bits BinOp.and IntKind.u32 i23 (1:Int)) fun n32=>
       letN (Int.fdiv i23 (2:Int)) fun n33=>
       brK (n32 == 1)
        (letN (bits BinOp.xor IntKind.u32 n33 (2197175160:Int)) fun n34=>
        letN (IntKind.i64.wrap (i31+1)) fun n35=>
        again22 (((n34,l24,i25,i26,(t27,l28),i29,i30,n35,unit),unit)))
        (letN (IntKind.i64.wrap (i31+1)) fun n36=>
        again22 (((n33,l24,i25,i26,(t27,l28),i29,i30,n36,unit),unit))))
       (letN (IntKind.i64.wrap (i30+1)) fun n37=>
       again9 (((i23,l24,i25,i26,(t27,l28),i29,n37,unit),unit))))
      (((n21,l11,i12,i13,(t14,l15),i16,i17,(0:Int),unit),unit)))
     (letN (IntKind.i64.wrap (i13+1)) fun n38=>
     again1 (((i10,l11,i12,n38,unit),unit))))
    (((i2,l3,i4,i5,(t7,l8),(↑(l8.length):Int),(0:Int),unit),unit)))
   (letN (bits BinOp.xor IntKind.u32 i2 (4294967295:Int)) fun n39=>
   some (.int .u32 n39)))
  ((((4294967295:Int),a0,(↑(a0.length):Int),(0:Int),unit),unit))
theorem zEi (tga0:Tag) (a0:List D):denP Tryz.prog (zaz []) zte [0] ID.crc_Sum [.sl tga0 a0]=ztf (D.lentL a0):=by kernel_rfl
theorem zyS (tga0:Tag) (a0:List D):zem [.sl tga0 a0]=ztf (D.lentL a0):=zEi tga0 a0
def ztg:Ann:={ loops:=[] }
noncomputable def zen:Zp:=denP Tryz.prog (zaz [(ID.crc_Sum,(.pure [0] zem))]) ztg [0] ID.crc_sum
theorem zw1:za1 Tryz.prog ID.crc_sum (.pure [0] zen):=zam (zaC [zyR]) zbm ⟨Tryz.f149,by kernel_rfl,by kernel_rfl,by kernel_rfl⟩
noncomputable def zyT:Fact Tryz.prog:=⟨ID.crc_sum,(.pure [0] zen),zw1⟩
noncomputable def zth (zem:Zp) (a0 a1:List D):Option D:=
 sif (28≤(↑(a0.length):Int)) <|
 sif (zrf (1:Nat) a0=true) <|
 sif (a1≠[]) <|
 sif (1+a1.length≤4294967296) <|
 sif (zd9 (1:Nat) a1=true) <|
 sif (0+(1+a1.length)≤List.length ([D.sl (zdX Tag.lent true (decide ((28:Int)=(↑(a0.length):Int)))) (cutI (0:Int) (28:Int) a0)]++a1)) <|
 zar (zem [.sl .lent (cut (0:Nat) (1+a1.length) ([.sl (zdX Tag.lent true (decide ((28:Int)=(↑(a0.length):Int)))) (cutI (0:Int) (28:Int) a0)]++a1))]) fun r1=>
 asI .u32 r1 fun i2=>
 some (.int .u32 i2)
theorem zEj (zem:Zp) (tga0 tga1:Tag) (a0 a1:List D):denP Tryz.prog (zaz [(ID.crc_Sum,(.pure [0] zem))]) ztg [0] ID.crc_sum [.sl tga0 a0,.sl tga1 a1]=zth zem (D.lentL a0) (D.lentL a1):=by kernel_rfl
theorem zyU (tga0 tga1:Tag) (a0 a1:List D):zen [.sl tga0 a0,.sl tga1 a1]=zth zem (D.lentL a0) (D.lentL a1):=zEj zem tga0 tga1 a0 a1
def zrb:Ann:={ loops:=[],pms:=[(.mut,1)],unr:=[(1,5)] }
noncomputable def zdJ:Zs:=denS Tryz.prog (zaz [(ID.crc_sum,(.pure [0] zen))]) zrb [0] ID.crc_Seal
theorem zud:za1 Tryz.prog ID.crc_Seal (.st [(.mut,1)] [0] [] zdJ):=zbg (zaC [zyT]) zbm ⟨Tryz.f115,by kernel_rfl,by kernel_rfl,by kernel_rfl⟩
noncomputable def zw2:Fact Tryz.prog:=⟨ID.crc_Seal,(.st [(.mut,1)] [0] [] zdJ),zud⟩
noncomputable def zqz (zen:Zp) (a0 a1:List D):Option Ans:=
 sif (0+a0.length≤a0.length) <|
 brK ((↑(a0.length):Int) != 32)
  (sif (zdn a0=true) <|
  some (Ans.mk (.bool false) [a0] []))
  (sif (0+a0.length≤a0.length) <|
  zar (zen [.sl .lent (cut 0 a0.length a0),.sl .lent a1]) fun r1=>
  asI .u32 r1 fun i2=>
  letN (Int.fdiv i2 (16777216:Int)) fun n3=>
  letN (IntKind.wrap IntKind.u8 n3) fun n4=>
  sif ((28:Nat) < a0.length) <|
  getK a0 ((28:Nat)) fun d5=>
  sif (D.isAgg d5=false) <|
  letN (Int.fdiv i2 (65536:Int)) fun n6=>
  letN (IntKind.wrap IntKind.u8 n6) fun n7=>
  sif ((29:Nat) < a0.length) <|
  getK (List.set a0 (28:Nat) (.int .u8 n4)) ((29:Nat)) fun d8=>
  sif (D.isAgg d8=false) <|
  letN (Int.fdiv i2 (256:Int)) fun n9=>
  letN (IntKind.wrap IntKind.u8 n9) fun n10=>
  sif ((30:Nat) < a0.length) <|
  getK (List.set (List.set a0 (28:Nat) (.int .u8 n4)) (29:Nat) (.int .u8 n7)) ((30:Nat)) fun d11=>
  sif (D.isAgg d11=false) <|
  letN (Int.fdiv i2 (1:Int)) fun n12=>
  letN (IntKind.wrap IntKind.u8 n12) fun n13=>
  sif ((31:Nat) < a0.length) <|
  getK (List.set (List.set (List.set a0 (28:Nat) (.int .u8 n4)) (29:Nat) (.int .u8 n7)) (30:Nat) (.int .u8 n10)) ((31:Nat)) fun d14=>
  sif (D.isAgg d14=false) <|
  sif (zdn (List.set (List.set (List.set (List.set a0 (28:Nat) (D.int .u8 n4)) (29:Nat) (D.int .u8 n7)) (30:Nat) (D.int .u8 n10)) (31:Nat) (D.int .u8 n13))=true) <|
  some (Ans.mk (.bool true) [List.set (List.set (List.set (List.set a0 (28:Nat) (.int .u8 n4)) (29:Nat) (.int .u8 n7)) (30:Nat) (.int .u8 n10)) (31:Nat) (.int .u8 n13)] []))
theorem zCq (zen:Zp) (tga1:Tag) (a0 a1:List D):denS Tryz.prog (zaz [(ID.crc_sum,(.pure [0] zen))]) zrb [0] ID.crc_Seal [.sl .own a0,.sl tga1 a1] []=zqz zen a0 (D.lentL a1):=by kernel_rfl
theorem zw3 (tga1:Tag) (a0 a1:List D):zdJ [.sl .own a0,.sl tga1 a1] []=zqz zen a0 (D.lentL a1):=zCq zen tga1 a0 a1
def zjI:Ann:={ loops:=[(1,dd 5 (.own 1::.own 1::dd 31 [.val (.cell .lent),.val (.cell (.int .i64)),.val (.cell (.int .i64))])),(3,dd 5 [.own 1,.own 1])] }
noncomputable def zb4:Zp:=denP Tryz.prog (zaz [(ID.record_Check,(.pure [0] zbh)),(ID.slices_Clone_byte_byte,(.pure [1] zag)),(ID.crc_Seal,(.st [(.mut,1)] [0] [] zdJ))]) zjI [1,0] ID.record_Encode
theorem zn3:za1 Tryz.prog ID.record_Encode (.pure [1,0] zb4):=zam (zaC [zjH,zdz,zw2]) zbm ⟨Tryz.f76,by kernel_rfl,by kernel_rfl,by kernel_rfl⟩
noncomputable def zpy:Fact Tryz.prog:=⟨ID.record_Encode,(.pure [1,0] zb4),zn3⟩
noncomputable def zic (zbh zag:Zp) (zdJ:Zs) (a0_0:Int) (a0_1:List D):Option D:=
 zar (zbh [.agg [.int .i64 a0_0,.sl .lent a0_1]]) fun r1=>
 asI .i64 r1 fun i2=>
 brK (i2 != 0)
  (some (.tup [.sl .own [],.int .i64 i2]))
  (letN (Int.fdiv a0_0 (16777216:Int)) fun n3=>
  letN (IntKind.wrap IntKind.u8 n3) fun n4=>
  letN (Int.fdiv a0_0 (65536:Int)) fun n5=>
  letN (IntKind.wrap IntKind.u8 n5) fun n6=>
  letN (Int.fdiv a0_0 (256:Int)) fun n7=>
  letN (IntKind.wrap IntKind.u8 n7) fun n8=>
  letN (IntKind.wrap IntKind.u8 a0_0) fun n9=>
  letN (IntKind.u8.wrap (↑(a0_1.length):Int)) fun n10=>
  zb1 (α:=(List D×List D×List D×Int×Int×PUnit)×PUnit) (fun again11 ((l12,(l13,(l14,(i15,(i16,_))))),_)=>
   brK (decide (i16 < i15))
    (sif (0≤i16) <|
    getK l14 (i16.toNat) fun d17=>
    asAgg d17 fun cs18=>
    zay ([Lf.int .i64,Lf.int .i64,Lf.sl]) cs18 fun c19=>
    letN (IntKind.wrap IntKind.u8 c19.1) fun n20=>
    letN (IntKind.wrap IntKind.u8 c19.2.1) fun n21=>
    sif (l12.length+2≤4294967296) <|
    sif (l12.length=l12.length) <|
    zar (zag [.sl c19.2.2.1.1 c19.2.2.1.2]) fun r22=>
    zbi r22 fun l23=>
    sif (0+l23.length≤l23.length) <|
    sif (l13.length+1≤4294967296) <|
    sif (l13.length=l13.length) <|
    letN (IntKind.i64.wrap (i16+1)) fun n24=>
    sif (l12.length+2=List.length (l12++[D.int .u8 n20,D.int .u8 n21])) <|
    sif (l13.length+1=List.length (l13++[D.sl .fresh (cut 0 l23.length l23)])) <|
    again11 (((l12++[.int .u8 n20,.int .u8 n21],l13++[.sl .fresh (cut 0 l23.length l23)],l14,i15,n24,unit),unit)))
    (sif (0+l12.length≤l12.length) <|
    letN (IntKind.i64.wrap ((32:Int) - (↑(l12.length):Int))) fun n25=>
    sif (0≤n25) <|
    sif (l12.length+n25.toNat≤4294967296) <|
    sif (l12.length=l12.length) <|
    sif (l12.length+n25.toNat=List.length (l12++List.replicate (n25.toNat) (D.int .u8 0))) <|
    sif (l13.length=l13.length) <|
    zb1 (α:=(List D×List D×PUnit)×PUnit) (fun again26 ((l27,(l28,_)),_)=>
     sif (0+l28.length≤l28.length) <|
     brK (decide ((↑(l28.length):Int) < 3))
      (sif (l28.length+1≤4294967296) <|
      sif (l28.length=l28.length) <|
      sif (l27.length=l27.length) <|
      sif (l28.length+1=List.length (l28++[D.sl .fresh [D.int .u8 0,D.int .u8 0,D.int .u8 0,D.int .u8 0,D.int .u8 0,D.int .u8 0,D.int .u8 0,D.int .u8 0,D.int .u8 0,D.int .u8 0,D.int .u8 0,D.int .u8 0,D.int .u8 0,D.int .u8 0,D.int .u8 0,D.int .u8 0,D.int .u8 0,D.int .u8 0,D.int .u8 0,D.int .u8 0,D.int .u8 0,D.int .u8 0,D.int .u8 0,D.int .u8 0,D.int .u8 0,D.int .u8 0,D.int .u8 0,D.int .u8 0,D.int .u8 0,D.int .u8 0,D.int .u8 0,D.int .u8 0]])) <|
      again26 (((l27,l28++[.sl .fresh [.int .u8 0,.int .u8 0,.int .u8 0,.int .u8 0,.int .u8 0,.int .u8 0,.int .u8 0,.int .u8 0,.int .u8 0,.int .u8 0,.int .u8 0,.int .u8 0,.int .u8 0,.int .u8 0,.int .u8 0,.int .u8 0,.int .u8 0,.int .u8 0,.int .u8 0,.int .u8 0,.int .u8 0,.int .u8 0,.int .u8 0,.int .u8 0,.int .u8 0,.int .u8 0,.int .u8 0,.int .u8 0,.int .u8 0,.int .u8 0,.int .u8 0,.int .u8 0]],unit),unit)))
      (sif (l27.length=l27.length) <|
      sif (zdn l27=true) <|
      sif (0+l28.length≤l28.length) <|
      zar (zdJ [.sl .own l27,.sl .lent (cut 0 l28.length l28)] []) fun r29=>
      zd0 r29.outs fun c30 q31=>
      sif (c30.length=l27.length) <|
      nilK q31 <|
      nilK r29.tbs <|
      asB r29.r fun b32=>
      sif (0+l27.length≤c30.length) <|
      sif (0+l28.length≤l28.length) <|
      sif (cut 0 l28.length l28≠[]) <|
      sif (1+List.length (cut 0 l28.length l28)≤4294967296) <|
      sif (zd9 (1:Nat) (cut 0 l28.length l28)=true) <|
      sif (1+List.length (cut 0 l28.length l28)=List.length ([D.sl .fresh (cut 0 l27.length c30)]++cut 0 l28.length l28)) <|
      sif (List.all ([D.sl .fresh (cut 0 l27.length c30)]++cut 0 l28.length l28) D.free=true) <|
      some (.tup [.sl .own ([.sl .fresh (cut 0 l27.length c30)]++cut 0 l28.length l28),.int .i64 0])))
     (((l12++List.replicate (n25.toNat) (.int .u8 0),l13,unit),unit))))
   ((([.int .u8 87,.int .u8 82,.int .u8 69,.int .u8 67,.int .u8 n4,.int .u8 n6,.int .u8 n8,.int .u8 n9,.int .u8 n10],[],a0_1,(↑(a0_1.length):Int),(0:Int),unit),unit)))
theorem zti (zbh zag:Zp) (zdJ:Zs) (tga0_1:Tag) (a0_0:Int) (a0_1:List D):denP Tryz.prog (zaz [(ID.record_Check,(.pure [0] zbh)),(ID.slices_Clone_byte_byte,(.pure [1] zag)),(ID.crc_Seal,(.st [(.mut,1)] [0] [] zdJ))]) zjI [1,0] ID.record_Encode [.agg [.int .i64 a0_0,.sl tga0_1 a0_1]]=zic zbh zag zdJ a0_0 (D.lentL a0_1):=by kernel_rfl
theorem zpz (tga0_1:Tag) (a0_0:Int) (a0_1:List D):zb4 [.agg [.int .i64 a0_0,.sl tga0_1 a0_1]]=zic zbh zag zdJ a0_0 (D.lentL a0_1):=zti zbh zag zdJ tga0_1 a0_0 a0_1
def zvj:Ann:={ loops:=[] }
noncomputable def zdc:Zp:=denP Tryz.prog (zaz []) zvj [0] ID.log_is
theorem zyV:za1 Tryz.prog ID.log_is (.pure [0] zdc):=zam (zaC []) zbm ⟨Tryz.f81,by kernel_rfl,by kernel_rfl,by kernel_rfl⟩
noncomputable def ztj:Fact Tryz.prog:=⟨ID.log_is,(.pure [0] zdc),zyV⟩
noncomputable def zw4 (a0:List D) (a1:Int):Option D:=
 brK (decide (a1≥0))
  (brK (decide (a1 < (↑(a0.length):Int)))
   (sif (0≤a1) <|
   getK a0 (a1.toNat) fun d1=>
   asB d1 fun b2=>
   some (.bool b2))
   (some (.bool false)))
  (some (.bool false))
theorem zF3 (tga0:Tag) (a0:List D) (a1:Int):denP Tryz.prog (zaz []) zvj [0] ID.log_is [.sl tga0 a0,.int .i64 a1]=zw4 (D.lentL a0) a1:=by kernel_rfl
theorem zAj (tga0:Tag) (a0:List D) (a1:Int):zdc [.sl tga0 a0,.int .i64 a1]=zw4 (D.lentL a0) a1:=zF3 tga0 a0 a1
def zpA:Ann:={ loops:=[(0,.dead::.val (.cell .lent)::dd 3 (.own 1::dd 2 [.val (.cell (.int .i64)),.val (.cell (.int .i64))]))],ks:=[(2496,false)] }
noncomputable def zdj:Zs:=denS Tryz.prog (zaz [(ID.bench_Bench_Len,(.st [] [0] [(2496,false)] zao)),(ID.log_is,(.pure [0] zdc))]) zpA [1] ID.log_disks
theorem ztk:za1 Tryz.prog ID.log_disks (.st [] [1] [(2496,false)] zdj):=zbg (zaC [zdZ,ztj]) zbm ⟨Tryz.f61,by kernel_rfl,by kernel_rfl,by kernel_rfl⟩
noncomputable def zue:Fact Tryz.prog:=⟨ID.log_disks,(.st [] [1] [(2496,false)] zdj),ztk⟩
noncomputable def zn4 (zao:Zs) (zdc:Zp) (a0:Nat) (a1:List D) (T0:Tb):Option Ans:=
 zar (zao [.h 2496 a0 0] [T0]) fun r1=>
 nilK r1.outs <|
 nilK r1.tbs <|
 asI .i64 r1.r fun i2=>
 zb1 (α:=(List D×List D×Int×Int×PUnit)×List (List D)×PUnit) (fun again3 ((l4,(l5,(i6,(i7,_)))),(U8,_))=>
  brK (decide (i7 < i6))
   (zar (zdc [.sl .lent l4,.int .i64 i7]) fun r9=>
   asB r9 fun b10=>
   brK b10
    (sif (l5.length+1≤4294967296) <|
    sif (l5.length=l5.length) <|
    letN (IntKind.i64.wrap (i7+1)) fun n11=>
    sif (l5.length+1=List.length (l5++[D.int .i64 i7])) <|
    again3 (((l4,l5++[.int .i64 i7],i6,n11,unit),U8,unit)))
    (letN (IntKind.i64.wrap (i7+1)) fun n12=>
    sif (l5.length=l5.length) <|
    again3 (((l4,l5,i6,n12,unit),U8,unit))))
   (sif (l5.length=l5.length) <|
   sif (List.all l5 D.free=true) <|
   some (Ans.mk (.sl .own l5) [] [])))
  (((a1,[],i2,(0:Int),unit),T0,unit))
theorem zAk (zao:Zs) (zdc:Zp) (tga1:Tag) (a0:Nat) (a1:List D) (T0:Tb):denS Tryz.prog (zaz [(ID.bench_Bench_Len,(.st [] [0] [(2496,false)] zao)),(ID.log_is,(.pure [0] zdc))]) zpA [1] ID.log_disks [.h 2496 a0 0,.sl tga1 a1] [T0]=zn4 zao zdc a0 (D.lentL a1) T0:=by kernel_rfl
theorem zuf (tga1:Tag) (a0:Nat) (a1:List D) (T0:Tb):zdj [.h 2496 a0 0,.sl tga1 a1] [T0]=zn4 zao zdc a0 (D.lentL a1) T0:=zAk zao zdc tga1 a0 a1 T0
def zid:Ann:={ loops:=[],pubs:=[(2,[(3,128,8225)])],ks:=[(8225,true)] }
noncomputable def zaZ:Zs:=denS Tryz.prog (zaz [(ID.slices_Clone_disk_write_disk_write,(.pure [33] zaf))]) zid [0] ID.disk_Disk_Clone
theorem zl3:za1 Tryz.prog ID.disk_Disk_Clone (.st [] [0] [(8225,true)] zaZ):=zbg (zaC [zc2]) zbm ⟨Tryz.f51,by kernel_rfl,by kernel_rfl,by kernel_rfl⟩
noncomputable def zhk:Fact Tryz.prog:=⟨ID.disk_Disk_Clone,(.st [] [0] [(8225,true)] zaZ),zl3⟩
noncomputable def zgC (zaf:Zp) (a0:Nat) (T0:Tb):Option Ans:=
 getK T0 a0 fun d1=>
 sif (1666≤d1.length) <|
 sif (List.length (List.map D.hide (List.take (1666:Nat) (List.drop (0:Nat) d1)))=(1666:Nat)) <|
 getK T0 a0 fun d2=>
 getK d2 ((1664:Nat)) fun d3=>
 zbi d3 fun l4=>
 getK T0 a0 fun d5=>
 getK d5 ((1664:Nat)) fun d6=>
 zbi d6 fun l7=>
 sif (0+l4.length≤l7.length) <|
 zar (zaf [.sl .lent (cut 0 l4.length l7)]) fun r8=>
 zbi r8 fun l9=>
 sif (0+l9.length≤l9.length) <|
 sif ((1664:Nat) < List.length (spl (0:Nat) (1666:Nat) (List.reverse ([D.bool false,D.sl .nil []]++List.replicate 1664 (D.int .u8 0))) (List.map D.hide (List.take (1666:Nat) (List.drop (0:Nat) d1))))) <|
 sif (some (1666:Nat)=some (List.length (spl (0:Nat) (1666:Nat) (List.reverse ([D.bool false,D.sl .nil []]++List.replicate 1664 (D.int .u8 0))) (List.map D.hide (List.take (1666:Nat) (List.drop (0:Nat) d1)))))) <|
 sif (l9.length=l9.length) <|
 sif (zdn l9=true) <|
 sif (zgg (33:Nat) l9=true) <|
 sif (List.all (List.set (spl (0:Nat) (1666:Nat) (List.reverse ([D.bool false,D.sl .nil []]++List.replicate 1664 (D.int .u8 0))) (List.map D.hide (List.take (1666:Nat) (List.drop (0:Nat) d1)))) (1664:Nat) D.nilp) D.own0ok=true) <|
 sif ((true && decide ((1:Nat)=(1:Nat)) && List.all [(1664:Nat)] fun k=>decide (k < List.length (spl (0:Nat) (1666:Nat) (List.reverse ([D.bool false,D.sl .nil []]++List.replicate 1664 (D.int .u8 0))) (List.map D.hide (List.take (1666:Nat) (List.drop (0:Nat) d1))))))=true) <|
 letT (T0++[List.set (List.map D.own0 (spl (0:Nat) (1666:Nat) (List.reverse ([.bool false,.sl .nil []]++List.replicate 1664 (.int .u8 0))) (List.map D.hide (List.take (1666:Nat) (List.drop (0:Nat) d1))))) (1664:Nat) (.sl .own l9)]) fun U10=>
 some (Ans.mk (.h (8225:Nat) (T0.length) (0:Nat)) [] [U10])
theorem zqA (zaf:Zp) (a0:Nat) (T0:Tb):denS Tryz.prog (zaz [(ID.slices_Clone_disk_write_disk_write,(.pure [33] zaf))]) zid [0] ID.disk_Disk_Clone [.h 8225 a0 0] [T0]=zgC zaf a0 T0:=by kernel_rfl
theorem zm1 (a0:Nat) (T0:Tb):zaZ [.h 8225 a0 0] [T0]=zgC zaf a0 T0:=zqA zaf a0 T0
def zie:Ann:={ loops:=[],ks:=[(8225,true)] }
noncomputable def zbx:Zs:=denS Tryz.prog (zaz [(ID.disk_Disk_put,(.st [] [0,0] [(8225,false)] za7))]) zie [0] ID.disk_Disk_Write
theorem zl4:za1 Tryz.prog ID.disk_Disk_Write (.st [] [0] [(8225,true)] zbx):=zbg (zaC [ziG]) zbm ⟨Tryz.f116,by kernel_rfl,by kernel_rfl,by kernel_rfl⟩
noncomputable def zm2:Fact Tryz.prog:=⟨ID.disk_Disk_Write,(.st [] [0] [(8225,true)] zbx),zl4⟩
noncomputable def zgD (za7:Zs) (a0:Nat) (a1:Int) (a2:List D) (T0:Tb):Option Ans:=
 zar (za7 [.h 8225 a0 0,.int .i64 a1,.sl .lent a2] [T0]) fun r1=>
 nilK r1.outs <|
 nilK r1.tbs <|
 zej r1.r fun ts2=>
 zay ([Lf.any,Lf.any]) ts2 fun c3=>
 asAgg c3.1 fun cs4=>
 zay ([Lf.int .i64,Lf.arr (32)]) cs4 fun c5=>
 asI .i64 c3.2.1 fun i6=>
 sif (List.length ([D.int .i64 c5.1]++(c5.2.1++[]))=(33:Nat)) <|
 brK (i6 == 0)
  (getK T0 a0 fun d7=>
  getK d7 ((1664:Nat)) fun d8=>
  zbi d8 fun l9=>
  sif (33≤List.length ([D.int .i64 c5.1]++(c5.2.1++[]))) <|
  zay ([Lf.int .i64,Lf.arr (32)]) (List.take (33:Nat) (List.drop (0:Nat) ([.int .i64 c5.1]++(c5.2.1++[])))) fun c10=>
  sif (zd9 (33:Nat) [D.agg ([D.int .i64 c10.1]++(c10.2.1++[]))]=true) <|
  getK T0 a0 fun d11=>
  getK d11 ((1664:Nat)) fun d12=>
  zbi d12 fun l13=>
  sif (l9.length+1≤4294967296) <|
  sif (zd9 (33:Nat) [D.agg ([D.int .i64 c10.1]++(c10.2.1++[]))]=true) <|
  sif (l9.length=l13.length) <|
  letT (setT T0 a0 (1664:Nat) D.undef) fun U14=>
  getK U14 a0 fun d15=>
  sif (1665≤d15.length) <|
  sif (l9.length+1=List.length (l13++[D.agg ([D.int .i64 c10.1]++(c10.2.1++[]))])) <|
  sif (zdn (l13++[D.agg ([D.int .i64 c10.1]++(c10.2.1++[]))])=true) <|
  sif (zgg (33:Nat) (l13++[D.agg ([D.int .i64 c10.1]++(c10.2.1++[]))])=true) <|
  letT (za8 U14 a0 (1664:Nat) [.sl .own (l13++[.agg ([.int .i64 c10.1]++(c10.2.1++[]))])]) fun U16=>
  some (Ans.mk (.int .i64 i6) [] [U16]))
  (some (Ans.mk (.int .i64 i6) [] [T0]))
theorem zqB (za7:Zs) (tga2:Tag) (a0:Nat) (a1:Int) (a2:List D) (T0:Tb):denS Tryz.prog (zaz [(ID.disk_Disk_put,(.st [] [0,0] [(8225,false)] za7))]) zie [0] ID.disk_Disk_Write [.h 8225 a0 0,.int .i64 a1,.sl tga2 a2] [T0]=zgD za7 a0 a1 (D.lentL a2) T0:=by kernel_rfl
theorem zm3 (tga2:Tag) (a0:Nat) (a1:Int) (a2:List D) (T0:Tb):zbx [.h 8225 a0 0,.int .i64 a1,.sl tga2 a2] [T0]=zgD za7 a0 a1 (D.lentL a2) T0:=zqB za7 tga2 a0 a1 a2 T0
def zf8:Ann:={ loops:=[],ks:=[(2496,true)] }
noncomputable def zbf:Zs:=denS Tryz.prog (zaz []) zf8 [0] ID.bench_counter_count
theorem ziZ:za1 Tryz.prog ID.bench_counter_count (.st [] [0] [(2496,true)] zbf):=zbg (zaC []) zbm ⟨Tryz.f117,by kernel_rfl,by kernel_rfl,by kernel_rfl⟩
noncomputable def zjJ:Fact Tryz.prog:=⟨ID.bench_counter_count,(.st [] [0] [(2496,true)] zbf),ziZ⟩
noncomputable def zeQ (a0:Nat) (T0:Tb):Option Ans:=
 getK T0 a0 fun d1=>
 getK d1 ((1:Nat)) fun d2=>
 asI .i64 d2 fun i3=>
 brK (i3 == 0)
  (getK T0 a0 fun d4=>
  sif (3≤d4.length) <|
  sif (zhO (List.take (1:Nat) (List.drop (2:Nat) d4))=true) <|
  letT (za8 T0 a0 (2:Nat) [.bool true]) fun U5=>
  some (Ans.mk (.bool false) [] [U5]))
  (getK T0 a0 fun d6=>
  getK d6 ((1:Nat)) fun d7=>
  asI .i64 d7 fun i8=>
  brK (decide (i8 > 0))
   (getK T0 a0 fun d9=>
   getK d9 ((1:Nat)) fun d10=>
   asI .i64 d10 fun i11=>
   letN (IntKind.i64.wrap (i11 - 1)) fun n12=>
   getK T0 a0 fun d13=>
   sif (2≤d13.length) <|
   sif (zhO (List.take (1:Nat) (List.drop (1:Nat) d13))=true) <|
   letT (za8 T0 a0 (1:Nat) [.int .i64 n12]) fun U14=>
   getK U14 a0 fun d15=>
   getK d15 ((0:Nat)) fun d16=>
   asI .i64 d16 fun i17=>
   letN (IntKind.i64.wrap (i17+1)) fun n18=>
   getK U14 a0 fun d19=>
   sif (1≤d19.length) <|
   sif (zhO (List.take (1:Nat) (List.drop (0:Nat) d19))=true) <|
   letT (za8 U14 a0 (0:Nat) [.int .i64 n18]) fun U20=>
   some (Ans.mk (.bool true) [] [U20]))
   (getK T0 a0 fun d21=>
   getK d21 ((0:Nat)) fun d22=>
   asI .i64 d22 fun i23=>
   letN (IntKind.i64.wrap (i23+1)) fun n24=>
   getK T0 a0 fun d25=>
   sif (1≤d25.length) <|
   sif (zhO (List.take (1:Nat) (List.drop (0:Nat) d25))=true) <|
   letT (za8 T0 a0 (0:Nat) [.int .i64 n24]) fun U26=>
   some (Ans.mk (.bool true) [] [U26])))
theorem zl5 (a0:Nat) (T0:Tb):denS Tryz.prog (zaz []) zf8 [0] ID.bench_counter_count [.h 2496 a0 0] [T0]=zeQ a0 T0:=by kernel_rfl
theorem zjK (a0:Nat) (T0:Tb):zbf [.h 2496 a0 0] [T0]=zeQ a0 T0:=zl5 a0 T0
def zgW:Ann:={ loops:=[],ks:=[(2496,true),(8225,true)] }
noncomputable def zaS:Zs:=denS Tryz.prog (zaz [(ID.bench_Bench_may,(.st [] [0] [(2496,false)] zaG)),(ID.disk_Disk_Clone,(.st [] [0] [(8225,true)] zaZ)),(ID.disk_Disk_Write,(.st [] [0] [(8225,true)] zbx)),(ID.bench_counter_count,(.st [] [0] [(2496,true)] zbf))]) zgW [0] ID.bench_Bench_Write
theorem zkv:za1 Tryz.prog ID.bench_Bench_Write (.st [] [0] [(2496,true),(8225,true)] zaS):=zbg (zaC [zfd,zhk,zm2,zjJ]) zbm ⟨Tryz.f77,by kernel_rfl,by kernel_rfl,by kernel_rfl⟩
noncomputable def zgp:Fact Tryz.prog:=⟨ID.bench_Bench_Write,(.st [] [0] [(2496,true),(8225,true)] zaS),zkv⟩
noncomputable def zfB (zaG zaZ zbx zbf:Zs) (a0:Nat) (a1 a2:Int) (a3:List D) (T0 T1:Tb):Option Ans:=
 zar (zaG [.h 2496 a0 0,.int .i64 a1] [T0]) fun r1=>
 nilK r1.outs <|
 nilK r1.tbs <|
 asI .i64 r1.r fun i2=>
 brK (i2 != 0)
  (some (Ans.mk (.int .i64 i2) [] [T0,T1]))
  (getK T0 a0 fun d3=>
  getK d3 ((3:Nat)) fun d4=>
  zbi d4 fun l5=>
  getK T0 a0 fun d6=>
  getK d6 ((3:Nat)) fun d7=>
  zbi d7 fun l8=>
  sif (0≤a1) <|
  sif (a1.toNat < l5.length) <|
  getK T0 a0 fun d9=>
  getK d9 ((3:Nat)) fun d10=>
  zbi d10 fun l11=>
  getK l11 (0+a1.toNat) fun d12=>
  sif (D.isAgg d12=false) <|
  sif (D.width d12=(1:Nat)) <|
  sif (D.cell d12=true) <|
  zar (zaZ [d12] [T1]) fun r13=>
  nilK r13.outs <|
  zd0 r13.tbs fun c14 q15=>
  nilK q15 <|
  sif (zjh r13.r=true) <|
  zar (zbx [r13.r,.int .i64 a2,.sl .lent a3] [c14]) fun r16=>
  nilK r16.outs <|
  zd0 r16.tbs fun c17 q18=>
  nilK q18 <|
  asI .i64 r16.r fun i19=>
  brK (i19 != 0)
   (some (Ans.mk (.int .i64 i19) [] [T0,c17]))
   (zar (zbf [.h 2496 a0 0] [T0]) fun r20=>
   nilK r20.outs <|
   zd0 r20.tbs fun c21 q22=>
   nilK q22 <|
   asB r20.r fun b23=>
   brK (!b23)
    (some (Ans.mk (.int .i64 6) [] [c21,c17]))
    (getK c21 a0 fun d24=>
    getK d24 ((3:Nat)) fun d25=>
    zbi d25 fun l26=>
    getK c21 a0 fun d27=>
    getK d27 ((3:Nat)) fun d28=>
    zbi d28 fun l29=>
    sif (0≤a1) <|
    sif (a1.toNat < l26.length) <|
    getK c21 a0 fun d30=>
    getK d30 ((3:Nat)) fun d31=>
    zbi d31 fun l32=>
    getK l32 (0+a1.toNat) fun d33=>
    sif (D.isAgg d33=false) <|
    sif (D.width d33=(1:Nat)) <|
    sif (D.cell d33=true) <|
    zar (zbx [d33,.int .i64 a2,.sl .lent a3] [c17]) fun r34=>
    nilK r34.outs <|
    zd0 r34.tbs fun c35 q36=>
    nilK q36 <|
    asI .i64 r34.r fun i37=>
    some (Ans.mk (.int .i64 i37) [] [c21,c35]))))
theorem zn5 (zaG zaZ zbx zbf:Zs) (tga3:Tag) (a0:Nat) (a1 a2:Int) (a3:List D) (T0 T1:Tb):denS Tryz.prog (zaz [(ID.bench_Bench_may,(.st [] [0] [(2496,false)] zaG)),(ID.disk_Disk_Clone,(.st [] [0] [(8225,true)] zaZ)),(ID.disk_Disk_Write,(.st [] [0] [(8225,true)] zbx)),(ID.bench_counter_count,(.st [] [0] [(2496,true)] zbf))]) zgW [0] ID.bench_Bench_Write [.h 2496 a0 0,.int .i64 a1,.int .i64 a2,.sl tga3 a3] [T0,T1]=zfB zaG zaZ zbx zbf a0 a1 a2 (D.lentL a3) T0 T1:=by kernel_rfl
theorem zk2 (tga3:Tag) (a0:Nat) (a1 a2:Int) (a3:List D) (T0 T1:Tb):zaS [.h 2496 a0 0,.int .i64 a1,.int .i64 a2,.sl tga3 a3] [T0,T1]=zfB zaG zaZ zbx zbf a0 a1 a2 (D.lentL a3) T0 T1:=zn5 zaG zaZ zbx zbf tga3 a0 a1 a2 a3 T0 T1
def ztl:Ann:={ loops:=[] }
noncomputable def zbS:Zp:=denP Tryz.prog (zaz []) ztl [0] ID.log_bad
theorem zw5:za1 Tryz.prog ID.log_bad (.pure [0] zbS):=zam (zaC []) zbm ⟨Tryz.f78,by kernel_rfl,by kernel_rfl,by kernel_rfl⟩
noncomputable def zl6:Fact Tryz.prog:=⟨ID.log_bad,(.pure [0] zbS),zw5⟩
noncomputable def ztm (a0:Int):Option D:=
 brK (a0 != 0)
  (some (.bool (a0 != 5)))
  (some (.bool false))
theorem zEk (a0:Int):denP Tryz.prog (zaz []) ztl [0] ID.log_bad [.int .i64 a0]=ztm a0:=by kernel_rfl
theorem zyW (a0:Int):zbS [.int .i64 a0]=ztm a0:=zEk a0
def zif:Ann:={ loops:=[(1,.val (.cell (.hnd (8225:Nat)))::dd 11 [.view 8225 1664,.val (.cell (.int .i64)),.val (.cell (.int .i64))])],ks:=[(8225,true)] }
noncomputable def zbM:Zs:=denS Tryz.prog (zaz []) zif [0] ID.disk_Disk_Flush
theorem zl7:za1 Tryz.prog ID.disk_Disk_Flush (.st [] [0] [(8225,true)] zbM):=zbg (zaC []) zbm ⟨Tryz.f150,by kernel_rfl,by kernel_rfl,by kernel_rfl⟩
noncomputable def zm4:Fact Tryz.prog:=⟨ID.disk_Disk_Flush,(.st [] [0] [(8225,true)] zbM),zl7⟩
noncomputable def zgE (a0:Nat) (T0:Tb):Option Ans:=
 getK T0 a0 fun d1=>
 getK d1 ((1665:Nat)) fun d2=>
 asB d2 fun b3=>
 brK b3
  (some (Ans.mk (.int .i64 5) [] [T0]))
  (getK T0 a0 fun d4=>
  getK d4 ((1664:Nat)) fun d5=>
  zbi d5 fun l6=>
  getK T0 a0 fun d7=>
  getK d7 ((1664:Nat)) fun d8=>
  zbi d8 fun l9=>
  sif (0+l6.length≤l9.length) <|
  zb1 (α:=(Nat×(Nat×Nat×Nat)×Int×Int×PUnit)×List (List D)×PUnit) (fun again10 ((x11,((x12,(x13,x14)),(i15,(i16,_)))),(U17,_))=>
   brK (decide (i16 < i15))
    (getK U17 x12 fun d18=>
    getK d18 ((1664:Nat)) fun d19=>
    zbi d19 fun l20=>
    sif (0≤i16) <|
    sif (i16.toNat < x14) <|
    getK U17 x12 fun d21=>
    getK d21 ((1664:Nat)) fun d22=>
    zbi d22 fun l23=>
    getK l23 (x13+i16.toNat) fun d24=>
    asAgg d24 fun cs25=>
    zay ([Lf.int .i64,Lf.arr (32)]) cs25 fun c26=>
    sif (D.width (D.agg ([D.int .i64 c26.1]++(c26.2.1++[])))=(33:Nat)) <|
    sif (List.length ([D.int .i64 c26.1]++(c26.2.1++[]))=(33:Nat)) <|
    sif (33≤List.length ([D.int .i64 c26.1]++(c26.2.1++[]))) <|
    sif (List.length (List.take (32:Nat) (List.drop (1:Nat) ([D.int .i64 c26.1]++(c26.2.1++[]))))=(32:Nat)) <|
    sif (0≤c26.1) <|
    sif (Int.toNat c26.1 < 52) <|
    getK U17 x11 fun d27=>
    sif (0+Int.toNat c26.1*32+32≤d27.length) <|
    sif (List.length (List.take (32:Nat) (List.drop (1:Nat) ([D.int .i64 c26.1]++(c26.2.1++[]))))=(32:Nat)) <|
    sif (zhO (List.take (32:Nat) (List.drop (1:Nat) ([D.int .i64 c26.1]++(c26.2.1++[]))))=true) <|
    sif (zhO (List.take (32:Nat) (List.drop (0+Int.toNat c26.1*32) d27))=true) <|
    letT (za8 U17 x11 (0+Int.toNat c26.1*32) (List.take (32:Nat) (List.drop (1:Nat) ([.int .i64 c26.1]++(c26.2.1++[]))))) fun U28=>
    letN (IntKind.i64.wrap (i16+1)) fun n29=>
    again10 (((x11,(x12,x13,x14),i15,n29,unit),U28,unit)))
    (getK U17 x11 fun d30=>
    sif (1665≤d30.length) <|
    letT (za8 U17 x11 (1664:Nat) [.sl .own []]) fun U31=>
    some (Ans.mk (.int .i64 0) [] [U31])))
   (((a0,(a0,(0:Nat),l6.length),(↑(l6.length):Int),(0:Int),unit),T0,unit)))
theorem zqC (a0:Nat) (T0:Tb):denS Tryz.prog (zaz []) zif [0] ID.disk_Disk_Flush [.h 8225 a0 0] [T0]=zgE a0 T0:=by kernel_rfl
theorem zm5 (a0:Nat) (T0:Tb):zbM [.h 8225 a0 0] [T0]=zgE a0 T0:=zqC a0 T0
def zgX:Ann:={ loops:=[],ks:=[(2496,false),(8225,true)] }
noncomputable def zbr:Zs:=denS Tryz.prog (zaz [(ID.bench_Bench_may,(.st [] [0] [(2496,false)] zaG)),(ID.disk_Disk_Flush,(.st [] [0] [(8225,true)] zbM))]) zgX [0] ID.bench_Bench_Flush
theorem zkw:za1 Tryz.prog ID.bench_Bench_Flush (.st [] [0] [(2496,false),(8225,true)] zbr):=zbg (zaC [zfd,zm4]) zbm ⟨Tryz.f118,by kernel_rfl,by kernel_rfl,by kernel_rfl⟩
noncomputable def zk3:Fact Tryz.prog:=⟨ID.bench_Bench_Flush,(.st [] [0] [(2496,false),(8225,true)] zbr),zkw⟩
noncomputable def zfC (zaG zbM:Zs) (a0:Nat) (a1:Int) (T0 T1:Tb):Option Ans:=
 zar (zaG [.h 2496 a0 0,.int .i64 a1] [T0]) fun r1=>
 nilK r1.outs <|
 nilK r1.tbs <|
 asI .i64 r1.r fun i2=>
 brK (i2 != 0)
  (some (Ans.mk (.int .i64 i2) [] [T1]))
  (getK T0 a0 fun d3=>
  getK d3 ((3:Nat)) fun d4=>
  zbi d4 fun l5=>
  getK T0 a0 fun d6=>
  getK d6 ((3:Nat)) fun d7=>
  zbi d7 fun l8=>
  sif (0≤a1) <|
  sif (a1.toNat < l5.length) <|
  getK T0 a0 fun d9=>
  getK d9 ((3:Nat)) fun d10=>
  zbi d10 fun l11=>
  getK l11 (0+a1.toNat) fun d12=>
  sif (D.isAgg d12=false) <|
  sif (D.width d12=(1:Nat)) <|
  sif (D.cell d12=true) <|
  zar (zbM [d12] [T1]) fun r13=>
  nilK r13.outs <|
  zd0 r13.tbs fun c14 q15=>
  nilK q15 <|
  asI .i64 r13.r fun i16=>
  some (Ans.mk (.int .i64 i16) [] [c14]))
theorem zn6 (zaG zbM:Zs) (a0:Nat) (a1:Int) (T0 T1:Tb):denS Tryz.prog (zaz [(ID.bench_Bench_may,(.st [] [0] [(2496,false)] zaG)),(ID.disk_Disk_Flush,(.st [] [0] [(8225,true)] zbM))]) zgX [0] ID.bench_Bench_Flush [.h 2496 a0 0,.int .i64 a1] [T0,T1]=zfC zaG zbM a0 a1 T0 T1:=by kernel_rfl
theorem zk4 (a0:Nat) (a1:Int) (T0 T1:Tb):zbr [.h 2496 a0 0,.int .i64 a1] [T0,T1]=zfC zaG zbM a0 a1 T0 T1:=zn6 zaG zbM a0 a1 T0 T1
def zpB:Ann:={ loops:=[(0,.val (.cell (.hnd (2496:Nat)))::dd 7 [.val (.cell .lent),.val (.cell (.int .i64)),.val (.cell (.int .i64))])],ks:=[(2496,false),(8225,true)] }
noncomputable def zbZ:Zs:=denS Tryz.prog (zaz [(ID.bench_Bench_Flush,(.st [] [0] [(2496,false),(8225,true)] zbr)),(ID.log_bad,(.pure [0] zbS))]) zpB [0] ID.log_flush
theorem ztn:za1 Tryz.prog ID.log_flush (.st [] [0] [(2496,false),(8225,true)] zbZ):=zbg (zaC [zk3,zl6]) zbm ⟨Tryz.f79,by kernel_rfl,by kernel_rfl,by kernel_rfl⟩
noncomputable def znk:Fact Tryz.prog:=⟨ID.log_flush,(.st [] [0] [(2496,false),(8225,true)] zbZ),ztn⟩
noncomputable def zn7 (zbr:Zs) (zbS:Zp) (a0:Nat) (a1:List D) (T0 T1:Tb):Option Ans:=
 zb1 (α:=(Nat×List D×Int×Int×PUnit)×List (List D)×List (List D)×PUnit) (fun again1 ((x2,(l3,(i4,(i5,_)))),(U6,(U7,_)))=>
  brK (decide (i5 < i4))
   (sif (0≤i5) <|
   getK l3 (i5.toNat) fun d8=>
   asI .i64 d8 fun i9=>
   zar (zbr [.h (2496) x2 (0:Nat),.int .i64 i9] [U6,U7]) fun r10=>
   nilK r10.outs <|
   zd0 r10.tbs fun c11 q12=>
   nilK q12 <|
   asI .i64 r10.r fun i13=>
   zar (zbS [.int .i64 i13]) fun r14=>
   asB r14 fun b15=>
   brK b15
    (some (Ans.mk (.int .i64 i13) [] [c11]))
    (letN (IntKind.i64.wrap (i5+1)) fun n16=>
    again1 (((x2,l3,i4,n16,unit),U6,c11,unit))))
   (some (Ans.mk (.int .i64 0) [] [U7])))
  (((a0,a1,(↑(a1.length):Int),(0:Int),unit),T0,T1,unit))
theorem zAl (zbr:Zs) (zbS:Zp) (tga1:Tag) (a0:Nat) (a1:List D) (T0 T1:Tb):denS Tryz.prog (zaz [(ID.bench_Bench_Flush,(.st [] [0] [(2496,false),(8225,true)] zbr)),(ID.log_bad,(.pure [0] zbS))]) zpB [0] ID.log_flush [.h 2496 a0 0,.sl tga1 a1] [T0,T1]=zn7 zbr zbS a0 (D.lentL a1) T0 T1:=by kernel_rfl
theorem zug (tga1:Tag) (a0:Nat) (a1:List D) (T0 T1:Tb):zbZ [.h 2496 a0 0,.sl tga1 a1] [T0,T1]=zn7 zbr zbS a0 (D.lentL a1) T0 T1:=zAl zbr zbS tga1 a0 a1 T0 T1
def zto:Ann:={ loops:=[(1,.val (.cell (.hnd (2496:Nat)))::dd 6 (.own 1::.dead::.own 1::dd 16 [.same 9,.val (.cell (.int .i64)),.val (.cell (.int .i64))])),(3,.val (.cell (.hnd 2496))::dd 6 (.own 1::.dead::.own 1::.dead::.val (.cell (.int .i64))::dd 14 (.same 9::.val (.cell (.int .i64))::.val (.cell (.int .i64))::dd 3 [.same 7,.val (.cell (.int .i64)),.val (.cell (.int .i64))])))],ks:=[(2496,true),(8225,true)] }
noncomputable def zeo:Zs:=denS Tryz.prog (zaz [(ID.record_Encode,(.pure [1,0] zb4)),(ID.log_disks,(.st [] [1] [(2496,false)] zdj)),(ID.bench_Bench_Write,(.st [] [0] [(2496,true),(8225,true)] zaS)),(ID.log_bad,(.pure [0] zbS)),(ID.log_flush,(.st [] [0] [(2496,false),(8225,true)] zbZ))]) zto [0] ID.log_Put
theorem zw6:za1 Tryz.prog ID.log_Put (.st [] [0] [(2496,true),(8225,true)] zeo):=zbg (zaC [zpy,zue,zgp,zl6,znk]) zbm ⟨Tryz.f35,by kernel_rfl,by kernel_rfl,by kernel_rfl⟩
noncomputable def zyX:Fact Tryz.prog:=⟨ID.log_Put,(.st [] [0] [(2496,true),(8225,true)] zeo),zw6⟩
noncomputable def ztp (zb4:Zp) (zdj zaS:Zs) (zbS:Zp) (zbZ:Zs) (a0:Nat) (a1:List D) (a2_0:Int) (a2_1:List D) (T0 T1:Tb):Option Ans:=
 zar (zb4 [.agg [.int .i64 a2_0,.sl .lent a2_1]]) fun r1=>
 zej r1 fun ts2=>
 zay ([Lf.any,Lf.any]) ts2 fun c3=>
 zbi c3.1 fun l4=>
 asI .i64 c3.2.1 fun i5=>
 brK (i5 != 0)
  (some (Ans.mk (.int .i64 i5) [] [T0,T1]))
  (zar (zdj [.h 2496 a0 0,.sl .lent a1] [T0]) fun r6=>
  nilK r6.outs <|
  nilK r6.tbs <|
  zbi r6.r fun l7=>
  sif (0+l7.length≤l7.length) <|
  sif (l4.length=l4.length) <|
  sif (l7.length=l7.length) <|
  sif (l7.length=l7.length) <|
  zb1 (α:=(Nat×List D×List D×Int×Int×PUnit)×List (List D)×List (List D)×PUnit) (fun again8 ((x9,(l10,(l11,(i12,(i13,_))))),(U14,(U15,_)))=>
   brK (decide (i13 < i12))
    (sif (0≤i13) <|
    sif (i13.toNat < l11.length) <|
    getK l11 (0+i13.toNat) fun d16=>
    asI .i64 d16 fun i17=>
    sif (0+l10.length≤l10.length) <|
    sif (l10.length=l10.length) <|
    sif (l11.length=l11.length) <|
    sif (l11.length=l11.length) <|
    sif (l10.length=l10.length) <|
    zb1 (α:=(Nat×List D×List D×Int×Int×Int×Int×Int×PUnit)×List (List D)×List (List D)×PUnit) (fun again18 ((x19,(l20,(l21,(i22,(i23,(i24,(i25,(i26,_)))))))),(U27,(U28,_)))=>
     brK (decide (i26 < i25))
      (sif (0≤i26) <|
      sif (i26.toNat < l20.length) <|
      getK l20 (0+i26.toNat) fun d29=>
      asSl d29 fun t30 l31=>
      letN (IntKind.i64.wrap (2+i26)) fun n32=>
      zar (zaS [.h (2496) x19 (0:Nat),.int .i64 i22,.int .i64 n32,.sl t30 l31] [U27,U28]) fun r33=>
      nilK r33.outs <|
      zd0 r33.tbs fun c34 q35=>
      zd0 q35 fun c36 q37=>
      nilK q37 <|
      asI .i64 r33.r fun i38=>
      zar (zbS [.int .i64 i38]) fun r39=>
      asB r39 fun b40=>
      brK b40
       (some (Ans.mk (.int .i64 i38) [] [c34,c36]))
       (letN (IntKind.i64.wrap (i26+1)) fun n41=>
       sif (l20.length=l20.length) <|
       sif (l21.length=l21.length) <|
       sif (l21.length=l21.length) <|
       sif (l20.length=l20.length) <|
       again18 (((x19,l20,l21,i22,i23,i24,i25,n41,unit),c34,c36,unit))))
      (letN (IntKind.i64.wrap (i24+1)) fun n42=>
      sif (l20.length=l20.length) <|
      sif (l21.length=l21.length) <|
      sif (l21.length=l21.length) <|
      again8 (((x19,l20,l21,i23,n42,unit),U27,U28,unit))))
     (((x9,l10,l11,i17,i12,i13,(↑(l10.length):Int),(0:Int),unit),U14,U15,unit)))
    (sif (0+l11.length≤l11.length) <|
    zar (zbZ [.h (2496) x9 (0:Nat),.sl .lent (cut 0 l11.length l11)] [U14,U15]) fun r43=>
    nilK r43.outs <|
    zd0 r43.tbs fun c44 q45=>
    nilK q45 <|
    asI .i64 r43.r fun i46=>
    some (Ans.mk (.int .i64 i46) [] [U14,c44])))
   (((a0,l4,l7,(↑(l7.length):Int),(0:Int),unit),T0,T1,unit)))
theorem zEl (zb4:Zp) (zdj zaS:Zs) (zbS:Zp) (zbZ:Zs) (tga1 tga2_1:Tag) (a0:Nat) (a1:List D) (a2_0:Int) (a2_1:List D) (T0 T1:Tb):denS Tryz.prog (zaz [(ID.record_Encode,(.pure [1,0] zb4)),(ID.log_disks,(.st [] [1] [(2496,false)] zdj)),(ID.bench_Bench_Write,(.st [] [0] [(2496,true),(8225,true)] zaS)),(ID.log_bad,(.pure [0] zbS)),(ID.log_flush,(.st [] [0] [(2496,false),(8225,true)] zbZ))]) zto [0] ID.log_Put [.h 2496 a0 0,.sl tga1 a1,.agg [.int .i64 a2_0,.sl tga2_1 a2_1]] [T0,T1]=ztp zb4 zdj zaS zbS zbZ a0 (D.lentL a1) a2_0 (D.lentL a2_1) T0 T1:=by kernel_rfl
theorem zyY (tga1 tga2_1:Tag) (a0:Nat) (a1:List D) (a2_0:Int) (a2_1:List D) (T0 T1:Tb):zeo [.h 2496 a0 0,.sl tga1 a1,.agg [.int .i64 a2_0,.sl tga2_1 a2_1]] [T0,T1]=ztp zb4 zdj zaS zbS zbZ a0 (D.lentL a1) a2_0 (D.lentL a2_1) T0 T1:=zEl zb4 zdj zaS zbS zbZ tga1 tga2_1 a0 a1 a2_0 a2_1 T0 T1
def zpC:Ann:={ loops:=[(1,.val (.cell (.hnd (2496:Nat)))::.val (.cell .lent)::dd 6 (.own 1::dd 9 [.val (.cell .lent),.val (.cell (.int .i64)),.val (.cell (.int .i64))]))],ks:=[(2496,true),(8225,true)] }
noncomputable def zdk:Zs:=denS Tryz.prog (zaz [(ID.record_Check,(.pure [0] zbh)),(ID.bench_Bench_Len,(.st [] [0] [(2496,false)] zao)),(ID.log_is,(.pure [0] zdc)),(ID.bench_Bench_Write,(.st [] [0] [(2496,true),(8225,true)] zaS)),(ID.log_bad,(.pure [0] zbS)),(ID.log_flush,(.st [] [0] [(2496,false),(8225,true)] zbZ))]) zpC [0] ID.log_Apply
theorem ztq:za1 Tryz.prog ID.log_Apply (.st [] [0] [(2496,true),(8225,true)] zdk):=zbg (zaC [zjH,zdZ,ztj,zgp,zl6,znk]) zbm ⟨Tryz.f36,by kernel_rfl,by kernel_rfl,by kernel_rfl⟩
noncomputable def zuh:Fact Tryz.prog:=⟨ID.log_Apply,(.st [] [0] [(2496,true),(8225,true)] zdk),ztq⟩
noncomputable def zn8 (zbh:Zp) (zao:Zs) (zdc:Zp) (zaS:Zs) (zbS:Zp) (zbZ:Zs) (a0:Nat) (a1:List D) (a2_0:Int) (a2_1:List D) (T0 T1:Tb):Option Ans:=
 zar (zbh [.agg [.int .i64 a2_0,.sl .lent a2_1]]) fun r1=>
 asI .i64 r1 fun i2=>
 brK (i2 != 0)
  (some (Ans.mk (.int .i64 i2) [] [T0,T1]))
  (zb1 (α:=(Nat×List D×List D×List D×Int×Int×PUnit)×List (List D)×List (List D)×PUnit) (fun again3 ((x4,(l5,(l6,(l7,(i8,(i9,_)))))),(U10,(U11,_)))=>
   brK (decide (i9 < i8))
    (sif (0≤i9) <|
    getK l7 (i9.toNat) fun d12=>
    asAgg d12 fun cs13=>
    zay ([Lf.int .i64,Lf.int .i64,Lf.sl]) cs13 fun c14=>
    zar (zao [.h (2496) x4 (0:Nat)] [U10]) fun r15=>
    nilK r15.outs <|
    nilK r15.tbs <|
    asI .i64 r15.r fun i16=>
    brK (decide (c14.1≥i16))
     (letN (IntKind.i64.wrap (i9+1)) fun n17=>
     sif (l6.length=l6.length) <|
     again3 (((x4,l5,l6,l7,i8,n17,unit),U10,U11,unit)))
     (zar (zdc [.sl .lent l5,.int .i64 c14.1]) fun r18=>
     asB r18 fun b19=>
     brK (!b19)
      (letN (IntKind.i64.wrap (i9+1)) fun n20=>
      sif (l6.length=l6.length) <|
      again3 (((x4,l5,l6,l7,i8,n20,unit),U10,U11,unit)))
      (zar (zaS [.h (2496) x4 (0:Nat),.int .i64 c14.1,.int .i64 c14.2.1,.sl c14.2.2.1.1 c14.2.2.1.2] [U10,U11]) fun r21=>
      nilK r21.outs <|
      zd0 r21.tbs fun c22 q23=>
      zd0 q23 fun c24 q25=>
      nilK q25 <|
      asI .i64 r21.r fun i26=>
      zar (zbS [.int .i64 i26]) fun r27=>
      asB r27 fun b28=>
      brK b28
       (some (Ans.mk (.int .i64 i26) [] [c22,c24]))
       (sif (l6.length+1≤4294967296) <|
       sif (l6.length=l6.length) <|
       letN (IntKind.i64.wrap (i9+1)) fun n29=>
       sif (l6.length+1=List.length (l6++[D.int .i64 c14.1])) <|
       again3 (((x4,l5,l6++[.int .i64 c14.1],l7,i8,n29,unit),c22,c24,unit))))))
    (sif (0+l6.length≤l6.length) <|
    zar (zbZ [.h (2496) x4 (0:Nat),.sl .lent (cut 0 l6.length l6)] [U10,U11]) fun r30=>
    nilK r30.outs <|
    zd0 r30.tbs fun c31 q32=>
    nilK q32 <|
    asI .i64 r30.r fun i33=>
    some (Ans.mk (.int .i64 i33) [] [U10,c31])))
   (((a0,a1,[],a2_1,(↑(a2_1.length):Int),(0:Int),unit),T0,T1,unit)))
theorem zAm (zbh:Zp) (zao:Zs) (zdc:Zp) (zaS:Zs) (zbS:Zp) (zbZ:Zs) (tga1 tga2_1:Tag) (a0:Nat) (a1:List D) (a2_0:Int) (a2_1:List D) (T0 T1:Tb):denS Tryz.prog (zaz [(ID.record_Check,(.pure [0] zbh)),(ID.bench_Bench_Len,(.st [] [0] [(2496,false)] zao)),(ID.log_is,(.pure [0] zdc)),(ID.bench_Bench_Write,(.st [] [0] [(2496,true),(8225,true)] zaS)),(ID.log_bad,(.pure [0] zbS)),(ID.log_flush,(.st [] [0] [(2496,false),(8225,true)] zbZ))]) zpC [0] ID.log_Apply [.h 2496 a0 0,.sl tga1 a1,.agg [.int .i64 a2_0,.sl tga2_1 a2_1]] [T0,T1]=zn8 zbh zao zdc zaS zbS zbZ a0 (D.lentL a1) a2_0 (D.lentL a2_1) T0 T1:=by kernel_rfl
theorem zui (tga1 tga2_1:Tag) (a0:Nat) (a1:List D) (a2_0:Int) (a2_1:List D) (T0 T1:Tb):zdk [.h 2496 a0 0,.sl tga1 a1,.agg [.int .i64 a2_0,.sl tga2_1 a2_1]] [T0,T1]=zn8 zbh zao zdc zaS zbS zbZ a0 (D.lentL a1) a2_0 (D.lentL a2_1) T0 T1:=zAm zbh zao zdc zaS zbS zbZ tga1 tga2_1 a0 a1 a2_0 a2_1 T0 T1
def zpD:Ann:={ loops:=[],ks:=[(2496,true),(8225,true)] }
noncomputable def zcU:Zs:=denS Tryz.prog (zaz [(ID.update_Plan,(.st [] [0,0] [(2496,false),(8225,false)] zbq)),(ID.log_Put,(.st [] [0] [(2496,true),(8225,true)] zeo)),(ID.log_Apply,(.st [] [0] [(2496,true),(8225,true)] zdk))]) zpD [0] ID.update_Do
theorem ztr:za1 Tryz.prog ID.update_Do (.st [] [0] [(2496,true),(8225,true)] zcU):=zbg (zaC [zkK,zyX,zuh]) zbm ⟨Tryz.f14,by kernel_rfl,by kernel_rfl,by kernel_rfl⟩
noncomputable def zuj:Fact Tryz.prog:=⟨ID.update_Do,(.st [] [0] [(2496,true),(8225,true)] zcU),ztr⟩
noncomputable def zn9 (zbq zeo zdk:Zs) (a0:Nat) (a1:List D) (a2_0 a2_1 a2_2 a3:Int) (a4:List D) (a5:Int) (T0 T1:Tb):Option Ans:=
 zar (zbq [.h 2496 a0 0,.sl .lent a1,.agg [.int .i64 a2_0,.int .i64 a2_1,.int .i64 a2_2],.int .i64 a3,.sl .lent a4,.int .i64 a5] [T0,T1]) fun r1=>
 nilK r1.outs <|
 nilK r1.tbs <|
 zej r1.r fun ts2=>
 zay ([Lf.any,Lf.any]) ts2 fun c3=>
 asAgg c3.1 fun cs4=>
 zay ([Lf.int .i64,Lf.sl]) cs4 fun c5=>
 asI .i64 c3.2.1 fun i6=>
 brK (i6 != 0)
  (some (Ans.mk (.int .i64 i6) [] [T0,T1]))
  (zar (zeo [.h 2496 a0 0,.sl .lent a1,.agg [.int .i64 c5.1,.sl c5.2.1.1 c5.2.1.2]] [T0,T1]) fun r7=>
  nilK r7.outs <|
  zd0 r7.tbs fun c8 q9=>
  zd0 q9 fun c10 q11=>
  nilK q11 <|
  asI .i64 r7.r fun i12=>
  brK (i12 != 0)
   (some (Ans.mk (.int .i64 i12) [] [c8,c10]))
   (zar (zdk [.h 2496 a0 0,.sl .lent a1,.agg [.int .i64 c5.1,.sl c5.2.1.1 c5.2.1.2]] [c8,c10]) fun r13=>
   nilK r13.outs <|
   zd0 r13.tbs fun c14 q15=>
   zd0 q15 fun c16 q17=>
   nilK q17 <|
   asI .i64 r13.r fun i18=>
   some (Ans.mk (.int .i64 i18) [] [c14,c16])))
theorem zAn (zbq zeo zdk:Zs) (tga1 tga4:Tag) (a0:Nat) (a1:List D) (a2_0 a2_1 a2_2 a3:Int) (a4:List D) (a5:Int) (T0 T1:Tb):denS Tryz.prog (zaz [(ID.update_Plan,(.st [] [0,0] [(2496,false),(8225,false)] zbq)),(ID.log_Put,(.st [] [0] [(2496,true),(8225,true)] zeo)),(ID.log_Apply,(.st [] [0] [(2496,true),(8225,true)] zdk))]) zpD [0] ID.update_Do [.h 2496 a0 0,.sl tga1 a1,.agg [.int .i64 a2_0,.int .i64 a2_1,.int .i64 a2_2],.int .i64 a3,.sl tga4 a4,.int .i64 a5] [T0,T1]=zn9 zbq zeo zdk a0 (D.lentL a1) a2_0 a2_1 a2_2 a3 (D.lentL a4) a5 T0 T1:=by kernel_rfl
theorem zuk (tga1 tga4:Tag) (a0:Nat) (a1:List D) (a2_0 a2_1 a2_2 a3:Int) (a4:List D) (a5:Int) (T0 T1:Tb):zcU [.h 2496 a0 0,.sl tga1 a1,.agg [.int .i64 a2_0,.int .i64 a2_1,.int .i64 a2_2],.int .i64 a3,.sl tga4 a4,.int .i64 a5] [T0,T1]=zn9 zbq zeo zdk a0 (D.lentL a1) a2_0 a2_1 a2_2 a3 (D.lentL a4) a5 T0 T1:=zAn zbq zeo zdk tga1 tga4 a0 a1 a2_0 a2_1 a2_2 a3 a4 a5 T0 T1
def zfJ:Ann:={ loops:=[] }
noncomputable def zaE:Zp:=denP Tryz.prog (zaz [(ID.wattleref01_Width,(.pure [0] zad))]) zfJ [0] ID.wattleref01_Capacity
theorem ziq:za1 Tryz.prog ID.wattleref01_Capacity (.pure [0] zaE):=zam (zaC [zcR]) zbm ⟨Tryz.f15,by kernel_rfl,by kernel_rfl,by kernel_rfl⟩
noncomputable def zfn:Fact Tryz.prog:=⟨ID.wattleref01_Capacity,(.pure [0] zaE),ziq⟩
noncomputable def zev (zad:Zp) (a0_0 a0_1 a0_2:Int):Option D:=
 zar (zad [.agg [.int .i64 a0_0,.int .i64 a0_1,.int .i64 a0_2]]) fun r1=>
 asI .i64 r1 fun i2=>
 letN (IntKind.i64.wrap (i2*16)) fun n3=>
 some (.int .i64 n3)
theorem zk5 (zad:Zp) (a0_0 a0_1 a0_2:Int):denP Tryz.prog (zaz [(ID.wattleref01_Width,(.pure [0] zad))]) zfJ [0] ID.wattleref01_Capacity [.agg [.int .i64 a0_0,.int .i64 a0_1,.int .i64 a0_2]]=zev zad a0_0 a0_1 a0_2:=by kernel_rfl
theorem zi0 (a0_0 a0_1 a0_2:Int):zaE [.agg [.int .i64 a0_0,.int .i64 a0_1,.int .i64 a0_2]]=zev zad a0_0 a0_1 a0_2:=zk5 zad a0_0 a0_1 a0_2
def zgY:Ann:={ loops:=[],ks:=[(2496,true),(8225,true)] }
noncomputable def zbk:Zp:=denT Tryz.prog (zaz [(ID.bench_New,(.st [] [0,0] [(2496,true),(8225,true)] zbD)),(ID.wattleplay_Sector,(.pure [1] zaw)),(ID.update_Plan,(.st [] [0,0] [(2496,false),(8225,false)] zbq))]) zgY [0] ID.wattlelaw15_wakes
theorem zkx:za1 Tryz.prog ID.wattlelaw15_wakes (.pure [0] zbk):=zu2 (zaC [zne,zeu,zkK]) zbm ⟨Tryz.f18,by kernel_rfl,by kernel_rfl,by kernel_rfl⟩
noncomputable def zk6:Fact Tryz.prog:=⟨ID.wattlelaw15_wakes,(.pure [0] zbk),zkx⟩
noncomputable def zfD (zbD:Zs) (zaw:Zp) (zbq:Zs):Option D:=
 zar (zbD [.int .i64 3] [[],[]]) fun r1=>
 nilK r1.outs <|
 zd0 r1.tbs fun c2 q3=>
 zd0 q3 fun c4 q5=>
 nilK q5 <|
 zej r1.r fun ts6=>
 zay ([Lf.any,Lf.any]) ts6 fun c7=>
 sif (zjh c7.1=true) <|
 asI .i64 c7.2.1 fun i8=>
 brK (i8 != 0)
  (some (.bool false))
  (zoD c7.1 fun b9=>
  brK b9
   (some (.bool false))
   (zar (zaw [.int .i64 4]) fun r10=>
   zbi r10 fun l11=>
   sif (0+l11.length≤l11.length) <|
   zar (zbq [c7.1,.sl .full [.bool true,.bool true,.bool true],.agg [.int .i64 5,.int .i64 3,.int .i64 1],.int .i64 3,.sl .lent (cut 0 l11.length l11),.int .i64 1] [c2,c4]) fun r12=>
   nilK r12.outs <|
   nilK r12.tbs <|
   zej r12.r fun ts13=>
   zay ([Lf.any,Lf.any]) ts13 fun c14=>
   asAgg c14.1 fun cs15=>
   zay ([Lf.int .i64,Lf.sl]) cs15 fun c16=>
   asI .i64 c14.2.1 fun i17=>
   brK (i17 == 0)
    (brK ((↑(List.length c16.2.1.2):Int) == 2)
     (some (.bool (c16.1 == 1)))
     (some (.bool false)))
    (some (.bool false))))
theorem zoa (zbD:Zs) (zaw:Zp) (zbq:Zs):denT Tryz.prog (zaz [(ID.bench_New,(.st [] [0,0] [(2496,true),(8225,true)] zbD)),(ID.wattleplay_Sector,(.pure [1] zaw)),(ID.update_Plan,(.st [] [0,0] [(2496,false),(8225,false)] zbq))]) zgY [0] ID.wattlelaw15_wakes []=sif (D.nohL []=true) (zfD zbD zaw zbq ):=by kernel_rfl
theorem zk7:zbk []=sif (D.nohL []=true) (zfD zbD zaw zbq ):=zoa zbD zaw zbq
def zgZ:Ann:={ loops:=[(0,dd 3 (.vbx true [(.int .i64),(.int .i64),.bool,.sl] 3 1::dd 11 [.view 2496 3,.val (.cell (.int .i64)),.val (.cell (.int .i64))]))],pubs:=[(7,[(2,42,2496)])],ks:=[(2496,true),(8225,true)] }
noncomputable def zbc:Zs:=denS Tryz.prog (zaz [(ID.disk_Disk_Clone,(.st [] [0] [(8225,true)] zaZ))]) zgZ [0] ID.bench_Bench_Clone
theorem zky:za1 Tryz.prog ID.bench_Bench_Clone (.st [] [0] [(2496,true),(8225,true)] zbc):=zbg (zaC [zhk]) zbm ⟨Tryz.f19,by kernel_rfl,by kernel_rfl,by kernel_rfl⟩
noncomputable def zk8:Fact Tryz.prog:=⟨ID.bench_Bench_Clone,(.st [] [0] [(2496,true),(8225,true)] zbc),zky⟩
noncomputable def zfE (zaZ:Zs) (a0:Nat) (T0 T1:Tb):Option Ans:=
 getK T0 a0 fun d1=>
 sif (3≤d1.length) <|
 sif (zhO (List.take (3:Nat) (List.drop (0:Nat) d1))=true) <|
 zay ([Lf.int .i64,Lf.int .i64,Lf.bool]) (List.take (3:Nat) (List.drop (0:Nat) d1)) fun c2=>
 getK T0 a0 fun d3=>
 getK d3 ((3:Nat)) fun d4=>
 zbi d4 fun l5=>
 getK T0 a0 fun d6=>
 getK d6 ((3:Nat)) fun d7=>
 zbi d7 fun l8=>
 sif (0+l5.length≤l8.length) <|
 zb1 (α:=(((Int×Int×Bool×(Tag×List D)×PUnit)×List D)×(Nat×Nat×Nat)×Int×Int×PUnit)×List (List D)×List (List D)×PUnit) (fun again9 ((((i10,(i11,(b12,((t13,l14),_)))),l15),((x16,(x17,x18)),(i19,(i20,_)))),(U21,(U22,_)))=>
  brK (decide (i20 < i19))
   (getK U21 x16 fun d23=>
   getK d23 ((3:Nat)) fun d24=>
   zbi d24 fun l25=>
   sif (0≤i20) <|
   sif (i20.toNat < x18) <|
   getK U21 x16 fun d26=>
   getK d26 ((3:Nat)) fun d27=>
   zbi d27 fun l28=>
   getK l28 (x17+i20.toNat) fun d29=>
   sif (D.isAgg d29=false) <|
   sif (D.width d29=(1:Nat)) <|
   sif (D.cell d29=true) <|
   zar (zaZ [d29] [U22]) fun r30=>
   nilK r30.outs <|
   zd0 r30.tbs fun c31 q32=>
   nilK q32 <|
   sif (zjh r30.r=true) <|
   sif (zd9 (1:Nat) [r30.r]=true) <|
   sif (l15.length+1≤4294967296) <|
   sif (zd9 (1:Nat) [r30.r]=true) <|
   sif (l15.length=l15.length) <|
   sif (0+(l15.length+1)≤List.length (l15++[r30.r])) <|
   letN (IntKind.i64.wrap (i20+1)) fun n33=>
   sif (l15.length+1=List.length (l15++[r30.r])) <|
   again9 (((((i10,i11,b12,(Tag.nil,[]),unit),l15++[r30.r]),(x16,x17,x18),i19,n33,unit),U21,c31,unit)))
   (sif (l15.length=l15.length) <|
   sif (zdn l15=true) <|
   sif (zgg (1:Nat) l15=true) <|
   letT (U21++[[D.own0 (.int .i64 i10),D.own0 (.int .i64 i11),D.own0 (.bool b12),.sl .own l15]]) fun U34=>
   some (Ans.mk (.h (2496:Nat) (U21.length) (0:Nat)) [] [U34,U22])))
  (((((c2.1,c2.2.1,c2.2.2.1,(Tag.nil,[]),unit),[]),(a0,(0:Nat),l5.length),(↑(l5.length):Int),(0:Int),unit),T0,T1,unit))
theorem zob (zaZ:Zs) (a0:Nat) (T0 T1:Tb):denS Tryz.prog (zaz [(ID.disk_Disk_Clone,(.st [] [0] [(8225,true)] zaZ))]) zgZ [0] ID.bench_Bench_Clone [.h 2496 a0 0] [T0,T1]=zfE zaZ a0 T0 T1:=by kernel_rfl
theorem zk9 (a0:Nat) (T0 T1:Tb):zbc [.h 2496 a0 0] [T0,T1]=zfE zaZ a0 T0 T1:=zob zaZ a0 T0 T1
def ziJ:Ann:={ loops:=[] }
noncomputable def zbU:Zp:=denP Tryz.prog (zaz [(ID.wattleref01_Check,(.pure [0] zae)),(ID.wattleref01_Capacity,(.pure [0] zaE)),(ID.wattleref01_Width,(.pure [0] zad)),(ID.wattleref01_Disk,(.pure [0] zaU))]) ziJ [0,0,0] ID.wattleref01_Of
theorem zm6:za1 Tryz.prog ID.wattleref01_Of (.pure [0,0,0] zbU):=zam (zaC [zcQ,zfn,zcR,zgT]) zbm ⟨Tryz.f20,by kernel_rfl,by kernel_rfl,by kernel_rfl⟩
noncomputable def zoc:Fact Tryz.prog:=⟨ID.wattleref01_Of,(.pure [0,0,0] zbU),zm6⟩
noncomputable def zg5 (zae zaE zad zaU:Zp) (a0_0 a0_1 a0_2 a1:Int):Option D:=
 zar (zae [.agg [.int .i64 a0_0,.int .i64 a0_1,.int .i64 a0_2]]) fun r1=>
 asB r1 fun b2=>
 brK (!b2)
  (some (.tup [.int .i64 0,.int .i64 0,.bool false]))
  (brK (decide (a1 < 0))
   (some (.tup [.int .i64 0,.int .i64 0,.bool false]))
   (zar (zaE [.agg [.int .i64 a0_0,.int .i64 a0_1,.int .i64 a0_2]]) fun r3=>
   asI .i64 r3 fun i4=>
   brK (decide (a1≥i4))
    (some (.tup [.int .i64 0,.int .i64 0,.bool false]))
    (sif (a0_2≠0) <|
    letN (IntKind.i64.wrap (Int.tdiv a1 a0_2)) fun n5=>
    zar (zad [.agg [.int .i64 a0_0,.int .i64 a0_1,.int .i64 a0_2]]) fun r6=>
    asI .i64 r6 fun i7=>
    sif (i7≠0) <|
    letN (IntKind.i64.wrap (Int.tdiv n5 i7)) fun n8=>
    letN (IntKind.i64.wrap (n8*a0_2)) fun n9=>
    sif (a0_2≠0) <|
    letN (Int.tmod a1 a0_2) fun n10=>
    letN (IntKind.i64.wrap (n9+n10)) fun n11=>
    zar (zad [.agg [.int .i64 a0_0,.int .i64 a0_1,.int .i64 a0_2]]) fun r12=>
    asI .i64 r12 fun i13=>
    sif (i13≠0) <|
    letN (Int.tmod n5 i13) fun n14=>
    zar (zaU [.agg [.int .i64 a0_0,.int .i64 a0_1,.int .i64 a0_2],.int .i64 n11,.int .i64 n14]) fun r15=>
    asI .i64 r15 fun i16=>
    some (.tup [.int .i64 i16,.int .i64 n11,.bool true]))))
theorem zrB (zae zaE zad zaU:Zp) (a0_0 a0_1 a0_2 a1:Int):denP Tryz.prog (zaz [(ID.wattleref01_Check,(.pure [0] zae)),(ID.wattleref01_Capacity,(.pure [0] zaE)),(ID.wattleref01_Width,(.pure [0] zad)),(ID.wattleref01_Disk,(.pure [0] zaU))]) ziJ [0,0,0] ID.wattleref01_Of [.agg [.int .i64 a0_0,.int .i64 a0_1,.int .i64 a0_2],.int .i64 a1]=zg5 zae zaE zad zaU a0_0 a0_1 a0_2 a1:=by kernel_rfl
theorem zod (a0_0 a0_1 a0_2 a1:Int):zbU [.agg [.int .i64 a0_0,.int .i64 a0_1,.int .i64 a0_2],.int .i64 a1]=zg5 zae zaE zad zaU a0_0 a0_1 a0_2 a1:=zrB zae zaE zad zaU a0_0 a0_1 a0_2 a1
def zfK:Ann:={ loops:=[(1,.val (.cell .lent)::.val (.cell .lent)::dd 3 [.val (.cell (.int .i64))])] }
noncomputable def za9:Zp:=denP Tryz.prog (zaz []) zfK [0] ID.wattlekeep_Same_byte
theorem zir:za1 Tryz.prog ID.wattlekeep_Same_byte (.pure [0] za9):=zam (zaC []) zbm ⟨Tryz.f22,by kernel_rfl,by kernel_rfl,by kernel_rfl⟩
noncomputable def zi1:Fact Tryz.prog:=⟨ID.wattlekeep_Same_byte,(.pure [0] za9),zir⟩
noncomputable def zew (a0 a1:List D):Option D:=
 brK ((↑(a0.length):Int) != (↑(a1.length):Int))
  (some (.bool false))
  (zb1 (α:=(List D×List D×Int×PUnit)×PUnit) (fun again1 ((l2,(l3,(i4,_))),_)=>
   brK (decide (i4 < (↑(l2.length):Int)))
    (sif (0≤i4) <|
    getK l2 (i4.toNat) fun d5=>
    asI .u8 d5 fun i6=>
    sif (0≤i4) <|
    getK l3 (i4.toNat) fun d7=>
    asI .u8 d7 fun i8=>
    brK (i6 != i8)
     (some (.bool false))
     (letN (IntKind.i64.wrap (i4+1)) fun n9=>
     again1 (((l2,l3,n9,unit),unit))))
    (some (.bool true)))
   (((a0,a1,(0:Int),unit),unit)))
theorem zla (tga0 tga1:Tag) (a0 a1:List D):denP Tryz.prog (zaz []) zfK [0] ID.wattlekeep_Same_byte [.sl tga0 a0,.sl tga1 a1]=zew (D.lentL a0) (D.lentL a1):=by kernel_rfl
theorem zi2 (tga0 tga1:Tag) (a0 a1:List D):za9 [.sl tga0 a0,.sl tga1 a1]=zew (D.lentL a0) (D.lentL a1):=zla tga0 tga1 a0 a1
def zl8:Ann:={ loops:=[] }
noncomputable def zbu:Zp:=denP Tryz.prog (zaz []) zl8 [0] ID.bytes_Equal
theorem zqD:za1 Tryz.prog ID.bytes_Equal (.pure [0] zbu):=zam (zaC []) zbm ⟨Tryz.f58,by kernel_rfl,by kernel_rfl,by kernel_rfl⟩
noncomputable def zkM:Fact Tryz.prog:=⟨ID.bytes_Equal,(.pure [0] zbu),zqD⟩
noncomputable def zkz (a0 a1:List D):Option D:=
 sif (zsn a0=true) <|
 sif (zsn a1=true) <|
 some (.bool (ByteArray.toList.loop (baOf a0) (0:Nat) [] == ByteArray.toList.loop (baOf a1) (0:Nat) []))
theorem zw7 (tga0 tga1:Tag) (a0 a1:List D):denP Tryz.prog (zaz []) zl8 [0] ID.bytes_Equal [.sl tga0 a0,.sl tga1 a1]=zkz (D.lentL a0) (D.lentL a1):=by kernel_rfl
theorem zrC (tga0 tga1:Tag) (a0 a1:List D):zbu [.sl tga0 a0,.sl tga1 a1]=zkz (D.lentL a0) (D.lentL a1):=zw7 tga0 tga1 a0 a1
def zcW:Ann:={ loops:=[(1,.dead::.val (.cell .lent)::.fnc 58::dd 12 [.val (.cell .lent),.val (.cell (.int .i64)),.val (.cell (.int .i64))])] }
noncomputable def zaA:Zp:=denP Tryz.prog (zaz [(ID.bytes_Equal,(.pure [0] zbu))]) zcW [0] ID.slices_EqualFunc_byte_byte_byte_byte
theorem zep:za1 Tryz.prog ID.slices_EqualFunc_byte_byte_byte_byte (.pure [0] zaA):=zam (zaC [zkM]) zbm ⟨Tryz.f57,by kernel_rfl,by kernel_rfl,by kernel_rfl⟩
noncomputable def zex:Fact Tryz.prog:=⟨ID.slices_EqualFunc_byte_byte_byte_byte,(.pure [0] zaA),zep⟩
noncomputable def zb5 (zbu:Zp) (a0 a1:List D):Option D:=
 brK ((↑(a0.length):Int) != (↑(a1.length):Int))
  (some (.bool false))
  (zb1 (α:=(List D×List D×Int×Int×PUnit)×PUnit) (fun again1 ((l2,(l3,(i4,(i5,_)))),_)=>
   brK (decide (i5 < i4))
    (sif (0≤i5) <|
    getK l3 (i5.toNat) fun d6=>
    asSl d6 fun t7 l8=>
    sif (0≤i5) <|
    getK l2 (i5.toNat) fun d9=>
    asSl d9 fun t10 l11=>
    zar (zbu [.sl t7 l8,.sl t10 l11]) fun r12=>
    asB r12 fun b13=>
    brK (!b13)
     (some (.bool false))
     (letN (IntKind.i64.wrap (i5+1)) fun n14=>
     again1 (((l2,l3,i4,n14,unit),unit))))
    (some (.bool true)))
   (((a1,a0,(↑(a0.length):Int),(0:Int),unit),unit)))
theorem zeq (zbu:Zp) (tga0 tga1:Tag) (a0 a1:List D):denP Tryz.prog (zaz [(ID.bytes_Equal,(.pure [0] zbu))]) zcW [0] ID.slices_EqualFunc_byte_byte_byte_byte [.sl tga0 a0,.sl tga1 a1,.fn 58 [] []]=zb5 zbu (D.lentL a0) (D.lentL a1):=by kernel_rfl
theorem zd5 (tga0 tga1:Tag) (a0 a1:List D):zaA [.sl tga0 a0,.sl tga1 a1,.fn 58 [] []]=zb5 zbu (D.lentL a0) (D.lentL a1):=zeq zbu tga0 tga1 a0 a1
def zpE:Ann:={ loops:=[] }
noncomputable def zdl:Zp:=denP Tryz.prog (zaz [(ID.row_Take,(.pure [1,0] zcd)),(ID.row_Fill,(.pure [1,0] zce)),(ID.slices_EqualFunc_byte_byte_byte_byte,(.pure [0] zaA)),(ID.bytes_Equal,(.pure [0] zbu))]) zpE [0] ID.row_Right
theorem zts:za1 Tryz.prog ID.row_Right (.pure [0] zdl):=zam (zaC [zpr,zpv,zex,zkM]) zbm ⟨Tryz.f23,by kernel_rfl,by kernel_rfl,by kernel_rfl⟩
noncomputable def zul:Fact Tryz.prog:=⟨ID.row_Right,(.pure [0] zdl),zts⟩
noncomputable def zoe (zcd zce zaA zbu:Zp) (a0_0 a0_1 a0_2 a1:Int) (a2:List D):Option D:=
 zar (zcd [.agg [.int .i64 a0_0,.int .i64 a0_1,.int .i64 a0_2],.int .i64 a1,.sl .lent a2]) fun r1=>
 zej r1 fun ts2=>
 zay ([Lf.any,Lf.any]) ts2 fun c3=>
 zbi c3.1 fun l4=>
 asB c3.2.1 fun b5=>
 brK (!b5)
  (some (.bool false))
  (sif (0+l4.length≤l4.length) <|
  zar (zce [.agg [.int .i64 a0_0,.int .i64 a0_1,.int .i64 a0_2],.int .i64 a1,.sl .lent (cut 0 l4.length l4)]) fun r6=>
  zej r6 fun ts7=>
  zay ([Lf.any,Lf.any]) ts7 fun c8=>
  zbi c8.1 fun l9=>
  asB c8.2.1 fun b10=>
  brK b10
   (sif (0+l9.length≤l9.length) <|
   zar (zaA [.sl .lent (cut 0 l9.length l9),.sl .lent a2,.fn (58:Nat) [] []]) fun r11=>
   asB r11 fun b12=>
   some (.bool b12))
   (some (.bool false)))
theorem zAo (zcd zce zaA zbu:Zp) (tga2:Tag) (a0_0 a0_1 a0_2 a1:Int) (a2:List D):denP Tryz.prog (zaz [(ID.row_Take,(.pure [1,0] zcd)),(ID.row_Fill,(.pure [1,0] zce)),(ID.slices_EqualFunc_byte_byte_byte_byte,(.pure [0] zaA)),(ID.bytes_Equal,(.pure [0] zbu))]) zpE [0] ID.row_Right [.agg [.int .i64 a0_0,.int .i64 a0_1,.int .i64 a0_2],.int .i64 a1,.sl tga2 a2]=zoe zcd zce zaA zbu a0_0 a0_1 a0_2 a1 (D.lentL a2):=by kernel_rfl
theorem zum (tga2:Tag) (a0_0 a0_1 a0_2 a1:Int) (a2:List D):zdl [.agg [.int .i64 a0_0,.int .i64 a0_1,.int .i64 a0_2],.int .i64 a1,.sl tga2 a2]=zoe zcd zce zaA zbu a0_0 a0_1 a0_2 a1 (D.lentL a2):=zAo zcd zce zaA zbu tga2 a0_0 a0_1 a0_2 a1 a2
def ziK:Ann:={ loops:=[],ks:=[(8225,true)] }
noncomputable def zck:Zs:=denS Tryz.prog (zaz []) ziK [] ID.disk_Disk_Fail
noncomputable def zg6 (a0:Nat) (T0:Tb):Option Ans:=
 getK T0 a0 fun d1=>
 sif (1666≤d1.length) <|
 letT (za8 T0 a0 (0:Nat) (List.map D.own0 (List.set (List.reverse ([.bool false,.sl .nil []]++List.replicate 1664 (.int .u8 0))) (1665:Nat) (.bool true)))) fun U2=>
 some (Ans.mk (.tup []) [] [U2])
theorem zrD (a0:Nat) (T0:Tb):denS Tryz.prog (zaz []) ziK [] ID.disk_Disk_Fail [.h 8225 a0 0] [T0]=zg6 a0 T0:=by kernel_rfl
theorem zof (a0:Nat) (T0:Tb):zck [.h 8225 a0 0] [T0]=zg6 a0 T0:=zrD a0 T0
def zhl:Ann:={ loops:=[],ks:=[(2496,false),(8225,true)] }
noncomputable def zf9:Zs:=denS Tryz.prog (zaz [(ID.bench_Bench_is,(.st [] [0] [(2496,false)] zau)),(ID.disk_Disk_Fail,(.st [] [] [(8225,true)] zck))]) zhl [0] ID.bench_Bench_Fail
noncomputable def zga (zau zck:Zs) (a0:Nat) (a1:Int) (T0 T1:Tb):Option Ans:=
 zar (zau [.h 2496 a0 0,.int .i64 a1] [T0]) fun r1=>
 nilK r1.outs <|
 nilK r1.tbs <|
 asB r1.r fun b2=>
 brK (!b2)
  (some (Ans.mk (.int .i64 1) [] [T1]))
  (getK T0 a0 fun d3=>
  getK d3 ((3:Nat)) fun d4=>
  zbi d4 fun l5=>
  getK T0 a0 fun d6=>
  getK d6 ((3:Nat)) fun d7=>
  zbi d7 fun l8=>
  sif (0≤a1) <|
  sif (a1.toNat < l5.length) <|
  getK T0 a0 fun d9=>
  getK d9 ((3:Nat)) fun d10=>
  zbi d10 fun l11=>
  getK l11 (0+a1.toNat) fun d12=>
  sif (D.isAgg d12=false) <|
  sif (D.width d12=(1:Nat)) <|
  sif (D.cell d12=true) <|
  zar (zck [d12] [T1]) fun r13=>
  nilK r13.outs <|
  zd0 r13.tbs fun c14 q15=>
  nilK q15 <|
  zej r13.r fun ts16=>
  nilK ts16 <|
  some (Ans.mk (.int .i64 0) [] [c14]))
theorem zpF (zau zck:Zs) (a0:Nat) (a1:Int) (T0 T1:Tb):denS Tryz.prog (zaz [(ID.bench_Bench_is,(.st [] [0] [(2496,false)] zau)),(ID.disk_Disk_Fail,(.st [] [] [(8225,true)] zck))]) zhl [0] ID.bench_Bench_Fail [.h 2496 a0 0,.int .i64 a1] [T0,T1]=zga zau zck a0 a1 T0 T1:=by kernel_rfl
theorem zl9 (a0:Nat) (a1:Int) (T0 T1:Tb):zf9 [.h 2496 a0 0,.int .i64 a1] [T0,T1]=zga zau zck a0 a1 T0 T1:=zpF zau zck a0 a1 T0 T1
end Wf

namespace Wf
open Go Go.RowKit Go.Proofs
set_option linter.unusedSimpArgs false
set_option linter.unusedVariables false
theorem zyZ (c:Int):za0 [.sl .full [.int .i64 1,.int .i64 2,.int .i64 4],.int .i64 c]=some (.bool (c == 1 || c == 2 || c == 4)):=by
 rw [zht];unfold zdT;rw [zfm];unfold zdB;obtain ⟨m,hm⟩:=zD8
 by_cases h1:c=1<;>by_cases h2:c=2<;>by_cases h4:c=4<;>
  simp [zb1,hm,fixN,zco,h1,h2,h4,zat]<;>omega
theorem zjL (l d c:Int):zaF [gD l d c]=some (iD (if zfH l d c then 0 else 1)):=by
 rw [zsW];unfold zlL;have hc:=zyZ c;unfold zfH;obtain ⟨q,hq⟩:∃ q,(c == 1 || c == 2 || c == 4)=q:=⟨_,rfl⟩;rw [hq] at hc ⊢
 by_cases h5:l=5
 ·subst h5
  by_cases h3:d < 3<;>by_cases h8:8 < d<;>cases q<;>simp [zB3,zi7,setD,hc,zco,h3,h8]<;>omega
 ·by_cases h6:l=6
  ·subst h6
   by_cases h3:d < 4<;>by_cases h8:8 < d<;>cases q<;>simp [zB3,zi7,setD,hc,zco,h3,h8]<;>omega
  ·simp [zB3,zi7,setD,hc,zco,h5,h6]
theorem ztt (l d c:Int):zbp [gD l d c]=some (iD (znC l d c)):=by
 rw [zrj];unfold zkl znC;rw [zjL];cases h:zfH l d c
 ·simp [zco]
 ·have:=zjp.1 h;simp [zco]
  exact zat (by omega) (by omega)
theorem zvk (l d c:Int):zai [gD l d c]=some (iD (zhb l d c)):=by
 rw [zsX];unfold zlN zhb;rw [zjL,ztt];unfold znC;cases h:zfH l d c
 ·simp [zco]
 ·have:=zjp.1 h;simp [zco]
  exact zat (by omega) (by omega)
theorem zw8 (l d c:Int):zbX [gD l d c]=some (iD (capG l d c)):=by
 rw [zpc];unfold zh1 capG;rw [zvk];have:=zFN l d c;simp
 exact zat (by omega) (by omega)
theorem zma (l d c:Int):zae [gD l d c]=some (.bool (zfH l d c)):=by
 rw [zkR];unfold zfv zfH
 by_cases h5:l=5
 ·subst h5
  by_cases h3:3≤d<;>by_cases h8:d≤8<;>simp [zco,h3,h8]<;>by_cases h1:c=1<;>by_cases h2:c=2<;>simp [h1,h2]<;>omega
 ·by_cases h6:l=6
  ·subst h6
   by_cases h3:4≤d<;>by_cases h8:d≤8<;>simp [zco,h3,h8]<;>by_cases h1:c=1<;>by_cases h2:c=2<;>simp [h1,h2]<;>omega
  ·simp [zco,h5,h6]
theorem zvl (l d c:Int):zaM [gD l d c]=some (iD (znC l d c)):=by
 rw [zj9];unfold ze6 znC;rw [zma];cases h:zfH l d c
 ·simp [zco]
 ·have:=zjp.1 h;simp [zco]
  exact zat (by omega) (by omega)
theorem zEm (l d c:Int):zad [gD l d c]=some (iD (zhb l d c)):=by
 rw [zkS];unfold zfw zhb;rw [zma,zvl];unfold znC;cases h:zfH l d c
 ·simp [zco]
 ·have:=zjp.1 h;simp [zco]
  exact zat (by omega) (by omega)
theorem ztu (a n:Int) (h:1≤n) (h9:n < 1000000000):zac [.int .i64 a,.int .i64 n]=some (iD (a % n)):=by
 rw [zkQ];unfold zfu;have hm:=zCh a n h
 have hlt:=Int.lt_tmod_of_pos a (show 0 < n by omega)
 have h1:¬ n < 1:=by omega
 have h0:n≠0:=by omega
 rcases hm with ⟨k1,k2⟩ | ⟨k1,k2⟩
 ·simp [zco,h1,h0,Int.not_lt.2 k1,k2]
 ·simp [zco,h1,h0,k1,k2]
  exact zat (by omega) (by omega)
theorem zEn (n:Int):zbH [.int .i64 n]=some (zyz n).D:=by
 rw [zmH];unfold zgu
 have w5:IntKind.i64.wrap (5+n % 2)=5+n % 2:=zat (by omega) (by omega)
 have w3:IntKind.i64.wrap (3+qn n 6 % 4)=3+qn n 6 % 4:=zat (by omega) (by omega)
 have w4:IntKind.i64.wrap (4+qn n 6 % 4)=4+qn n 6 % 4:=zat (by omega) (by omega)
 have w12:IntKind.i64.wrap (n % 12 - 1)=n % 12 - 1:=zat (by omega) (by omega)
 have w9:IntKind.i64.wrap (n % 9 - 1)=n % 9 - 1:=zat (by omega) (by omega)
 have h0:0≤qn n 2 % 3:=by omega
 have h3:qn n 2 % 3 < 3:=by omega
 have e2:IntKind.i64.wrap (n.tdiv 2)=qn n 2:=rfl;have e6:IntKind.i64.wrap (n.tdiv 6)=qn n 6:=rfl;have e24:IntKind.i64.wrap (n.tdiv 24)=qn n 24:=rfl
 simp only [ztu _ _ (show (1:Int)≤2 by decide) (show (2:Int) < 1000000000 by decide),ztu _ _ (show (1:Int)≤3 by decide) (show (3:Int) < 1000000000 by decide),ztu _ _ (show (1:Int)≤4 by decide) (show (4:Int) < 1000000000 by decide),
  ztu _ _ (show (1:Int)≤9 by decide) (show (9:Int) < 1000000000 by decide),ztu _ _ (show (1:Int)≤12 by decide) (show (12:Int) < 1000000000 by decide),ztu _ _ (show (1:Int)≤40 by decide) (show (40:Int) < 1000000000 by decide),
  zab,iD,zaX,zap,w5,w3,w4,w12,w9,e2,e6,e24,zaa h0,zFO _ h0 h3]
 unfold Geo.D zyz
 have hl:n % 2=0∨n % 2=1:=by omega
 by_cases k1:qn n 24 % 40=36<;>by_cases k2:qn n 24 % 40=37<;>by_cases k3:qn n 24 % 40=38<;>by_cases k4:qn n 24 % 40=39<;>rcases hl with hl | hl<;>
  simp [zco,k1,k2,k3,k4,hl]<;>omega
theorem zEo (n:Int):zbI [.int .i64 n]=some (zyA n).D:=by
 rw [zmJ];unfold zgv;rw [zEn];unfold zyA;obtain ⟨l,d,c⟩:=zyz n;simp only [zab,Geo.D,zeJ,zb7,zch,zma,zbe,Geo.ok]
 by_cases h:zfH l d c=true
 ·simp [zco,h]
 ·simp only [Bool.not_eq_true] at h; simp [zco,h]
theorem zmb (g:Geo):zai [gD g.l g.d g.c]=some (iD g.width):=zvk ..
theorem zIa (g:Geo):zbX [gD g.l g.d g.c]=some (iD g.cap):=zw8 ..
theorem zvm (g:Geo):zad [gD g.l g.d g.c]=some (iD g.width):=zEm ..
section
variable (a b c x y z k:Int)
end
section
variable (g:Geo) (a row k:Int)
theorem zw9:zbt [g.D,.int .i64 row]=some (.bool (zcL g row)):=by
 unfold Geo.D;rw [zwG];unfold zqg;rw [zjL];unfold zcL Geo.ok;cases zfH g.l g.d g.c<;>simp [zco]<;>(by_cases h:0≤row<;>simp [h])
theorem zxa:zaB [g.D,.int .i64 row]=some (.bool (zcL g row)):=by
 unfold Geo.D;rw [zlC];unfold zfY;rw [zma];unfold zcL Geo.ok;cases zfH g.l g.d g.c<;>simp [zco]<;>(by_cases h:0≤row<;>simp [h])
theorem zy0:zaD [g.D,.int .i64 row]=some (.tup [iD (parP g row).1,iD (parP g row).2]):=by
 have hi:=zw9 g row;unfold Geo.D at*;rw [zqh];unfold ziT;rw [hi];unfold parP;cases h:zcL g row
 ·simp [zco]
 ·obtain ⟨hk,h0,h1⟩:=zbz.1 h;have hd:=ok_d hk;have hv:=zFP hk h0;have hp:=znd hk row
  have w1:IntKind.i64.wrap (g.d - 1)=g.d - 1:=zat (by omega) (by omega)
  have w2:IntKind.i64.wrap (row.tdiv g.c)=row / g.c:=by rw [zyD hk h0]; exact zat (by omega) (by omega)
  have w3:IntKind.i64.wrap (g.d - 1 - (row / g.c).tmod g.d)=parA g row:=by rw [zly hv.1]; exact zat (by unfold parA at hp; omega) (by unfold parA at hp; omega)
  have w4:IntKind.i64.wrap (parA g row+1)=parA g row+1:=zat (by omega) (by omega)
  have t4:(parA g row+1).tmod g.d=(parA g row+1) % g.d:=zly (by omega)
  by_cases h5:g.l=5
  ·simp [zco,show g.c≠0 by omega,show g.d≠0 by omega,w1,w2,w3,h5]
  ·simp [zco,show g.c≠0 by omega,show g.d≠0 by omega,w1,w2,w3,h5,w4,t4]
theorem zEp:zaK [g.D,.int .i64 row]=some (.tup [iD (parP g row).1,iD (parP g row).2]):=by
 have hi:=zxa g row;unfold Geo.D at*;rw [zke];unfold ze8;rw [hi];unfold parP;cases h:zcL g row
 ·simp [zco]
 ·obtain ⟨hk,h0,h1⟩:=zbz.1 h;have hd:=ok_d hk;have hv:=zFP hk h0;have hp:=znd hk row
  have w1:IntKind.i64.wrap (g.d - 1)=g.d - 1:=zat (by omega) (by omega)
  have w2:IntKind.i64.wrap (row.tdiv g.c)=row / g.c:=by rw [zyD hk h0]; exact zat (by omega) (by omega)
  have w3:IntKind.i64.wrap (g.d - 1 - (row / g.c).tmod g.d)=parA g row:=by rw [zly hv.1]; exact zat (by unfold parA at hp; omega) (by unfold parA at hp; omega)
  have w4:IntKind.i64.wrap (parA g row+1)=parA g row+1:=zat (by omega) (by omega)
  have t4:(parA g row+1).tmod g.d=(parA g row+1) % g.d:=zly (by omega)
  by_cases h5:g.l=5
  ·simp [zco,show g.c≠0 by omega,show g.d≠0 by omega,w1,w2,w3,h5]
  ·simp [zco,show g.c≠0 by omega,show g.d≠0 by omega,w1,w2,w3,h5,w4,t4]
theorem zvn:za2 [g.D,.int .i64 row,.int .i64 k]=some (iD (zc1 g row k)):=by
 have hi:=zw9 g row;have hp:=zy0 g row;unfold Geo.D at*;rw [zsZ];unfold zlO;rw [hi,hp,zmb,ztt];unfold zc1;cases h:zcL g row
 ·simp [zco]
 ·obtain ⟨hk,h0,h1⟩:=zbz.1 h;have hd:=ok_d hk;have hw:=zca hk;have hb:=zyC hk;have hl:=zez.1 hk;have hpa:=znd hk row
  by_cases k0:k < 0
  ·simp [zco,k0,show ¬ 0≤k by omega]
  ·by_cases k1:g.width≤k
   ·simp [zco,k0,k1,show ¬ k < g.width by omega]
   ·have w1:IntKind.i64.wrap (parA g row+(g.l - 4))=parA g row+(g.l - 4):=zat (by omega) (by omega)
    have w2:IntKind.i64.wrap (parA g row+(g.l - 4)+k)=parA g row+(g.l - 4)+k:=zat (by omega) (by omega)
    have t2:(parA g row+(g.l - 4)+k).tmod g.d=(parA g row+(g.l - 4)+k) % g.d:=zly (by omega)
    have hp1:(parP g row).1=parA g row:=by unfold parP; simp [h]
    simp [zco,k0,k1,show 0≤k by omega,show k < g.width by omega,hb,hp1,w1,w2,t2,show g.d≠0 by omega]
theorem zF4:zaU [g.D,.int .i64 row,.int .i64 k]=some (iD (zc1 g row k)):=by
 have hi:=zxa g row;have hp:=zEp g row;unfold Geo.D at*;rw [zlD];unfold zf0;rw [hi,hp,zvm,zvl];unfold zc1;cases h:zcL g row
 ·simp [zco]
 ·obtain ⟨hk,h0,h1⟩:=zbz.1 h;have hd:=ok_d hk;have hw:=zca hk;have hb:=zyC hk;have hl:=zez.1 hk;have hpa:=znd hk row
  by_cases k0:k < 0
  ·simp [zco,k0,show ¬ 0≤k by omega]
  ·by_cases k1:g.width≤k
   ·simp [zco,k0,k1,show ¬ k < g.width by omega]
   ·have w1:IntKind.i64.wrap (parA g row+(g.l - 4))=parA g row+(g.l - 4):=zat (by omega) (by omega)
    have w2:IntKind.i64.wrap (parA g row+(g.l - 4)+k)=parA g row+(g.l - 4)+k:=zat (by omega) (by omega)
    have t2:(parA g row+(g.l - 4)+k).tmod g.d=(parA g row+(g.l - 4)+k) % g.d:=zly (by omega)
    have hp1:(parP g row).1=parA g row:=by unfold parP; simp [h]
    simp [zco,k0,k1,show 0≤k by omega,show k < g.width by omega,hb,hp1,w1,w2,t2,show g.d≠0 by omega]
theorem zF5:zdv [g.D,.int .i64 a]=some (ofD (ofP g a)):=by
 have hdk:=fun row k=>zvn g row k
 unfold Geo.D at*;rw [zwI];unfold zqi;rw [zmb,zIa];unfold ofP ofD
 by_cases h0:a < 0
 ·simp [zco,h0,show ¬ 0≤a by omega]
 ·by_cases h1:g.cap≤a
  ·simp [zco,h0,h1,show ¬ a < g.cap by omega]
  ·have h0:0≤a:=by omega
   have h1:a < g.cap:=by omega
   have hk:=zyB h0 h1;have hd:=ok_d hk;have hw:=zca hk;have hv:=zFP hk h0;have hr:=zrP h0 h1;have hca:g.cap=g.width*16:=rfl;have hvw:a / g.c / g.width≤a / g.c:=Int.ediv_le_self _ hv.1
   have w1:IntKind.i64.wrap (a.tdiv g.c)=a / g.c:=by rw [zyD hk h0]; exact zat (by omega) (by omega)
   have w2:IntKind.i64.wrap ((a / g.c).tdiv g.width)=a / g.c / g.width:=by rw [Int.tdiv_eq_ediv_of_nonneg hv.1]; exact zat (by omega) (by omega)
   have hm:0≤a / g.c / g.width*g.c:=Int.mul_nonneg hr.2.2.1 (by omega)
   have w3:IntKind.i64.wrap (a / g.c / g.width*g.c)=a / g.c / g.width*g.c:=zat (by omega) (by omega)
   have w4:IntKind.i64.wrap (a / g.c / g.width*g.c+a.tmod g.c)=rowG g a:=by rw [zly h0]; exact zat (by omega) (by omega)
   have t5:(a / g.c).tmod g.width=zcY g a:=zly hv.1
   simp [zco,h0,h1,show ¬ a < 0 by omega,show ¬ g.cap≤a by omega,w1,w2,w3,w4,t5,show g.c≠0 by omega,show g.width≠0 by omega,hdk]
end
section
variable (l d c a row k:Int)
end
section
variable (g:Geo) (row k:Int)
theorem zy1 (h:zcL g row=true) (k0:0≤k) (k1:k≤8):zcj [gD g.l g.d g.c,.int .i64 row,.int .i64 k]=some (iD (numP g row k)):=by
 obtain ⟨hk,h0,h1⟩:=zbz.1 h;obtain ⟨w1,w2,w3,w4,w5⟩:=zH7 hk h0 h1 k0 k1;have hd:=ok_d hk;rw [zqt];unfold ziX;rw [zmb]
 simp [show g.c≠0 by omega,w1,w2,w3,w4,w5]
theorem zCr:zbY [g.D,.int .i64 row]=some (.sl .own (zEa g row)):=by
 have hi:=zw9 g row;unfold Geo.D at*;rw [zpu];unfold zia;rw [hi,zmb];unfold zEa;cases h:zcL g row
 ·simp [zco]
 ·obtain ⟨hk,h0,h1⟩:=zbz.1 h;have hw:=zca hk;simp only [zab,zbe,zco,iD,zaX,Bool.not_true,Bool.false_eq_true,if_false,if_true]
  refine zfG (fun a=>(g.width - a.1.2.2.2.2.1).toNat) (fun _=>some (D.sl Tag.own (numD g row g.width.toNat))) (fun a=>∃ n:Nat,n≤g.width∧
   a=((row,(g.l,g.d,g.c,PUnit.unit),numD g row n,g.width,(n:Int),PUnit.unit),PUnit.unit)) ?_ ⟨0,by omega,rfl⟩ ?_
  rotate_left
  ·simp; omega
  rintro again _ ⟨n,hn,rfl⟩ ih
  dsimp only
  by_cases hl:(n:Int) < g.width
  ·have:=ih _ ⟨n+1,by omega,rfl⟩ (by dsimp only; omega)
   have wn:IntKind.i64.wrap ((n:Int)+1)=(n:Int)+1:=zat (by omega) (by omega)
   rw [zEb] at this
   simp [hl,zy1 g row n h (by omega) (by omega),zBo,wn,show n+1≤4294967296 by omega]
   simpa using this
  ·have hnw:g.width.toNat=n:=by omega
   simp only [hl,decide_false,hnw,Bool.false_eq_true,if_false];simp [zBo,zEc]
end
section
variable (l d c row k:Int)
end
end Wf

namespace Wf
open Go Go.RowKit Go.Proofs
set_option linter.unusedSimpArgs false
set_option linter.unusedVariables false
end Wf

namespace Wf
open Go Go.RowKit Go.Proofs
set_option linter.unusedSimpArgs false
set_option linter.unusedVariables false
theorem zxb (a n:Int) (h:1≤n) (h9:n < 1000000000):zac [.int .i64 a,.int .i64 n]=some (.int .i64 (a % n)):=ztu a n h h9
theorem zEq (t t':Tag) (l m:List Int) (hl:l.length < 1000000000):za9 [.sl t (uL l),.sl t' (uL m)]=some (.bool (decide (l=m))):=by
 rw [zi2,zcH,zcH];unfold zew
 by_cases hlen:l.length=m.length
 ·simp only [zcI,hlen,bne_self_eq_false,zan]
  refine zfG (fun a=>(m.length:Int).toNat - a.1.2.2.1.toNat) (fun _=>some (D.bool (decide (l=m))))
   (fun a=>∃ k:Nat,k≤m.length∧l.take k=m.take k∧a=((uL l,uL m,(k:Int),PUnit.unit),PUnit.unit)) ?_ ⟨0,by omega,by simp,rfl⟩ (by simp; omega)
  rintro again _ ⟨k,hk,he,rfl⟩ hag
  dsimp only;rw [zcI,hlen]
  by_cases hkm:k < m.length
  ·have h1:l[k]? =some l[k]:=List.getElem?_eq_getElem (by omega)
   have h2:m[k]? =some m[k]:=List.getElem?_eq_getElem hkm
   have hd:decide ((k:Int) < (m.length:Int))=true:=by simp; omega
   rw [hd,zaJ,zaa (by omega),zak (by simpa using ziD h1),zaX,zaa (by omega),zak (by simpa using ziD h2),zaX]
   by_cases hx:l[k]=m[k]
   ·have hb:(l[k] != m[k])=false:=by simp [hx]
    rw [hb,zan,zap,zat (by omega) (by omega)]
    exact hag _ ⟨k+1,by omega,by rw [List.take_add_one,List.take_add_one,he,h1,h2,hx],rfl⟩ (by simp; omega)
   ·have hb:(l[k] != m[k])=true:=by simp [hx]
    rw [hb,zaJ];congr 2;symm;simp;intro e;subst e;exact hx rfl
  ·have hd:decide ((k:Int) < (m.length:Int))=false:=by simp; omega
   rw [hd,zan]
   have:l=m:=by
    have e1:l.take k=l:=List.take_of_length_le (by omega)
    have e2:m.take k=m:=List.take_of_length_le (by omega)
    rw [←e1,←e2,he]
   simp [this]
 ·have hb:((l.length:Int) != (m.length:Int))=true:=by simp; omega
  simp only [zcI,hb,zaJ];congr 2;symm;simp;intro e; subst e; exact hlen rfl
theorem zes {R:Type} (a:Int) {b:List Int} (h:b.length=32) (f:LfT [.int .i64,.arr 32]→Option R):zay [.int .i64,.arr 32] (.int .i64 a::uL b) f=f (a,uL b,()):=by
 have e1:(uL b).take 32=uL b:=List.take_of_length_le (by simp [h])
 have e2:(uL b).drop 32=[]:=List.drop_of_length_le (by simp [h])
 simp [zay,zek,Lf.get,h,e1,e2]
theorem zqE {R:Type} {b:List Int} (h:b.length=32) (f:LfT [.arr 32]→Option R):zay [.arr 32] (uL b) f=f (uL b,()):=by
 have e1:(uL b).take 32=uL b:=List.take_of_length_le (by simp [h])
 have e2:(uL b).drop 32=[]:=List.drop_of_length_le (by simp [h])
 simp [zay,zek,Lf.get,h,e1,e2]
theorem zJB {T:Tb} {i:Nat} {s:DS} (h:T[i]? =some s.cells) (hs:s.Ok) (a:Int):za6 [.h kD i 0,.int .i64 a] [T]=some (Ans.mk (.int .i64 (s.may a)) [] []):=by
 rw [zo8];unfold zhY DS.may;rw [zak h,zak (zoT hs.len),zbe];cases hf:s.failed
 ·by_cases h0:a < 0
  ·simp [zco,h0]
  ·by_cases h1:52≤a
   ·simp [zco,h0,h1]
   ·simp [zco,h0,h1]
 ·simp [zco]
theorem zF6 {T:Tb} {i:Nat} {s:DS} (h:T[i]? =some s.cells) (hs:s.Ok):zbC [.h kD i 0] [T]=some (Ans.mk (.bool s.failed) [] []):=by
 rw [zlR];unfold zf4;rw [zak h,zak (zoT hs.len),zbe]
theorem zog {b:List Int} (h:b.length≤4294967296) (tg:Tag):zag [.sl tg (uL b)]=some (.sl .own (uL b)):=by
 cases b with
 | nil=>exact zhv tg
 | cons n b=>
  show zag [.sl tg (.int .u8 n::uL b)]=some (.sl .own (.int .u8 n::uL b));rw [zh5,zcH];unfold zd3
  have h1:(D.lent (.int .u8 n)::uL b)=uL (n::b):=by simp [uL]
  rw [h1];simp only [zcI,zFK,zhQ,zaa,h];simp [uL]
theorem zG3 (w:Int×List Int):(wD w).free=true:=by
 simp only [wD,D.free,D.freeL,zrN,Bool.and_self]
theorem zG4 (w:Int×List Int):(wD w).lent=wD w:=by
 simp only [wD,D.lent,D.lentL,zcH]
theorem zEr (p:List (Int×List Int)):D.lentL (p.map wD)=p.map wD:=by
 induction p with
 | nil=>rfl
 | cons w p ih=>simp [ih,zG4]
theorem zIb {p:List (Int×List Int)} (h:∀ w∈p,Sec w.2):zd9 33 (p.map wD)=true:=by
 simp only [zd9,List.all_map,List.all_eq_true];intro w hw;have:=(h w hw).len;simp [wD,D.width,D.isAgg,D.cell,this]
theorem zEs {p:List (Int×List Int)} (hp:∀ w∈p,Sec w.2) (h:p.length≤4294967296) (tg:Tag):zaf [.sl tg (p.map wD)]=some (.sl .own (p.map wD)):=by
 cases p with
 | nil=>exact zeB tg
 | cons w p=>
  have hok:=zIb hp;rw [List.map_cons] at hok ⊢;rw [zeN,zEr,zG4];unfold zcu
  have hf:(wD w::p.map wD).all D.free=true:=by
   rw [←List.map_cons (f:=wD),List.all_map,List.all_eq_true]; intro w _; exact zG3 w
  have hl:(wD w::p.map wD).length≤4294967296:=by simpa using h
  simp only [zaa,hl,hok,hf]
theorem zEt {p:List (Int×List Int)} {k:Nat} {w:Int×List Int} (h:p[k]? =some w):(p.map wD)[k]? =some (.agg (.int .i64 w.1::uL w.2)):=by simp [h,wD]
theorem ztv (l:List D):D.width (.agg l)=l.length:=rfl
theorem zJC {T:Tb} {i:Nat} {s:DS} (h:T[i]? =some s.cells) (hs:s.Ok) (hn:s.pend.length≤1000000) (a:Int):
  zbT [.h kD i 0,.int .i64 a] [T]=some (Ans.mk (.tup [.sl .own (uL (s.read a).1),.int .i64 (s.read a).2]) [] []):=by
 rw [znR];unfold zg3 DS.read;rw [zJB h hs a,zab,zaP,zaP,zaX]
 by_cases hm:s.may a=0
 ·rw [hm];have hb:((0:Int) != 0)=false:=rfl
  rw [hb,zan,if_neg (by simp)]
  have ha:0≤a∧a < 52:=by
   unfold DS.may at hm;split at hm
   ·omega
   ·split at hm<;>omega
  have hp:=zp4 (s:=s) hs.len
  have hbase:=zz0 (s:=s) hs.len (a:=a.toNat) (by omega)
  have hsec:=zBg hs (a:=a.toNat) (by omega)
  rw [zaa ha.1,zaa (by omega),zak h,zaa (by rw [zkE hs.len]; omega),Nat.zero_add,hbase]
  rw [zaa (zwt _),zaa (by simp [hsec.len]),zaa (by simp [hsec.len]),zak h,zak hp,zbl,zak h,zak hp,zbl,zaa (by simp)]
  rw [zqE hsec.len,List.length_map]
  refine zb8 (R:=Ans) (α:=(Int×(List D×PUnit)×(Nat×Nat×Nat)×Int×Int×PUnit)×List (List D)×PUnit)
   (fun k=>((a,(uL (look (s.pend.take k) a (s.base a.toNat)),PUnit.unit),(i,0,s.pend.length),(s.pend.length:Int),(k:Int),PUnit.unit),T,PUnit.unit)) s.pend.length (by omega) ?_ ?_
  ·intro again k hk;dsimp only;obtain ⟨w,hw⟩:∃ w,s.pend[k]? =some w:=⟨_,List.getElem?_eq_getElem hk⟩;have hws:=hs.ps w (List.mem_of_getElem? hw)
   have hd:decide ((k:Int) < (s.pend.length:Int))=true:=by simp; omega
   have hlk:(look (s.pend.take k) a (s.base a.toNat)).length=32:=zBh (fun w hw=>(hs.ps w (List.mem_of_mem_take hw)).len) hsec.len
   rw [hd,zaJ,zak h,zak hp,zbl,zaa (by omega),zaa (by simpa using hk),zak h,zak hp,zbl,zak (by simpa using zEt hw),zeJ,zes _ hws.len]
   dsimp only;simp only [List.append_nil,List.cons_append,List.nil_append,ztv,List.length_cons,zcI,hws.len,hlk,zaa]
   by_cases hwa:w.1=a
   ·have hb:(w.1 == a)=true:=by simp [hwa]
    rw [hb,zaJ,List.drop_succ_cons,List.drop_zero]
    have et:(uL w.2).take 32=uL w.2:=List.take_of_length_le (by simp [hws.len])
    rw [et,zaa (by omega),zaa (by simp [hws.len]),zaa (by simp [hws.len]),zaa (by omega),zap,zat (by omega) (by omega),zGO (by simp [hws.len])]
    have e3:(uL (look (s.pend.take k) a (s.base a.toNat))).take 0++uL w.2++(uL (look (s.pend.take k) a (s.base a.toNat))).drop (0+32)=uL w.2:=by
     rw [List.drop_of_length_le (by simp [hlk])]; simp
    rw [e3,zqE hws.len,zyw hw,if_pos hwa];rfl
   ·have hb:(w.1 == a)=false:=by simp [hwa]
    rw [hb,zan,zap,zat (by omega) (by omega),zqE hlk,zyw hw,if_neg hwa]
    rfl
  ·intro again
   have hlk:=zBh (p:=s.pend) (a:=a) (fun w hw=>(hs.ps w hw).len) hsec.len
   have hd:decide ((s.pend.length:Int) < (s.pend.length:Int))=false:=by simp
   dsimp only;rw [hd,zan,List.take_length];simp only [List.append_nil,zcI,hlk,Nat.le_refl,zaa]
   have ec:cut 0 32 (uL (look s.pend a (s.base a.toNat)))=uL (look s.pend a (s.base a.toNat)):=by
    have:=zbW (uL (look s.pend a (s.base a.toNat)));rw [zcI,hlk] at this; exact this
   rw [ec,zog (by rw [hlk]; omega),zab,zbl]
   simp;rfl
 ·have hb:(s.may a != 0)=true:=by simp [hm]
  rw [hb,zaJ,if_pos hm];rfl
theorem zIc {T:Tb} {i:Nat} {s:DS} (h:T[i]? =some s.cells) (hs:s.Ok) (a:Int) (tg:Tag) (b:List Int):
  za7 [.h kD i 0,.int .i64 a,.sl tg (uL b)] [T]=some (Ans.mk (.tup [wD (putR s a b).1,.int .i64 (putR s a b).2]) [] []):=by
 rw [zo9,zcH];unfold zhZ putR;rw [zJB h hs a,zab,zaP,zaP,zaX]
 by_cases hm:s.may a=0
 ·rw [hm];have hb:((0:Int) != 0)=false:=rfl
  rw [hb,zan,if_neg (by simp)]
  by_cases hl:b.length=32
  ·have hb2:(((uL b).length:Int) != 32)=false:=by simp [hl]
   rw [hb2,zan,if_neg (by simp [hl]),zaa (zBf _),zaa (by simp [hl])]
   have et:(D.int .i64 a::uL b).take 33=.int .i64 a::uL b:=List.take_of_length_le (by simp [hl])
   simp only [List.append_nil,List.cons_append,List.nil_append,List.length_cons,zcI,hl,List.drop_zero,et]
   rw [zaa (by omega),zes _ hl]
   dsimp only;simp only [zcI,hl,Nat.le_refl,zaa,List.take_of_length_le,et];rw [zes _ hl];dsimp only
   rw [zaa (by simp only [D.free,D.freeL,zrN,Bool.and_self])]
   rfl
  ·have hb2:(((uL b).length:Int) != 32)=true:=by simp; omega
   rw [hb2,zaJ,if_pos hl];rfl
 ·have hb:(s.may a != 0)=true:=by simp [hm]
  rw [hb,zaJ,if_pos hm];rfl
theorem zId (l:List Int):(uL l).map D.lnt1=uL l:=by
 unfold uL; rw [List.map_map]; apply List.map_congr_left; intro n _; rfl
theorem zIe (w:Int×List Int) (hw:Sec w.2) (c:Int):zaQ [wD w,.at_ (.int .i64 c)]=some (.bool (w.1 == c)):=by
 unfold wD;rw [zkg];unfold ze9
 rw [show List.map D.lnt1 (.int .i64 w.1::uL w.2)=.int .i64 w.1::uL w.2 by rw [List.map_cons,zId]; rfl,zes _ hw.len]
theorem zAp {p:List (Int×List Int)} (hp:∀ w∈p,Sec w.2) {c:Int} (hc:∀ w∈p,w.1≠c) (hn:p.length≤1000000) (tg:Tag):
  zav [.sl tg (p.map wD),.fn ID.disk_Disk_Damage_1 [] [.at_ (.int .i64 c)]]=some (.int .i64 (-1)):=by
 rw [zdx,zEr];unfold zbO;rw [List.length_map]
 refine zb8 (R:=D) (α:=(List D×Int×Int×Int×PUnit)×PUnit) (fun k=>((p.map wD,c,(p.length:Int),(k:Int),PUnit.unit),PUnit.unit)) p.length (by omega) ?_ ?_
 ·intro again k hk;dsimp only;obtain ⟨w,hw⟩:∃ w,p[k]? =some w:=⟨_,List.getElem?_eq_getElem hk⟩;have hws:=hp w (List.mem_of_getElem? hw)
  have hd:decide ((k:Int) < (p.length:Int))=true:=by simp; omega
  rw [hd,zaJ,zaa (by omega),zak (by simpa using zEt hw),zeJ,zes _ hws.len]
  dsimp only;simp only [List.append_nil,List.cons_append,List.nil_append,ztv,List.length_cons,zcI,hws.len,zaa];rw [zes _ hws.len];dsimp only
  rw [zcI,hws.len,zaa (by omega)]
  have:=zIe w hws c;unfold wD at this;rw [this,zab,zbe]
  have hb:(w.1 == c)=false:=by simp [hc w (List.mem_of_getElem? hw)]
  rw [hb,zan,zap,zat (by omega) (by omega)]
  rfl
 ·intro again
  have hd:decide ((p.length:Int) < (p.length:Int))=false:=by simp
  dsimp only;rw [hd,zan]
theorem zy2 {p:List (Int×List Int)} (hp:∀ w∈p,Sec w.2) {c:Int} (hc:∀ w∈p,w.1≠c) (hn:p.length≤1000000):
  zas [.sl .own (p.map wD),.fn ID.disk_Disk_Damage_1 [] [.at_ (.int .i64 c)]] []=some (Ans.mk (.sl .own (p.map wD)) [] []):=by
 rw [zdu];unfold zbG
 rw [zaa (by omega),zbW,zAp hp hc hn,zab,zaX]
 have hb:((-1:Int) == -1)=true:=rfl
 have hf:(p.map wD).all D.free=true:=by rw [List.all_map,List.all_eq_true]; intro w _; exact zG3 w
 rw [hb,zaJ,zaa (by rfl),zaa hf]
theorem zpG (p:List (Int×List Int)):zdn (p.map wD)=true:=by
 simp only [zdn,List.all_map,List.all_eq_true];intro w _;simp [wD,D.flatEl,D.flat,uL]
theorem zxc {p:List (Int×List Int)} (h:∀ w∈p,Sec w.2):zgg 33 (p.map wD)=true:=by
 simp only [zgg,List.all_map,List.all_eq_true];intro w hw;have:=(h w hw).len;simp [wD,D.width,this]
theorem zF7 {T:Tb} {i:Nat} {s:DS} (h:T[i]? =some s.cells) (hs:s.Ok) (hn:s.pend.length≤1000000) {a:Int} (hc:∀ w∈s.pend,w.1≠a) (tg:Tag) (b:List Int):
  zbB [.h kD i 0,.int .i64 a,.sl tg (uL b)] [T]=some (Ans.mk (.int .i64 (s.damage a b).1) [] [T.set i (s.damage a b).2.cells]):=by
 rw [zlJ,zcH];unfold zf3 DS.damage;have hpl:=zBi s a b;rw [zIc h hs,zab,zaP,zaP,zdm,zci,zci,zch];dsimp only;unfold wD;rw [zeJ,zes _ hpl,zaX];dsimp only
 rw [zaa (by simp [hpl])]
 by_cases he:(putR s a b).2=0
 ·obtain ⟨h1,h2,h3,h4,h5⟩:=zwv he
  have hb:((putR s a b).2 != 0)=false:=by simp [he]
  rw [hb,zan,if_pos he,h3]
  try rw [he]
  dsimp only
  have et:(uL b).take 32=uL b:=List.take_of_length_le (by simp [h2])
  simp only [List.append_nil,List.cons_append,List.nil_append,List.length_cons,zcI,h2,List.drop_succ_cons,List.drop_zero,et,zwt,Nat.zero_add];have hlen:=hs.len
  have hset:za8 T i (a.toNat*32) (uL b)=T.set i (s.setSec a.toNat b).cells:=by
   rw [zeK h,zcI,h2,zGY hlen (by omega)]
  have hlen2:=zu6 (s:=s) hlen (a:=a.toNat) (by omega) h2
  have hU:=zmu h (s.setSec a.toNat b).cells;have hp:=zp4 hlen2;have hpe:(s.setSec a.toNat b).pend=s.pend:=rfl
  rw [zaa (by first | trivial | omega),zaa (by first | trivial | omega),zaa h4,zaa (by first | trivial | omega),zak h,zaa (by rw [zkE hlen]; omega),zaa (by first | trivial | omega),zaa (by first | trivial | rfl)]
  rw [zz0 hlen (by first | trivial | omega),zaa (zwt _),zp1,hset,zak hU,zak hp,zbl,zak hU,zak hp,zbl,zaa (by first | trivial | omega),zbW,hpe]
  rw [zEs hs.ps (by first | trivial | omega),zab,zbl,zaa (by first | trivial | rfl),zaa (zpG _),zy2 hs.ps hc hn,zab,zaP,zaP,zbl,zaa (by first | trivial | omega),zak hU,zaa (by rw [zkE hlen2]; omega),
   zaa (by first | trivial | rfl),zaa (zpG _),zaa (zxc hs.ps),zp1]
  have h6:za8 (T.set i (s.setSec a.toNat b).cells) i 1664 [.sl .own (s.pend.map wD)]=T.set i (s.setSec a.toNat b).cells:=by
   rw [zeK hU];have:=zp5 (s:=s.setSec a.toNat b) hlen2 s.pend
   rw [show (1664:Nat)+[D.sl .own (s.pend.map wD)].length=1665 from rfl,this,List.set_set]
   rfl
  rw [h6,show s.mayW a b=0 from he]
 ·have hb:((putR s a b).2 != 0)=true:=by simp [he]
  rw [hb,zaJ,if_neg he]
  have:T.set i s.cells=T:=by
   apply List.ext_getElem?;intro j;rw [List.getElem?_set];split
   ·rename_i e; subst e; rw [h]; simp [za5 h]
   ·rfl
  rw [this]
theorem zF8 (T:Tb):zqb T=some (Ans.mk (.h kD T.length 0) [] [T++[List.replicate 1664 (D.int .u8 0)++[.sl .own [],.bool false]]]):=by kernel_rfl
theorem zKp (T:Tb):zdI [] [T]=some (Ans.mk (.h kD T.length 0) [] [T++[DS.new.cells]]):=by
 rw [zwE]
 have e:DS.new.cells=List.replicate 1664 (D.int .u8 0)++[.sl .own [],.bool false]:=by
  show uL (List.replicate 1664 0)++[.sl .own [],.bool false]=_;rw [←zsJ]
 rw [e];exact zF8 T
theorem zAq {R:Type} {n:Nat} {b:List Int} (h:b.length=n) (f:LfT [.arr n]→Option R):zay [.arr n] (uL b) f=f (uL b,()):=by
 subst h
 have e1:(uL b).take b.length=uL b:=List.take_of_length_le (by simp)
 have e2:(uL b).drop b.length=[]:=List.drop_of_length_le (by simp)
 simp [zay,zek,Lf.get,e1,e2]
theorem zvo {n:Nat} {b:List Int} (h:b.length=n):(uL b).take n=uL b:=List.take_of_length_le (by simp [h])
theorem zF9 {a:Int} {b:List Int} (h:b.length=32):zd9 33 [D.agg (D.int .i64 a::uL b)]=true:=by simp [zd9,D.width,D.isAgg,D.cell,h]
theorem zEu {a:Int} {b:List Int} (h:b.length=32):zgg 33 [D.agg (D.int .i64 a::uL b)]=true:=by simp [zgg,D.width,h]
theorem zCs (a:Int) (b:List Int):zdn [D.agg (D.int .i64 a::uL b)]=true:=by
 have h:(uL b).all D.flat=true:=zH1 b;show ((D.agg (D.int .i64 a::uL b)).flatEl && true)=true;show ((true && (uL b).all D.flat) && true)=true;rw [h]; rfl
section
variable {T:Tb} {i:Nat} {s:DS}
theorem zGa (h:T[i]? =some s.cells) (hl:s.l.length=1664) (p:List (Int×List Int)) (l:List D) (e:l=p.map wD):za8 (setT T i 1664 .undef) i 1664 [.sl .own l]=T.set i ({ s with pend:=p }:DS).cells:=by
 subst e
 rw [zwj h (by rw [zkE hl]; omega),zp5 hl]
theorem zy3 (h:T[i]? =some s.cells) (hl:s.l.length=1664) (p:List (Int×List Int)):za8 T i 1664 [.sl .own (p.map wD)]=T.set i ({ s with pend:=p }:DS).cells:=by
 rw [zeK h];exact congrArg _ (zp5 hl p)
theorem zxd (h:T[i]? =some s.cells) (hs:s.Ok) (hn:s.pend.length≤1000000) (a:Int) (tg:Tag) (b:List Int):
  zbx [.h kD i 0,.int .i64 a,.sl tg (uL b)] [T]=some (Ans.mk (.int .i64 (s.write a b).1) [] [T.set i (s.write a b).2.cells]):=by
 rw [zm3,zcH];unfold zgD DS.write;have hpl:=zBi s a b
 by_cases he:(putR s a b).2=0
 ·obtain ⟨h1,h2,h3,h4,h5⟩:=zwv he
  simp (disch:=first | omega | assumption | (simp; done) | fail) [zIc h hs,wD,zes _ hpl,he,h3,zak h,zak (zp4 hs.len),hpl,h2,zAq h2,zvo h2,zF9 h2,zEu h2,zDP h,zkE hs.len,zpG,zCs,zxc hs.ps]
  exact zGa h hs.len (s.pend++[(a,b)]) _ (by simp [wD])
 ·simp (disch:=first | omega | assumption | (simp; done) | fail) [zIc h hs,wD,zes _ hpl,he,hpl,set_same h]
theorem zmc {β:Type} {l:List β} {n:Nat} (h:l.length=n):cut 0 n l=l:=by subst h; exact zbW l
theorem zJD (l:List Int):(uL l).map D.hide=uL l:=by
 unfold uL; rw [List.map_map]; apply List.map_congr_left; intro n _; rfl
theorem zG5 (l:List Int):(uL l).map D.own0=uL l:=by
 unfold uL; rw [List.map_map]; apply List.map_congr_left; intro n _; rfl
theorem zxe (h:T[i]? =some s.cells) (hs:s.Ok) (hn:s.pend.length≤1000000):zaZ [.h kD i 0] [T]=some (Ans.mk (.h kD T.length 0) [] [T++[s.cells]]):=by
 rw [zm1];unfold zgC
 have e1:List.map D.hide (List.take 1666 (List.drop 0 s.cells))=uL s.l++[D.undef,D.bool s.failed]:=by
  rw [List.drop_zero,List.take_of_length_le (by rw [zkE hs.len]; omega)]
  unfold DS.cells;rw [List.map_append,zJD]; rfl
 have e2:∀ (x:List D),x.length=1666→spl 0 1666 x (uL s.l++[D.undef,D.bool s.failed])=uL s.l++[D.undef,D.bool s.failed]:=by
  intro x hx; unfold spl; rw [if_pos ⟨rfl,hx.symm⟩]
 have e3:((uL s.l++[D.undef,D.bool s.failed]).set 1664 .nilp).all D.own0ok=true:=by
  rw [List.set_append_right _ _ (by simp [hs.len]),List.all_append,zq3 (fun _=>rfl)]
  simp [hs.len,D.own0ok,D.flat]
 have e4:((uL s.l++[D.undef,D.bool s.failed]).map D.own0).set 1664 (.sl .own (s.pend.map wD))=s.cells:=by
  rw [List.map_append,zG5,List.set_append_right _ _ (by simp [hs.len])]
  simp [hs.len,DS.cells,D.own0]
 have e5:(uL s.l++[D.undef,D.bool s.failed]).length=1666:=by simp [hs.len]
 have e6:(List.reverse ([D.bool false,D.sl Tag.nil []]++List.replicate 1664 (D.int IntKind.u8 (0:Int)))).length=1666:=by rw [List.length_reverse,List.length_append,List.length_replicate]; rfl
 have e7:((true && decide ((1:Nat)=(1:Nat)) && List.all [(1664:Nat)] fun k=>decide (k < 1666))=true):=by decide
 rw [zak h,e1,e2 _ e6];generalize (uL s.l++[D.undef,D.bool s.failed])=X at*
 simp (disch:=first | omega | assumption | (simp; done) | fail) [e3,e4,e5,e7,zmc,zak h,zak (zp4 hs.len),zkE hs.len,zEs hs.ps,zpG,zxc hs.ps]
theorem zIf (h:T[i]? =some s.cells) (hs:s.Ok) (hn:s.pend.length≤1000000):zbM [.h kD i 0] [T]=some (Ans.mk (.int .i64 s.flush.1) [] [T.set i s.flush.2.cells]):=by
 rw [zm5];unfold zgE DS.flush;cases hf:s.failed
 ·have hlp:(s.pend.map wD).length=s.pend.length:=by simp
  simp (disch:=first | omega | assumption | (simp; done) | fail) only [zak h,zak (zoT hs.len),zak (zp4 hs.len),hf,zbe,zan,zbl,zaa,Nat.zero_add,Nat.le_refl,hlp]
  let st:Nat→(Nat×(Nat×Nat×Nat)×Int×Int×PUnit)×List (List D)×PUnit:=fun k=>((i,(i,0,s.pend.length),(s.pend.length:Int),(k:Int),PUnit.unit),T.set i (s.puts (s.pend.take k)).cells,PUnit.unit)
  have hst:st 0=((i,(i,0,s.pend.length),(s.pend.length:Int),0,PUnit.unit),T,PUnit.unit):=by
   show ((i,(i,0,s.pend.length),(s.pend.length:Int),0,PUnit.unit),T.set i (s.puts []).cells,PUnit.unit)=_
   rw [show s.puts []=s from rfl,set_same h]
  rw [←hst]
  refine zb8 st s.pend.length (by omega) ?_ ?_
  ·intro again k hk;dsimp only [st];obtain ⟨w,hw⟩:∃ w,s.pend[k]? =some w:=⟨_,List.getElem?_eq_getElem hk⟩;obtain ⟨hws,hw0,hw1⟩:=hs.pend w (List.mem_of_getElem? hw)
   obtain ⟨pk,pf,pp⟩:=zsM hs (s.pend.take k) fun w hw=>hs.pend w (List.mem_of_mem_take hw)
   have hU:=zmu h (s.puts (s.pend.take k)).cells;have hpd:=zp4 (s:=s.puts (s.pend.take k)) pk.len;rw [pp] at hpd
   have hnx:za8 (T.set i (s.puts (s.pend.take k)).cells) i (w.1.toNat*32) (uL w.2)=T.set i (s.puts (s.pend.take (k+1))).cells:=by
    rw [zeK hU,zcI,hws.len,zGY pk.len (by omega),List.set_set,List.take_add_one,hw]
    show _=T.set i (s.puts (s.pend.take k++[w])).cells;unfold DS.puts;rw [List.foldl_append]; rfl
   simp (disch:=first | omega | assumption | (simp; done) | fail) [zak hU,zak hpd,zak (zEt hw),zes _ hws.len,hws.len,zvo hws.len,zkE pk.len,hk,ztv,zz0 pk.len,hw0,hw1,zat,hnx]
  ·intro again;dsimp only [st];rw [List.take_length];obtain ⟨pk,pf,pp⟩:=zsM hs s.pend hs.pend;have hU:=zmu h (s.puts s.pend).cells;have hz:=zy3 hU pk.len []
   have hz':za8 (T.set i (s.puts s.pend).cells) i 1664 [D.sl Tag.own []]=T.set i s.flushed.cells:=by
    have:=zy3 hU pk.len [];rw [List.set_set] at this; exact this
   simp (disch:=first | omega | assumption | (simp; done) | fail) [zak hU,zkE pk.len,hz']
 ·simp (disch:=first | omega | assumption | (simp; done) | fail) [zak h,zak (zoT hs.len),hf,set_same h]
theorem zJE (h:T[i]? =some s.cells) (hs:s.Ok):zck [.h kD i 0] [T]=some (Ans.mk (.tup []) [] [T.set i DS.dead.cells]):=by
 rw [zof];unfold zg6
 have e:List.map D.own0 (List.set (List.reverse ([D.bool false,D.sl Tag.nil []]++List.replicate 1664 (D.int IntKind.u8 (0:Int)))) 1665 (D.bool true))=DS.dead.cells:=by
  rw [List.reverse_append,List.reverse_replicate];show List.map D.own0 (List.set (List.replicate 1664 (D.int IntKind.u8 (0:Int))++[D.sl Tag.nil [],D.bool false]) 1665 (D.bool true))=uL (List.replicate 1664 0)++[.sl .own [],.bool true]
  rw [List.set_append_right _ _ (by rw [List.length_replicate]; omega),List.length_replicate,List.map_append,zsJ,zG5]
  rfl
 have hl:DS.dead.cells.length=1666:=zkE (s:=DS.dead) (List.length_replicate ..)
 have hset:za8 T i 0 DS.dead.cells=T.set i DS.dead.cells:=by
  rw [zeK h,hl]
  rw [List.take_zero,List.nil_append,List.drop_of_length_le (by rw [zkE hs.len]; omega),List.append_nil]
 rw [e,hset,zak h,zkE hs.len];simp
end
end Wf

namespace Wf
open Go Go.RowKit Go.Proofs
set_option linter.unusedSimpArgs false
set_option linter.unusedVariables false
section
variable {T0 T1:Tb} {b:Nat} {idx:List Nat} {B:Ben}
theorem At.ds (h:At T0 T1 b idx B) (hw:B.w≤1000000) (d:Int):(B.dk d).Ok∧(B.dk d).pend.length≤1000000:=by
 have:=zoU h.ok d
 exact ⟨this.1,by have:=this.2; omega⟩
theorem zAr (h:At T0 T1 b idx B):zao [.h kB b 0] [P0 T0 b idx B]=some (Ans.mk (.int .i64 B.n) [] []):=by
 rw [zmW];unfold zgz;simp [zak h.get0,bRow,h.len,Ben.n]
theorem b_is (h:At T0 T1 b idx B) (d:Int):zau [.h kB b 0,.int .i64 d] [P0 T0 b idx B]=some (Ans.mk (.bool (B.is d)) [] []):=by
 rw [znL];unfold zg1 Ben.is Ben.n
 by_cases h0:0≤d
 ·simp [zak h.get0,bRow,h0,h.len]
 ·simp [h0]
theorem zBp (h:At T0 T1 b idx B) (d:Int):zaN [.h kB b 0,.int .i64 d] [P0 T0 b idx B,P1 T1 idx B]=some (Ans.mk (.bool (B.failed d)) [] []):=by
 rw [zkn];unfold zfc Ben.failed;cases hd:B.is d
 ·simp [b_is h d,hd]
 ·obtain ⟨h0,h1⟩:=zeL.1 hd
  have h1':d.toNat < idx.length:=by have:=h.len; unfold Ben.n at h1; omega
  simp (disch:=first | omega | assumption | (simp; done) | fail) [b_is h d,hd,zak h.get0,bRow,h0,h1',zak (h.hd hd),D.isAgg,D.width,D.cell,zF6 (h.get1 hd) (zoU h.ok d).1]
theorem zy4 (h:At T0 T1 b idx B) (d:Int):zaG [.h kB b 0,.int .i64 d] [P0 T0 b idx B]=some (Ans.mk (.int .i64 (B.may d)) [] []):=by
 rw [zmY];unfold zgA Ben.may;cases hd:B.is d
 ·simp [b_is h d,hd]
 ·cases hw:B.down<;>simp [b_is h d,hd,zak h.get0,bRow,hw]
theorem zBq (h:At T0 T1 b idx B) (hw:B.w≤1000000) (d a:Int):zaL [.h kB b 0,.int .i64 d,.int .i64 a] [P0 T0 b idx B,P1 T1 idx B]=some (Ans.mk (.tup [.sl .own (uL (B.read d a).1),.int .i64 (B.read d a).2]) [] []):=by
 rw [zlT];unfold zf6 Ben.read
 by_cases hm:B.may d=0
 ·obtain ⟨hd,hdn⟩:=may0.1 hm;obtain ⟨h0,h1⟩:=zeL.1 hd
  have h1':d.toNat < idx.length:=by have:=h.len; unfold Ben.n at h1; omega
  have hu:=zhQ ((B.dk d).read a).1;simp only [List.all_eq_true] at hu
  simp (disch:=first | omega | assumption | (simp; done) | fail) [zy4 h d,hm,zak h.get0,bRow,h0,h1',zak (h.hd hd),D.isAgg,D.width,D.cell,zJC (h.get1 hd) (h.ds hw d).1 (h.ds hw d).2]
 ·simp [zy4 h d,hm]; rfl
theorem zKq (h:At T0 T1 b idx B) (tg:Tag) (live:List Bool) {d:Int} (h0:0≤d):zdh [.h kB b 0,.sl tg (live.map D.bool),.int .i64 d] [P0 T0 b idx B,P1 T1 idx B]=some (Ans.mk (.bool (B.up live d)) [] []):=by
 have hl:D.lentL (live.map D.bool)=live.map D.bool:=by
  induction live with
  | nil=>rfl
  | cons x l ih=>simp [ih]
 rw [ztW,hl];unfold znP Ben.up
 by_cases h1:d < B.n
 ·by_cases h2:d < live.length
  ·have e:live[d.toNat]? =some (live[d.toNat]'(by omega)):=List.getElem?_eq_getElem (by omega)
   have e':(live.map D.bool)[d.toNat]? =some (.bool (live[d.toNat]'(by omega))):=by simp [e]
   cases hv:live[d.toNat]'(by omega)
   ·rw [hv] at e e';simp [zAr h,h1,h2,h0,zak e',e,hv]
   ·rw [hv] at e e';simp [zAr h,h1,h2,h0,zak e',e,zBp h d,hv]
  ·have e:live[d.toNat]? =none:=List.getElem?_eq_none (by omega)
   simp [zAr h,h1,h2,e]
 ·simp [zAr h,h1]
theorem zEv (h:At T0 T1 b idx B) (hw:B.w≤1000000):zbf [.h kB b 0] [P0 T0 b idx B]=some (Ans.mk (.bool (decide (B.left≠0))) [] [P0 T0 b idx (if B.left=0 then B.off else B.less)]):=by
 rw [zjK];unfold zeQ;have hw0:=h.ok.w0;have hlf:=h.ok.lf;have hg:=h.get0
 have hset:∀ (B':Ben) (T:Tb) (cs:List D) (o:Nat) (x:D),T=P0 T0 b idx B'→cs=bRow B' idx→∀ B'':Ben,cs.take o++[x]++cs.drop (o+1)=bRow B'' idx→za8 T b o [x]=P0 T0 b idx B'':=by
  rintro B' _ _ o x rfl rfl B'' e
  have hg':(P0 T0 b idx B')[b]? =some (bRow B' idx):=by unfold P0; rw [List.getElem?_set,if_pos rfl,if_pos h.b]
  rw [zeK hg'];show (P0 T0 b idx B').set b ((bRow B' idx).take o++[x]++(bRow B' idx).drop (o+1))=_;rw [e,zJx]
 by_cases hl:B.left=0
 ·have e1:=hset B _ _ 2 (.bool true) rfl rfl B.off rfl
  simp (disch:=first | omega | assumption | (simp; done) | fail) [zak hg,bRow,hl,e1,zhO,D.flat]
 ·by_cases hp:0 < B.left
  ·let B1:Ben:={ B with left:=B.left - 1 };have e1:=hset B _ _ 1 (.int .i64 (B.left - 1)) rfl rfl B1 rfl
   have hg1:(P0 T0 b idx B1)[b]? =some (bRow B1 idx):=by unfold P0; rw [List.getElem?_set,if_pos rfl,if_pos h.b]
   have e2:=hset B1 _ _ 0 (.int .i64 (B.w+1)) rfl rfl B.less (by unfold Ben.less; rw [if_pos hp]; rfl)
   have e3:bRow B1 idx=[.int .i64 B.w,.int .i64 (B.left - 1),.bool B.down,.sl .own (idx.map hD)]:=rfl;rw [e3] at hg1
   simp (disch:=first | omega | assumption | (simp; done) | fail) [zak hg,zak hg1,bRow,hl,hp,e1,e2,zhO,D.flat,zat]
  ·have e1:=hset B _ _ 0 (.int .i64 (B.w+1)) rfl rfl B.less (by unfold Ben.less; rw [if_neg hp]; rfl)
   simp (disch:=first | omega | assumption | (simp; done) | fail) [zak hg,bRow,hl,hp,e1,zhO,D.flat,zat]
theorem zEw (h:At T0 T1 b idx B) (hw:B.w≤1000000) (d a:Int) (tg:Tag) (x:List Int):
  zaS [.h kB b 0,.int .i64 d,.int .i64 a,.sl tg (uL x)] [P0 T0 b idx B,P1 T1 idx B]=some (Ans.mk (.int .i64 (B.write d a x).1) [] [P0 T0 b idx (B.write d a x).2,P1 T1 idx (B.write d a x).2]):=by
 rw [zk2,zcH];unfold zfB Ben.write
 by_cases hm:B.may d=0
 ·obtain ⟨hd,hdn⟩:=may0.1 hm;obtain ⟨h0,h1⟩:=zeL.1 hd;obtain ⟨ho,hp⟩:=h.ds hw d
  have h1':d.toNat < idx.length:=by have:=h.len; unfold Ben.n at h1; omega
  have hT:(P1 T1 idx B++[(B.dk d).cells])[(P1 T1 idx B).length]? =some (B.dk d).cells:=by simp
  have hj:(P1 T1 idx B++[(B.dk d).cells]).set (P1 T1 idx B).length ((B.dk d).write a x).2.cells=P1 T1 idx (B.junk ((B.dk d).write a x).2):=by
   rw [List.set_append_right _ _ (Nat.le_refl _),Nat.sub_self,←zH4]; rfl
  have hJ:At T0 T1 b idx (B.junk ((B.dk d).write a x).2):=h.nx (K:=0) ⟨zsN h.ok _,rfl,by simp,by simp⟩
  have hd':(B.junk ((B.dk d).write a x).2).is d=true:=hd;have hg1:=hJ.get1 hd';have hset:=hJ.set1 hd' ((B.dk d).write a x).2;have hw1:=zxd (T:=P1 T1 idx (B.junk ((B.dk d).write a x).2)) (i:=ix idx d) (s:=B.dk d) hg1 ho hp a .lent x
  have hgr:∀ B':Ben,(P0 T0 b idx B')[b]? =some [.int .i64 B'.w,.int .i64 B'.left,.bool B'.down,.sl .own (idx.map hD)]:=by
   intro B'; unfold P0; rw [List.getElem?_set,if_pos rfl,if_pos h.b]; rfl
  by_cases he:(B.dk d).mayW a x=0
  ·have e1:((B.dk d).write a x).1=0:=he
   have e2:((B.dk d).write a x).2=(B.dk d).add a x:=by unfold DS.write; rw [if_pos he]
   by_cases hl:B.left=0
   ·simp (disch:=first | omega | assumption | (simp; done) | fail) [zy4 h d,hm,zak (hgr _),h0,h1',zak (h.hd hd),D.isAgg,D.width,D.cell,zxe (h.get1 hd) ho hp,zjh,zxd hT ho hp,hj,he,e1,zEv h hw,hl]
    exact ⟨rfl,rfl⟩
   ·simp (disch:=first | omega | assumption | (simp; done) | fail) [zy4 h d,hm,zak (hgr _),h0,h1',zak (h.hd hd),D.isAgg,D.width,D.cell,zxe (h.get1 hd) ho hp,zjh,zxd hT ho hp,hj,he,e1,zEv h hw,hl,hw1,hset]
    rw [e2]; exact ⟨rfl,rfl⟩
  ·have e1:¬ ((B.dk d).write a x).1=0:=he
   simp (disch:=first | omega | assumption | (simp; done) | fail) [zy4 h d,hm,zak (hgr _),h0,h1',zak (h.hd hd),D.isAgg,D.width,D.cell,zxe (h.get1 hd) ho hp,zjh,zxd hT ho hp,hj,he,e1]
   exact ⟨rfl,rfl⟩
 ·simp [zy4 h d,hm]
theorem zIg (h:At T0 T1 b idx B) (hw:B.w≤1000000) (d:Int):
  zbr [.h kB b 0,.int .i64 d] [P0 T0 b idx B,P1 T1 idx B]=some (Ans.mk (.int .i64 (B.flush d).1) [] [P1 T1 idx (B.flush d).2]):=by
 rw [zk4];unfold zfC Ben.flush
 by_cases hm:B.may d=0
 ·obtain ⟨hd,hdn⟩:=may0.1 hm;obtain ⟨h0,h1⟩:=zeL.1 hd;obtain ⟨ho,hp⟩:=h.ds hw d
  have h1':d.toNat < idx.length:=by have:=h.len; unfold Ben.n at h1; omega
  simp (disch:=first | omega | assumption | (simp; done) | fail) [zy4 h d,hm,zak h.get0,bRow,h0,h1',zak (h.hd hd),D.isAgg,D.width,D.cell,zIf (h.get1 hd) ho hp,h.set1 hd]
 ·simp [zy4 h d,hm]
theorem zJF (h:At T0 T1 b idx B) (d:Int):
  zf9 [.h kB b 0,.int .i64 d] [P0 T0 b idx B,P1 T1 idx B]=some (Ans.mk (.int .i64 (B.fail d).1) [] [P1 T1 idx (B.fail d).2]):=by
 rw [zl9];unfold zga Ben.fail;cases hd:B.is d
 ·simp [b_is h d,hd]
 ·obtain ⟨h0,h1⟩:=zeL.1 hd
  have h1':d.toNat < idx.length:=by have:=h.len; unfold Ben.n at h1; omega
  simp (disch:=first | omega | assumption | (simp; done) | fail) [b_is h d,hd,zak h.get0,bRow,h0,h1',zak (h.hd hd),D.isAgg,D.width,D.cell,zJE (h.get1 hd) (zoU h.ok d).1,h.set1 hd]
theorem zGb (h:At T0 T1 b idx B) (hw:B.w≤1000000) (d:Int) {a:Int} (hc:∀ w∈(B.dk d).pend,w.1≠a) (tg:Tag) (x:List Int):
  zbo [.h kB b 0,.int .i64 d,.int .i64 a,.sl tg (uL x)] [P0 T0 b idx B,P1 T1 idx B]=some (Ans.mk (.int .i64 (B.damage d a x).1) [] [P1 T1 idx (B.damage d a x).2]):=by
 rw [zki,zcH];unfold zfa Ben.damage;cases hd:B.is d
 ·simp [b_is h d,hd]
 ·obtain ⟨h0,h1⟩:=zeL.1 hd;obtain ⟨ho,hp⟩:=h.ds hw d
  have h1':d.toNat < idx.length:=by have:=h.len; unfold Ben.n at h1; omega
  simp (disch:=first | omega | assumption | (simp; done) | fail) [b_is h d,hd,zak h.get0,bRow,h0,h1',zak (h.hd hd),D.isAgg,D.width,D.cell,zF7 (h.get1 hd) ho hp hc,h.set1 hd]
end
end Wf

