/- The functions that the law reaches,one Lean function and its proof for each;written by wip/pp of this workplace,joined by claimit.py. -/
import Derived.Test.YthohohfmdieohaaGreatDoorProg
import Derived.Below
import Derived.Deep.Draws
import Derived.Deep.AppendLies
import Derived.Maps.AppendAt
import Derived.OwnWalk
import Derived.Laws.BytesArg
import Derived.Laws.MakeOwn
import Derived.Laws.OwnMore
import Derived.Deep.OwnRows
import Derived.Tactics
import Derived.Lib.ConvBytes
import Derived.Laws.Slices
import Derived.WalkKit
import Derived.KernelRfl
import Derived.RowKit3
import Derived.Deep.LoopGhost
import Derived.Deep.QuietTactic
import Derived.BigQuiet
import Derived.WideLaws
import Derived.Deep.DeepCutAuto
import Derived.Deep.CutBlock
import Derived.Deep.RegionHeld3
import Derived.Laws.Rows
import Derived.Lib.AppendStr
import Derived.ArgAppend
import Derived.Laws.IdiomCopy
import Derived.OrdersHeld
import Derived.Laws.BitsLemmas
import Derived.RowKit
import Derived.Test.YthohohfmdieohaaGreatDoorVXWords
import Derived.Test.YthohohfmdieohaaGreatDoorVXSq
import Derived.Test.YthohohfmdieohaaGreatDoorVXShelf
import Derived.Test.YthohohfmdieohaaGreatDoorZXNumA
import Derived.Test.YthohohfmdieohaaGreatDoorVXBytes
import Derived.Test.YthohohfmdieohaaGreatDoorVWWords
import Derived.Test.YthohohfmdieohaaGreatDoorVWLast
import Derived.Test.YthohohfmdieohaaGreatDoorVWTab
import Derived.Test.YthohohfmdieohaaGreatDoorVWFour
import Derived.Test.YthohohfmdieohaaGreatDoorVWQPut
import Derived.Test.YthohohfmdieohaaGreatDoorVWApart
import Derived.Test.YthohohfmdieohaaGreatDoorVWArr
import Derived.Test.YthohohfmdieohaaGreatDoorVWZeros
import Derived.Test.YthohohfmdieohaaGreatDoorVWFoot
import Derived.Test.YthohohfmdieohaaGreatDoorVWKept
import Derived.Test.YthohohfmdieohaaGreatDoorVWShare
import Derived.Test.YthohohfmdieohaaGreatDoorVWN
import Derived.Test.YthohohfmdieohaaGreatDoorVWFootNe
import Derived.Test.YthohohfmdieohaaGreatDoorVWAt
import Derived.Test.YthohohfmdieohaaGreatDoorVWEqStruct
import Derived.Test.YthohohfmdieohaaGreatDoorVWRepsOne
import Derived.Test.YthohohfmdieohaaGreatDoorVWInv
import Derived.Test.YthohohfmdieohaaGreatDoorVWInvWords
import Derived.Test.YthohohfmdieohaaGreatDoorVWGuard
import Derived.Test.YthohohfmdieohaaGreatDoorVWNEv
import Derived.Test.YthohohfmdieohaaGreatDoorVWMore
namespace Go.Proofs.YthohohfmdieohaaGreatDoor.Pp
open Go.RowKit Go.Proofs.YthohohfmdieohaaGreatDoorW.PrintWords Go.Proofs.YthohohfmdieohaaGreatDoorW.PrintLast Go.Proofs.YthohohfmdieohaaGreatDoorW.PrintMore
attribute [local go_sem] max2_int min2_int max_two min_two max_three min_three max_four min_four
set_option linter.unusedVariables false
set_option linter.unusedSimpArgs false
set_option maxHeartbeats 8000000
set_option maxRecDepth 100000
section
def errW:Option Int→Value
 | none=>.nilIface
 | some c=>.iface 0 (.int .i64 c)
theorem az_:errW none=.nilIface:=rfl
theorem ay_ (c:Int):errW (some c)=.iface 0 (.int .i64 c):=rfl
theorem info3:(Tryz.prog.info? 3).map (fun i=>(i.zero,i.size,i.bytes))=some (some (.int .i64 0),1,8):=by kernel_rfl
theorem info5:(Tryz.prog.info? 5).map (fun i=>(i.zero,i.size,i.bytes))=some (some (.int .u8 0),1,1):=by kernel_rfl
theorem info9:(Tryz.prog.info? 9).map (fun i=>(i.zero,i.size,i.bytes))=some (some (.string ⟨#[]⟩),1,16):=by kernel_rfl
theorem info29:(Tryz.prog.info? 29).map (fun i=>(i.zero,i.size,i.bytes))=some (some (.agg #[(.int .i64 0),(.int .i64 0),(.slice none 0 0),(.slice none 0 0)]),4,64):=by kernel_rfl
theorem info93:(Tryz.prog.info? 93).map (fun i=>(i.zero,i.size,i.bytes))=some (some (.agg #[(.string ⟨#[]⟩),(.int .i64 0),(.int .i64 0),(.string ⟨#[]⟩)]),4,48):=by kernel_rfl
theorem info107:(Tryz.prog.info? 107).map (fun i=>(i.zero,i.size,i.bytes))=some (some (.agg #[(.string ⟨#[]⟩),(.int .i64 0),(.bool false),(.slice none 0 0),(.int .i64 0),(.int .i64 0)]),6,72):=by kernel_rfl
structure a8_ where
 f0:ByteArray
 f1:Int
 f2:Int
 f3:ByteArray
def z_LRecord:a8_:=⟨(⟨#[]⟩:ByteArray),(0:Int),(0:Int),(⟨#[]⟩:ByteArray)⟩
def a1_:Kd a8_:=Kd.iso (Kd.pair Kd.string (Kd.pair (Kd.int .i64) (Kd.pair (Kd.int .i64) Kd.string))) (fun x:a8_=>(x.f0,x.f1,x.f2,x.f3))
theorem k_LRecord_open {w:World} {x:a8_} {cs:List Value} (h:a1_.K w x cs):cs=[.string x.f0,.int .i64 x.f1,.int .i64 x.f2,.string x.f3]:=by
 obtain⟨_,_,rfl,rfl,⟨_,_,rfl,rfl,⟨_,_,rfl,rfl,rfl⟩⟩⟩:=h;exact rfl
theorem k_LRecord_openM {w:World} {base:Nat} {ok:Nat→Prop} {x:a8_} {cs:List Value} (h:a1_.M w base ok x cs):cs=[.string x.f0,.int .i64 x.f1,.int .i64 x.f2,.string x.f3]:=by
 obtain⟨_,_,rfl,rfl,⟨_,_,rfl,rfl,⟨_,_,rfl,rfl,rfl⟩⟩⟩:=h;exact rfl
theorem k_LRecord_mk (w:World) (x:a8_)  : a1_.K w x [.string x.f0,.int .i64 x.f1,.int .i64 x.f2,.string x.f3]:=⟨[.string x.f0],[.int .i64 x.f1,.int .i64 x.f2,.string x.f3],rfl,rfl,⟨[.int .i64 x.f1],[.int .i64 x.f2,.string x.f3],rfl,rfl,⟨[.int .i64 x.f2],[.string x.f3],rfl,rfl,rfl⟩⟩⟩
theorem k_LRecord_mkM (w:World) (base:Nat) (ok:Nat→Prop) (x:a8_)  : a1_.M w base ok x [.string x.f0,.int .i64 x.f1,.int .i64 x.f2,.string x.f3]:=⟨[.string x.f0],[.int .i64 x.f1,.int .i64 x.f2,.string x.f3],rfl,rfl,⟨[.int .i64 x.f1],[.int .i64 x.f2,.string x.f3],rfl,rfl,⟨[.int .i64 x.f2],[.string x.f3],rfl,rfl,rfl⟩⟩⟩
theorem k_LRecord_mkF (W:World) (ok:Nat→Prop) (x:a8_):Kd.FK a1_ W ok x [.string x.f0,.int .i64 x.f1,.int .i64 x.f2,.string x.f3]:=fun W2 _=>k_LRecord_mk W2 x
def aX_ (xs:List a8_) (i:Int):a8_:=xs.getD i.toNat z_LRecord
theorem at_TLRecord {w:World} {A:Option Addr} {n:Nat} {xs:List a8_} (h:Kd.C a1_ w A n xs) (i:Int) (h0:0≤i) (h1:i<n):∃ad , A=some ad∧w.cell? (ad.add (i.toNat * 4))=some (.string (aX_ xs i).f0)∧w.cell? ⟨(ad.add (i.toNat * 4)).block,(ad.add (i.toNat * 4)).off+1,none⟩=some (.int .i64 (aX_ xs i).f1)∧w.cell? ⟨(ad.add (i.toNat * 4)).block,(ad.add (i.toNat * 4)).off+2,none⟩=some (.int .i64 (aX_ xs i).f2)∧w.cell? ⟨(ad.add (i.toNat * 4)).block,(ad.add (i.toNat * 4)).off+3,none⟩=some (.string (aX_ xs i).f3):=by
 obtain⟨ad,c,e,_,hK,f⟩:=Kd.C_get h z_LRecord i h0 h1;have hc:∀j u,c[j]? = some u→w.cell? (ad.add (i.toNat * 4+j))=some u:=f;obtain rfl:=k_LRecord_open hK;exact⟨ad,e,hc 0 _ rfl,by rw[←by_ _ _ 1 (by omega)];exact hc 1 _ rfl,by rw[←by_ _ _ 2 (by omega)];exact hc 2 _ rfl,by rw[←by_ _ _ 3 (by omega)];exact hc 3 _ rfl⟩
structure ad_ where
 f0:ByteArray
 f1:Int
 f2:Int
 f3:ByteArray
def ch_:ad_:=⟨(⟨#[]⟩:ByteArray),(0:Int),(0:Int),(⟨#[]⟩:ByteArray)⟩
def ar_:Kd ad_:=Kd.iso (Kd.pair Kd.string (Kd.pair (Kd.int .i64) (Kd.pair (Kd.int .i64) Kd.string))) (fun x:ad_=>(x.f0,x.f1,x.f2,x.f3))
theorem k_Record_open {w:World} {x:ad_} {cs:List Value} (h:ar_.K w x cs):cs=[.string x.f0,.int .i64 x.f1,.int .i64 x.f2,.string x.f3]:=by
 obtain⟨_,_,rfl,rfl,⟨_,_,rfl,rfl,⟨_,_,rfl,rfl,rfl⟩⟩⟩:=h;exact rfl
theorem cf_ {w:World} {base:Nat} {ok:Nat→Prop} {x:ad_} {cs:List Value} (h:ar_.M w base ok x cs):cs=[.string x.f0,.int .i64 x.f1,.int .i64 x.f2,.string x.f3]:=by
 obtain⟨_,_,rfl,rfl,⟨_,_,rfl,rfl,⟨_,_,rfl,rfl,rfl⟩⟩⟩:=h;exact rfl
theorem k_Record_mk (w:World) (x:ad_)  : ar_.K w x [.string x.f0,.int .i64 x.f1,.int .i64 x.f2,.string x.f3]:=⟨[.string x.f0],[.int .i64 x.f1,.int .i64 x.f2,.string x.f3],rfl,rfl,⟨[.int .i64 x.f1],[.int .i64 x.f2,.string x.f3],rfl,rfl,⟨[.int .i64 x.f2],[.string x.f3],rfl,rfl,rfl⟩⟩⟩
theorem k_Record_mkM (w:World) (base:Nat) (ok:Nat→Prop) (x:ad_)  : ar_.M w base ok x [.string x.f0,.int .i64 x.f1,.int .i64 x.f2,.string x.f3]:=⟨[.string x.f0],[.int .i64 x.f1,.int .i64 x.f2,.string x.f3],rfl,rfl,⟨[.int .i64 x.f1],[.int .i64 x.f2,.string x.f3],rfl,rfl,⟨[.int .i64 x.f2],[.string x.f3],rfl,rfl,rfl⟩⟩⟩
theorem k_Record_mkF (W:World) (ok:Nat→Prop) (x:ad_):Kd.FK ar_ W ok x [.string x.f0,.int .i64 x.f1,.int .i64 x.f2,.string x.f3]:=fun W2 _=>k_Record_mk W2 x
def aa_ (xs:List ad_) (i:Int):ad_:=xs.getD i.toNat ch_
theorem aC_ {w:World} {A:Option Addr} {n:Nat} {xs:List ad_} (h:Kd.C ar_ w A n xs) (i:Int) (h0:0≤i) (h1:i<n):∃ad , A=some ad∧w.cell? (ad.add (i.toNat * 4))=some (.string (aa_ xs i).f0)∧w.cell? ⟨(ad.add (i.toNat * 4)).block,(ad.add (i.toNat * 4)).off+1,none⟩=some (.int .i64 (aa_ xs i).f1)∧w.cell? ⟨(ad.add (i.toNat * 4)).block,(ad.add (i.toNat * 4)).off+2,none⟩=some (.int .i64 (aa_ xs i).f2)∧w.cell? ⟨(ad.add (i.toNat * 4)).block,(ad.add (i.toNat * 4)).off+3,none⟩=some (.string (aa_ xs i).f3):=by
 obtain⟨ad,c,e,_,hK,f⟩:=Kd.C_get h ch_ i h0 h1;have hc:∀j u,c[j]? = some u→w.cell? (ad.add (i.toNat * 4+j))=some u:=f;obtain rfl:=k_Record_open hK;exact⟨ad,e,hc 0 _ rfl,by rw[←by_ _ _ 1 (by omega)];exact hc 1 _ rfl,by rw[←by_ _ _ 2 (by omega)];exact hc 2 _ rfl,by rw[←by_ _ _ 3 (by omega)];exact hc 3 _ rfl⟩
def rd_L5 (xs:List (List a8_)) (i:Int):(List a8_):=xs.getD i.toNat ([]:List a8_)
theorem at_L5 {w:World} {A:Option Addr} {n:Nat} {xs:List (List a8_)} (h:Kd.C (Kd.slice 130 a1_) w A n xs) (i:Int) (h0:0≤i) (h1:i<n):∃ad A0 c0,A=some ad∧w.cell? (ad.add i.toNat)=some (.slice A0 (rd_L5 xs i).length c0)∧(rd_L5 xs i).length≤c0∧a1_.C w A0 (rd_L5 xs i).length (rd_L5 xs i):=by
 obtain⟨ad,c,e,_,hK,f⟩:=Kd.C_get h ([]:List a8_) i h0 h1;have hc:∀j u,c[j]? = some u→w.cell? (ad.add (i.toNat * 1+j))=some u:=f;obtain⟨A0,c0,rfl,l0,g0⟩:=hK;exact⟨ad,A0,c0,e,by have hq:=hc 0 _ rfl;rwa [Nat.mul_one,Nat.add_zero] at hq,l0,g0⟩
structure S24 where
 f0:Int
 f1:Int
 f2:(List a8_)
 f3:(List a8_)
def z24:S24:=⟨(0:Int),(0:Int),([]:List a8_),([]:List a8_)⟩
def k24:Kd S24:=Kd.iso (Kd.pair (Kd.int .i64) (Kd.pair (Kd.int .i64) (Kd.pair (Kd.slice 130 a1_) (Kd.slice 130 a1_)))) (fun x:S24=>(x.f0,x.f1,x.f2,x.f3))
theorem k24_open {w:World} {x:S24} {cs:List Value} (h:k24.K w x cs):∃A2 c2 A3 c3,cs=[.int .i64 x.f0,.int .i64 x.f1,.slice A2 x.f2.length c2,.slice A3 x.f3.length c3]∧x.f2.length≤c2∧a1_.C w A2 x.f2.length x.f2∧x.f3.length≤c3∧a1_.C w A3 x.f3.length x.f3:=by
 obtain⟨_,_,rfl,rfl,⟨_,_,rfl,rfl,⟨_,_,rfl,⟨A2,c2,rfl,l2,g2⟩,⟨A3,c3,rfl,l3,g3⟩⟩⟩⟩:=h;exact⟨A2,c2,A3,c3,rfl,l2,g2,l3,g3⟩
theorem k24_openM {w:World} {base:Nat} {ok:Nat→Prop} {x:S24} {cs:List Value} (h:k24.M w base ok x cs):∃v2 v3,cs=[.int .i64 x.f0,.int .i64 x.f1,v2,v3]∧a1_.R 130 w base ok v2 x.f2∧a1_.R 130 w base ok v3 x.f3:=by
 obtain⟨_,_,rfl,rfl,⟨_,_,rfl,rfl,⟨_,_,rfl,⟨v2,rfl,g2⟩,⟨v3,rfl,g3⟩⟩⟩⟩:=h;exact⟨v2,v3,rfl,g2,g3⟩
theorem k24_mk (w:World) (x:S24) {A2:Option Addr} {c2:Nat} (l2:x.f2.length≤c2) (g2:a1_.C w A2 x.f2.length x.f2) {A3:Option Addr} {c3:Nat} (l3:x.f3.length≤c3) (g3:a1_.C w A3 x.f3.length x.f3):k24.K w x [.int .i64 x.f0,.int .i64 x.f1,.slice A2 x.f2.length c2,.slice A3 x.f3.length c3]:=⟨[.int .i64 x.f0],[.int .i64 x.f1,.slice A2 x.f2.length c2,.slice A3 x.f3.length c3],rfl,rfl,⟨[.int .i64 x.f1],[.slice A2 x.f2.length c2,.slice A3 x.f3.length c3],rfl,rfl,⟨[.slice A2 x.f2.length c2],[.slice A3 x.f3.length c3],rfl,⟨A2,c2,rfl,l2,g2⟩,⟨A3,c3,rfl,l3,g3⟩⟩⟩⟩
theorem k24_mkM (w:World) (base:Nat) (ok:Nat→Prop) (x:S24) {v2:Value} (g2:a1_.R 130 w base ok v2 x.f2) {v3:Value} (g3:a1_.R 130 w base ok v3 x.f3):k24.M w base ok x [.int .i64 x.f0,.int .i64 x.f1,v2,v3]:=⟨[.int .i64 x.f0],[.int .i64 x.f1,v2,v3],rfl,rfl,⟨[.int .i64 x.f1],[v2,v3],rfl,rfl,⟨[v2],[v3],rfl,⟨v2,rfl,g2⟩,⟨v3,rfl,g3⟩⟩⟩⟩
theorem k24_openF {W:World} {ok:Nat→Prop} {x:S24} {cs:List Value} (h:Kd.FK k24 W ok x cs):∃A2 c2 A3 c3,cs=[.int .i64 x.f0,.int .i64 x.f1,.slice A2 x.f2.length c2,.slice A3 x.f3.length c3]∧x.f2.length≤c2∧Kd.F a1_ W ok A2 x.f2.length x.f2∧x.f3.length≤c3∧Kd.F a1_ W ok A3 x.f3.length x.f3:=by
 obtain⟨A2,c2,A3,c3,rfl,l2,_,l3,_⟩:=k24_open (Kd.FK_now h);exact⟨A2,c2,A3,c3,rfl,l2,(fun W' hW=>by obtain⟨A2_,c2_,A3_,c3_,he,l2_,g2_,l3_,g3_⟩:=k24_open (h W' hW);injection (Option.some.inj (show some (Value.slice A2 x.f2.length c2)=some (Value.slice A2_ x.f2.length c2_) from congrArg (fun l=>l[2]?) he)) with ha_ _ _;rw[ha_];exact g2_),l3,(fun W' hW=>by obtain⟨A2_,c2_,A3_,c3_,he,l2_,g2_,l3_,g3_⟩:=k24_open (h W' hW);injection (Option.some.inj (show some (Value.slice A3 x.f3.length c3)=some (Value.slice A3_ x.f3.length c3_) from congrArg (fun l=>l[3]?) he)) with ha_ _ _;rw[ha_];exact g3_)⟩
theorem k24_mkF (W:World) (ok:Nat→Prop) (x:S24) {A2:Option Addr} {c2:Nat} (l2:x.f2.length≤c2) (g2:Kd.F a1_ W ok A2 x.f2.length x.f2) {A3:Option Addr} {c3:Nat} (l3:x.f3.length≤c3) (g3:Kd.F a1_ W ok A3 x.f3.length x.f3):Kd.FK k24 W ok x [.int .i64 x.f0,.int .i64 x.f1,.slice A2 x.f2.length c2,.slice A3 x.f3.length c3]:=fun W2 hW=>k24_mk W2 x l2 (g2 W2 hW) l3 (g3 W2 hW)
def rd_T24 (xs:List S24) (i:Int):S24:=xs.getD i.toNat z24
theorem at_T24 {w:World} {A:Option Addr} {n:Nat} {xs:List S24} (h:Kd.C k24 w A n xs) (i:Int) (h0:0≤i) (h1:i<n):∃ad A2 c2 A3 c3,A=some ad∧w.cell? (ad.add (i.toNat * 4))=some (.int .i64 (rd_T24 xs i).f0)∧w.cell? ⟨(ad.add (i.toNat * 4)).block,(ad.add (i.toNat * 4)).off+1,none⟩=some (.int .i64 (rd_T24 xs i).f1)∧w.cell? ⟨(ad.add (i.toNat * 4)).block,(ad.add (i.toNat * 4)).off+2,none⟩=some (.slice A2 (rd_T24 xs i).f2.length c2)∧w.cell? ⟨(ad.add (i.toNat * 4)).block,(ad.add (i.toNat * 4)).off+3,none⟩=some (.slice A3 (rd_T24 xs i).f3.length c3)∧(rd_T24 xs i).f2.length≤c2∧a1_.C w A2 (rd_T24 xs i).f2.length (rd_T24 xs i).f2∧(rd_T24 xs i).f3.length≤c3∧a1_.C w A3 (rd_T24 xs i).f3.length (rd_T24 xs i).f3:=by
 obtain⟨ad,c,e,_,hK,f⟩:=Kd.C_get h z24 i h0 h1;have hc:∀j u,c[j]? = some u→w.cell? (ad.add (i.toNat * 4+j))=some u:=f;obtain⟨A2,c2,A3,c3,rfl,l2,g2,l3,g3⟩:=k24_open hK;exact⟨ad,A2,c2,A3,c3,e,hc 0 _ rfl,by rw[←by_ _ _ 1 (by omega)];exact hc 1 _ rfl,by rw[←by_ _ _ 2 (by omega)];exact hc 2 _ rfl,by rw[←by_ _ _ 3 (by omega)];exact hc 3 _ rfl,l2,g2,l3,g3⟩
def rd_L7 (xs:List (List ad_)) (i:Int):(List ad_):=xs.getD i.toNat ([]:List ad_)
theorem at_L7 {w:World} {A:Option Addr} {n:Nat} {xs:List (List ad_)} (h:Kd.C (Kd.slice 93 ar_) w A n xs) (i:Int) (h0:0≤i) (h1:i<n):∃ad A0 c0,A=some ad∧w.cell? (ad.add i.toNat)=some (.slice A0 (rd_L7 xs i).length c0)∧(rd_L7 xs i).length≤c0∧ar_.C w A0 (rd_L7 xs i).length (rd_L7 xs i):=by
 obtain⟨ad,c,e,_,hK,f⟩:=Kd.C_get h ([]:List ad_) i h0 h1;have hc:∀j u,c[j]? = some u→w.cell? (ad.add (i.toNat * 1+j))=some u:=f;obtain⟨A0,c0,rfl,l0,g0⟩:=hK;exact⟨ad,A0,c0,e,by have hq:=hc 0 _ rfl;rwa [Nat.mul_one,Nat.add_zero] at hq,l0,g0⟩
structure S_Diff where
 f0:Int
 f1:Int
 f2:(List ad_)
 f3:(List ad_)
def z_Diff:S_Diff:=⟨(0:Int),(0:Int),([]:List ad_),([]:List ad_)⟩
def k_Diff:Kd S_Diff:=Kd.iso (Kd.pair (Kd.int .i64) (Kd.pair (Kd.int .i64) (Kd.pair (Kd.slice 93 ar_) (Kd.slice 93 ar_)))) (fun x:S_Diff=>(x.f0,x.f1,x.f2,x.f3))
theorem k_Diff_open {w:World} {x:S_Diff} {cs:List Value} (h:k_Diff.K w x cs):∃A2 c2 A3 c3,cs=[.int .i64 x.f0,.int .i64 x.f1,.slice A2 x.f2.length c2,.slice A3 x.f3.length c3]∧x.f2.length≤c2∧ar_.C w A2 x.f2.length x.f2∧x.f3.length≤c3∧ar_.C w A3 x.f3.length x.f3:=by
 obtain⟨_,_,rfl,rfl,⟨_,_,rfl,rfl,⟨_,_,rfl,⟨A2,c2,rfl,l2,g2⟩,⟨A3,c3,rfl,l3,g3⟩⟩⟩⟩:=h;exact⟨A2,c2,A3,c3,rfl,l2,g2,l3,g3⟩
theorem k_Diff_openM {w:World} {base:Nat} {ok:Nat→Prop} {x:S_Diff} {cs:List Value} (h:k_Diff.M w base ok x cs):∃v2 v3,cs=[.int .i64 x.f0,.int .i64 x.f1,v2,v3]∧ar_.R 93 w base ok v2 x.f2∧ar_.R 93 w base ok v3 x.f3:=by
 obtain⟨_,_,rfl,rfl,⟨_,_,rfl,rfl,⟨_,_,rfl,⟨v2,rfl,g2⟩,⟨v3,rfl,g3⟩⟩⟩⟩:=h;exact⟨v2,v3,rfl,g2,g3⟩
theorem k_Diff_mk (w:World) (x:S_Diff) {A2:Option Addr} {c2:Nat} (l2:x.f2.length≤c2) (g2:ar_.C w A2 x.f2.length x.f2) {A3:Option Addr} {c3:Nat} (l3:x.f3.length≤c3) (g3:ar_.C w A3 x.f3.length x.f3):k_Diff.K w x [.int .i64 x.f0,.int .i64 x.f1,.slice A2 x.f2.length c2,.slice A3 x.f3.length c3]:=⟨[.int .i64 x.f0],[.int .i64 x.f1,.slice A2 x.f2.length c2,.slice A3 x.f3.length c3],rfl,rfl,⟨[.int .i64 x.f1],[.slice A2 x.f2.length c2,.slice A3 x.f3.length c3],rfl,rfl,⟨[.slice A2 x.f2.length c2],[.slice A3 x.f3.length c3],rfl,⟨A2,c2,rfl,l2,g2⟩,⟨A3,c3,rfl,l3,g3⟩⟩⟩⟩
theorem k_Diff_mkM (w:World) (base:Nat) (ok:Nat→Prop) (x:S_Diff) {v2:Value} (g2:ar_.R 93 w base ok v2 x.f2) {v3:Value} (g3:ar_.R 93 w base ok v3 x.f3):k_Diff.M w base ok x [.int .i64 x.f0,.int .i64 x.f1,v2,v3]:=⟨[.int .i64 x.f0],[.int .i64 x.f1,v2,v3],rfl,rfl,⟨[.int .i64 x.f1],[v2,v3],rfl,rfl,⟨[v2],[v3],rfl,⟨v2,rfl,g2⟩,⟨v3,rfl,g3⟩⟩⟩⟩
theorem k_Diff_openF {W:World} {ok:Nat→Prop} {x:S_Diff} {cs:List Value} (h:Kd.FK k_Diff W ok x cs):∃A2 c2 A3 c3,cs=[.int .i64 x.f0,.int .i64 x.f1,.slice A2 x.f2.length c2,.slice A3 x.f3.length c3]∧x.f2.length≤c2∧Kd.F ar_ W ok A2 x.f2.length x.f2∧x.f3.length≤c3∧Kd.F ar_ W ok A3 x.f3.length x.f3:=by
 obtain⟨A2,c2,A3,c3,rfl,l2,_,l3,_⟩:=k_Diff_open (Kd.FK_now h);exact⟨A2,c2,A3,c3,rfl,l2,(fun W' hW=>by obtain⟨A2_,c2_,A3_,c3_,he,l2_,g2_,l3_,g3_⟩:=k_Diff_open (h W' hW);injection (Option.some.inj (show some (Value.slice A2 x.f2.length c2)=some (Value.slice A2_ x.f2.length c2_) from congrArg (fun l=>l[2]?) he)) with ha_ _ _;rw[ha_];exact g2_),l3,(fun W' hW=>by obtain⟨A2_,c2_,A3_,c3_,he,l2_,g2_,l3_,g3_⟩:=k_Diff_open (h W' hW);injection (Option.some.inj (show some (Value.slice A3 x.f3.length c3)=some (Value.slice A3_ x.f3.length c3_) from congrArg (fun l=>l[3]?) he)) with ha_ _ _;rw[ha_];exact g3_)⟩
theorem k_Diff_mkF (W:World) (ok:Nat→Prop) (x:S_Diff) {A2:Option Addr} {c2:Nat} (l2:x.f2.length≤c2) (g2:Kd.F ar_ W ok A2 x.f2.length x.f2) {A3:Option Addr} {c3:Nat} (l3:x.f3.length≤c3) (g3:Kd.F ar_ W ok A3 x.f3.length x.f3):Kd.FK k_Diff W ok x [.int .i64 x.f0,.int .i64 x.f1,.slice A2 x.f2.length c2,.slice A3 x.f3.length c3]:=fun W2 hW=>k_Diff_mk W2 x l2 (g2 W2 hW) l3 (g3 W2 hW)
def rd_TDiff (xs:List S_Diff) (i:Int):S_Diff:=xs.getD i.toNat z_Diff
theorem at_TDiff {w:World} {A:Option Addr} {n:Nat} {xs:List S_Diff} (h:Kd.C k_Diff w A n xs) (i:Int) (h0:0≤i) (h1:i<n):∃ad A2 c2 A3 c3,A=some ad∧w.cell? (ad.add (i.toNat * 4))=some (.int .i64 (rd_TDiff xs i).f0)∧w.cell? ⟨(ad.add (i.toNat * 4)).block,(ad.add (i.toNat * 4)).off+1,none⟩=some (.int .i64 (rd_TDiff xs i).f1)∧w.cell? ⟨(ad.add (i.toNat * 4)).block,(ad.add (i.toNat * 4)).off+2,none⟩=some (.slice A2 (rd_TDiff xs i).f2.length c2)∧w.cell? ⟨(ad.add (i.toNat * 4)).block,(ad.add (i.toNat * 4)).off+3,none⟩=some (.slice A3 (rd_TDiff xs i).f3.length c3)∧(rd_TDiff xs i).f2.length≤c2∧ar_.C w A2 (rd_TDiff xs i).f2.length (rd_TDiff xs i).f2∧(rd_TDiff xs i).f3.length≤c3∧ar_.C w A3 (rd_TDiff xs i).f3.length (rd_TDiff xs i).f3:=by
 obtain⟨ad,c,e,_,hK,f⟩:=Kd.C_get h z_Diff i h0 h1;have hc:∀j u,c[j]? = some u→w.cell? (ad.add (i.toNat * 4+j))=some u:=f;obtain⟨A2,c2,A3,c3,rfl,l2,g2,l3,g3⟩:=k_Diff_open hK;exact⟨ad,A2,c2,A3,c3,e,hc 0 _ rfl,by rw[←by_ _ _ 1 (by omega)];exact hc 1 _ rfl,by rw[←by_ _ _ 2 (by omega)];exact hc 2 _ rfl,by rw[←by_ _ _ 3 (by omega)];exact hc 3 _ rfl,l2,g2,l3,g3⟩
structure bg_ where
 f0:ByteArray
 f1:Int
 f2:Bool
 f3:(List a8_)
 f4:Int
 f5:Int
def z_LEntry:bg_:=⟨(⟨#[]⟩:ByteArray),(0:Int),false,([]:List a8_),(0:Int),(0:Int)⟩
def bW_:Kd bg_:=Kd.iso (Kd.pair Kd.string (Kd.pair (Kd.int .i64) (Kd.pair Kd.bool (Kd.pair (Kd.slice 130 a1_) (Kd.pair (Kd.int .i64) (Kd.int .i64)))))) (fun x:bg_=>(x.f0,x.f1,x.f2,x.f3,x.f4,x.f5))
theorem k_LEntry_open {w:World} {x:bg_} {cs:List Value} (h:bW_.K w x cs):∃A3 c3,cs=[.string x.f0,.int .i64 x.f1,.bool x.f2,.slice A3 x.f3.length c3,.int .i64 x.f4,.int .i64 x.f5]∧x.f3.length≤c3∧a1_.C w A3 x.f3.length x.f3:=by
 obtain⟨_,_,rfl,rfl,⟨_,_,rfl,rfl,⟨_,_,rfl,rfl,⟨_,_,rfl,⟨A3,c3,rfl,l3,g3⟩,⟨_,_,rfl,rfl,rfl⟩⟩⟩⟩⟩:=h;exact⟨A3,c3,rfl,l3,g3⟩
theorem k_LEntry_openM {w:World} {base:Nat} {ok:Nat→Prop} {x:bg_} {cs:List Value} (h:bW_.M w base ok x cs):∃v3,cs=[.string x.f0,.int .i64 x.f1,.bool x.f2,v3,.int .i64 x.f4,.int .i64 x.f5]∧a1_.R 130 w base ok v3 x.f3:=by
 obtain⟨_,_,rfl,rfl,⟨_,_,rfl,rfl,⟨_,_,rfl,rfl,⟨_,_,rfl,⟨v3,rfl,g3⟩,⟨_,_,rfl,rfl,rfl⟩⟩⟩⟩⟩:=h;exact⟨v3,rfl,g3⟩
theorem k_LEntry_mk (w:World) (x:bg_) {A3:Option Addr} {c3:Nat} (l3:x.f3.length≤c3) (g3:a1_.C w A3 x.f3.length x.f3):bW_.K w x [.string x.f0,.int .i64 x.f1,.bool x.f2,.slice A3 x.f3.length c3,.int .i64 x.f4,.int .i64 x.f5]:=⟨[.string x.f0],[.int .i64 x.f1,.bool x.f2,.slice A3 x.f3.length c3,.int .i64 x.f4,.int .i64 x.f5],rfl,rfl,⟨[.int .i64 x.f1],[.bool x.f2,.slice A3 x.f3.length c3,.int .i64 x.f4,.int .i64 x.f5],rfl,rfl,⟨[.bool x.f2],[.slice A3 x.f3.length c3,.int .i64 x.f4,.int .i64 x.f5],rfl,rfl,⟨[.slice A3 x.f3.length c3],[.int .i64 x.f4,.int .i64 x.f5],rfl,⟨A3,c3,rfl,l3,g3⟩,⟨[.int .i64 x.f4],[.int .i64 x.f5],rfl,rfl,rfl⟩⟩⟩⟩⟩
theorem k_LEntry_mkM (w:World) (base:Nat) (ok:Nat→Prop) (x:bg_) {v3:Value} (g3:a1_.R 130 w base ok v3 x.f3):bW_.M w base ok x [.string x.f0,.int .i64 x.f1,.bool x.f2,v3,.int .i64 x.f4,.int .i64 x.f5]:=⟨[.string x.f0],[.int .i64 x.f1,.bool x.f2,v3,.int .i64 x.f4,.int .i64 x.f5],rfl,rfl,⟨[.int .i64 x.f1],[.bool x.f2,v3,.int .i64 x.f4,.int .i64 x.f5],rfl,rfl,⟨[.bool x.f2],[v3,.int .i64 x.f4,.int .i64 x.f5],rfl,rfl,⟨[v3],[.int .i64 x.f4,.int .i64 x.f5],rfl,⟨v3,rfl,g3⟩,⟨[.int .i64 x.f4],[.int .i64 x.f5],rfl,rfl,rfl⟩⟩⟩⟩⟩
theorem k_LEntry_openF {W:World} {ok:Nat→Prop} {x:bg_} {cs:List Value} (h:Kd.FK bW_ W ok x cs):∃A3 c3,cs=[.string x.f0,.int .i64 x.f1,.bool x.f2,.slice A3 x.f3.length c3,.int .i64 x.f4,.int .i64 x.f5]∧x.f3.length≤c3∧Kd.F a1_ W ok A3 x.f3.length x.f3:=by
 obtain⟨A3,c3,rfl,l3,_⟩:=k_LEntry_open (Kd.FK_now h);exact⟨A3,c3,rfl,l3,(fun W' hW=>by obtain⟨A3_,c3_,he,l3_,g3_⟩:=k_LEntry_open (h W' hW);injection (Option.some.inj (show some (Value.slice A3 x.f3.length c3)=some (Value.slice A3_ x.f3.length c3_) from congrArg (fun l=>l[3]?) he)) with ha_ _ _;rw[ha_];exact g3_)⟩
theorem k_LEntry_mkF (W:World) (ok:Nat→Prop) (x:bg_) {A3:Option Addr} {c3:Nat} (l3:x.f3.length≤c3) (g3:Kd.F a1_ W ok A3 x.f3.length x.f3):Kd.FK bW_ W ok x [.string x.f0,.int .i64 x.f1,.bool x.f2,.slice A3 x.f3.length c3,.int .i64 x.f4,.int .i64 x.f5]:=fun W2 hW=>k_LEntry_mk W2 x l3 (g3 W2 hW)
def aH_ (xs:List bg_) (i:Int):bg_:=xs.getD i.toNat z_LEntry
theorem at_TLEntry {w:World} {A:Option Addr} {n:Nat} {xs:List bg_} (h:Kd.C bW_ w A n xs) (i:Int) (h0:0≤i) (h1:i<n):∃ad A3 c3,A=some ad∧w.cell? (ad.add (i.toNat * 6))=some (.string (aH_ xs i).f0)∧w.cell? ⟨(ad.add (i.toNat * 6)).block,(ad.add (i.toNat * 6)).off+1,none⟩=some (.int .i64 (aH_ xs i).f1)∧w.cell? ⟨(ad.add (i.toNat * 6)).block,(ad.add (i.toNat * 6)).off+2,none⟩=some (.bool (aH_ xs i).f2)∧w.cell? ⟨(ad.add (i.toNat * 6)).block,(ad.add (i.toNat * 6)).off+3,none⟩=some (.slice A3 (aH_ xs i).f3.length c3)∧w.cell? ⟨(ad.add (i.toNat * 6)).block,(ad.add (i.toNat * 6)).off+4,none⟩=some (.int .i64 (aH_ xs i).f4)∧w.cell? ⟨(ad.add (i.toNat * 6)).block,(ad.add (i.toNat * 6)).off+5,none⟩=some (.int .i64 (aH_ xs i).f5)∧(aH_ xs i).f3.length≤c3∧a1_.C w A3 (aH_ xs i).f3.length (aH_ xs i).f3:=by
 obtain⟨ad,c,e,_,hK,f⟩:=Kd.C_get h z_LEntry i h0 h1;have hc:∀j u,c[j]? = some u→w.cell? (ad.add (i.toNat * 6+j))=some u:=f;obtain⟨A3,c3,rfl,l3,g3⟩:=k_LEntry_open hK;exact⟨ad,A3,c3,e,hc 0 _ rfl,by rw[←by_ _ _ 1 (by omega)];exact hc 1 _ rfl,by rw[←by_ _ _ 2 (by omega)];exact hc 2 _ rfl,by rw[←by_ _ _ 3 (by omega)];exact hc 3 _ rfl,by rw[←by_ _ _ 4 (by omega)];exact hc 4 _ rfl,by rw[←by_ _ _ 5 (by omega)];exact hc 5 _ rfl,l3,g3⟩
structure ae_ where
 f0:ByteArray
 f1:Int
 f2:Bool
 f3:(List ad_)
 f4:Int
 f5:Int
def bS_:ae_:=⟨(⟨#[]⟩:ByteArray),(0:Int),false,([]:List ad_),(0:Int),(0:Int)⟩
def aB_:Kd ae_:=Kd.iso (Kd.pair Kd.string (Kd.pair (Kd.int .i64) (Kd.pair Kd.bool (Kd.pair (Kd.slice 93 ar_) (Kd.pair (Kd.int .i64) (Kd.int .i64)))))) (fun x:ae_=>(x.f0,x.f1,x.f2,x.f3,x.f4,x.f5))
theorem k_Entry_open {w:World} {x:ae_} {cs:List Value} (h:aB_.K w x cs):∃A3 c3,cs=[.string x.f0,.int .i64 x.f1,.bool x.f2,.slice A3 x.f3.length c3,.int .i64 x.f4,.int .i64 x.f5]∧x.f3.length≤c3∧ar_.C w A3 x.f3.length x.f3:=by
 obtain⟨_,_,rfl,rfl,⟨_,_,rfl,rfl,⟨_,_,rfl,rfl,⟨_,_,rfl,⟨A3,c3,rfl,l3,g3⟩,⟨_,_,rfl,rfl,rfl⟩⟩⟩⟩⟩:=h;exact⟨A3,c3,rfl,l3,g3⟩
theorem bR_ {w:World} {base:Nat} {ok:Nat→Prop} {x:ae_} {cs:List Value} (h:aB_.M w base ok x cs):∃v3,cs=[.string x.f0,.int .i64 x.f1,.bool x.f2,v3,.int .i64 x.f4,.int .i64 x.f5]∧ar_.R 93 w base ok v3 x.f3:=by
 obtain⟨_,_,rfl,rfl,⟨_,_,rfl,rfl,⟨_,_,rfl,rfl,⟨_,_,rfl,⟨v3,rfl,g3⟩,⟨_,_,rfl,rfl,rfl⟩⟩⟩⟩⟩:=h;exact⟨v3,rfl,g3⟩
theorem k_Entry_mk (w:World) (x:ae_) {A3:Option Addr} {c3:Nat} (l3:x.f3.length≤c3) (g3:ar_.C w A3 x.f3.length x.f3):aB_.K w x [.string x.f0,.int .i64 x.f1,.bool x.f2,.slice A3 x.f3.length c3,.int .i64 x.f4,.int .i64 x.f5]:=⟨[.string x.f0],[.int .i64 x.f1,.bool x.f2,.slice A3 x.f3.length c3,.int .i64 x.f4,.int .i64 x.f5],rfl,rfl,⟨[.int .i64 x.f1],[.bool x.f2,.slice A3 x.f3.length c3,.int .i64 x.f4,.int .i64 x.f5],rfl,rfl,⟨[.bool x.f2],[.slice A3 x.f3.length c3,.int .i64 x.f4,.int .i64 x.f5],rfl,rfl,⟨[.slice A3 x.f3.length c3],[.int .i64 x.f4,.int .i64 x.f5],rfl,⟨A3,c3,rfl,l3,g3⟩,⟨[.int .i64 x.f4],[.int .i64 x.f5],rfl,rfl,rfl⟩⟩⟩⟩⟩
theorem cx_ (w:World) (base:Nat) (ok:Nat→Prop) (x:ae_) {v3:Value} (g3:ar_.R 93 w base ok v3 x.f3):aB_.M w base ok x [.string x.f0,.int .i64 x.f1,.bool x.f2,v3,.int .i64 x.f4,.int .i64 x.f5]:=⟨[.string x.f0],[.int .i64 x.f1,.bool x.f2,v3,.int .i64 x.f4,.int .i64 x.f5],rfl,rfl,⟨[.int .i64 x.f1],[.bool x.f2,v3,.int .i64 x.f4,.int .i64 x.f5],rfl,rfl,⟨[.bool x.f2],[v3,.int .i64 x.f4,.int .i64 x.f5],rfl,rfl,⟨[v3],[.int .i64 x.f4,.int .i64 x.f5],rfl,⟨v3,rfl,g3⟩,⟨[.int .i64 x.f4],[.int .i64 x.f5],rfl,rfl,rfl⟩⟩⟩⟩⟩
theorem k_Entry_openF {W:World} {ok:Nat→Prop} {x:ae_} {cs:List Value} (h:Kd.FK aB_ W ok x cs):∃A3 c3,cs=[.string x.f0,.int .i64 x.f1,.bool x.f2,.slice A3 x.f3.length c3,.int .i64 x.f4,.int .i64 x.f5]∧x.f3.length≤c3∧Kd.F ar_ W ok A3 x.f3.length x.f3:=by
 obtain⟨A3,c3,rfl,l3,_⟩:=k_Entry_open (Kd.FK_now h);exact⟨A3,c3,rfl,l3,(fun W' hW=>by obtain⟨A3_,c3_,he,l3_,g3_⟩:=k_Entry_open (h W' hW);injection (Option.some.inj (show some (Value.slice A3 x.f3.length c3)=some (Value.slice A3_ x.f3.length c3_) from congrArg (fun l=>l[3]?) he)) with ha_ _ _;rw[ha_];exact g3_)⟩
theorem k_Entry_mkF (W:World) (ok:Nat→Prop) (x:ae_) {A3:Option Addr} {c3:Nat} (l3:x.f3.length≤c3) (g3:Kd.F ar_ W ok A3 x.f3.length x.f3):Kd.FK aB_ W ok x [.string x.f0,.int .i64 x.f1,.bool x.f2,.slice A3 x.f3.length c3,.int .i64 x.f4,.int .i64 x.f5]:=fun W2 hW=>k_Entry_mk W2 x l3 (g3 W2 hW)
def a_ (xs:List ae_) (i:Int):ae_:=xs.getD i.toNat bS_
theorem aZ_ {w:World} {A:Option Addr} {n:Nat} {xs:List ae_} (h:Kd.C aB_ w A n xs) (i:Int) (h0:0≤i) (h1:i<n):∃ad A3 c3,A=some ad∧w.cell? (ad.add (i.toNat * 6))=some (.string (a_ xs i).f0)∧w.cell? ⟨(ad.add (i.toNat * 6)).block,(ad.add (i.toNat * 6)).off+1,none⟩=some (.int .i64 (a_ xs i).f1)∧w.cell? ⟨(ad.add (i.toNat * 6)).block,(ad.add (i.toNat * 6)).off+2,none⟩=some (.bool (a_ xs i).f2)∧w.cell? ⟨(ad.add (i.toNat * 6)).block,(ad.add (i.toNat * 6)).off+3,none⟩=some (.slice A3 (a_ xs i).f3.length c3)∧w.cell? ⟨(ad.add (i.toNat * 6)).block,(ad.add (i.toNat * 6)).off+4,none⟩=some (.int .i64 (a_ xs i).f4)∧w.cell? ⟨(ad.add (i.toNat * 6)).block,(ad.add (i.toNat * 6)).off+5,none⟩=some (.int .i64 (a_ xs i).f5)∧(a_ xs i).f3.length≤c3∧ar_.C w A3 (a_ xs i).f3.length (a_ xs i).f3:=by
 obtain⟨ad,c,e,_,hK,f⟩:=Kd.C_get h bS_ i h0 h1;have hc:∀j u,c[j]? = some u→w.cell? (ad.add (i.toNat * 6+j))=some u:=f;obtain⟨A3,c3,rfl,l3,g3⟩:=k_Entry_open hK;exact⟨ad,A3,c3,e,hc 0 _ rfl,by rw[←by_ _ _ 1 (by omega)];exact hc 1 _ rfl,by rw[←by_ _ _ 2 (by omega)];exact hc 2 _ rfl,by rw[←by_ _ _ 3 (by omega)];exact hc 3 _ rfl,by rw[←by_ _ _ 4 (by omega)];exact hc 4 _ rfl,by rw[←by_ _ _ 5 (by omega)];exact hc 5 _ rfl,l3,g3⟩
structure S_LZone where
 f0:ByteArray
 f1:Int
 f2:(List a8_)
def z_LZone:S_LZone:=⟨(⟨#[]⟩:ByteArray),(0:Int),([]:List a8_)⟩
def k_LZone:Kd S_LZone:=Kd.iso (Kd.pair Kd.string (Kd.pair (Kd.int .i64) (Kd.slice 130 a1_))) (fun x:S_LZone=>(x.f0,x.f1,x.f2))
theorem k_LZone_open {w:World} {x:S_LZone} {cs:List Value} (h:k_LZone.K w x cs):∃A2 c2,cs=[.string x.f0,.int .i64 x.f1,.slice A2 x.f2.length c2]∧x.f2.length≤c2∧a1_.C w A2 x.f2.length x.f2:=by
 obtain⟨_,_,rfl,rfl,⟨_,_,rfl,rfl,⟨A2,c2,rfl,l2,g2⟩⟩⟩:=h;exact⟨A2,c2,rfl,l2,g2⟩
theorem k_LZone_openM {w:World} {base:Nat} {ok:Nat→Prop} {x:S_LZone} {cs:List Value} (h:k_LZone.M w base ok x cs):∃v2,cs=[.string x.f0,.int .i64 x.f1,v2]∧a1_.R 130 w base ok v2 x.f2:=by
 obtain⟨_,_,rfl,rfl,⟨_,_,rfl,rfl,⟨v2,rfl,g2⟩⟩⟩:=h;exact⟨v2,rfl,g2⟩
theorem k_LZone_mk (w:World) (x:S_LZone) {A2:Option Addr} {c2:Nat} (l2:x.f2.length≤c2) (g2:a1_.C w A2 x.f2.length x.f2):k_LZone.K w x [.string x.f0,.int .i64 x.f1,.slice A2 x.f2.length c2]:=⟨[.string x.f0],[.int .i64 x.f1,.slice A2 x.f2.length c2],rfl,rfl,⟨[.int .i64 x.f1],[.slice A2 x.f2.length c2],rfl,rfl,⟨A2,c2,rfl,l2,g2⟩⟩⟩
theorem k_LZone_mkM (w:World) (base:Nat) (ok:Nat→Prop) (x:S_LZone) {v2:Value} (g2:a1_.R 130 w base ok v2 x.f2):k_LZone.M w base ok x [.string x.f0,.int .i64 x.f1,v2]:=⟨[.string x.f0],[.int .i64 x.f1,v2],rfl,rfl,⟨[.int .i64 x.f1],[v2],rfl,rfl,⟨v2,rfl,g2⟩⟩⟩
theorem k_LZone_openF {W:World} {ok:Nat→Prop} {x:S_LZone} {cs:List Value} (h:Kd.FK k_LZone W ok x cs):∃A2 c2,cs=[.string x.f0,.int .i64 x.f1,.slice A2 x.f2.length c2]∧x.f2.length≤c2∧Kd.F a1_ W ok A2 x.f2.length x.f2:=by
 obtain⟨A2,c2,rfl,l2,_⟩:=k_LZone_open (Kd.FK_now h);exact⟨A2,c2,rfl,l2,(fun W' hW=>by obtain⟨A2_,c2_,he,l2_,g2_⟩:=k_LZone_open (h W' hW);injection (Option.some.inj (show some (Value.slice A2 x.f2.length c2)=some (Value.slice A2_ x.f2.length c2_) from congrArg (fun l=>l[2]?) he)) with ha_ _ _;rw[ha_];exact g2_)⟩
theorem k_LZone_mkF (W:World) (ok:Nat→Prop) (x:S_LZone) {A2:Option Addr} {c2:Nat} (l2:x.f2.length≤c2) (g2:Kd.F a1_ W ok A2 x.f2.length x.f2):Kd.FK k_LZone W ok x [.string x.f0,.int .i64 x.f1,.slice A2 x.f2.length c2]:=fun W2 hW=>k_LZone_mk W2 x l2 (g2 W2 hW)
def rd_TLZone (xs:List S_LZone) (i:Int):S_LZone:=xs.getD i.toNat z_LZone
theorem at_TLZone {w:World} {A:Option Addr} {n:Nat} {xs:List S_LZone} (h:Kd.C k_LZone w A n xs) (i:Int) (h0:0≤i) (h1:i<n):∃ad A2 c2,A=some ad∧w.cell? (ad.add (i.toNat * 3))=some (.string (rd_TLZone xs i).f0)∧w.cell? ⟨(ad.add (i.toNat * 3)).block,(ad.add (i.toNat * 3)).off+1,none⟩=some (.int .i64 (rd_TLZone xs i).f1)∧w.cell? ⟨(ad.add (i.toNat * 3)).block,(ad.add (i.toNat * 3)).off+2,none⟩=some (.slice A2 (rd_TLZone xs i).f2.length c2)∧(rd_TLZone xs i).f2.length≤c2∧a1_.C w A2 (rd_TLZone xs i).f2.length (rd_TLZone xs i).f2:=by
 obtain⟨ad,c,e,_,hK,f⟩:=Kd.C_get h z_LZone i h0 h1;have hc:∀j u,c[j]? = some u→w.cell? (ad.add (i.toNat * 3+j))=some u:=f;obtain⟨A2,c2,rfl,l2,g2⟩:=k_LZone_open hK;exact⟨ad,A2,c2,e,hc 0 _ rfl,by rw[←by_ _ _ 1 (by omega)];exact hc 1 _ rfl,by rw[←by_ _ _ 2 (by omega)];exact hc 2 _ rfl,l2,g2⟩
def rd_L13 (xs:List (List S24)) (i:Int):(List S24):=xs.getD i.toNat ([]:List S24)
theorem at_L13 {w:World} {A:Option Addr} {n:Nat} {xs:List (List S24)} (h:Kd.C (Kd.slice 24 k24) w A n xs) (i:Int) (h0:0≤i) (h1:i<n):∃ad A0 c0,A=some ad∧w.cell? (ad.add i.toNat)=some (.slice A0 (rd_L13 xs i).length c0)∧(rd_L13 xs i).length≤c0∧k24.C w A0 (rd_L13 xs i).length (rd_L13 xs i):=by
 obtain⟨ad,c,e,_,hK,f⟩:=Kd.C_get h ([]:List S24) i h0 h1;have hc:∀j u,c[j]? = some u→w.cell? (ad.add (i.toNat * 1+j))=some u:=f;obtain⟨A0,c0,rfl,l0,g0⟩:=hK;exact⟨ad,A0,c0,e,by have hq:=hc 0 _ rfl;rwa [Nat.mul_one,Nat.add_zero] at hq,l0,g0⟩
structure ct_ where
 f0:ByteArray
 f1:Int
 f2:(List S24)
def z_LJournal:ct_:=⟨(⟨#[]⟩:ByteArray),(0:Int),([]:List S24)⟩
def k_LJournal:Kd ct_:=Kd.iso (Kd.pair Kd.string (Kd.pair (Kd.int .i64) (Kd.slice 24 k24))) (fun x:ct_=>(x.f0,x.f1,x.f2))
theorem k_LJournal_open {w:World} {x:ct_} {cs:List Value} (h:k_LJournal.K w x cs):∃A2 c2,cs=[.string x.f0,.int .i64 x.f1,.slice A2 x.f2.length c2]∧x.f2.length≤c2∧k24.C w A2 x.f2.length x.f2:=by
 obtain⟨_,_,rfl,rfl,⟨_,_,rfl,rfl,⟨A2,c2,rfl,l2,g2⟩⟩⟩:=h;exact⟨A2,c2,rfl,l2,g2⟩
theorem k_LJournal_openM {w:World} {base:Nat} {ok:Nat→Prop} {x:ct_} {cs:List Value} (h:k_LJournal.M w base ok x cs):∃v2,cs=[.string x.f0,.int .i64 x.f1,v2]∧k24.R 24 w base ok v2 x.f2:=by
 obtain⟨_,_,rfl,rfl,⟨_,_,rfl,rfl,⟨v2,rfl,g2⟩⟩⟩:=h;exact⟨v2,rfl,g2⟩
theorem k_LJournal_mk (w:World) (x:ct_) {A2:Option Addr} {c2:Nat} (l2:x.f2.length≤c2) (g2:k24.C w A2 x.f2.length x.f2):k_LJournal.K w x [.string x.f0,.int .i64 x.f1,.slice A2 x.f2.length c2]:=⟨[.string x.f0],[.int .i64 x.f1,.slice A2 x.f2.length c2],rfl,rfl,⟨[.int .i64 x.f1],[.slice A2 x.f2.length c2],rfl,rfl,⟨A2,c2,rfl,l2,g2⟩⟩⟩
theorem k_LJournal_mkM (w:World) (base:Nat) (ok:Nat→Prop) (x:ct_) {v2:Value} (g2:k24.R 24 w base ok v2 x.f2):k_LJournal.M w base ok x [.string x.f0,.int .i64 x.f1,v2]:=⟨[.string x.f0],[.int .i64 x.f1,v2],rfl,rfl,⟨[.int .i64 x.f1],[v2],rfl,rfl,⟨v2,rfl,g2⟩⟩⟩
theorem k_LJournal_openF {W:World} {ok:Nat→Prop} {x:ct_} {cs:List Value} (h:Kd.FK k_LJournal W ok x cs):∃A2 c2,cs=[.string x.f0,.int .i64 x.f1,.slice A2 x.f2.length c2]∧x.f2.length≤c2∧Kd.F k24 W ok A2 x.f2.length x.f2:=by
 obtain⟨A2,c2,rfl,l2,_⟩:=k_LJournal_open (Kd.FK_now h);exact⟨A2,c2,rfl,l2,(fun W' hW=>by obtain⟨A2_,c2_,he,l2_,g2_⟩:=k_LJournal_open (h W' hW);injection (Option.some.inj (show some (Value.slice A2 x.f2.length c2)=some (Value.slice A2_ x.f2.length c2_) from congrArg (fun l=>l[2]?) he)) with ha_ _ _;rw[ha_];exact g2_)⟩
theorem k_LJournal_mkF (W:World) (ok:Nat→Prop) (x:ct_) {A2:Option Addr} {c2:Nat} (l2:x.f2.length≤c2) (g2:Kd.F k24 W ok A2 x.f2.length x.f2):Kd.FK k_LJournal W ok x [.string x.f0,.int .i64 x.f1,.slice A2 x.f2.length c2]:=fun W2 hW=>k_LJournal_mk W2 x l2 (g2 W2 hW)
def rd_TLJournal (xs:List ct_) (i:Int):ct_:=xs.getD i.toNat z_LJournal
theorem at_TLJournal {w:World} {A:Option Addr} {n:Nat} {xs:List ct_} (h:Kd.C k_LJournal w A n xs) (i:Int) (h0:0≤i) (h1:i<n):∃ad A2 c2,A=some ad∧w.cell? (ad.add (i.toNat * 3))=some (.string (rd_TLJournal xs i).f0)∧w.cell? ⟨(ad.add (i.toNat * 3)).block,(ad.add (i.toNat * 3)).off+1,none⟩=some (.int .i64 (rd_TLJournal xs i).f1)∧w.cell? ⟨(ad.add (i.toNat * 3)).block,(ad.add (i.toNat * 3)).off+2,none⟩=some (.slice A2 (rd_TLJournal xs i).f2.length c2)∧(rd_TLJournal xs i).f2.length≤c2∧k24.C w A2 (rd_TLJournal xs i).f2.length (rd_TLJournal xs i).f2:=by
 obtain⟨ad,c,e,_,hK,f⟩:=Kd.C_get h z_LJournal i h0 h1;have hc:∀j u,c[j]? = some u→w.cell? (ad.add (i.toNat * 3+j))=some u:=f;obtain⟨A2,c2,rfl,l2,g2⟩:=k_LJournal_open hK;exact⟨ad,A2,c2,e,hc 0 _ rfl,by rw[←by_ _ _ 1 (by omega)];exact hc 1 _ rfl,by rw[←by_ _ _ 2 (by omega)];exact hc 2 _ rfl,l2,g2⟩
def rd_L15 (xs:List (List bg_)) (i:Int):(List bg_):=xs.getD i.toNat ([]:List bg_)
theorem at_L15 {w:World} {A:Option Addr} {n:Nat} {xs:List (List bg_)} (h:Kd.C (Kd.slice 145 bW_) w A n xs) (i:Int) (h0:0≤i) (h1:i<n):∃ad A0 c0,A=some ad∧w.cell? (ad.add i.toNat)=some (.slice A0 (rd_L15 xs i).length c0)∧(rd_L15 xs i).length≤c0∧bW_.C w A0 (rd_L15 xs i).length (rd_L15 xs i):=by
 obtain⟨ad,c,e,_,hK,f⟩:=Kd.C_get h ([]:List bg_) i h0 h1;have hc:∀j u,c[j]? = some u→w.cell? (ad.add (i.toNat * 1+j))=some u:=f;obtain⟨A0,c0,rfl,l0,g0⟩:=hK;exact⟨ad,A0,c0,e,by have hq:=hc 0 _ rfl;rwa [Nat.mul_one,Nat.add_zero] at hq,l0,g0⟩
structure S_LCache where
 f0:Int
 f1:(List bg_)
def z_LCache:S_LCache:=⟨(0:Int),([]:List bg_)⟩
def k_LCache:Kd S_LCache:=Kd.iso (Kd.pair (Kd.int .i64) (Kd.slice 145 bW_)) (fun x:S_LCache=>(x.f0,x.f1))
theorem k_LCache_open {w:World} {x:S_LCache} {cs:List Value} (h:k_LCache.K w x cs):∃A1 c1,cs=[.int .i64 x.f0,.slice A1 x.f1.length c1]∧x.f1.length≤c1∧bW_.C w A1 x.f1.length x.f1:=by
 obtain⟨_,_,rfl,rfl,⟨A1,c1,rfl,l1,g1⟩⟩:=h;exact⟨A1,c1,rfl,l1,g1⟩
theorem k_LCache_openM {w:World} {base:Nat} {ok:Nat→Prop} {x:S_LCache} {cs:List Value} (h:k_LCache.M w base ok x cs):∃v1,cs=[.int .i64 x.f0,v1]∧bW_.R 145 w base ok v1 x.f1:=by
 obtain⟨_,_,rfl,rfl,⟨v1,rfl,g1⟩⟩:=h;exact⟨v1,rfl,g1⟩
theorem k_LCache_mk (w:World) (x:S_LCache) {A1:Option Addr} {c1:Nat} (l1:x.f1.length≤c1) (g1:bW_.C w A1 x.f1.length x.f1):k_LCache.K w x [.int .i64 x.f0,.slice A1 x.f1.length c1]:=⟨[.int .i64 x.f0],[.slice A1 x.f1.length c1],rfl,rfl,⟨A1,c1,rfl,l1,g1⟩⟩
theorem k_LCache_mkM (w:World) (base:Nat) (ok:Nat→Prop) (x:S_LCache) {v1:Value} (g1:bW_.R 145 w base ok v1 x.f1):k_LCache.M w base ok x [.int .i64 x.f0,v1]:=⟨[.int .i64 x.f0],[v1],rfl,rfl,⟨v1,rfl,g1⟩⟩
theorem k_LCache_openF {W:World} {ok:Nat→Prop} {x:S_LCache} {cs:List Value} (h:Kd.FK k_LCache W ok x cs):∃A1 c1,cs=[.int .i64 x.f0,.slice A1 x.f1.length c1]∧x.f1.length≤c1∧Kd.F bW_ W ok A1 x.f1.length x.f1:=by
 obtain⟨A1,c1,rfl,l1,_⟩:=k_LCache_open (Kd.FK_now h);exact⟨A1,c1,rfl,l1,(fun W' hW=>by obtain⟨A1_,c1_,he,l1_,g1_⟩:=k_LCache_open (h W' hW);injection (Option.some.inj (show some (Value.slice A1 x.f1.length c1)=some (Value.slice A1_ x.f1.length c1_) from congrArg (fun l=>l[1]?) he)) with ha_ _ _;rw[ha_];exact g1_)⟩
theorem k_LCache_mkF (W:World) (ok:Nat→Prop) (x:S_LCache) {A1:Option Addr} {c1:Nat} (l1:x.f1.length≤c1) (g1:Kd.F bW_ W ok A1 x.f1.length x.f1):Kd.FK k_LCache W ok x [.int .i64 x.f0,.slice A1 x.f1.length c1]:=fun W2 hW=>k_LCache_mk W2 x l1 (g1 W2 hW)
def rd_TLCache (xs:List S_LCache) (i:Int):S_LCache:=xs.getD i.toNat z_LCache
theorem at_TLCache {w:World} {A:Option Addr} {n:Nat} {xs:List S_LCache} (h:Kd.C k_LCache w A n xs) (i:Int) (h0:0≤i) (h1:i<n):∃ad A1 c1,A=some ad∧w.cell? (ad.add (i.toNat * 2))=some (.int .i64 (rd_TLCache xs i).f0)∧w.cell? ⟨(ad.add (i.toNat * 2)).block,(ad.add (i.toNat * 2)).off+1,none⟩=some (.slice A1 (rd_TLCache xs i).f1.length c1)∧(rd_TLCache xs i).f1.length≤c1∧bW_.C w A1 (rd_TLCache xs i).f1.length (rd_TLCache xs i).f1:=by
 obtain⟨ad,c,e,_,hK,f⟩:=Kd.C_get h z_LCache i h0 h1;have hc:∀j u,c[j]? = some u→w.cell? (ad.add (i.toNat * 2+j))=some u:=f;obtain⟨A1,c1,rfl,l1,g1⟩:=k_LCache_open hK;exact⟨ad,A1,c1,e,hc 0 _ rfl,by rw[←by_ _ _ 1 (by omega)];exact hc 1 _ rfl,l1,g1⟩
def WF_LRecord (x:a8_):Prop:=(x.f0.size≤maxLen)∧((Lit.int .i64 x.f1).wf=true)∧((Lit.int .i64 x.f2).wf=true)∧x.f3.size≤maxLen
def WF24 (x:S24):Prop:=((Lit.int .i64 x.f0).wf=true)∧((Lit.int .i64 x.f1).wf=true)∧(x.f2.length≤maxLen∧∀x_∈x.f2,WF_LRecord x_)∧x.f3.length≤maxLen∧∀x_∈x.f3,WF_LRecord x_
def WF_LZone (x:S_LZone):Prop:=(x.f0.size≤maxLen)∧((Lit.int .i64 x.f1).wf=true)∧x.f2.length≤maxLen∧∀x_∈x.f2,WF_LRecord x_
def WF_LJournal (x:ct_):Prop:=(x.f0.size≤maxLen)∧((Lit.int .i64 x.f1).wf=true)∧x.f2.length≤maxLen∧∀x_∈x.f2,WF24 x_
def WF_LEntry (x:bg_):Prop:=(x.f0.size≤maxLen)∧((Lit.int .i64 x.f1).wf=true)∧(True)∧(x.f3.length≤maxLen∧∀x_∈x.f3,WF_LRecord x_)∧((Lit.int .i64 x.f4).wf=true)∧(Lit.int .i64 x.f5).wf=true
def WF_LCache (x:S_LCache):Prop:=((Lit.int .i64 x.f0).wf=true)∧x.f1.length≤maxLen∧∀x_∈x.f1,WF_LEntry x_
end
section
def laws_szRecord.f (a0_0:ByteArray) (a0_1:Int) (a0_2:Int) (a0_3:ByteArray) (a1:Int):Option (Int):=if (wrap64 (a1 - (a0_0.size:Int)))<0 then(some (-1)) else(if (wrap64 ((wrap64 (a1 - (a0_0.size:Int))) - (a0_3.size:Int)))<0 then(some (-1)) else(some (wrap64 ((wrap64 (a1 - (a0_0.size:Int))) - (a0_3.size:Int)))))
theorem laws_szRecord.calls (c:ByteArray) (j:Int) (l:Int) (g:ByteArray) (a1:Int) (r:Int) (w:World) (h:laws_szRecord.f c j l g a1=some r) :
  Calls Tryz.prog 117 #[.agg #[.string c,.int .i64 j,.int .i64 l,.string g],.int .i64 a1] w fun e w'=>e=.returned (.int .i64 r)∧Below w.heap.size w w':=by
 have hu130:=Tryz.underlying130;have HB:=AM (Below.refl w.heap.size w);have H:(if (wrap64 (a1 - (c.size:Int)))<0 then(some (-1)) else(if (wrap64 ((wrap64 (a1 - (c.size:Int))) - (g.size:Int)))<0 then(some (-1)) else(some (wrap64 ((wrap64 (a1 - (c.size:Int))) - (g.size:Int))))))=some r:=h;clear h;by_cases c3:(wrap64 (a1 - (c.size:Int)))<0
 ·rw[if_pos c3] at H;have o:=decide_eq_true c3;clear c3;obtain rfl:=Option.some.inj H;go_enter Tryz.func117,Tryz.ntmps117;go_wp2_with (first|((with_reducible refine af_ (N:=2) rfl ?_);refine bE 2 #[.string c,.int .i64 j,.int .i64 l,.string g] 130 ?_;intro m hg w4 hbox hb;have i:=AM (hbox);have n:=bG hg;replace HB:=BS hb;clear hb hbox hg;have s:=cz4 i));go_ret;exact⟨TE,TB⟩
 ·rw[if_neg c3] at H;have o:=decide_eq_false c3;clear c3;by_cases c6:(wrap64 ((wrap64 (a1 - (c.size:Int))) - (g.size:Int)))<0
  ·rw[if_pos c6] at H;have p:=decide_eq_true c6;clear c6;obtain rfl:=Option.some.inj H;go_enter Tryz.func117,Tryz.ntmps117;go_wp2_with (first|((with_reducible refine af_ (N:=2) rfl ?_);refine bE 2 #[.string c,.int .i64 j,.int .i64 l,.string g] 130 ?_;intro m hg w7 hbox hb;have i:=AM (hbox);have n:=bG hg;replace HB:=BS hb;clear hb hbox hg;have t:=cz4 i));go_ret;exact⟨TE,TB⟩
  ·rw[if_neg c6] at H;have p:=decide_eq_false c6;clear c6;obtain rfl:=Option.some.inj H;go_enter Tryz.func117,Tryz.ntmps117;go_wp2_with (first|((with_reducible refine af_ (N:=2) rfl ?_);refine bE 2 #[.string c,.int .i64 j,.int .i64 l,.string g] 130 ?_;intro m hg w9 hbox hb;have i:=AM (hbox);have n:=bG hg;replace HB:=BS hb;clear hb hbox hg;have q:=cz4 i));go_ret;exact⟨TE,TB⟩
end
section
def bt_.l0:Nat→List (a8_)→Int→Int→Option (Int)
 | 0,_,_,_=>none
 | k+1,x0,x1,x5=>if x5<(x0.length:Int) then(if 0≤x5 then((laws_szRecord.f ((aX_ x0 x5).f0) ((aX_ x0 x5).f1) ((aX_ x0 x5).f2) ((aX_ x0 x5).f3) x1).bind fun c=>(if c<0 then(some (-1)) else(bt_.l0 k x0 c (wrap64 (x5+1))))) else(none)) else(some x1)
def bt_.f (k:Nat) (l0:List (a8_)) (a1:Int):Option (Int):=if (wrap64 (a1 - (l0.length:Int)))<0 then(some (-1)) else(bt_.l0 k l0 (wrap64 (a1 - (l0.length:Int))) 0)
theorem bt_.calls (k:Nat) (A0:Option Addr) (c0:Nat) (l0:List (a8_)) (a1:Int) (r:Int) (w:World) (t:Kd.C a1_ w A0 l0.length l0) (u:l0.length≤c0) (h:bt_.f k l0 a1=some r) :
  Calls Tryz.prog 60 #[.slice A0 l0.length c0,.int .i64 a1] w fun e w'=>e=.returned (.int .i64 r)∧Below w.heap.size w w':=by
 have hu130:=Tryz.underlying130;have v:=AM t;have B:=AM u;clear t u;have HB:=AM (Below.refl w.heap.size w);have H:(if (wrap64 (a1 - (l0.length:Int)))<0 then(some (-1)) else(bt_.l0 k l0 (wrap64 (a1 - (l0.length:Int))) 0))=some r:=h;clear h;by_cases c3:(wrap64 (a1 - (l0.length:Int)))<0
 ·rw[if_pos c3] at H;have x:=decide_eq_true c3;clear c3;obtain rfl:=Option.some.inj H;go_enter Tryz.func60,Tryz.ntmps60;go_wp2;go_ret;exact⟨TE,TB⟩
 ·rw[if_neg c3] at H;have x:=decide_eq_false c3;clear c3;have H':=AM H;clear H;go_enter Tryz.func60,Tryz.ntmps60;go_wp2;go_loopg [1,5] k (fun kq v1 v5 w'=>∃(g:Int) (c:Int),v1=.int .i64 g∧v5=.int .i64 c∧Aside0 (bt_.l0 kq l0 g c=some r)∧Aside0 (kq≤k)∧Aside0 (Below w.heap.size w w'))
  case atStart=>exact⟨(wrap64 (a1 - (l0.length:Int))),(0),TF,TF,H',⟨Nat.le_refl _⟩,⟨TB⟩⟩
  case round =>
   clear H';obtain⟨g,c,rfl,rfl,HA,HK1,HB⟩:=hrel
   cases gk with
   | zero=>exact absurd HA.out (by simp[bt_.l0])
   | succ k1 =>
    have H:=HA.out;clear HA;simp only[bt_.l0] at H;by_cases c4:c<(l0.length:Int)
    ·rw[if_pos c4] at H;have y:=decide_eq_true c4;clear c4;obtain⟨c5,H⟩:=ifn H;have A:=decide_eq_true c5;clear c5;obtain⟨l,A6,H⟩:=bnd H;by_cases c7:l<0
     ·rw[if_pos c7] at H;have z:=decide_eq_true c7;clear c7;obtain rfl:=Option.some.inj H;have i:0≤(c:Int):=TD;have j:c<(l0.length:Int):=TD;obtain⟨s,m,n,o,p,q⟩:=at_TLRecord (Kd.aq_ v.out HB.out) c i j;cases m;replace i:=eq_true i;replace j:=eq_true j;go_wp2_with (first|((with_reducible refine ac_ (f:=117) rfl ?_);refine goesL_ (some 23) rfl rfl Tryz.func117 KR rfl #[.agg #[.string ((aX_ l0 c).f0),.int .i64 ((aX_ l0 c).f1),.int .i64 ((aX_ l0 c).f2),.string ((aX_ l0 c).f3)],.int .i64 g] rfl TA ?_;(with_reducible refine(laws_szRecord.calls ((aX_ l0 c).f0) ((aX_ l0 c).f1) ((aX_ l0 c).f2) ((aX_ l0 c).f3) g l _ A6.out).mono ?_);rintro e w8 ⟨rfl,hb⟩;refine⟨_,rfl,?_⟩;replace HB:=BS hb;clear hb));go_ret;exact⟨TE,TB⟩
     ·rw[if_neg c7] at H;have z:=decide_eq_false c7;clear c7;have H':=AM H;clear H;have i:0≤(c:Int):=TD;have j:c<(l0.length:Int):=TD;obtain⟨s,m,n,o,p,q⟩:=at_TLRecord (Kd.aq_ v.out HB.out) c i j;cases m;replace i:=eq_true i;replace j:=eq_true j;go_wp2_with (first|((with_reducible refine ac_ (f:=117) rfl ?_);refine goesL_ (some 23) rfl rfl Tryz.func117 KR rfl #[.agg #[.string ((aX_ l0 c).f0),.int .i64 ((aX_ l0 c).f1),.int .i64 ((aX_ l0 c).f2),.string ((aX_ l0 c).f3)],.int .i64 g] rfl TA ?_;(with_reducible refine(laws_szRecord.calls ((aX_ l0 c).f0) ((aX_ l0 c).f1) ((aX_ l0 c).f2) ((aX_ l0 c).f3) g l _ A6.out).mono ?_);rintro e w9 ⟨rfl,hb⟩;refine⟨_,rfl,?_⟩;replace HB:=BS hb;clear hb));go_roundg k1
      case measure=>have:=HK1.out;omega
      case rel=>exact⟨(l),(wrap64 (c+1)),TF,TF,H',⟨TM⟩,⟨TB⟩⟩
    ·rw[if_neg c4] at H;have y:=decide_eq_false c4;clear c4;obtain rfl:=Option.some.inj H;go_wp2;go_ret;exact⟨TE,TB⟩
end
section
def laws_szEntry.f (k:Nat) (a0_0:ByteArray) (a0_1:Int) (a0_2:Bool) (l0_3:List (a8_)) (a0_4:Int) (a0_5:Int) (a1:Int):Option (Int):=if (wrap64 (a1 - (a0_0.size:Int)))<0 then(some (-1)) else((bt_.f k l0_3 (wrap64 (a1 - (a0_0.size:Int)))).bind fun t867=>(if t867<0 then(some (-1)) else(some t867)))
theorem laws_szEntry.calls (k:Nat) (i:ByteArray) (n:Int) (o:Bool) (j:Option Addr) (l:Nat) (c:List (a8_)) (p:Int) (q:Int) (a1:Int) (r:Int) (w:World) (s:Kd.C a1_ w j c.length c) (t:c.length≤l) (h:laws_szEntry.f k i n o c p q a1=some r) :
  Calls Tryz.prog 132 #[.agg #[.string i,.int .i64 n,.bool o,.slice j c.length l,.int .i64 p,.int .i64 q],.int .i64 a1] w fun e w'=>e=.returned (.int .i64 r)∧Below w.heap.size w w':=by
 have hu145:=Tryz.underlying145;have u:=AM s;have v:=AM t;clear s t;have HB:=AM (Below.refl w.heap.size w);have H:(if (wrap64 (a1 - (i.size:Int)))<0 then(some (-1)) else((bt_.f k c (wrap64 (a1 - (i.size:Int)))).bind fun m=>(if m<0 then(some (-1)) else(some m))))=some r:=h;clear h;by_cases c3:(wrap64 (a1 - (i.size:Int)))<0
 ·rw[if_pos c3] at H;have z:=decide_eq_true c3;clear c3;obtain rfl:=Option.some.inj H;go_enter Tryz.func132,Tryz.ntmps132;go_wp2_with (first|((with_reducible refine af_ (N:=2) rfl ?_);refine bE 2 #[.string i,.int .i64 n,.bool o,.slice j c.length l,.int .i64 p,.int .i64 q] 145 ?_;intro x hg w4 hbox hb;have g:=AM (hbox);have y:=bG hg;replace HB:=BS hb;clear hb hbox hg;have D:=cz6 g));go_ret;exact⟨TE,TB⟩
 ·rw[if_neg c3] at H;have z:=decide_eq_false c3;clear c3;obtain⟨m,A6,H⟩:=bnd H;by_cases c7:m<0
  ·rw[if_pos c7] at H;have A:=decide_eq_true c7;clear c7;obtain rfl:=Option.some.inj H;go_enter Tryz.func132,Tryz.ntmps132;go_wp2_with (first|((with_reducible refine af_ (N:=2) rfl ?_);refine bE 2 #[.string i,.int .i64 n,.bool o,.slice j c.length l,.int .i64 p,.int .i64 q] 145 ?_;intro x hg w8 hbox hb;have g:=AM (hbox);have y:=bG hg;replace HB:=BS hb;clear hb hbox hg;have E:=cz6 g)|((with_reducible refine ac_ (f:=60) rfl ?_);refine goesL_ (some 15) rfl rfl Tryz.func60 KR rfl #[.slice j c.length l,.int .i64 (wrap64 (a1 - (i.size:Int)))] rfl TA ?_;(with_reducible refine(bt_.calls k _ _ c (wrap64 (a1 - (i.size:Int))) m _ ?side1 ?side2 A6.out).mono ?_);(case side1=>exact CW ((Kd.aq_ u.out HB.out)));(case side2=>exact v.out);rintro e F ⟨rfl,hb⟩;refine⟨_,rfl,?_⟩;replace g:=KB g hb;replace HB:=BS hb;clear hb));go_ret;exact⟨TE,TB⟩
  ·rw[if_neg c7] at H;have A:=decide_eq_false c7;clear c7;obtain rfl:=Option.some.inj H;go_enter Tryz.func132,Tryz.ntmps132;go_wp2_with (first|((with_reducible refine af_ (N:=2) rfl ?_);refine bE 2 #[.string i,.int .i64 n,.bool o,.slice j c.length l,.int .i64 p,.int .i64 q] 145 ?_;intro x hg G hbox hb;have g:=AM (hbox);have y:=bG hg;replace HB:=BS hb;clear hb hbox hg;have B:=cz6 g)|((with_reducible refine ac_ (f:=60) rfl ?_);refine goesL_ (some 15) rfl rfl Tryz.func60 KR rfl #[.slice j c.length l,.int .i64 (wrap64 (a1 - (i.size:Int)))] rfl TA ?_;(with_reducible refine(bt_.calls k _ _ c (wrap64 (a1 - (i.size:Int))) m _ ?side1 ?side2 A6.out).mono ?_);(case side1=>exact CW ((Kd.aq_ u.out HB.out)));(case side2=>exact v.out);rintro e I ⟨rfl,hb⟩;refine⟨_,rfl,?_⟩;replace g:=KB g hb;replace HB:=BS hb;clear hb));go_ret;exact⟨TE,TB⟩
end
section
def bB_.l0:Nat→List (bg_)→Int→Int→Option (Int)
 | 0,_,_,_=>none
 | k+1,x0,x1,x5=>if x5<(x0.length:Int) then(if 0≤x5 then((laws_szEntry.f k ((aH_ x0 x5).f0) ((aH_ x0 x5).f1) ((aH_ x0 x5).f2) ((aH_ x0 x5).f3) ((aH_ x0 x5).f4) ((aH_ x0 x5).f5) x1).bind fun c=>(if c<0 then(some (-1)) else(bB_.l0 k x0 c (wrap64 (x5+1))))) else(none)) else(some x1)
def bB_.f (k:Nat) (l0:List (bg_)) (a1:Int):Option (Int):=if (wrap64 (a1 - (l0.length:Int)))<0 then(some (-1)) else(bB_.l0 k l0 (wrap64 (a1 - (l0.length:Int))) 0)
theorem bB_.calls (k:Nat) (A0:Option Addr) (c0:Nat) (l0:List (bg_)) (a1:Int) (r:Int) (w:World) (D:Kd.C bW_ w A0 l0.length l0) (E:l0.length≤c0) (h:bB_.f k l0 a1=some r) :
  Calls Tryz.prog 79 #[.slice A0 l0.length c0,.int .i64 a1] w fun e w'=>e=.returned (.int .i64 r)∧Below w.heap.size w w':=by
 have hu145:=Tryz.underlying145;have F:=AM D;have M:=AM E;clear D E;have HB:=AM (Below.refl w.heap.size w);have H:(if (wrap64 (a1 - (l0.length:Int)))<0 then(some (-1)) else(bB_.l0 k l0 (wrap64 (a1 - (l0.length:Int))) 0))=some r:=h;clear h;by_cases c3:(wrap64 (a1 - (l0.length:Int)))<0
 ·rw[if_pos c3] at H;have G:=decide_eq_true c3;clear c3;obtain rfl:=Option.some.inj H;go_enter Tryz.func79,Tryz.ntmps79;go_wp2;go_ret;exact⟨TE,TB⟩
 ·rw[if_neg c3] at H;have G:=decide_eq_false c3;clear c3;have H':=AM H;clear H;go_enter Tryz.func79,Tryz.ntmps79;go_wp2;go_loopg [1,5] k (fun kq v1 v5 w'=>∃(q:Int) (c:Int),v1=.int .i64 q∧v5=.int .i64 c∧Aside0 (bB_.l0 kq l0 q c=some r)∧Aside0 (kq≤k)∧Aside0 (Below w.heap.size w w'))
  case atStart=>exact⟨(wrap64 (a1 - (l0.length:Int))),(0),TF,TF,H',⟨Nat.le_refl _⟩,⟨TB⟩⟩
  case round =>
   clear H';obtain⟨q,c,rfl,rfl,HA,HK1,HB⟩:=hrel
   cases gk with
   | zero=>exact absurd HA.out (by simp[bB_.l0])
   | succ k1 =>
    have H:=HA.out;clear HA;simp only[bB_.l0] at H;by_cases c4:c<(l0.length:Int)
    ·rw[if_pos c4] at H;have I:=decide_eq_true c4;clear c4;obtain⟨c5,H⟩:=ifn H;have K:=decide_eq_true c5;clear c5;obtain⟨z,A6,H⟩:=bnd H;by_cases c7:z<0
     ·rw[if_pos c7] at H;have J:=decide_eq_true c7;clear c7;obtain rfl:=Option.some.inj H;have s:0≤(c:Int):=TD;have t:c<(l0.length:Int):=TD;obtain⟨B,x,y,A,g,i,j,l,m,n,o,p⟩:=at_TLEntry F.out c s t;cases A;replace g:=hBc HB g;replace i:=hBc HB i;replace j:=hBc HB j;replace l:=hBc HB l;replace m:=hBc HB m;replace n:=hBc HB n;have u:=AM p;have v:=AM o;clear p o;replace s:=eq_true s;replace t:=eq_true t;go_wp2_with (first|((with_reducible refine ac_ (f:=132) rfl ?_);refine goesL_ (some 23) rfl rfl Tryz.func132 KR rfl #[.agg #[.string ((aH_ l0 c).f0),.int .i64 ((aH_ l0 c).f1),.bool ((aH_ l0 c).f2),.slice x ((aH_ l0 c).f3).length y,.int .i64 ((aH_ l0 c).f4),.int .i64 ((aH_ l0 c).f5)],.int .i64 q] rfl TA ?_;(with_reducible refine(laws_szEntry.calls k1 ((aH_ l0 c).f0) ((aH_ l0 c).f1) ((aH_ l0 c).f2) _ _ ((aH_ l0 c).f3) ((aH_ l0 c).f4) ((aH_ l0 c).f5) q z _ ?side1 ?side2 A6.out).mono ?_);(case side1=>exact CW ((Kd.aq_ u.out HB.out)));(case side2=>exact v.out);rintro e w8 ⟨rfl,hb⟩;refine⟨_,rfl,?_⟩;replace HB:=BS hb;clear hb));go_ret;exact⟨TE,TB⟩
     ·rw[if_neg c7] at H;have J:=decide_eq_false c7;clear c7;have H':=AM H;clear H;have s:0≤(c:Int):=TD;have t:c<(l0.length:Int):=TD;obtain⟨B,x,y,A,g,i,j,l,m,n,o,p⟩:=at_TLEntry F.out c s t;cases A;replace g:=hBc HB g;replace i:=hBc HB i;replace j:=hBc HB j;replace l:=hBc HB l;replace m:=hBc HB m;replace n:=hBc HB n;have u:=AM p;have v:=AM o;clear p o;replace s:=eq_true s;replace t:=eq_true t;go_wp2_with (first|((with_reducible refine ac_ (f:=132) rfl ?_);refine goesL_ (some 23) rfl rfl Tryz.func132 KR rfl #[.agg #[.string ((aH_ l0 c).f0),.int .i64 ((aH_ l0 c).f1),.bool ((aH_ l0 c).f2),.slice x ((aH_ l0 c).f3).length y,.int .i64 ((aH_ l0 c).f4),.int .i64 ((aH_ l0 c).f5)],.int .i64 q] rfl TA ?_;(with_reducible refine(laws_szEntry.calls k1 ((aH_ l0 c).f0) ((aH_ l0 c).f1) ((aH_ l0 c).f2) _ _ ((aH_ l0 c).f3) ((aH_ l0 c).f4) ((aH_ l0 c).f5) q z _ ?side1 ?side2 A6.out).mono ?_);(case side1=>exact CW ((Kd.aq_ u.out HB.out)));(case side2=>exact v.out);rintro e w9 ⟨rfl,hb⟩;refine⟨_,rfl,?_⟩;replace HB:=BS hb;clear hb));go_roundg k1
      case measure=>have:=HK1.out;omega
      case rel=>exact⟨(z),(wrap64 (c+1)),TF,TF,H',⟨TM⟩,⟨TB⟩⟩
    ·rw[if_neg c4] at H;have I:=decide_eq_false c4;clear c4;obtain rfl:=Option.some.inj H;go_wp2;go_ret;exact⟨TE,TB⟩
end
section
def laws_szCache.f (k:Nat) (a0_0:Int) (l0_1:List (bg_)) (a1:Int):Option (Int):=(bB_.f k l0_1 a1).bind fun t871=>(if t871<0 then(some (-1)) else(some t871))
theorem laws_szCache.calls (k:Nat) (m:Int) (i:Option Addr) (j:Nat) (c:List (bg_)) (a1:Int) (r:Int) (w:World) (n:Kd.C bW_ w i c.length c) (o:c.length≤j) (h:laws_szCache.f k m c a1=some r) :
  Calls Tryz.prog 29 #[.agg #[.int .i64 m,.slice i c.length j],.int .i64 a1] w fun e w'=>e=.returned (.int .i64 r)∧Below w.heap.size w w':=by
 have hu49:=Tryz.underlying49;have p:=AM n;have q:=AM o;clear n o;have HB:=AM (Below.refl w.heap.size w);have H:((bB_.f k c a1).bind fun l=>(if l<0 then(some (-1)) else(some l)))=some r:=h;clear h;obtain⟨l,A3,H⟩:=bnd H;by_cases c4:l<0
 ·rw[if_pos c4] at H;have u:=decide_eq_true c4;clear c4;obtain rfl:=Option.some.inj H;go_enter Tryz.func29,Tryz.ntmps29;go_wp2_with (first|((with_reducible refine af_ (N:=2) rfl ?_);refine bE 2 #[.int .i64 m,.slice i c.length j] 49 ?_;intro s hg w5 hbox hb;have g:=AM (hbox);have t:=bG hg;replace HB:=BS hb;clear hb hbox hg;have v:=cz2 g)|((with_reducible refine ac_ (f:=79) rfl ?_);refine goesL_ (some 8) rfl rfl Tryz.func79 KR rfl #[.slice i c.length j,.int .i64 a1] rfl TA ?_;(with_reducible refine(bB_.calls k _ _ c a1 l _ ?side1 ?side2 A3.out).mono ?_);(case side1=>exact CW ((Kd.aq_ p.out HB.out)));(case side2=>exact q.out);rintro e w7 ⟨rfl,hb⟩;refine⟨_,rfl,?_⟩;replace g:=KB g hb;replace HB:=BS hb;clear hb));go_ret;exact⟨TE,TB⟩
 ·rw[if_neg c4] at H;have u:=decide_eq_false c4;clear c4;obtain rfl:=Option.some.inj H;go_enter Tryz.func29,Tryz.ntmps29;go_wp2_with (first|((with_reducible refine af_ (N:=2) rfl ?_);refine bE 2 #[.int .i64 m,.slice i c.length j] 49 ?_;intro s hg w8 hbox hb;have g:=AM (hbox);have t:=bG hg;replace HB:=BS hb;clear hb hbox hg;have x:=cz2 g)|((with_reducible refine ac_ (f:=79) rfl ?_);refine goesL_ (some 8) rfl rfl Tryz.func79 KR rfl #[.slice i c.length j,.int .i64 a1] rfl TA ?_;(with_reducible refine(bB_.calls k _ _ c a1 l _ ?side1 ?side2 A3.out).mono ?_);(case side1=>exact CW ((Kd.aq_ p.out HB.out)));(case side2=>exact q.out);rintro e y ⟨rfl,hb⟩;refine⟨_,rfl,?_⟩;replace g:=KB g hb;replace HB:=BS hb;clear hb));go_ret;exact⟨TE,TB⟩
end
section
def laws_toRecord.f (a0_0:ByteArray) (a0_1:Int) (a0_2:Int) (a0_3:ByteArray):Option (ByteArray × Int × Int × ByteArray):=some (a0_0,a0_1,a0_2,a0_3)
theorem laws_toRecord.calls (j:ByteArray) (l:Int) (m:Int) (n:ByteArray) (r1:ByteArray) (r2:Int) (r3:Int) (r4:ByteArray) (w:World) (h:laws_toRecord.f j l m n=some (r1,r2,r3,r4)) :
  Calls Tryz.prog 120 #[.agg #[.string j,.int .i64 l,.int .i64 m,.string n]] w fun e w'=>e=.returned (.agg #[.string r1,.int .i64 r2,.int .i64 r3,.string r4])∧Below w.heap.size w w':=by
 have hu130:=Tryz.underlying130;have hu93:=Tryz.underlying93;have HB:=AM (Below.refl w.heap.size w);have H:(some (j,l,m,n))=some (r1,r2,r3,r4):=h;clear h;simp only[Option.some.injEq,Prod.mk.injEq] at H;obtain⟨rfl,rfl,rfl,rfl⟩:=H;go_enter Tryz.func120,Tryz.ntmps120;go_wp2_with (first|((with_reducible refine af_ (N:=1) rfl ?_);refine bE 1 #[.string j,.int .i64 l,.int .i64 m,.string n] 130 ?_;intro x hg w2 hbox hb;have c:=AM (hbox);have y:=bG hg;replace HB:=BS hb;clear hb hbox hg)|((with_reducible refine af_ (N:=2) rfl ?_);refine bE 2 #[.string (⟨#[]⟩:ByteArray),.int .i64 0,.int .i64 0,.string (⟨#[]⟩:ByteArray)] 93 ?_;intro s hg w3 hbox hb;have i:=AM (hbox);have z:=bG hg;replace HB:=BS hb;have o:=bN c hg;have t:=bM c hg;replace c:=KB c hb;clear hb hbox hg)|((with_reducible refine af_ (N:=3) rfl ?_);refine bE 3 #[.string (⟨#[]⟩:ByteArray),.int .i64 0,.int .i64 0,.string (⟨#[]⟩:ByteArray)] 93 ?_;intro A hg w4 hbox hb;have u:=AM (hbox);have B:=bG hg;replace HB:=BS hb;have p:=bN c hg;have v:=bM c hg;replace c:=KB c hb;have g:=bN i hg;have q:=bM i hg;replace i:=KB i hb;clear hb hbox hg;obtain⟨D,E⟩:=nn o;obtain⟨F,G⟩:=nn p;have I:=cz4 c;obtain⟨J,K⟩:=nn q;have M:=cz4 u;have C:=cz4 i));refine bodyPost_ret (results_cell_row rfl _ _ s 93 #[.string j,.int .i64 l,.int .i64 m,.string n] (0,0) _ rfl (by(with_reducible repeat (first|refine ax_ ?_ _|refine aj_ ?_|refine as_ ?_ _));refine br_ (cs:=#[.string j,.int .i64 l,.int .i64 m,.string (⟨#[]⟩:ByteArray)]) ?_ 3 _ rfl;(with_reducible repeat (first|refine ax_ ?_ _|refine aj_ ?_|refine as_ ?_ _));refine br_ (cs:=#[.string j,.int .i64 l,.int .i64 0,.string (⟨#[]⟩:ByteArray)]) ?_ 2 _ rfl;(with_reducible repeat (first|refine ax_ ?_ _|refine aj_ ?_|refine as_ ?_ _));refine br_ (cs:=#[.string j,.int .i64 0,.int .i64 0,.string (⟨#[]⟩:ByteArray)]) ?_ 1 _ rfl;(with_reducible repeat (first|refine ax_ ?_ _|refine aj_ ?_|refine as_ ?_ _));refine br_ (cs:=#[.string (⟨#[]⟩:ByteArray),.int .i64 0,.int .i64 0,.string (⟨#[]⟩:ByteArray)]) ?_ 0 _ rfl;(with_reducible repeat (first|refine ax_ ?_ _|refine aj_ ?_|refine as_ ?_ _));refine bH_ ?_ g.out _;(with_reducible repeat (first|refine ax_ ?_ _|refine aj_ ?_|refine as_ ?_ _));refine bH_ ?_ g.out _;(with_reducible repeat (first|refine ax_ ?_ _|refine aj_ ?_|refine as_ ?_ _));refine bH_ ?_ g.out _;(with_reducible repeat (first|refine ax_ ?_ _|refine aj_ ?_|refine as_ ?_ _));refine bH_ ?_ g.out _;(with_reducible repeat (first|refine ax_ ?_ _|refine aj_ ?_|refine as_ ?_ _));exact i.out) Tryz.underlying93 rfl KR) rfl ?_;exact⟨TE,TB⟩
end
section
def bs_.l0:Nat→List (a8_)→List (ad_)→Int→Option ((List (ad_)))
 | 0,_,_,_=>none
 | k+1,x0,x3,x4=>if x4<(x0.length:Int) then(if 0≤x4 then((laws_toRecord.f ((aX_ x0 x4).f0) ((aX_ x0 x4).f1) ((aX_ x0 x4).f2) ((aX_ x0 x4).f3)).bind fun bt114=>(if x4<(x3.length:Int) then(bs_.l0 k x0 (x3.set (x4:Int).toNat (⟨bt114.1,bt114.2.1,bt114.2.2.1,bt114.2.2.2⟩:ad_)) (wrap64 (x4+1))) else(none))) else(none)) else(some x3)
def bs_.f (k:Nat) (l0:List (a8_)):Option ((List (ad_))):=if 0≤(l0.length:Int) then(if ((l0.length:Int):Int).toNat≤5864062014805 then(bs_.l0 k l0 (List.replicate ((l0.length:Int):Int).toNat ch_) 0) else(none)) else(none)
theorem bs_.calls (k:Nat) (A0:Option Addr) (c0:Nat) (l0:List (a8_)) (r:List (ad_)) (w:World) (X:Kd.C a1_ w A0 l0.length l0) (Y:l0.length≤c0) (h:bs_.f k l0=some r) :
  Calls Tryz.prog 64 #[.slice A0 l0.length c0] w fun e w'=>∃v0_:Value,e=.returned (v0_)∧Kd.R ar_ 93 w' w.heap.size (fun _=>True) v0_ r∧Below w.heap.size w w':=by
 have hu130:=Tryz.underlying130;have hu93:=Tryz.underlying93;have ak:=AM X;have au:=AM Y;clear X Y;have HB:=AM (Below.refl w.heap.size w);have H:(if 0≤(l0.length:Int) then(if ((l0.length:Int):Int).toNat≤5864062014805 then(bs_.l0 k l0 (List.replicate ((l0.length:Int):Int).toNat ch_) 0) else(none)) else(none))=some r:=h;clear h;obtain⟨c2,H⟩:=ifn H;have am:=eq_true c2;have an:=decide_eq_true c2;clear c2;obtain⟨c3,H⟩:=ifn H;have ao:=eq_true c3;have ap:=decide_eq_true c3;clear c3;obtain⟨I,l⟩:∃y_:List (ad_),y_=(List.replicate ((l0.length:Int):Int).toNat ch_):=⟨_,rfl⟩
 replace H:(bs_.l0 k l0 I 0)=some r:=by first|(rw[l];with_reducible exact H)|(have H2_:=(Option.bind_some _ _).symm.trans H;rw[l];with_reducible exact H2_)|(have H2_:=(Option.bind_some _ _).symm.trans H;with_reducible exact H2_)|with_reducible exact H|(rw[l];exact H)|exact H
 have Ny110:=AM l;clear l;have H':=AM H;clear H;go_enter Tryz.func64,Tryz.ntmps64;go_wp2_with (first|((with_reducible refine af_ (N:=7) rfl ?_);refine Kd.R_make ar_ _ 93 rfl (N:=7) rfl 27 _ _ rfl (l0.length:Int) rfl rfl Tryz.underlying27 (.agg #[(.string ⟨#[]⟩),(.int .i64 0),(.int .i64 0),(.string ⟨#[]⟩)]) 48 info93 rfl (by decide) (by omega) ch_ (ok:=fun _=>True) (okp:=fun _=>True) (k_Record_mkM _ _ _ ch_ ) (fun _ hk=>hk) trivial TD (Nat.le_trans (Nat.mul_le_mul_right _ (TD:(l0.length:Int).toNat≤5864062014805)) (by omega)) (Below.refl _ _) (Nat.le_refl _) ?_;intro Z w4 y hb hg_ hnew_;clear hg_ hnew_;(first|rw[←Ny110.out] at y|(simp only[Int.reduceToNat] at y;rw[←Ny110.out] at y));have O:=RL y;replace HB:=BS hb;clear hb y));go_loopg [4] k (fun kq v4 w'=>∃(g:List (ad_)) (c:Int),v4=.int .i64 c∧Aside0 (bs_.l0 kq l0 g c=some r)∧Aside0 (kq≤k)∧Aside0 (Kd.R ar_ 93 w' w.heap.size (fun _=>True) Z g)∧Aside0 (Below w.heap.size w w'))
 case atStart=>exact⟨(I),(0),TF,H',⟨Nat.le_refl _⟩,RW O,⟨TB⟩⟩
 case round =>
  clear H';obtain⟨g,c,rfl,HA,HK1,i,HB⟩:=hrel
  cases gk with
  | zero=>exact absurd HA.out (by simp[bs_.l0])
  | succ k1 =>
   have H:=HA.out;clear HA;simp only[bs_.l0] at H;by_cases c6:c<(l0.length:Int)
   ·rw[if_pos c6] at H;have aa:=decide_eq_true c6;clear c6;obtain⟨c7,H⟩:=ifn H;have aq:=decide_eq_true c7;clear c7;obtain⟨⟨o,q,s,u⟩,A8,H⟩:=bnd H
    try dsimp only at H
    obtain⟨c9,H⟩:=ifn H;have ar:=decide_eq_true c9;clear c9;obtain⟨z,m⟩:∃y_:List (ad_),y_=(g.set (c:Int).toNat (⟨o,q,s,u⟩:ad_)):=⟨_,rfl⟩
    replace H:(bs_.l0 k1 l0 z (wrap64 (c+1)))=some r:=by first|(rw[m];with_reducible exact H)|(have H2_:=(Option.bind_some _ _).symm.trans H;rw[m];with_reducible exact H2_)|(have H2_:=(Option.bind_some _ _).symm.trans H;with_reducible exact H2_)|with_reducible exact H|(rw[m];exact H)|exact H
    have Ny118:=AM m;clear m;have H':=AM H;clear H;have A:0≤(c:Int):=TD;have B:c<(l0.length:Int):=TD;obtain⟨al,ab,ac,ad,ae,af⟩:=at_TLRecord (Kd.aq_ ak.out HB.out) c A B;cases ab;replace A:=eq_true A;replace B:=eq_true B;go_wp2_with (first|((with_reducible refine ac_ (f:=120) rfl ?_);refine goesL_ (some 20) rfl rfl Tryz.func120 KR rfl #[.agg #[.string ((aX_ l0 c).f0),.int .i64 ((aX_ l0 c).f1),.int .i64 ((aX_ l0 c).f2),.string ((aX_ l0 c).f3)]] rfl TA ?_;(with_reducible refine(laws_toRecord.calls ((aX_ l0 c).f0) ((aX_ l0 c).f1) ((aX_ l0 c).f2) ((aX_ l0 c).f3) o q s u _ A8.out).mono ?_);rintro e n ⟨rfl,hb⟩;refine⟨_,rfl,?_⟩;replace i:=RB i hb;replace HB:=BS hb;clear hb;have U:0≤(c:Int):=TD;have V:(c:Int)<((g.length:Int):Int):=TD;obtain⟨go10,J,eo10,K,gl10,cl10,M⟩:=Kd.R_form i.out (by omega);(first|cases eo10|(injection eo10 with ea_ en_ ec_;(first|subst ea_|(injection ea_ with ea_;subst ea_));subst ec_;clear en_));have x:=AM K;have GG10:=AM M;clear K gl10 M;obtain⟨ce10,hcl10,hM10,hcc10,hfr10⟩:=Kd.R_elem i.out ch_ (c:Int) U V;obtain rfl:=cf_ hM10;have ag:n.cell? ⟨go10,(c:Int).toNat * 4,none⟩=some (.string ((aa_ g c).f0)):=hcc10 0 _ rfl;have ah:n.cell? ⟨go10,(c:Int).toNat * 4+1,none⟩=some (.int .i64 ((aa_ g c).f1)):=hcc10 1 _ rfl;have ai:n.cell? ⟨go10,(c:Int).toNat * 4+2,none⟩=some (.int .i64 ((aa_ g c).f2)):=hcc10 2 _ rfl;have aj:n.cell? ⟨go10,(c:Int).toNat * 4+3,none⟩=some (.string ((aa_ g c).f3)):=hcc10 3 _ rfl;have hf10_0:n.frozen? ⟨go10,(c:Int).toNat * 4,none⟩=false:=hfr10 0;have hf10_1:n.frozen? ⟨go10,(c:Int).toNat * 4+1,none⟩=false:=hfr10 1;have hf10_2:n.frozen? ⟨go10,(c:Int).toNat * 4+2,none⟩=false:=hfr10 2;have hf10_3:n.frozen? ⟨go10,(c:Int).toNat * 4+3,none⟩=false:=hfr10 3;clear hcl10 hcc10 hfr10 hM10;replace U:=eq_true U;replace V:=eq_true V;have HX12:=AM (show Kd.R ar_ 93 n w.heap.size (fun _=>True) (.slice (some ⟨go10,0,none⟩) g.length J) g from(RW i).out);obtain⟨ce12,hcl12,hM12,hcc12,hfr12⟩:=Kd.R_elem HX12.out ch_ (c:Int) TD (by have h_:(c:Int)<((g.length:Int):Int):=TD;first|exact h_|(have e_:=(Kd.aL_ i.out).1;omega)|simpa using h_);obtain rfl:=cf_ hM12;have HP12:=Kd.R_seg HX12.out (c:Int) TD (by have h_:(c:Int)<((g.length:Int):Int):=TD;first|exact h_|(have e_:=(Kd.aL_ i.out).1;omega)|simpa using h_) (seg:=[.string o,.int .i64 q,.int .i64 s,.string u]) (j:=0) hcl12 hcc12 (show 4≤4 from by decide) (x':=(⟨o,q,s,u⟩:ad_)) (k_Record_mkM _ _ _ (⟨o,q,s,u⟩:ad_) ) (fun _ hk=>hk);have D:=hcc12 0 _ rfl;(try simp only[show(ar_).sz=4 from rfl,Nat.mul_one,Nat.add_zero] at D);have hf12_0:=hfr12 0;(try simp only[show(ar_).sz=4 from rfl,Nat.mul_one,Nat.add_zero] at hf12_0);have E:=hcc12 1 _ rfl;(try simp only[show(ar_).sz=4 from rfl,Nat.mul_one,Nat.add_zero] at E);have hf12_1:=hfr12 1;(try simp only[show(ar_).sz=4 from rfl,Nat.mul_one,Nat.add_zero] at hf12_1);have F:=hcc12 2 _ rfl;(try simp only[show(ar_).sz=4 from rfl,Nat.mul_one,Nat.add_zero] at F);have hf12_2:=hfr12 2;(try simp only[show(ar_).sz=4 from rfl,Nat.mul_one,Nat.add_zero] at hf12_2);have G:=hcc12 3 _ rfl;(try simp only[show(ar_).sz=4 from rfl,Nat.mul_one,Nat.add_zero] at G);have hf12_3:=hfr12 3;(try simp only[show(ar_).sz=4 from rfl,Nat.mul_one,Nat.add_zero] at hf12_3);clear hcl12 hcc12 hfr12 hM12)|((with_reducible refine bN_ (t:=93) (p:=21) rfl ?_);refine bJ_ (t:=93) (p:=21) (v:=?vo_w13) (w1:=((((n.setCell ⟨go10,(c:Int).toNat * 4,none⟩ (.string o)).setCell ⟨go10,(c:Int).toNat * 4+1,none⟩ (.int .i64 q)).setCell ⟨go10,(c:Int).toNat * 4+2,none⟩ (.int .i64 s)).setCell ⟨go10,(c:Int).toNat * 4+3,none⟩ (.string u))) ?hg ?ho ?hn ?hr ?_;(case ho=>rfl);(case hg=>rfl);(case hn=>rfl);(case hr=>first|(go_simp;done)|(go_simp;rfl));intro W hw;have hg:n.grownBy W (some go10):=(by rw[hw];exact HP12.2);have hp_:Kd.R ar_ 93 W w.heap.size (fun _=>True) (.slice (some ⟨go10,0,none⟩) g.length J) z:=(by rw[hw,Ny118.out];exact HP12.1);clear HP12;replace i:=AM (hp_);replace HB:=AM ((by rw[hw];exact bx_ (bx_ (bx_ (bx_ (HB.out) x.out) x.out) x.out) x.out:Below w.heap.size w W));clear hg hw hp_));go_roundg k1
    case measure=>have:=HK1.out;omega
    case rel=>exact⟨(z),(wrap64 (c+1)),TF,H',⟨TM⟩,RW i,⟨TB⟩⟩
   ·rw[if_neg c6] at H;have aa:=decide_eq_false c6;clear c6;obtain rfl:=Option.some.inj H;go_wp2;go_ret;exact⟨_,TE,(RW i).out,TB⟩
end
section
def laws_toEntry.f (k:Nat) (a0_0:ByteArray) (a0_1:Int) (a0_2:Bool) (l0_3:List (a8_)) (a0_4:Int) (a0_5:Int):Option (ByteArray × Int × Bool × (List (ad_)) × Int × Int):=(bs_.f k l0_3).bind fun t875=>(some (a0_0,a0_1,a0_2,t875,a0_4,a0_5))
theorem laws_toEntry.calls (k:Nat) (i:ByteArray) (j:Int) (l:Bool) (D:Option Addr) (E:Nat) (o:List (a8_)) (q:Int) (t:Int) (r1:ByteArray) (r2:Int) (r3:Bool) (r4:List (ad_)) (r5:Int) (r6:Int) (w:World) (F:Kd.C a1_ w D o.length o) (G:o.length≤E) (h:laws_toEntry.f k i j l o q t=some (r1,r2,r3,r4,r5,r6)) :
  Calls Tryz.prog 135 #[.agg #[.string i,.int .i64 j,.bool l,.slice D o.length E,.int .i64 q,.int .i64 t]] w fun e w'=>∃v3_:Value,e=.returned (.agg #[.string r1,.int .i64 r2,.bool r3,v3_,.int .i64 r5,.int .i64 r6])∧Kd.R ar_ 93 w' w.heap.size (fun _=>True) v3_ r4∧Below w.heap.size w w':=by
 have hu145:=Tryz.underlying145;have hu107:=Tryz.underlying107;have J:=AM F;have K:=AM G;clear F G;have HB:=AM (Below.refl w.heap.size w);have H:((bs_.f k o).bind fun s=>(some (i,j,l,s,q,t)))=some (r1,r2,r3,r4,r5,r6):=h;clear h;obtain⟨s,A2,H⟩:=bnd H;simp only[Option.some.injEq,Prod.mk.injEq] at H;obtain⟨rfl,rfl,rfl,rfl,rfl,rfl⟩:=H;go_enter Tryz.func135,Tryz.ntmps135;go_wp2_with (first|((with_reducible refine af_ (N:=1) rfl ?_);refine bE 1 #[.string i,.int .i64 j,.bool l,.slice D o.length E,.int .i64 q,.int .i64 t] 145 ?_;intro V hg w3 hbox hb;have c:=AM (hbox);have W:=bG hg;replace HB:=BS hb;clear hb hbox hg)|((with_reducible refine af_ (N:=2) rfl ?_);refine bE 2 #[.string (⟨#[]⟩:ByteArray),.int .i64 0,.bool false,.slice none 0 0,.int .i64 0,.int .i64 0] 107 ?_;intro m hg w4 hbox hb;have g:=AM (hbox);have X:=bG hg;replace HB:=BS hb;have y:=bN c hg;have M:=bM c hg;replace c:=KB c hb;clear hb hbox hg)|((with_reducible refine af_ (N:=3) rfl ?_);refine bE 3 #[.string (⟨#[]⟩:ByteArray),.int .i64 0,.bool false,.slice none 0 0,.int .i64 0,.int .i64 0] 107 ?_;intro z hg w5 hbox hb;have u:=AM (hbox);have Y:=bG hg;replace HB:=BS hb;have A:=bN c hg;have O:=bM c hg;replace c:=KB c hb;have n:=bN g hg;have B:=bM g hg;replace g:=KB g hb;clear hb hbox hg;obtain⟨ad,ae⟩:=nn y;obtain⟨af,ag⟩:=nn A;have ah:=cz6 c;obtain⟨ai,aj⟩:=nn B;have Z:=cz6 u)|((with_reducible refine ac_ (f:=64) rfl ?_);refine goesL_ (some 15) rfl rfl Tryz.func64 KR rfl #[.slice D o.length E] rfl TA ?_;(with_reducible refine(bs_.calls k _ _ o s _ ?side1 ?side2 A2.out).mono ?_);(case side1=>exact Kd.aq_ J.out TB);(case side2=>exact K.out);rintro e al ⟨ak,rfl,U,hb⟩;refine⟨_,rfl,?_⟩;have I:=RL U;replace c:=KF c hb;replace g:=KF g hb;replace u:=KP u #[.string i,.int .i64 j,.bool l,.slice none 0 0,.int .i64 0,.int .i64 0] hb;replace HB:=BS hb;clear hb;(try clear U);obtain⟨v,x,eo12⟩:=Kd.bh_ I.out;subst eo12;have aa:=cz6 u;have ab:=cz6 c;have ac:=cz6 g));refine bodyPost_ret (results_cell_row rfl _ _ m 107 #[.string i,.int .i64 j,.bool l,.slice v s.length x,.int .i64 q,.int .i64 t] (0,0) _ rfl (by(with_reducible repeat (first|refine ax_ ?_ _|refine aj_ ?_|refine as_ ?_ _));refine br_ (cs:=#[.string i,.int .i64 j,.bool l,.slice v s.length x,.int .i64 q,.int .i64 0]) ?_ 5 _ rfl;(with_reducible repeat (first|refine ax_ ?_ _|refine aj_ ?_|refine as_ ?_ _));refine br_ (cs:=#[.string i,.int .i64 j,.bool l,.slice v s.length x,.int .i64 0,.int .i64 0]) ?_ 4 _ rfl;(with_reducible repeat (first|refine ax_ ?_ _|refine aj_ ?_|refine as_ ?_ _));refine br_ (cs:=#[.string i,.int .i64 j,.bool l,.slice none 0 0,.int .i64 0,.int .i64 0]) ?_ 3 _ rfl;(with_reducible repeat (first|refine ax_ ?_ _|refine aj_ ?_|refine as_ ?_ _));refine br_ (cs:=#[.string i,.int .i64 j,.bool false,.slice none 0 0,.int .i64 0,.int .i64 0]) ?_ 2 _ rfl;(with_reducible repeat (first|refine ax_ ?_ _|refine aj_ ?_|refine as_ ?_ _));refine br_ (cs:=#[.string i,.int .i64 0,.bool false,.slice none 0 0,.int .i64 0,.int .i64 0]) ?_ 1 _ rfl;(with_reducible repeat (first|refine ax_ ?_ _|refine aj_ ?_|refine as_ ?_ _));refine br_ (cs:=#[.string (⟨#[]⟩:ByteArray),.int .i64 0,.bool false,.slice none 0 0,.int .i64 0,.int .i64 0]) ?_ 0 _ rfl;(with_reducible repeat (first|refine ax_ ?_ _|refine aj_ ?_|refine as_ ?_ _));refine bH_ ?_ n.out _;(with_reducible repeat (first|refine ax_ ?_ _|refine aj_ ?_|refine as_ ?_ _));refine bH_ ?_ n.out _;(with_reducible repeat (first|refine ax_ ?_ _|refine aj_ ?_|refine as_ ?_ _));refine bH_ ?_ n.out _;(with_reducible repeat (first|refine ax_ ?_ _|refine aj_ ?_|refine as_ ?_ _));exact g.out) Tryz.underlying107 rfl KR) rfl ?_;exact⟨_,TE,by(with_reducible repeat (first|apply Kd.R_alloc|apply Kd.R_drewN|apply Kd.R_drew));exact Kd.bO_ (Kd.R_far (p:=⟨m,5,none⟩) (Kd.R_far (p:=⟨m,4,none⟩) (Kd.R_far (p:=⟨m,3,none⟩) (Kd.R_far (p:=⟨m,2,none⟩) (Kd.R_far (p:=⟨m,1,none⟩) (Kd.R_far (p:=⟨m,0,none⟩) (Kd.R_far (p:=⟨z,5,none⟩) (Kd.R_far (p:=⟨z,4,none⟩) (Kd.R_far (p:=⟨z,3,none⟩) (Kd.R_types (Kd.R_types I.out u.out (by decide)) g.out (by decide)) (fun _ hk=>hk.1.2) (.slice v s.length x)) (fun _ hk=>hk.1.2) (.int .i64 q)) (fun _ hk=>hk.1.2) (.int .i64 t)) (fun _ hk=>hk.2) (.string i)) (fun _ hk=>hk.2) (.int .i64 j)) (fun _ hk=>hk.2) (.bool l)) (fun _ hk=>hk.2) (.slice v s.length x)) (fun _ hk=>hk.2) (.int .i64 q)) (fun _ hk=>hk.2) (.int .i64 t)) (fun _ hk=>trivial),TB⟩
end
section
def bC_.l0:Nat→List (bg_)→List (ae_)→Int→Option ((List (ae_)))
 | 0,_,_,_=>none
 | k+1,x0,x3,x4=>if x4<(x0.length:Int) then(if 0≤x4 then((laws_toEntry.f k ((aH_ x0 x4).f0) ((aH_ x0 x4).f1) ((aH_ x0 x4).f2) ((aH_ x0 x4).f3) ((aH_ x0 x4).f4) ((aH_ x0 x4).f5)).bind fun bt882=>(if x4<(x3.length:Int) then(bC_.l0 k x0 (x3.set (x4:Int).toNat (⟨bt882.1,bt882.2.1,bt882.2.2.1,bt882.2.2.2.1,bt882.2.2.2.2.1,bt882.2.2.2.2.2⟩:ae_)) (wrap64 (x4+1))) else(none))) else(none)) else(some x3)
def bC_.f (k:Nat) (l0:List (bg_)):Option ((List (ae_))):=if 0≤(l0.length:Int) then(if ((l0.length:Int):Int).toNat≤3909374676536 then(bC_.l0 k l0 (List.replicate ((l0.length:Int):Int).toNat bS_) 0) else(none)) else(none)
theorem bC_.calls (k:Nat) (A0:Option Addr) (c0:Nat) (l0:List (bg_)) (r:List (ae_)) (w:World) (aq:Kd.C bW_ w A0 l0.length l0) (ar:l0.length≤c0) (h:bC_.f k l0=some r) :
  Calls Tryz.prog 85 #[.slice A0 l0.length c0] w fun e w'=>∃v0_:Value,e=.returned (v0_)∧Kd.S aB_ 107 w' w.heap.size (fun _=>True) v0_ r∧Below w.heap.size w w':=by
 have hu145:=Tryz.underlying145;have hu107:=Tryz.underlying107;have aD:=AM aq;have aM:=AM ar;clear aq ar;have HB:=AM (Below.refl w.heap.size w);have H:(if 0≤(l0.length:Int) then(if ((l0.length:Int):Int).toNat≤3909374676536 then(bC_.l0 k l0 (List.replicate ((l0.length:Int):Int).toNat bS_) 0) else(none)) else(none))=some r:=h;clear h;obtain⟨c2,H⟩:=ifn H;have aF:=eq_true c2;have aG:=decide_eq_true c2;clear c2;obtain⟨c3,H⟩:=ifn H;have aH:=eq_true c3;have aI:=decide_eq_true c3;clear c3;obtain⟨ah,n⟩:∃y_:List (ae_),y_=(List.replicate ((l0.length:Int):Int).toNat bS_):=⟨_,rfl⟩
 replace H:(bC_.l0 k l0 ah 0)=some r:=by first|(rw[n];with_reducible exact H)|(have H2_:=(Option.bind_some _ _).symm.trans H;rw[n];with_reducible exact H2_)|(have H2_:=(Option.bind_some _ _).symm.trans H;with_reducible exact H2_)|with_reducible exact H|(rw[n];exact H)|exact H
 have Ny878:=AM n;clear n;have H':=AM H;clear H;go_enter Tryz.func85,Tryz.ntmps85;go_wp2_with (first|((with_reducible refine af_ (N:=7) rfl ?_);refine Kd.S_make aB_ _ 107 rfl (N:=7) rfl 52 _ _ rfl (l0.length:Int) rfl rfl Tryz.underlying52 (.agg #[(.string ⟨#[]⟩),(.int .i64 0),(.bool false),(.slice none 0 0),(.int .i64 0),(.int .i64 0)]) 72 info107 rfl (by decide) (by omega) bS_ (ok:=fun _=>True) (okp:=fun _=>True) (cx_ _ _ _ bS_ (Kd.R_nil _ _ _ _ _)) (fun _ hk=>hk) trivial TD (Nat.le_trans (Nat.mul_le_mul_right _ (TD:(l0.length:Int).toNat≤3909374676536)) (by omega)) (Below.refl _ _) (Nat.le_refl _) ?_;intro au w4 R hb hg_ hnew_;clear hg_ hnew_;(first|rw[←Ny878.out] at R|(simp only[Int.reduceToNat] at R;rw[←Ny878.out] at R));have al:=AM (Kd.S_lower R (c_ TB));replace HB:=BS hb;clear hb R));go_loopg [4] k (fun kq v4 w'=>∃(i:List (ae_)) (c:Int),v4=.int .i64 c∧Aside0 (bC_.l0 kq l0 i c=some r)∧Aside0 (kq≤k)∧Aside0 (Kd.S aB_ 107 w' w.heap.size (fun _=>True) au i)∧Aside0 (Below w.heap.size w w'))
 case atStart=>exact⟨(ah),(0),TF,H',⟨Nat.le_refl _⟩,⟨by(with_reducible repeat (first|apply Kd.cC_|apply Kd.cF_|apply Kd.cv_));exact al.out⟩,⟨TB⟩⟩
 case round =>
  clear H';obtain⟨i,c,rfl,HA,HK1,g,HB⟩:=hrel
  cases gk with
  | zero=>exact absurd HA.out (by simp[bC_.l0])
  | succ k1 =>
   have H:=HA.out;clear HA;simp only[bC_.l0] at H;by_cases c6:c<(l0.length:Int)
   ·rw[if_pos c6] at H;have av:=decide_eq_true c6;clear c6;obtain⟨c7,H⟩:=ifn H;have aJ:=decide_eq_true c7;clear c7;obtain⟨⟨q,s,u,m,x,y⟩,A8,H⟩:=bnd H
    try dsimp only at H
    obtain⟨c9,H⟩:=ifn H;have aK:=decide_eq_true c9;clear c9;obtain⟨U,o⟩:∃y_:List (ae_),y_=(i.set (c:Int).toNat (⟨q,s,u,m,x,y⟩:ae_)):=⟨_,rfl⟩
    replace H:(bC_.l0 k1 l0 U (wrap64 (c+1)))=some r:=by first|(rw[o];with_reducible exact H)|(have H2_:=(Option.bind_some _ _).symm.trans H;rw[o];with_reducible exact H2_)|(have H2_:=(Option.bind_some _ _).symm.trans H;with_reducible exact H2_)|with_reducible exact H|(rw[o];exact H)|exact H
    have Ny890:=AM o;clear o;have H':=AM H;clear H;have V:0≤(c:Int):=TD;have W:c<(l0.length:Int):=TD;obtain⟨aE,Z,aa,aw,B,D,E,F,G,I,J,K⟩:=at_TLEntry aD.out c V W;cases aw;replace B:=hBc HB B;replace D:=hBc HB D;replace E:=hBc HB E;replace F:=hBc HB F;replace G:=hBc HB G;replace I:=hBc HB I;have X:=AM K;have Y:=AM J;clear K J;replace V:=eq_true V;replace W:=eq_true W;go_wp2_with (first|((with_reducible refine ac_ (f:=135) rfl ?_);refine goesL_ (some 20) rfl rfl Tryz.func135 KR rfl #[.agg #[.string ((aH_ l0 c).f0),.int .i64 ((aH_ l0 c).f1),.bool ((aH_ l0 c).f2),.slice Z ((aH_ l0 c).f3).length aa,.int .i64 ((aH_ l0 c).f4),.int .i64 ((aH_ l0 c).f5)]] rfl TA ?_;(with_reducible refine(laws_toEntry.calls k1 ((aH_ l0 c).f0) ((aH_ l0 c).f1) ((aH_ l0 c).f2) _ _ ((aH_ l0 c).f3) ((aH_ l0 c).f4) ((aH_ l0 c).f5) q s u m x y _ ?side1 ?side2 A8.out).mono ?_);(case side1=>exact CW ((Kd.aq_ X.out HB.out)));(case side2=>exact Y.out);rintro e l ⟨aL,rfl,am,hb⟩;refine⟨_,rfl,?_⟩;replace g:=AM (Kd.S_elder' (by(with_reducible repeat (first|apply Kd.cC_|apply Kd.cF_|apply Kd.cv_));exact g.out) (Kd.R_base am) hb);have A:=RL am;replace HB:=BS hb;clear hb;(try clear am);have an:0≤(c:Int):=TD;have ao:(c:Int)<((i.length:Int):Int):=TD;obtain⟨go10,ai,eo10,aj,gl10,cl10,ak⟩:=Kd.S_form g.out (by omega);(first|cases eo10|(injection eo10 with ea_ en_ ec_;(first|subst ea_|(injection ea_ with ea_;subst ea_));subst ec_;clear en_));have z:=AM aj;have GG10:=AM ak;clear aj gl10 ak;obtain⟨_,ce10,hcl10,hM10,hcc10,hfr10,_,_⟩:=Kd.S_elem g.out bS_ (c:Int) an ao;obtain⟨ve10_3,rfl,ge10_3⟩:=bR_ hM10;have ax:l.cell? ⟨go10,(c:Int).toNat * 6,none⟩=some (.string ((a_ i c).f0)):=hcc10 0 _ rfl;have ay:l.cell? ⟨go10,(c:Int).toNat * 6+1,none⟩=some (.int .i64 ((a_ i c).f1)):=hcc10 1 _ rfl;have az:l.cell? ⟨go10,(c:Int).toNat * 6+2,none⟩=some (.bool ((a_ i c).f2)):=hcc10 2 _ rfl;have aA:l.cell? ⟨go10,(c:Int).toNat * 6+3,none⟩=some (ve10_3):=hcc10 3 _ rfl;have aB:l.cell? ⟨go10,(c:Int).toNat * 6+4,none⟩=some (.int .i64 ((a_ i c).f4)):=hcc10 4 _ rfl;have aC:l.cell? ⟨go10,(c:Int).toNat * 6+5,none⟩=some (.int .i64 ((a_ i c).f5)):=hcc10 5 _ rfl;have hf10_0:l.frozen? ⟨go10,(c:Int).toNat * 6,none⟩=false:=hfr10 0;have hf10_1:l.frozen? ⟨go10,(c:Int).toNat * 6+1,none⟩=false:=hfr10 1;have hf10_2:l.frozen? ⟨go10,(c:Int).toNat * 6+2,none⟩=false:=hfr10 2;have hf10_3:l.frozen? ⟨go10,(c:Int).toNat * 6+3,none⟩=false:=hfr10 3;have hf10_4:l.frozen? ⟨go10,(c:Int).toNat * 6+4,none⟩=false:=hfr10 4;have hf10_5:l.frozen? ⟨go10,(c:Int).toNat * 6+5,none⟩=false:=hfr10 5;clear hcl10 hcc10 hfr10 hM10;replace an:=eq_true an;replace ao:=eq_true ao;obtain⟨M,O,eo14⟩:=Kd.bh_ A.out;subst eo14;have n_:=AM (Kd.b7_ (ok':=(fun k_=>some k_≠(.slice M m.length O:Value).ownBlock)) g.out (fun k_ hk=>hk.2));clear g;have g:=n_;clear n_;have HX12:=AM (show Kd.S aB_ 107 l w.heap.size (fun k_=>((fun _=>True)) k_∧¬((fun k_=>some k_=(.slice M m.length O:Value).ownBlock)) k_) (.slice (some ⟨go10,0,none⟩) i.length ai) i from(by(with_reducible repeat (first|apply Kd.cC_|apply Kd.cF_|apply Kd.cv_));exact Kd.b7_ g.out (fun k_ hk=>⟨trivial,fun e_=>hk e_⟩)));obtain⟨oki12,ce12,hcl12,hM12,hcc12,hfr12,hoki12,hH12⟩:=Kd.S_elem HX12.out bS_ (c:Int) TD (by have h_:(c:Int)<((i.length:Int):Int):=TD;first|exact h_|(have e_:=(Kd.bT_ g.out).1;omega)|simpa using h_);obtain⟨ve12_3,rfl,ge12_3⟩:=bR_ hM12;have HP12:=Kd.S_seg hH12 TD (by have h_:(c:Int)<((i.length:Int):Int):=TD;first|exact h_|(have e_:=(Kd.bT_ g.out).1;omega)|simpa using h_) (seg:=[.string q,.int .i64 s,.bool u,.slice M m.length O,.int .i64 x,.int .i64 y]) (j:=0) (show 6≤6 from by decide) (x':=(⟨q,s,u,m,x,y⟩:ae_)) (cx_ _ _ _ (⟨q,s,u,m,x,y⟩:ae_) (Kd.bO_ (Kd.R_tight rfl (Kd.bO_ (ok':=fun k_=>((fun _=>True)) k_∧k_≠go10) (Kd.R_apart' (A.out) (Kd.S_typed g.out) (by decide)) (fun k_ hk=>⟨trivial,fun e_=>(hk.2) (by rw[e_];rfl)⟩))) (fun _ h_=>Or.inr (h_)))) (fun _ hk=>hk) (fun k_ hk_=>((Kd.bO_ (ok':=fun k_=>((fun _=>True)) k_∧k_≠go10) (Kd.R_apart' (A.out) (Kd.S_typed g.out) (by decide)) (fun k_ hk=>⟨trivial,fun e_=>(hk.2) (by rw[e_];rfl)⟩))).1 k_ hk_.symm);have ab:=hcc12 0 _ rfl;(try simp only[show(aB_).sz=6 from rfl,Nat.mul_one,Nat.add_zero] at ab);have hf12_0:=hfr12 0;(try simp only[show(aB_).sz=6 from rfl,Nat.mul_one,Nat.add_zero] at hf12_0);have ac:=hcc12 1 _ rfl;(try simp only[show(aB_).sz=6 from rfl,Nat.mul_one,Nat.add_zero] at ac);have hf12_1:=hfr12 1;(try simp only[show(aB_).sz=6 from rfl,Nat.mul_one,Nat.add_zero] at hf12_1);have ad:=hcc12 2 _ rfl;(try simp only[show(aB_).sz=6 from rfl,Nat.mul_one,Nat.add_zero] at ad);have hf12_2:=hfr12 2;(try simp only[show(aB_).sz=6 from rfl,Nat.mul_one,Nat.add_zero] at hf12_2);have ae:=hcc12 3 _ rfl;(try simp only[show(aB_).sz=6 from rfl,Nat.mul_one,Nat.add_zero] at ae);have hf12_3:=hfr12 3;(try simp only[show(aB_).sz=6 from rfl,Nat.mul_one,Nat.add_zero] at hf12_3);have af:=hcc12 4 _ rfl;(try simp only[show(aB_).sz=6 from rfl,Nat.mul_one,Nat.add_zero] at af);have hf12_4:=hfr12 4;(try simp only[show(aB_).sz=6 from rfl,Nat.mul_one,Nat.add_zero] at hf12_4);have ag:=hcc12 5 _ rfl;(try simp only[show(aB_).sz=6 from rfl,Nat.mul_one,Nat.add_zero] at ag);have hf12_5:=hfr12 5;(try simp only[show(aB_).sz=6 from rfl,Nat.mul_one,Nat.add_zero] at hf12_5);clear hcl12 hcc12 hfr12 hM12 hoki12 hH12)|((with_reducible refine bN_ (t:=107) (p:=21) rfl ?_);refine bJ_ (t:=107) (p:=21) (v:=?vo_w13) (w1:=((((((l.setCell ⟨go10,(c:Int).toNat * 6,none⟩ (.string q)).setCell ⟨go10,(c:Int).toNat * 6+1,none⟩ (.int .i64 s)).setCell ⟨go10,(c:Int).toNat * 6+2,none⟩ (.bool u)).setCell ⟨go10,(c:Int).toNat * 6+3,none⟩ (.slice M m.length O)).setCell ⟨go10,(c:Int).toNat * 6+4,none⟩ (.int .i64 x)).setCell ⟨go10,(c:Int).toNat * 6+5,none⟩ (.int .i64 y))) ?hg ?ho ?hn ?hr ?_;(case ho=>rfl);(case hg=>rfl);(case hn=>rfl);(case hr=>first|(go_simp;done)|(go_simp;rfl));intro ap hw;have hg:l.grownBy ap (some go10):=(by rw[hw];exact HP12.2);have hp_:Kd.S aB_ 107 ap w.heap.size (fun _=>True) (.slice (some ⟨go10,0,none⟩) i.length ai) U:=(by rw[hw,Ny890.out];exact HP12.1);clear HP12;have n0_:=AM (hp_);have n1_:=AM ((by rw[hw];exact bx_ (bx_ (bx_ (bx_ (bx_ (bx_ (HB.out) z.out) z.out) z.out) z.out) z.out) z.out:Below w.heap.size w ap));clear g HB A;have g:=n0_;have HB:=n1_;clear n0_ n1_ hg hw hp_));go_roundg k1
    case measure=>have:=HK1.out;omega
    case rel=>exact⟨(U),(wrap64 (c+1)),TF,H',⟨TM⟩,⟨by(with_reducible repeat (first|apply Kd.cC_|apply Kd.cF_|apply Kd.cv_));exact g.out⟩,⟨TB⟩⟩
   ·rw[if_neg c6] at H;have av:=decide_eq_false c6;clear c6;obtain rfl:=Option.some.inj H;go_wp2;go_ret;exact⟨_,TE,by(with_reducible repeat (first|apply Kd.cC_|apply Kd.cF_|apply Kd.cv_));exact g.out,TB⟩
end
section
def laws_toCache.f (k:Nat) (a0_0:Int) (l0_1:List (bg_)):Option (Int × (List (ae_))):=(bC_.f k l0_1).bind fun t894=>(some (a0_0,t894))
theorem laws_toCache.calls (k:Nat) (j:Int) (u:Option Addr) (v:Nat) (i:List (bg_)) (r1:Int) (r2:List (ae_)) (w:World) (x:Kd.C bW_ w u i.length i) (y:i.length≤v) (h:laws_toCache.f k j i=some (r1,r2)) :
  Calls Tryz.prog 31 #[.agg #[.int .i64 j,.slice u i.length v]] w fun e w'=>∃v1_:Value,e=.returned (.agg #[.int .i64 r1,v1_])∧Kd.S aB_ 107 w' w.heap.size (fun _=>True) v1_ r2∧Below w.heap.size w w':=by
 have hu49:=Tryz.underlying49;have hu54:=Tryz.underlying54;have D:=AM x;have E:=AM y;clear x y;have HB:=AM (Below.refl w.heap.size w);have H:((bC_.f k i).bind fun m=>(some (j,m)))=some (r1,r2):=h;clear h;obtain⟨m,A2,H⟩:=bnd H;simp only[Option.some.injEq,Prod.mk.injEq] at H;obtain⟨rfl,rfl⟩:=H;go_enter Tryz.func31,Tryz.ntmps31;go_wp2_with (first|((with_reducible refine af_ (N:=1) rfl ?_);refine bE 1 #[.int .i64 j,.slice u i.length v] 49 ?_;intro K hg w3 hbox hb;have c:=AM (hbox);have M:=bG hg;replace HB:=BS hb;clear hb hbox hg)|((with_reducible refine af_ (N:=2) rfl ?_);refine bE 2 #[.int .i64 0,.slice none 0 0] 54 ?_;intro n hg w4 hbox hb;have g:=AM (hbox);have O:=bG hg;replace HB:=BS hb;have o:=bN c hg;have F:=bM c hg;replace c:=KB c hb;clear hb hbox hg)|((with_reducible refine af_ (N:=3) rfl ?_);refine bE 3 #[.int .i64 0,.slice none 0 0] 54 ?_;intro G hg w5 hbox hb;have l:=AM (hbox);have R:=bG hg;replace HB:=BS hb;have q:=bN c hg;have I:=bM c hg;replace c:=KB c hb;have s:=bN g hg;have t:=bM g hg;replace g:=KB g hb;clear hb hbox hg;obtain⟨X,Y⟩:=nn o;obtain⟨Z,aa⟩:=nn q;have ab:=cz2 c;obtain⟨ac,ad⟩:=nn t;have U:=cz2 l)|((with_reducible refine ac_ (f:=85) rfl ?_);refine goesL_ (some 9) rfl rfl Tryz.func85 KR rfl #[.slice u i.length v] rfl TA ?_;(with_reducible refine(bC_.calls k _ _ i m _ ?side1 ?side2 A2.out).mono ?_);(case side1=>exact Kd.aq_ D.out TB);(case side2=>exact E.out);rintro e af ⟨ae,rfl,J,hb⟩;refine⟨_,rfl,?_⟩;have z:=AM (Kd.S_lower J (c_ TB));replace c:=KF c hb;replace g:=KF g hb;replace l:=KP l #[.int .i64 j,.slice none 0 0] hb;replace HB:=BS hb;clear hb;(try clear J);obtain⟨A,B,eo12⟩:=Kd.S_slice z.out;subst eo12;have V:=cz2 l;have W:=cz2 g));refine bodyPost_ret (results_cell_row rfl _ _ n 54 #[.int .i64 j,.slice A m.length B] (0,0) _ rfl (by(with_reducible repeat (first|refine ax_ ?_ _|refine aj_ ?_|refine as_ ?_ _));refine br_ (cs:=#[.int .i64 j,.slice none 0 0]) ?_ 1 _ rfl;(with_reducible repeat (first|refine ax_ ?_ _|refine aj_ ?_|refine as_ ?_ _));refine br_ (cs:=#[.int .i64 0,.slice none 0 0]) ?_ 0 _ rfl;(with_reducible repeat (first|refine ax_ ?_ _|refine aj_ ?_|refine as_ ?_ _));refine bH_ ?_ s.out _;(with_reducible repeat (first|refine ax_ ?_ _|refine aj_ ?_|refine as_ ?_ _));exact g.out) Tryz.underlying54 rfl KR) rfl ?_;exact⟨_,TE,by(with_reducible repeat (first|apply Kd.cC_|apply Kd.cF_|apply Kd.cv_));exact Kd.b7_ (Kd.S_far (p:=⟨n,1,none⟩) (Kd.S_far (p:=⟨n,0,none⟩) (Kd.S_far (p:=⟨G,1,none⟩) (Kd.S_types (Kd.S_types z.out l.out (by decide)) g.out (by decide)) (fun _ hk=>hk.1.2) (.slice A m.length B)) (fun _ hk=>hk.2) (.int .i64 j)) (fun _ hk=>hk.2) (.slice A m.length B)) (fun _ hk=>trivial),TB⟩
end
section
def a9_.l0:Nat→ByteArray→Int→List ByteArray→Int→Int→Option (List ByteArray)
 | 0,_,_,_,_,_=>none
 | k+1,x0,x1,x5,x6,x7=>if x7<(x0.size:Int) then(if 0≤x7 then(if (bt x0 x7)=x1 then(if 0≤x6 then(if x6≤x7 then(if x7≤(x0.size:Int) then(if x5.length<8796093022208 then(a9_.l0 k x0 x1 (x5++[x0.extract (x6:Int).toNat (x7:Int).toNat]) (wrap64 (x7+1)) (wrap64 (x7+1))) else(none)) else(none)) else(none)) else(none)) else(a9_.l0 k x0 x1 x5 x6 (wrap64 (x7+1)))) else(none)) else(if 0≤x6 then(if x6≤(x0.size:Int) then(if x5.length<8796093022208 then(some (x5++[x0.extract (x6:Int).toNat x0.size])) else(none)) else(none)) else(none))
def a9_.f (k:Nat) (a0:ByteArray) (a1:Int):Option (List ByteArray):=a9_.l0 k a0 a1 ([]:List ByteArray) 0 0
theorem a9_.calls (k:Nat) (a0:ByteArray) (a1:Int) (r:List ByteArray) (w:World) (h:a9_.f k a0 a1=some r) :
  Calls Tryz.prog 164 #[.string a0,.int .u8 a1] w fun e w'=>∃v0_:Value,e=.returned (v0_)∧Kd.R Kd.string 9 w' w.heap.size (fun _=>True) v0_ r∧Below w.heap.size w w':=by
 have HB:=AM (Below.refl w.heap.size w);have H:(a9_.l0 k a0 a1 ([]:List ByteArray) 0 0)=some r:=h;clear h;have H':=AM H;clear H;go_enter Tryz.func164,Tryz.ntmps164;go_wp2;go_loopg [5,6,7] k (fun kq v5 v6 v7 w'=>∃(i:List ByteArray) (g:Int) (c:Int),v6=.int .i64 g∧v7=.int .i64 c∧Aside0 (a9_.l0 kq a0 a1 i g c=some r)∧Aside0 (kq≤k)∧Aside0 (Kd.R Kd.string 9 w' w.heap.size (fun _=>True) v5 i)∧Aside0 (Below w.heap.size w w'))
 case atStart=>exact⟨(([]:List ByteArray)),(0),(0),TF,TF,H',⟨Nat.le_refl _⟩,⟨TZ⟩,⟨TB⟩⟩
 case round =>
  clear H';obtain⟨i,g,c,rfl,rfl,HA,HK1,m,HB⟩:=hrel
  cases gk with
  | zero=>exact absurd HA.out (by simp[a9_.l0])
  | succ k1 =>
   have H:=HA.out;clear HA;simp only[a9_.l0] at H;by_cases c3:c<(a0.size:Int)
   ·rw[if_pos c3] at H;have t:=decide_eq_true c3;clear c3;obtain⟨c4,H⟩:=ifn H;have E:=decide_eq_true c4;clear c4;by_cases c6:(bt a0 c)=a1
    ·rw[if_pos c6] at H;have u:=beq_iff_eq.mpr c6;have v:=bne_eq_false_iff_eq.mpr c6;clear c6;obtain⟨c7,H⟩:=ifn H;have F:=eq_true c7;have G:=decide_eq_true c7;clear c7;obtain⟨c8,H⟩:=ifn H;have I:=eq_true c8;have J:=decide_eq_true c8;clear c8;obtain⟨c9,H⟩:=ifn H;have K:=eq_true c9;have M:=decide_eq_true c9;clear c9;obtain⟨c10,H⟩:=ifn H;have LMc10:=AM c10;clear c10;obtain⟨n,j⟩:∃y_:List ByteArray,y_=(i++[a0.extract (g:Int).toNat (c:Int).toNat]):=⟨_,rfl⟩
     replace H:(a9_.l0 k1 a0 a1 n (wrap64 (c+1)) (wrap64 (c+1)))=some r:=by first|(rw[j];with_reducible exact H)|(have H2_:=(Option.bind_some _ _).symm.trans H;rw[j];with_reducible exact H2_)|(have H2_:=(Option.bind_some _ _).symm.trans H;with_reducible exact H2_)|with_reducible exact H|(rw[j];exact H)|exact H
     have Ny129:=AM j;clear j;have H':=AM H;clear H;have p5:0≤(c:Int):=TD;have q5:c<(a0.size:Int):=TD;have z:=ca_ a0 c;replace p5:=eq_true p5;replace q5:=eq_true q5;go_wp2_with (first|((with_reducible refine gate_builtin (b:=.append) (xs:=#[.tmp 19,.tmp 24]) rfl ?_);at_builtin;refine Kd.R_append Kd.string (w0:=w) w.heap.size rfl (.tmp 19) (.tmp 24) 138 9 (.string ⟨#[]⟩) 16 rfl Tryz.underlying138 info9 rfl (by decide) (by omega) u5 i (a0.extract (g:Int).toNat (c:Int).toNat) [.string (a0.extract (g:Int).toNat (c:Int).toNat)] (fun _=>True) (fun _=>False) rfl rfl ?aP (fun _ hk=>hk.elim) ?aF ?aO ?aB ?aS ?aL ?_;(case aP=>exact rfl);(case aB=>exact TB);(case aF=>exact(fun _ _=>trivial));(case aO=>exact(RW m).out);(case aS=>exact(c_ TB));(case aL=>have:=LMc10.out;omega);intro N U ho hb hg hat;rw[←Ny129.out] at ho;have n0_:=AM (hb);have n1_:=AM (ho);clear HB m;have HB:=n0_;have o:=n1_;clear n0_ n1_ ho hb hg hat));go_roundg k1
     case measure=>have:=HK1.out;omega
     case rel=>exact⟨(n),(wrap64 (c+1)),(wrap64 (c+1)),TF,TF,H',⟨TM⟩,RW o,⟨TB⟩⟩
    ·rw[if_neg c6] at H;have u:=beq_eq_false_iff_ne.mpr c6;have v:=bne_iff_ne.mpr c6;have H':=AM H;clear H;have p5:0≤(c:Int):=TD;have q5:c<(a0.size:Int):=TD;have z:=ca_ a0 c;replace p5:=eq_true p5;replace q5:=eq_true q5;go_wp2;go_roundg k1
     case measure=>have:=HK1.out;omega
     case rel=>exact⟨(i),(g),(wrap64 (c+1)),TF,TF,H',⟨TM⟩,RW m,⟨TB⟩⟩
   ·rw[if_neg c3] at H;have t:=decide_eq_false c3;clear c3;obtain⟨p,H⟩:=ifn H;have A:=eq_true p;have B:=decide_eq_true p;clear p;obtain⟨q,H⟩:=ifn H;have C:=eq_true q;have D:=decide_eq_true q;clear q;obtain⟨x,H⟩:=ifn H;have LMc14:=AM x;clear x;obtain⟨y,l⟩:∃y_:List ByteArray,y_=(i++[a0.extract (g:Int).toNat a0.size]):=⟨_,rfl⟩
    replace H:(some y)=some r:=by first|(rw[l];with_reducible exact H)|(have H2_:=(Option.bind_some _ _).symm.trans H;rw[l];with_reducible exact H2_)|(have H2_:=(Option.bind_some _ _).symm.trans H;with_reducible exact H2_)|with_reducible exact H|(rw[l];exact H)|exact H
    have Ny132:=AM l;clear l;obtain rfl:=Option.some.inj H;go_wp2_with (first|((with_reducible refine gate_builtin (b:=.append) (xs:=#[.tmp 28,.tmp 32]) rfl ?_);at_builtin;refine Kd.R_append Kd.string (w0:=w) w.heap.size rfl (.tmp 28) (.tmp 32) 138 9 (.string ⟨#[]⟩) 16 rfl Tryz.underlying138 info9 rfl (by decide) (by omega) u5 i (a0.extract (g:Int).toNat a0.size) [.string (a0.extract (g:Int).toNat a0.size)] (fun _=>True) (fun _=>False) rfl rfl ?aP (fun _ hk=>hk.elim) ?aF ?aO ?aB ?aS ?aL ?_;(case aP=>exact rfl);(case aB=>exact TB);(case aF=>exact(fun _ _=>trivial));(case aO=>exact(RW m).out);(case aS=>exact(c_ TB));(case aL=>have:=LMc14.out;omega);intro O V ho hb hg hat;rw[←Ny132.out] at ho;have n0_:=AM (hb);have n1_:=AM (ho);clear HB m;have HB:=n0_;have s:=n1_;clear n0_ n1_ ho hb hg hat));go_ret;exact⟨_,TE,(RW s).out,TB⟩
end
section
def bb_.f (a0:Int) (a1:Int) (a2:Int):Option (Bool):=if a0≥a1 then(some (decide (a0≤a2))) else(some false)
theorem bb_.calls (a0:Int) (a1:Int) (a2:Int) (r:Bool) (w:World) (h:bb_.f a0 a1 a2=some r) :
  Calls Tryz.prog 80 #[.int .i64 a0,.int .i64 a1,.int .i64 a2] w fun e w'=>e=.returned (.bool r)∧Drawn0 w w':=by
 have H:(if a0≥a1 then(some (decide (a0≤a2))) else(some false))=some r:=h;clear h;by_cases c4:a0≥a1
 ·rw[if_pos c4] at H;have c:=decide_eq_true c4;clear c4;obtain rfl:=Option.some.inj H;go_enter Tryz.func80,Tryz.ntmps80;go_wp2;go_ret;exact⟨TF,TN⟩
 ·rw[if_neg c4] at H;have c:=decide_eq_false c4;clear c4;obtain rfl:=Option.some.inj H;go_enter Tryz.func80,Tryz.ntmps80;go_wp2;go_ret;exact⟨TF,TN⟩
end
section
def be_.l0:Nat→ByteArray→Int→Option (Bool)
 | 0,_,_=>none
 | k+1,x0,x3=>if x3<(x0.size:Int) then(if 0≤x3 then(if (bt x0 x3)≥97 then(if (bt x0 x3)≤122 then(be_.l0 k x0 (wrap64 (x3+1))) else(if (bt x0 x3)≥48 then(if (bt x0 x3)≤57 then(be_.l0 k x0 (wrap64 (x3+1))) else(if (bt x0 x3)=45 then(be_.l0 k x0 (wrap64 (x3+1))) else(if ((bt x0 x3)=95) then(be_.l0 k x0 (wrap64 (x3+1))) else(some false)))) else(if (bt x0 x3)=45 then(be_.l0 k x0 (wrap64 (x3+1))) else(if ((bt x0 x3)=95) then(be_.l0 k x0 (wrap64 (x3+1))) else(some false))))) else(if (bt x0 x3)≥48 then(if (bt x0 x3)≤57 then(be_.l0 k x0 (wrap64 (x3+1))) else(if (bt x0 x3)=45 then(be_.l0 k x0 (wrap64 (x3+1))) else(if ((bt x0 x3)=95) then(be_.l0 k x0 (wrap64 (x3+1))) else(some false)))) else(if (bt x0 x3)=45 then(be_.l0 k x0 (wrap64 (x3+1))) else(if ((bt x0 x3)=95) then(be_.l0 k x0 (wrap64 (x3+1))) else(some false))))) else(none)) else((bb_.f (x0.size:Int) 1 20).bind fun c=>(some c))
def be_.f (k:Nat) (a0:ByteArray):Option (Bool):=if a0.toList=([42]:List UInt8) then(some true) else(be_.l0 k a0 0)
theorem be_.calls (k:Nat) (a0:ByteArray) (r:Bool) (w:World) (h:be_.f k a0=some r) :
  Calls Tryz.prog 165 #[.string a0] w fun e w'=>e=.returned (.bool r)∧Drawn0 w w':=by
 have H:(if a0.toList=([42]:List UInt8) then(some true) else(be_.l0 k a0 0))=some r:=h;clear h;by_cases c2:a0.toList=([42]:List UInt8)
 ·rw[if_pos c2] at H;have O:=beq_iff_eq.mpr c2;have R:=bne_eq_false_iff_eq.mpr c2;clear c2;obtain rfl:=Option.some.inj H;go_enter Tryz.func165,Tryz.ntmps165;go_wp2;go_ret;exact⟨TF,TN⟩
 ·rw[if_neg c2] at H;have O:=beq_eq_false_iff_ne.mpr c2;have R:=bne_iff_ne.mpr c2;have H':=AM H;clear H;go_enter Tryz.func165,Tryz.ntmps165;go_wp2;go_loopg [3] k (fun kq v3 w'=>∃(c:Int),v3=.int .i64 c∧Aside0 (be_.l0 kq a0 c=some r)∧Aside0 (kq≤k)∧Drawn0 w w')
  case atStart=>exact⟨(0),TF,H',⟨Nat.le_refl _⟩,TN⟩
  case round =>
   clear H';obtain⟨c,rfl,HA,HK1,⟨m1,rfl⟩⟩:=hrel
   cases gk with
   | zero=>exact absurd HA.out (by simp[be_.l0])
   | succ k1 =>
    have H:=HA.out;clear HA;simp only[be_.l0] at H;by_cases c3:c<(a0.size:Int)
    ·rw[if_pos c3] at H;have U:=decide_eq_true c3;clear c3;obtain⟨c4,H⟩:=ifn H;have ab:=decide_eq_true c4;clear c4;by_cases c6:(bt a0 c)≥97
     ·rw[if_pos c6] at H;have V:=decide_eq_true c6;clear c6;by_cases c7:(bt a0 c)≤122
      ·rw[if_pos c7] at H;have W:=decide_eq_true c7;clear c7;have H':=AM H;clear H;have p5:0≤(c:Int):=TD;have q5:c<(a0.size:Int):=TD;have g:=ca_ a0 c;replace p5:=eq_true p5;replace q5:=eq_true q5;go_wp2;go_roundg k1
       case measure=>have:=HK1.out;omega
       case rel=>exact⟨(wrap64 (c+1)),TF,H',⟨TM⟩,TN⟩
      ·rw[if_neg c7] at H;have W:=decide_eq_false c7;clear c7;by_cases c8:(bt a0 c)≥48
       ·rw[if_pos c8] at H;have X:=decide_eq_true c8;clear c8;by_cases c9:(bt a0 c)≤57
        ·rw[if_pos c9] at H;have Y:=decide_eq_true c9;clear c9;have H':=AM H;clear H;have p5:0≤(c:Int):=TD;have q5:c<(a0.size:Int):=TD;have g:=ca_ a0 c;replace p5:=eq_true p5;replace q5:=eq_true q5;go_wp2;go_roundg k1
         case measure=>have:=HK1.out;omega
         case rel=>exact⟨(wrap64 (c+1)),TF,H',⟨TM⟩,TN⟩
        ·rw[if_neg c9] at H;have Y:=decide_eq_false c9;clear c9;by_cases c10:(bt a0 c)=45
         ·rw[if_pos c10] at H;have t:=beq_iff_eq.mpr c10;have u:=bne_eq_false_iff_eq.mpr c10;clear c10;have H':=AM H;clear H;have p5:0≤(c:Int):=TD;have q5:c<(a0.size:Int):=TD;have g:=ca_ a0 c;replace p5:=eq_true p5;replace q5:=eq_true q5;go_wp2;go_roundg k1
          case measure=>have:=HK1.out;omega
          case rel=>exact⟨(wrap64 (c+1)),TF,H',⟨TM⟩,TN⟩
         ·rw[if_neg c10] at H;have t:=beq_eq_false_iff_ne.mpr c10;have u:=bne_iff_ne.mpr c10;by_cases i:((bt a0 c)=95)
          ·rw[if_pos i] at H;have v:=beq_iff_eq.mpr i;have x:=bne_eq_false_iff_eq.mpr i;clear i;have H':=AM H;clear H;have p5:0≤(c:Int):=TD;have q5:c<(a0.size:Int):=TD;have g:=ca_ a0 c;replace p5:=eq_true p5;replace q5:=eq_true q5;go_wp2;go_roundg k1
           case measure=>have:=HK1.out;omega
           case rel=>exact⟨(wrap64 (c+1)),TF,H',⟨TM⟩,TN⟩
          ·rw[if_neg i] at H;have v:=beq_eq_false_iff_ne.mpr i;have x:=bne_iff_ne.mpr i;obtain rfl:=Option.some.inj H;have p5:0≤(c:Int):=TD;have q5:c<(a0.size:Int):=TD;have g:=ca_ a0 c;replace p5:=eq_true p5;replace q5:=eq_true q5;go_wp2;go_ret;exact⟨TF,TN⟩
       ·rw[if_neg c8] at H;have X:=decide_eq_false c8;clear c8;by_cases j:(bt a0 c)=45
        ·rw[if_pos j] at H;have y:=beq_iff_eq.mpr j;have z:=bne_eq_false_iff_eq.mpr j;clear j;have H':=AM H;clear H;have p5:0≤(c:Int):=TD;have q5:c<(a0.size:Int):=TD;have g:=ca_ a0 c;replace p5:=eq_true p5;replace q5:=eq_true q5;go_wp2;go_roundg k1
         case measure=>have:=HK1.out;omega
         case rel=>exact⟨(wrap64 (c+1)),TF,H',⟨TM⟩,TN⟩
        ·rw[if_neg j] at H;have y:=beq_eq_false_iff_ne.mpr j;have z:=bne_iff_ne.mpr j;by_cases l:((bt a0 c)=95)
         ·rw[if_pos l] at H;have A:=beq_iff_eq.mpr l;have B:=bne_eq_false_iff_eq.mpr l;clear l;have H':=AM H;clear H;have p5:0≤(c:Int):=TD;have q5:c<(a0.size:Int):=TD;have g:=ca_ a0 c;replace p5:=eq_true p5;replace q5:=eq_true q5;go_wp2;go_roundg k1
          case measure=>have:=HK1.out;omega
          case rel=>exact⟨(wrap64 (c+1)),TF,H',⟨TM⟩,TN⟩
         ·rw[if_neg l] at H;have A:=beq_eq_false_iff_ne.mpr l;have B:=bne_iff_ne.mpr l;obtain rfl:=Option.some.inj H;have p5:0≤(c:Int):=TD;have q5:c<(a0.size:Int):=TD;have g:=ca_ a0 c;replace p5:=eq_true p5;replace q5:=eq_true q5;go_wp2;go_ret;exact⟨TF,TN⟩
     ·rw[if_neg c6] at H;have V:=decide_eq_false c6;clear c6;by_cases q:(bt a0 c)≥48
      ·rw[if_pos q] at H;have C:=decide_eq_true q;clear q;by_cases s:(bt a0 c)≤57
       ·rw[if_pos s] at H;have D:=decide_eq_true s;clear s;have H':=AM H;clear H;have p5:0≤(c:Int):=TD;have q5:c<(a0.size:Int):=TD;have g:=ca_ a0 c;replace p5:=eq_true p5;replace q5:=eq_true q5;go_wp2;go_roundg k1
        case measure=>have:=HK1.out;omega
        case rel=>exact⟨(wrap64 (c+1)),TF,H',⟨TM⟩,TN⟩
       ·rw[if_neg s] at H;have D:=decide_eq_false s;clear s;by_cases m:(bt a0 c)=45
        ·rw[if_pos m] at H;have E:=beq_iff_eq.mpr m;have F:=bne_eq_false_iff_eq.mpr m;clear m;have H':=AM H;clear H;have p5:0≤(c:Int):=TD;have q5:c<(a0.size:Int):=TD;have g:=ca_ a0 c;replace p5:=eq_true p5;replace q5:=eq_true q5;go_wp2;go_roundg k1
         case measure=>have:=HK1.out;omega
         case rel=>exact⟨(wrap64 (c+1)),TF,H',⟨TM⟩,TN⟩
        ·rw[if_neg m] at H;have E:=beq_eq_false_iff_ne.mpr m;have F:=bne_iff_ne.mpr m;by_cases n:((bt a0 c)=95)
         ·rw[if_pos n] at H;have G:=beq_iff_eq.mpr n;have I:=bne_eq_false_iff_eq.mpr n;clear n;have H':=AM H;clear H;have p5:0≤(c:Int):=TD;have q5:c<(a0.size:Int):=TD;have g:=ca_ a0 c;replace p5:=eq_true p5;replace q5:=eq_true q5;go_wp2;go_roundg k1
          case measure=>have:=HK1.out;omega
          case rel=>exact⟨(wrap64 (c+1)),TF,H',⟨TM⟩,TN⟩
         ·rw[if_neg n] at H;have G:=beq_eq_false_iff_ne.mpr n;have I:=bne_iff_ne.mpr n;obtain rfl:=Option.some.inj H;have p5:0≤(c:Int):=TD;have q5:c<(a0.size:Int):=TD;have g:=ca_ a0 c;replace p5:=eq_true p5;replace q5:=eq_true q5;go_wp2;go_ret;exact⟨TF,TN⟩
      ·rw[if_neg q] at H;have C:=decide_eq_false q;clear q;by_cases o:(bt a0 c)=45
       ·rw[if_pos o] at H;have J:=beq_iff_eq.mpr o;have K:=bne_eq_false_iff_eq.mpr o;clear o;have H':=AM H;clear H;have p5:0≤(c:Int):=TD;have q5:c<(a0.size:Int):=TD;have g:=ca_ a0 c;replace p5:=eq_true p5;replace q5:=eq_true q5;go_wp2;go_roundg k1
        case measure=>have:=HK1.out;omega
        case rel=>exact⟨(wrap64 (c+1)),TF,H',⟨TM⟩,TN⟩
       ·rw[if_neg o] at H;have J:=beq_eq_false_iff_ne.mpr o;have K:=bne_iff_ne.mpr o;by_cases p:((bt a0 c)=95)
        ·rw[if_pos p] at H;have M:=beq_iff_eq.mpr p;have N:=bne_eq_false_iff_eq.mpr p;clear p;have H':=AM H;clear H;have p5:0≤(c:Int):=TD;have q5:c<(a0.size:Int):=TD;have g:=ca_ a0 c;replace p5:=eq_true p5;replace q5:=eq_true q5;go_wp2;go_roundg k1
         case measure=>have:=HK1.out;omega
         case rel=>exact⟨(wrap64 (c+1)),TF,H',⟨TM⟩,TN⟩
        ·rw[if_neg p] at H;have M:=beq_eq_false_iff_ne.mpr p;have N:=bne_iff_ne.mpr p;obtain rfl:=Option.some.inj H;have p5:0≤(c:Int):=TD;have q5:c<(a0.size:Int):=TD;have g:=ca_ a0 c;replace p5:=eq_true p5;replace q5:=eq_true q5;go_wp2;go_ret;exact⟨TF,TN⟩
    ·rw[if_neg c3] at H;have U:=decide_eq_false c3;clear c3;obtain⟨Z,aa,H⟩:=bnd H;obtain rfl:=Option.some.inj H;go_wp2_with (first|((with_reducible refine ac_ (f:=80) rfl ?_);refine goesL_ (some 41) rfl rfl Tryz.func80 KR rfl #[.int .i64 (a0.size:Int),.int .i64 1,.int .i64 20] rfl TA ?_;(with_reducible refine(bb_.calls (a0.size:Int) 1 20 Z _ aa.out).mono ?_);rintro e w' ⟨rfl,⟨nd,rfl⟩⟩;refine⟨_,rfl,?_⟩));go_ret;exact⟨TF,TN⟩
end
section
def a4_.l0:Nat→ByteArray→List ByteArray→List ByteArray→Int→Int→Option (List ByteArray × Bool)
 | 0,_,_,_,_,_=>none
 | k+1,x0,x4,g,h,c=>if c<h then(if 0≤c then(if c<(g.length:Int) then((be_.f k (rdOf ByteArray.empty g c)).bind fun i=>(if i=true then(a4_.l0 k x0 x4 g h (wrap64 (c+1))) else(some (([]:List ByteArray),false)))) else(none)) else(none)) else(if (x0.size:Int)≤60 then(some (x4,decide ((x4.length:Int)≤8))) else(some (x4,false)))
def a4_.f (k:Nat) (a0:ByteArray):Option (List ByteArray × Bool):=if a0.toList=([]:List UInt8) then(some (([]:List ByteArray),true)) else((a9_.f k a0 46).bind fun t141=>(a4_.l0 k a0 t141 t141 (t141.length:Int) 0))
theorem a4_.calls (k:Nat) (a0:ByteArray) (r1:List ByteArray) (r2:Bool) (w:World) (h:a4_.f k a0=some (r1,r2)) :
  Calls Tryz.prog 127 #[.string a0] w fun e w'=>∃v0_:Value,e=.returned (.tuple #[v0_,.bool r2])∧Kd.R Kd.string 9 w' w.heap.size (fun _=>True) v0_ r1∧Below w.heap.size w w':=by
 have HB:=AM (Below.refl w.heap.size w);have H:(if a0.toList=([]:List UInt8) then(some (([]:List ByteArray),true)) else((a9_.f k a0 46).bind fun g=>(a4_.l0 k a0 g g (g.length:Int) 0)))=some (r1,r2):=h;clear h;by_cases c2:a0.toList=([]:List UInt8)
 ·rw[if_pos c2] at H;have v:=beq_iff_eq.mpr c2;have x:=bne_eq_false_iff_eq.mpr c2;clear c2;simp only[Option.some.injEq,Prod.mk.injEq] at H;obtain⟨rfl,rfl⟩:=H;go_enter Tryz.func127,Tryz.ntmps127;go_wp2;go_ret2;exact⟨_,by first|rfl|(simp[az_,ay_]<;>rfl)|(simp[*,az_,ay_]<;>rfl)|(simp[az_,ay_];rw[Bool.eq_iff_iff];simp),TZ,TB⟩
 ·rw[if_neg c2] at H;have v:=beq_eq_false_iff_ne.mpr c2;have x:=bne_iff_ne.mpr c2;obtain⟨g,A3,H⟩:=bnd H;have H':=AM H;clear H;go_enter Tryz.func127,Tryz.ntmps127;go_wp2_with (first|((with_reducible refine ac_ (f:=164) rfl ?_);refine goesL_ (some 10) rfl rfl Tryz.func164 KR rfl #[.string a0,.int .u8 46] rfl TA ?_;(with_reducible refine(a9_.calls k a0 46 g _ A3.out).mono ?_);rintro e w4 ⟨E,rfl,y,hb⟩;refine⟨_,rfl,?_⟩;have l:=RL y;replace HB:=BS hb;clear hb;(try clear y);obtain⟨z,A,eo5⟩:=Kd.bh_ l.out;subst eo5));go_loopg [13] k (fun kq D w'=>∃(c:Int),D=.int .i64 c∧Aside0 (a4_.l0 kq a0 g g (g.length:Int) c=some (r1,r2))∧Aside0 (kq≤k)∧Aside0 (Kd.R Kd.string 9 w' w.heap.size (fun _=>True) (.slice z g.length A) g)∧Aside0 (Kd.R Kd.string 9 w' w.heap.size (fun _=>True) (.slice z g.length A) g)∧Aside0 (Below w.heap.size w w'))
  case atStart=>exact⟨(0),TF,H',⟨Nat.le_refl _⟩,RW l,RW l,⟨TB⟩⟩
  case round =>
   clear H';obtain⟨c,rfl,HA,HK1,o,m,HB⟩:=hrel
   cases gk with
   | zero=>exact absurd HA.out (by simp[a4_.l0])
   | succ k1 =>
    have H:=HA.out;clear HA;simp only[a4_.l0] at H;by_cases c6:c<(g.length:Int)
    ·rw[if_pos c6] at H;have B:=decide_eq_true c6;clear c6;obtain⟨c7,H⟩:=ifn H;have F:=decide_eq_true c7;clear c7;obtain⟨c8,H⟩:=ifn H;have G:=decide_eq_true c8;clear c8;obtain⟨C,A9,H⟩:=bnd H;by_cases c10:C=true
     ·subst c10;replace H:=ift H;have H':=AM H;clear H;have i:0≤(c:Int):=TD;have j:c<(g.length:Int):=TD;obtain⟨s,p,q⟩:=Kd.bp_ (Kd.aL_ m.out).2.2 c i j;cases p;replace i:=eq_true i;replace j:=eq_true j;go_wp2_with (first|((with_reducible refine ac_ (f:=165) rfl ?_);refine goesL_ (some 18) rfl rfl Tryz.func165 KR rfl #[.string (rdOf ByteArray.empty g c)] rfl TA ?_;(with_reducible refine(be_.calls k1 (rdOf ByteArray.empty g c) true _ A9.out).mono ?_);rintro e w' ⟨rfl,⟨nd,rfl⟩⟩;refine⟨_,rfl,?_⟩));go_roundg k1
      case measure=>have:=HK1.out;omega
      case rel=>exact⟨(wrap64 (c+1)),TF,H',⟨TM⟩,RW o,RW m,⟨TB⟩⟩
     ·replace c10:=Bool.eq_false_iff.mpr c10;subst c10;replace H:=iff' H;simp only[Option.some.injEq,Prod.mk.injEq] at H;obtain⟨rfl,rfl⟩:=H;have i:0≤(c:Int):=TD;have j:c<(g.length:Int):=TD;obtain⟨s,p,q⟩:=Kd.bp_ (Kd.aL_ m.out).2.2 c i j;cases p;replace i:=eq_true i;replace j:=eq_true j;go_wp2_with (first|((with_reducible refine ac_ (f:=165) rfl ?_);refine goesL_ (some 18) rfl rfl Tryz.func165 KR rfl #[.string (rdOf ByteArray.empty g c)] rfl TA ?_;(with_reducible refine(be_.calls k1 (rdOf ByteArray.empty g c) false _ A9.out).mono ?_);rintro e w' ⟨rfl,⟨nd,rfl⟩⟩;refine⟨_,rfl,?_⟩));go_ret2;exact⟨_,by first|rfl|(simp[az_,ay_]<;>rfl)|(simp[*,az_,ay_]<;>rfl)|(simp[az_,ay_];rw[Bool.eq_iff_iff];simp),TZ,TB⟩
    ·rw[if_neg c6] at H;have B:=decide_eq_false c6;clear c6;by_cases n:(a0.size:Int)≤60
     ·rw[if_pos n] at H;have t:=decide_eq_true n;have u:decide (a0.size≤60)=true:=decide_eq_true (by omega);clear n;simp only[Option.some.injEq,Prod.mk.injEq] at H;obtain⟨rfl,rfl⟩:=H;go_wp2;go_ret2;exact⟨_,by first|rfl|(simp[az_,ay_]<;>rfl)|(simp[*,az_,ay_]<;>rfl)|(simp[az_,ay_];rw[Bool.eq_iff_iff];simp),(RW o).out,TB⟩
     ·rw[if_neg n] at H;have t:=decide_eq_false n;have u:decide (a0.size≤60)=false:=decide_eq_false (by omega);clear n;simp only[Option.some.injEq,Prod.mk.injEq] at H;obtain⟨rfl,rfl⟩:=H;go_wp2;go_ret2;exact⟨_,by first|rfl|(simp[az_,ay_]<;>rfl)|(simp[*,az_,ay_]<;>rfl)|(simp[az_,ay_];rw[Bool.eq_iff_iff];simp),(RW o).out,TB⟩
end
section
def bF_.f (k:Nat) (a0:ByteArray):Option (Bool):=(a4_.f k a0).bind fun bt187=>(some bt187.2)
theorem bF_.calls (k:Nat) (a0:ByteArray) (r:Bool) (w:World) (h:bF_.f k a0=some r) :
  Calls Tryz.prog 81 #[.string a0] w fun e w'=>e=.returned (.bool r)∧Below w.heap.size w w':=by
 have HB:=AM (Below.refl w.heap.size w);have H:((a4_.f k a0).bind fun bt187=>(some bt187.2))=some r:=h;clear h;obtain⟨⟨c,g⟩,A2,H⟩:=bnd H
 try dsimp only at H
 obtain rfl:=Option.some.inj H;go_enter Tryz.func81,Tryz.ntmps81;go_wp2_with (first|((with_reducible refine ac_ (f:=127) rfl ?_);refine goesL_ (some 7) rfl rfl Tryz.func127 KR rfl #[.string a0] rfl TA ?_;(with_reducible refine(a4_.calls k a0 c g _ A2.out).mono ?_);rintro e w3 ⟨l,rfl,i,hb⟩;refine⟨_,rfl,?_⟩;have j:=RL i;replace HB:=BS hb;clear hb;(try clear i)));go_ret;exact⟨TE,TB⟩
end
section
def spec_l1Below.f (a0:ByteArray) (a1:ByteArray):Option (Bool):=if a1.toList=([]:List UInt8) then(some true) else(if a0.toList=a1.toList then(some true) else(if (wrap64 ((a0.size:Int) - (a1.size:Int))) > 0 then(if 0≤(wrap64 ((a0.size:Int) - (a1.size:Int))) then(if (wrap64 ((a0.size:Int) - (a1.size:Int)))≤(a0.size:Int) then(if (a0.extract ((wrap64 ((a0.size:Int) - (a1.size:Int))):Int).toNat a0.size).toList=a1.toList then(if 0≤(wrap64 ((wrap64 ((a0.size:Int) - (a1.size:Int))) - 1)) then(if (wrap64 ((wrap64 ((a0.size:Int) - (a1.size:Int))) - 1))<(a0.size:Int) then(some ((bt a0 (wrap64 ((wrap64 ((a0.size:Int) - (a1.size:Int))) - 1)))==46)) else(none)) else(none)) else(some false)) else(none)) else(none)) else(some false)))
theorem spec_l1Below.calls (a0:ByteArray) (a1:ByteArray) (r:Bool) (w:World) (h:spec_l1Below.f a0 a1=some r) :
  Calls Tryz.prog 108 #[.string a0,.string a1] w fun e w'=>e=.returned (.bool r)∧Drawn0 w w':=by
 have H:(if a1.toList=([]:List UInt8) then(some true) else(if a0.toList=a1.toList then(some true) else(if (wrap64 ((a0.size:Int) - (a1.size:Int))) > 0 then(if 0≤(wrap64 ((a0.size:Int) - (a1.size:Int))) then(if (wrap64 ((a0.size:Int) - (a1.size:Int)))≤(a0.size:Int) then(if (a0.extract ((wrap64 ((a0.size:Int) - (a1.size:Int))):Int).toNat a0.size).toList=a1.toList then(if 0≤(wrap64 ((wrap64 ((a0.size:Int) - (a1.size:Int))) - 1)) then(if (wrap64 ((wrap64 ((a0.size:Int) - (a1.size:Int))) - 1))<(a0.size:Int) then(some ((bt a0 (wrap64 ((wrap64 ((a0.size:Int) - (a1.size:Int))) - 1)))==46)) else(none)) else(none)) else(some false)) else(none)) else(none)) else(some false))))=some r:=h;clear h;by_cases c3:a1.toList=([]:List UInt8)
 ·rw[if_pos c3] at H;have j:=beq_iff_eq.mpr c3;have l:=bne_eq_false_iff_eq.mpr c3;clear c3;obtain rfl:=Option.some.inj H;go_enter Tryz.func108,Tryz.ntmps108;go_wp2;go_ret;exact⟨TF,TN⟩
 ·rw[if_neg c3] at H;have j:=beq_eq_false_iff_ne.mpr c3;have l:=bne_iff_ne.mpr c3;by_cases c4:a0.toList=a1.toList
  ·rw[if_pos c4] at H;have m:=beq_iff_eq.mpr c4;have n:=bne_eq_false_iff_eq.mpr c4;clear c4;obtain rfl:=Option.some.inj H;go_enter Tryz.func108,Tryz.ntmps108;go_wp2;go_ret;exact⟨TF,TN⟩
  ·rw[if_neg c4] at H;have m:=beq_eq_false_iff_ne.mpr c4;have n:=bne_iff_ne.mpr c4;by_cases c5:(wrap64 ((a0.size:Int) - (a1.size:Int))) > 0
   ·rw[if_pos c5] at H;have i:=decide_eq_true c5;clear c5;obtain⟨g,hji6⟩:∃j_:Int,(wrap64 ((a0.size:Int) - (a1.size:Int)))=j_:=⟨_,rfl⟩
    replace H:(if 0≤(g) then(if (g)≤(a0.size:Int) then(if (a0.extract ((g):Int).toNat a0.size).toList=a1.toList then(if 0≤(wrap64 ((g) - 1)) then(if (wrap64 ((g) - 1))<(a0.size:Int) then(some ((bt a0 (wrap64 ((g) - 1)))==46)) else(none)) else(none)) else(some false)) else(none)) else(none))=some r:=by first|(rw[hji6] at H;exact H)|(simp only[hji6] at H ⊢;exact H)
    (try rw[hji6] at i);have hji6w:(IntKind.i64.wrap ((a0.size:Int) - (a1.size:Int)))=g:=(bZ_ _).trans hji6;obtain⟨c7,H⟩:=ifn H;have y:=eq_true c7;have z:=decide_eq_true c7;clear c7;obtain⟨c8,H⟩:=ifn H;have A:=eq_true c8;have B:=decide_eq_true c8;clear c8;by_cases c9:(a0.extract ((g):Int).toNat a0.size).toList=a1.toList
    ·rw[if_pos c9] at H;have o:=beq_iff_eq.mpr c9;have p:=bne_eq_false_iff_eq.mpr c9;clear c9;obtain⟨c,hji10⟩:∃j_:Int,(wrap64 ((g) - 1))=j_:=⟨_,rfl⟩
     replace H:(if 0≤(c) then(if (c)<(a0.size:Int) then(some ((bt a0 (c))==46)) else(none)) else(none))=some r:=by first|(rw[hji10] at H;exact H)|(simp only[hji10] at H ⊢;exact H)
     have hji10w:(IntKind.i64.wrap ((g) - 1))=c:=(bZ_ _).trans hji10;obtain⟨q,H⟩:=ifn H;have v:=decide_eq_true q;clear q;obtain⟨s,H⟩:=ifn H;have x:=decide_eq_true s;clear s;obtain rfl:=Option.some.inj H;have t:0≤((c):Int):=TD;have u:(c)<(a0.size:Int):=TD;have C:=ca_ a0 (c);replace t:=eq_true t;replace u:=eq_true u;go_enter Tryz.func108,Tryz.ntmps108;go_wp2;go_ret;exact⟨by first|rfl|(simp;done)|(simp only[←hji6,←hji10]<;>(first|rfl|simp))|(simp[*];done),TN⟩
    ·rw[if_neg c9] at H;have o:=beq_eq_false_iff_ne.mpr c9;have p:=bne_iff_ne.mpr c9;obtain rfl:=Option.some.inj H;go_enter Tryz.func108,Tryz.ntmps108;go_wp2;go_ret;exact⟨by first|rfl|(simp;done)|(simp only[←hji6]<;>(first|rfl|simp))|(simp[*];done),TN⟩
   ·rw[if_neg c5] at H;have i:=decide_eq_false c5;clear c5;obtain rfl:=Option.some.inj H;go_enter Tryz.func108,Tryz.ntmps108;go_wp2;go_ret;exact⟨TF,TN⟩
end
section
def bX_.l0:Nat→Int→List Int→Int→Int→Option (Bool)
 | 0,_,_,_,_=>none
 | k+1,x1,x7,x8,x9=>if x9<x8 then(if 0≤x9 then(if x9<(x7.length:Int) then(if (rd x7 x9)=x1 then(some true) else(bX_.l0 k x1 x7 x8 (wrap64 (x9+1)))) else(none)) else(none)) else(some false)
def bX_.f (k:Nat) (l0:List Int) (a1:Int):Option (Bool):=bX_.l0 k a1 l0 (l0.length:Int) 0
theorem bX_.calls (k:Nat) (A0:Option Addr) (c0:Nat) (l0:List Int) (a1:Int) (r:Bool) (w:World) (n:Kd.C (Kd.int .i64) w A0 l0.length l0) (o:l0.length≤c0) (h:bX_.f k l0 a1=some r) :
  Calls Tryz.prog 133 #[.slice A0 l0.length c0,.int .i64 a1] w fun e w'=>e=.returned (.bool r)∧Drawn0 w w':=by
 have p:=AM n;have x:=AM o;clear n o;have H:(bX_.l0 k a1 l0 (l0.length:Int) 0)=some r:=h;clear h;have H':=AM H;clear H;go_enter Tryz.func133,Tryz.ntmps133;go_wp2;go_loopg [9] k (fun kq v9 w'=>∃(c:Int),v9=.int .i64 c∧Aside0 (bX_.l0 kq a1 l0 (l0.length:Int) c=some r)∧Aside0 (kq≤k)∧Drawn0 w w')
 case atStart=>exact⟨(0),TF,H',⟨Nat.le_refl _⟩,TN⟩
 case round =>
  clear H';obtain⟨c,rfl,HA,HK1,⟨m1,rfl⟩⟩:=hrel
  cases gk with
  | zero=>exact absurd HA.out (by simp[bX_.l0])
  | succ k1 =>
   have H:=HA.out;clear HA;simp only[bX_.l0] at H;by_cases c3:c<(l0.length:Int)
   ·rw[if_pos c3] at H;have q:=decide_eq_true c3;clear c3;obtain⟨c4,H⟩:=ifn H;have u:=decide_eq_true c4;clear c4;obtain⟨c5,H⟩:=ifn H;have v:=decide_eq_true c5;clear c5;by_cases c6:(rd l0 c)=a1
    ·rw[if_pos c6] at H;have s:=beq_iff_eq.mpr c6;have t:=bne_eq_false_iff_eq.mpr c6;clear c6;obtain rfl:=Option.some.inj H;have g:0≤(c:Int):=TD;have i:c<(l0.length:Int):=TD;obtain⟨m,j,l⟩:=Kd.at_int p.out c g i;cases j;replace g:=eq_true g;replace i:=eq_true i;go_wp2;go_ret;exact⟨TF,TN⟩
    ·rw[if_neg c6] at H;have s:=beq_eq_false_iff_ne.mpr c6;have t:=bne_iff_ne.mpr c6;have H':=AM H;clear H;have g:0≤(c:Int):=TD;have i:c<(l0.length:Int):=TD;obtain⟨m,j,l⟩:=Kd.at_int p.out c g i;cases j;replace g:=eq_true g;replace i:=eq_true i;go_wp2;go_roundg k1
     case measure=>have:=HK1.out;omega
     case rel=>exact⟨(wrap64 (c+1)),TF,H',⟨TM⟩,TN⟩
   ·rw[if_neg c3] at H;have q:=decide_eq_false c3;clear c3;obtain rfl:=Option.some.inj H;go_wp2;go_ret;exact⟨TF,TN⟩
end
section
def spec_l3Type.f (k:Nat) (a0:Int):Option (Bool):=(bX_.f k (([1,2,5,6,15,16]:List Int)) a0).bind fun t901=>(some t901)
theorem spec_l3Type.calls (k:Nat) (a0:Int) (r:Bool) (w:World) (h:spec_l3Type.f k a0=some r) :
  Calls Tryz.prog 82 #[.int .i64 a0] w fun e w'=>e=.returned (.bool r)∧Below w.heap.size w w':=by
 have HB:=AM (Below.refl w.heap.size w);have H:((bX_.f k (([1,2,5,6,15,16]:List Int)) a0).bind fun g=>(some g))=some r:=h;clear h;obtain⟨j,c⟩:∃y_:List Int,y_=(([1,2,5,6,15,16]:List Int)):=⟨_,rfl⟩
 replace H:((bX_.f k j a0).bind fun g=>(some g))=some r:=by first|(rw[c];with_reducible exact H)|(have H2_:=(Option.bind_some _ _).symm.trans H;rw[c];with_reducible exact H2_)|(have H2_:=(Option.bind_some _ _).symm.trans H;with_reducible exact H2_)|with_reducible exact H|(rw[c];exact H)|exact H
 have Ny898:=AM c;clear c;obtain⟨g,A2,H⟩:=bnd H;obtain rfl:=Option.some.inj H;go_enter Tryz.func82,Tryz.ntmps82;go_wp2_with (first|((with_reducible refine af_ (N:=3) rfl ?_);refine Kd.R_lit (Kd.int .i64) _ 3 ?hg (N:=3) ?hd (xs:=([1,2,5,6,15,16]:List Int)) (inner:=[.int .i64 1,.int .i64 2,.int .i64 5,.int .i64 6,.int .i64 15,.int .i64 16]) (ok:=fun _=>True) (okp:=fun _=>True) ?hr ?hp (fun _ hk=>hk) trivial (Below.refl _ _) (Nat.le_refl _) (by simp) ?_;(case hd=>rfl);(case hg=>rfl);(case hr=>first|(go_simp;done)|(go_simp;rfl));(case hp=>exact(Reps.one (show Kd.M (Kd.int .i64) _ _ _ 1 [.int .i64 1] from rfl) (Reps.one (show Kd.M (Kd.int .i64) _ _ _ 2 [.int .i64 2] from rfl) (Reps.one (show Kd.M (Kd.int .i64) _ _ _ 5 [.int .i64 5] from rfl) (Reps.one (show Kd.M (Kd.int .i64) _ _ _ 6 [.int .i64 6] from rfl) (Reps.one (show Kd.M (Kd.int .i64) _ _ _ 15 [.int .i64 15] from rfl) (Reps.one (show Kd.M (Kd.int .i64) _ _ _ 16 [.int .i64 16] from rfl) (Reps.none _ _))))))));intro o w3 l hb hg_ hnew_;clear hg_ hnew_;(first|rw[←Ny898.out] at l|(simp only[Int.reduceToNat] at l;rw[←Ny898.out] at l));have i:=RL l;replace HB:=BS hb;clear hb l;obtain⟨m,n,eo5⟩:=Kd.bh_ i.out;subst eo5)|((with_reducible refine ac_ (f:=133) rfl ?_);refine goesL_ (some 5) rfl rfl Tryz.func133 KR rfl #[.slice m j.length n,.int .i64 a0] rfl TA ?_;(with_reducible refine(bX_.calls k _ _ j a0 g _ ?side1 ?side2 A2.out).mono ?_);(case side1=>exact CW ((Kd.aL_ i.out).2.2));(case side2=>exact RI i);rintro e w' ⟨rfl,⟨nd,rfl⟩⟩;refine⟨_,rfl,?_⟩));go_ret;exact⟨TE,TB⟩
end
section
mutual
def aK_.l0:Nat→List ByteArray→List ByteArray→Int→Option (Int)
 | 0,_,_,_=>none
 | k+1,x5,x7,x9=>if x9≤(x5.length:Int) then(aK_.j1 k x5 x7 x9 (decide (x9≤(x7.length:Int)))) else(aK_.j1 k x5 x7 x9 false)
def aK_.j1:Nat→List ByteArray→List ByteArray→Int→Bool→Option (Int)
 | 0,_,_,_,_=>none
 | k+1,x5,x7,x9,c=>if c=true then(if 0≤(wrap64 ((x5.length:Int) - x9)) then(if (wrap64 ((x5.length:Int) - x9))<(x5.length:Int) then(if 0≤(wrap64 ((x7.length:Int) - x9)) then(if (wrap64 ((x7.length:Int) - x9))<(x7.length:Int) then(if (Op.bytesLess ((rdOf ByteArray.empty x5 (wrap64 ((x5.length:Int) - x9))).toList) ((rdOf ByteArray.empty x7 (wrap64 ((x7.length:Int) - x9))).toList))=true then(some (-1)) else(if (rdOf ByteArray.empty x5 (wrap64 ((x5.length:Int) - x9))).toList=(rdOf ByteArray.empty x7 (wrap64 ((x7.length:Int) - x9))).toList then(aK_.l0 k x5 x7 (wrap64 (x9+1))) else(some 1))) else(none)) else(none)) else(none)) else(none)) else(if (x5.length:Int)<(x7.length:Int) then(some (-1)) else(if (x5.length:Int) > (x7.length:Int) then(some 1) else(some 0)))
end
def aK_.f (k:Nat) (a0:ByteArray) (a1:ByteArray):Option (Int):=(a4_.f k a0).bind fun bt196=>((a4_.f k a1).bind fun bt200=>(aK_.l0 k bt196.1 bt200.1 1))
theorem aK_.calls (k:Nat) (a0:ByteArray) (a1:ByteArray) (r:Int) (w:World) (h:aK_.f k a0 a1=some r) :
  Calls Tryz.prog 134 #[.string a0,.string a1] w fun e w'=>e=.returned (.int .i64 r)∧Below w.heap.size w w':=by
 have HB:=AM (Below.refl w.heap.size w);have H:((a4_.f k a0).bind fun bt196=>((a4_.f k a1).bind fun bt200=>(aK_.l0 k bt196.1 bt200.1 1)))=some r:=h;clear h;obtain⟨⟨g,ac⟩,A3,H⟩:=bnd H
 try dsimp only at H
 obtain⟨⟨c,ad⟩,A4,H⟩:=bnd H
 try dsimp only at H
 have H':=AM H;clear H;go_enter Tryz.func134,Tryz.ntmps134;go_wp2_with (first|((with_reducible refine ac_ (f:=127) rfl ?_);refine goesL_ (some 14) rfl rfl Tryz.func127 KR rfl #[.string a0] rfl TA ?_;(with_reducible refine(a4_.calls k a0 g ac _ A3.out).mono ?_);rintro e w5 ⟨E,rfl,G,hb⟩;refine⟨_,rfl,?_⟩;have t:=RL G;replace HB:=BS hb;clear hb;(try clear G))|((with_reducible refine ac_ (f:=127) rfl ?_);refine goesL_ (some 19) rfl rfl Tryz.func127 KR rfl #[.string a1] rfl TA ?_;(with_reducible refine(a4_.calls k a1 c ad _ A4.out).mono ?_);rintro e w6 ⟨F,rfl,G,hb⟩;refine⟨_,rfl,?_⟩;have N:=RL (NW G t);replace t:=EL t G hb;replace HB:=BS hb;clear hb;(try clear G)));go_loopg [9] k (fun kq v9 w'=>∃(l:Int),v9=.int .i64 l∧Aside0 (aK_.l0 kq g c l=some r)∧Aside0 (kq≤k)∧Aside0 (Kd.R Kd.string 9 w' w.heap.size (fun k_=>some k_≠(F:Value).ownBlock) E g)∧Aside0 (Kd.R Kd.string 9 w' w.heap.size (fun k_=>some k_≠(E:Value).ownBlock) F c)∧Aside0 (Below w.heap.size w w'))
 case atStart=>exact⟨(1),TF,H',⟨Nat.le_refl _⟩,MO t,MO N,⟨TB⟩⟩
 case round =>
  clear H';obtain⟨l,rfl,HA,HK1,m,n,HB⟩:=hrel
  cases gk with
  | zero=>exact absurd HA.out (by simp[aK_.l0])
  | succ k1 =>
   have H:=HA.out;clear HA;simp only[aK_.l0] at H;have O:=AM H;clear H
   go_upto_region 4 with (fail)
   go_cut [31] (fun ai wc=>∃(kq:Nat) (u:Bool),ai=.bool u∧Aside0 (aK_.j1 kq g c l u=some r)∧Aside0 (kq≤k1)∧Aside0 (Kd.R Kd.string 9 wc w.heap.size (fun k_=>some k_≠(F:Value).ownBlock) E g)∧Aside0 (Kd.R Kd.string 9 wc w.heap.size (fun k_=>some k_≠(E:Value).ownBlock) F c)∧Aside0 (Below w.heap.size w wc))
   case first =>
    have H:=O.out;clear O;by_cases c8:l≤(g.length:Int)
    ·rw[if_pos c8] at H;have v:=decide_eq_true c8;clear c8;(first|rw[v]|(simp only[bZ_,i32_w];rw[v])|skip);have H':=AM H;clear H;obtain⟨aR,aS,eo9⟩:=Kd.bh_ m.out;subst eo9;obtain⟨an,ao,eo10⟩:=Kd.bh_ n.out;subst eo10;go_wp2;go_meet
     case rel=>exact⟨_,(decide (l≤(c.length:Int))),TF,H',⟨by have:=HK1.out;first|omega|exact Nat.le_refl _⟩,RW m,RW n,⟨TB⟩⟩
    ·rw[if_neg c8] at H;have v:=decide_eq_false c8;clear c8;(first|rw[v]|(simp only[bZ_,i32_w];rw[v])|skip);have H':=AM H;clear H;obtain⟨ap,aq,eo11⟩:=Kd.bh_ m.out;subst eo11;go_wp2;go_meet
     case rel=>exact⟨_,(false),TF,H',⟨by have:=HK1.out;first|omega|exact Nat.le_refl _⟩,RW m,RW n,⟨TB⟩⟩
   case rest =>
    clear O;obtain⟨kq,u,rfl,HA,HJ6,m,n,HB⟩:=hcut
    cases kq with
    | zero=>exact absurd HA.out (by simp[aK_.j1])
    | succ U =>
     have H:=HA.out;clear HA;simp only[aK_.j1] at H;by_cases M:u=true
     ·subst M;replace H:=ift H;obtain⟨i,hji13⟩:∃j_:Int,(wrap64 ((g.length:Int) - l))=j_:=⟨_,rfl⟩
      replace H:(if 0≤(i) then(if (i)<(g.length:Int) then(if 0≤(wrap64 ((c.length:Int) - l)) then(if (wrap64 ((c.length:Int) - l))<(c.length:Int) then(if (Op.bytesLess ((rdOf ByteArray.empty g (i)).toList) ((rdOf ByteArray.empty c (wrap64 ((c.length:Int) - l))).toList))=true then(some (-1)) else(if (rdOf ByteArray.empty g (i)).toList=(rdOf ByteArray.empty c (wrap64 ((c.length:Int) - l))).toList then(aK_.l0 U g c (wrap64 (l+1))) else(some 1))) else(none)) else(none)) else(none)) else(none))=some r:=by first|(rw[hji13] at H;exact H)|(simp only[hji13] at H ⊢;exact H)
      have hji13w:(IntKind.i64.wrap ((g.length:Int) - l))=i:=(bZ_ _).trans hji13;obtain⟨ae,H⟩:=ifn H;have aj:=decide_eq_true ae;clear ae;obtain⟨af,H⟩:=ifn H;have ak:=decide_eq_true af;clear af;obtain⟨j,hji16⟩:∃j_:Int,(wrap64 ((c.length:Int) - l))=j_:=⟨_,rfl⟩
      replace H:(if 0≤(j) then(if (j)<(c.length:Int) then(if (Op.bytesLess ((rdOf ByteArray.empty g (i)).toList) ((rdOf ByteArray.empty c (j)).toList))=true then(some (-1)) else(if (rdOf ByteArray.empty g (i)).toList=(rdOf ByteArray.empty c (j)).toList then(aK_.l0 U g c (wrap64 (l+1))) else(some 1))) else(none)) else(none))=some r:=by first|(rw[hji16] at H;exact H)|(simp only[hji16] at H ⊢;exact H)
      have hji16w:(IntKind.i64.wrap ((c.length:Int) - l))=j:=(bZ_ _).trans hji16;obtain⟨ag,H⟩:=ifn H;have al:=decide_eq_true ag;clear ag;obtain⟨ah,H⟩:=ifn H;have am:=decide_eq_true ah;clear ah;by_cases I:(Op.bytesLess ((rdOf ByteArray.empty g (i)).toList) ((rdOf ByteArray.empty c (j)).toList))=true
      ·rw[if_pos I] at H;have V:(Op.bytesLess ((rdOf ByteArray.empty g (i)).toList) ((rdOf ByteArray.empty c (j)).toList))=true:=I;clear I;obtain rfl:=Option.some.inj H;obtain⟨ar,au,eo20⟩:=Kd.bh_ m.out;subst eo20;have o:0≤((i):Int):=TD;have p:(i)<(g.length:Int):=TD;obtain⟨J,x,y⟩:=Kd.bp_ (Kd.aL_ m.out).2.2 (i) o p;cases x;replace o:=eq_true o;replace p:=eq_true p;obtain⟨av,aw,eo21⟩:=Kd.bh_ n.out;subst eo21;have q:0≤((j):Int):=TD;have s:(j)<(c.length:Int):=TD;obtain⟨K,z,A⟩:=Kd.bp_ (Kd.aL_ n.out).2.2 (j) q s;cases z;replace q:=eq_true q;replace s:=eq_true s;go_wp2;go_ret;exact⟨by first|rfl|(simp[az_,ay_]<;>rfl)|(simp only[←hji13,←hji16];first|rfl|(simp[az_,ay_]<;>rfl))|(simp[*,az_,ay_]<;>rfl),TB⟩
      ·rw[if_neg I] at H
       have V:(Op.bytesLess ((rdOf ByteArray.empty g (i)).toList) ((rdOf ByteArray.empty c (j)).toList))=false:=by simpa using I
       clear I;by_cases D:(rdOf ByteArray.empty g (i)).toList=(rdOf ByteArray.empty c (j)).toList
       ·rw[if_pos D] at H;have W:=beq_iff_eq.mpr D;have X:=bne_eq_false_iff_eq.mpr D;clear D;have H':=AM H;clear H;obtain⟨ax,ay,eo23⟩:=Kd.bh_ m.out;subst eo23;have o:0≤((i):Int):=TD;have p:(i)<(g.length:Int):=TD;obtain⟨J,x,y⟩:=Kd.bp_ (Kd.aL_ m.out).2.2 (i) o p;cases x;replace o:=eq_true o;replace p:=eq_true p;obtain⟨az,aA,eo24⟩:=Kd.bh_ n.out;subst eo24;have q:0≤((j):Int):=TD;have s:(j)<(c.length:Int):=TD;obtain⟨K,z,A⟩:=Kd.bp_ (Kd.aL_ n.out).2.2 (j) q s;cases z;replace q:=eq_true q;replace s:=eq_true s;go_wp2;go_roundg U
        case measure=>have:=HK1.out;have:=HJ6.out;omega
        case rel=>exact⟨(wrap64 (l+1)),TF,H',⟨by have:=HK1.out;have:=HJ6.out;omega⟩,RW m,RW n,⟨TB⟩⟩
       ·rw[if_neg D] at H;have W:=beq_eq_false_iff_ne.mpr D;have X:=bne_iff_ne.mpr D;obtain rfl:=Option.some.inj H;obtain⟨aB,aC,eo25⟩:=Kd.bh_ m.out;subst eo25;have o:0≤((i):Int):=TD;have p:(i)<(g.length:Int):=TD;obtain⟨J,x,y⟩:=Kd.bp_ (Kd.aL_ m.out).2.2 (i) o p;cases x;replace o:=eq_true o;replace p:=eq_true p;obtain⟨aD,aE,eo26⟩:=Kd.bh_ n.out;subst eo26;have q:0≤((j):Int):=TD;have s:(j)<(c.length:Int):=TD;obtain⟨K,z,A⟩:=Kd.bp_ (Kd.aL_ n.out).2.2 (j) q s;cases z;replace q:=eq_true q;replace s:=eq_true s;go_wp2;go_ret;exact⟨by first|rfl|(simp[az_,ay_]<;>rfl)|(simp only[←hji13,←hji16];first|rfl|(simp[az_,ay_]<;>rfl))|(simp[*,az_,ay_]<;>rfl),TB⟩
     ·replace M:=Bool.eq_false_iff.mpr M;subst M;replace H:=iff' H;by_cases B:(g.length:Int)<(c.length:Int)
      ·rw[if_pos B] at H;have Y:=decide_eq_true B;have Z:decide (g.length<c.length)=true:=decide_eq_true (Int.ofNat_lt.mp B);clear B;obtain rfl:=Option.some.inj H;obtain⟨aF,aG,eo28⟩:=Kd.bh_ m.out;subst eo28;obtain⟨aH,aI,eo29⟩:=Kd.bh_ n.out;subst eo29;go_wp2;go_ret;exact⟨TE,TB⟩
      ·rw[if_neg B] at H;have Y:=decide_eq_false B;have Z:decide (g.length<c.length)=false:=decide_eq_false (fun h=>B (Int.ofNat_lt.mpr h));clear B;by_cases C:(g.length:Int) > (c.length:Int)
       ·rw[if_pos C] at H;have aa:=decide_eq_true C;have ab:decide (c.length<g.length)=true:=decide_eq_true (Int.ofNat_lt.mp C);clear C;obtain rfl:=Option.some.inj H;obtain⟨aJ,aK,eo31⟩:=Kd.bh_ m.out;subst eo31;obtain⟨aL,aM,eo32⟩:=Kd.bh_ n.out;subst eo32;go_wp2;go_ret;exact⟨TE,TB⟩
       ·rw[if_neg C] at H;have aa:=decide_eq_false C;have ab:decide (c.length<g.length)=false:=decide_eq_false (fun h=>C (Int.ofNat_lt.mpr h));clear C;obtain rfl:=Option.some.inj H;obtain⟨aN,aO,eo33⟩:=Kd.bh_ m.out;subst eo33;obtain⟨aP,aQ,eo34⟩:=Kd.bh_ n.out;subst eo34;go_wp2;go_ret;exact⟨TE,TB⟩
end
section
def spec_l10Less.f (k:Nat) (a0_0:ByteArray) (a0_1:Int) (a0_2:Bool) (l0_3:List (ad_)) (a0_4:Int) (a0_5:Int) (a1_0:ByteArray) (a1_1:Int) (a1_2:Bool) (l1_3:List (ad_)) (a1_4:Int) (a1_5:Int):Option (Bool):=(aK_.f k a0_0 a1_0).bind fun t904=>(if t904<0 then(some true) else(if t904=0 then(some (decide (a0_1<a1_1))) else(some false)))
theorem spec_l10Less.calls (k:Nat) (j:ByteArray) (q:Int) (t:Bool) (u:Option Addr) (v:Nat) (m:List (ad_)) (x:Int) (y:Int) (l:ByteArray) (s:Int) (z:Bool) (A:Option Addr) (B:Nat) (n:List (ad_)) (D:Int) (E:Int) (r:Bool) (w:World) (G:Kd.C ar_ w u m.length m) (I:m.length≤v) (J:Kd.C ar_ w A n.length n) (K:n.length≤B) (h:spec_l10Less.f k j q t m x y l s z n D E=some r) :
  Calls Tryz.prog 83 #[.agg #[.string j,.int .i64 q,.bool t,.slice u m.length v,.int .i64 x,.int .i64 y],.agg #[.string l,.int .i64 s,.bool z,.slice A n.length B,.int .i64 D,.int .i64 E]] w fun e w'=>e=.returned (.bool r)∧Below w.heap.size w w':=by
 have hu107:=Tryz.underlying107;have Y:=AM G;have Z:=AM I;clear G I;have aa:=AM J;have ab:=AM K;clear J K;have HB:=AM (Below.refl w.heap.size w);have H:((aK_.f k j l).bind fun o=>(if o<0 then(some true) else(if o=0 then(some (decide (q<s))) else(some false))))=some r:=h;clear h;obtain⟨o,A3,H⟩:=bnd H;by_cases c4:o<0
 ·rw[if_pos c4] at H;have X:=decide_eq_true c4;clear c4;obtain rfl:=Option.some.inj H;go_enter Tryz.func83,Tryz.ntmps83;go_wp2_with (first|((with_reducible refine af_ (N:=2) rfl ?_);refine bE 2 #[.string j,.int .i64 q,.bool t,.slice u m.length v,.int .i64 x,.int .i64 y] 107 ?_;intro M hg w5 hbox hb;have c:=AM (hbox);have O:=bG hg;replace HB:=BS hb;clear hb hbox hg)|((with_reducible refine af_ (N:=3) rfl ?_);refine bE 3 #[.string l,.int .i64 s,.bool z,.slice A n.length B,.int .i64 D,.int .i64 E] 107 ?_;intro R hg w6 hbox hb;have g:=AM (hbox);have U:=bG hg;replace HB:=BS hb;have i:=bN c hg;have p:=bM c hg;replace c:=KB c hb;clear hb hbox hg;obtain⟨am,an⟩:=nn i;have ao:=cz6 c;have ap:=cz6 g)|((with_reducible refine ac_ (f:=134) rfl ?_);refine goesL_ (some 10) rfl rfl Tryz.func134 KR rfl #[.string j,.string l] rfl TA ?_;(with_reducible refine(aK_.calls k j l o _ A3.out).mono ?_);rintro e aq ⟨rfl,hb⟩;refine⟨_,rfl,?_⟩;replace c:=KB c hb;replace g:=KB g hb;replace HB:=BS hb;clear hb));go_ret;exact⟨TE,TB⟩
 ·rw[if_neg c4] at H;have X:=decide_eq_false c4;clear c4;by_cases F:o=0
  ·rw[if_pos F] at H;have V:=beq_iff_eq.mpr F;have W:=bne_eq_false_iff_eq.mpr F;clear F;obtain rfl:=Option.some.inj H;go_enter Tryz.func83,Tryz.ntmps83;go_wp2_with (first|((with_reducible refine af_ (N:=2) rfl ?_);refine bE 2 #[.string j,.int .i64 q,.bool t,.slice u m.length v,.int .i64 x,.int .i64 y] 107 ?_;intro M hg ar hbox hb;have c:=AM (hbox);have O:=bG hg;replace HB:=BS hb;clear hb hbox hg)|((with_reducible refine af_ (N:=3) rfl ?_);refine bE 3 #[.string l,.int .i64 s,.bool z,.slice A n.length B,.int .i64 D,.int .i64 E] 107 ?_;intro R hg au hbox hb;have g:=AM (hbox);have U:=bG hg;replace HB:=BS hb;have i:=bN c hg;have p:=bM c hg;replace c:=KB c hb;clear hb hbox hg;obtain⟨ac,ad⟩:=nn i;have ae:=cz6 c;have af:=cz6 g)|((with_reducible refine ac_ (f:=134) rfl ?_);refine goesL_ (some 10) rfl rfl Tryz.func134 KR rfl #[.string j,.string l] rfl TA ?_;(with_reducible refine(aK_.calls k j l o _ A3.out).mono ?_);rintro e av ⟨rfl,hb⟩;refine⟨_,rfl,?_⟩;replace c:=KB c hb;replace g:=KB g hb;replace HB:=BS hb;clear hb;have ag:=cz6 c;have ah:=cz6 g));go_ret;exact⟨TE,TB⟩
  ·rw[if_neg F] at H;have V:=beq_eq_false_iff_ne.mpr F;have W:=bne_iff_ne.mpr F;obtain rfl:=Option.some.inj H;go_enter Tryz.func83,Tryz.ntmps83;go_wp2_with (first|((with_reducible refine af_ (N:=2) rfl ?_);refine bE 2 #[.string j,.int .i64 q,.bool t,.slice u m.length v,.int .i64 x,.int .i64 y] 107 ?_;intro M hg aw hbox hb;have c:=AM (hbox);have O:=bG hg;replace HB:=BS hb;clear hb hbox hg)|((with_reducible refine af_ (N:=3) rfl ?_);refine bE 3 #[.string l,.int .i64 s,.bool z,.slice A n.length B,.int .i64 D,.int .i64 E] 107 ?_;intro R hg ax hbox hb;have g:=AM (hbox);have U:=bG hg;replace HB:=BS hb;have i:=bN c hg;have p:=bM c hg;replace c:=KB c hb;clear hb hbox hg;obtain⟨ai,aj⟩:=nn i;have ak:=cz6 c;have al:=cz6 g)|((with_reducible refine ac_ (f:=134) rfl ?_);refine goesL_ (some 10) rfl rfl Tryz.func134 KR rfl #[.string j,.string l] rfl TA ?_;(with_reducible refine(aK_.calls k j l o _ A3.out).mono ?_);rintro e ay ⟨rfl,hb⟩;refine⟨_,rfl,?_⟩;replace c:=KB c hb;replace g:=KB g hb;replace HB:=BS hb;clear hb));go_ret;exact⟨TE,TB⟩
end
section
mutual
def a2_.j0:Nat→ByteArray→Bool→Option (Int)
 | 0,_,_=>none
 | k+1,x0,x18=>if x18=true then(some (-1)) else(a2_.l0 k x0 0 0)
def a2_.l0:Nat→ByteArray→Int→Int→Option (Int)
 | 0,_,_,_=>none
 | k+1,x0,x3,x4=>if x4<(x0.size:Int) then(if 0≤x4 then(if (bt x0 x4)<48 then(some (-1)) else(if (bt x0 x4) > 57 then(some (-1)) else(a2_.l0 k x0 (wrap64 ((wrap64 (10 * x3))+(((bt x0 x4) - 48) % 256))) (wrap64 (x4+1))))) else(none)) else(some x3)
end
def a2_.f (k:Nat) (a0:ByteArray):Option (Int):=(bb_.f (a0.size:Int) 1 10).bind fun t135=>(if t135=true then(if 0<(a0.size:Int) then(if (bt a0 0)=48 then(a2_.j0 k a0 (decide ((a0.size:Int) > 1))) else(a2_.j0 k a0 false)) else(none)) else(a2_.j0 k a0 true))
theorem a2_.calls (k:Nat) (a0:ByteArray) (r:Int) (w:World) (h:a2_.f k a0=some r) :
  Calls Tryz.prog 183 #[.string a0] w fun e w'=>e=.returned (.int .i64 r)∧Drawn0 w w':=by
 have H:((bb_.f (a0.size:Int) 1 10).bind fun o=>(if o=true then(if 0<(a0.size:Int) then(if (bt a0 0)=48 then(a2_.j0 k a0 (decide ((a0.size:Int) > 1))) else(a2_.j0 k a0 false)) else(none)) else(a2_.j0 k a0 true)))=some r:=h;clear h;have u:=AM H;clear H;go_enter Tryz.func183,Tryz.ntmps183
 go_upto_region 1 with (fail)
 go_cut [18] (fun G wc=>∃(kq:Nat) (g:Bool),G=.bool g∧Aside0 (a2_.j0 kq a0 g=some r)∧Aside0 (kq≤k)∧Drawn0 w wc)
 case first =>
  have H:=u.out;clear u;obtain⟨o,A3,H⟩:=bnd H;by_cases c4:o=true
  ·subst c4;replace H:=ift H;obtain⟨c5,H⟩:=ifn H;have s:=decide_eq_true c5;have y:decide (0<a0.size)=true:=decide_eq_true (by omega);clear c5;(first|rw[s]|(simp only[bZ_,i32_w];rw[s])|rw[y]|skip);by_cases c7:(bt a0 0)=48
   ·rw[if_pos c7] at H;have z:=beq_iff_eq.mpr c7;have A:=bne_eq_false_iff_eq.mpr c7;clear c7;have H':=AM H;clear H;go_wp2_with (first|((with_reducible refine ac_ (f:=80) rfl ?_);refine goesL_ (some 7) rfl rfl Tryz.func80 KR rfl #[.int .i64 (a0.size:Int),.int .i64 1,.int .i64 10] rfl TA ?_;(with_reducible refine(bb_.calls (a0.size:Int) 1 10 true _ A3.out).mono ?_);rintro e w' ⟨rfl,⟨nd,rfl⟩⟩;refine⟨_,rfl,?_⟩;have p6:0≤(0:Int):=(by omega);have q6:0<a0.size:=(by have:(0:Int)<(a0.size:Int):=TD;omega);have I:∀h:0<a0.size,((a0[0]'h).toNat:Int)=bt a0 0:=ca_ a0 0;clear p6;have qi6:(0<(a0.size:Int))=True:=eq_true TD;replace q6:=eq_true q6));go_meet
    case rel=>exact⟨_,(decide ((a0.size:Int) > 1)),TF,H',⟨by first|omega|exact Nat.le_refl _⟩,TN⟩
   ·rw[if_neg c7] at H;have z:=beq_eq_false_iff_ne.mpr c7;have A:=bne_iff_ne.mpr c7;have H':=AM H;clear H;go_wp2_with (first|((with_reducible refine ac_ (f:=80) rfl ?_);refine goesL_ (some 7) rfl rfl Tryz.func80 KR rfl #[.int .i64 (a0.size:Int),.int .i64 1,.int .i64 10] rfl TA ?_;(with_reducible refine(bb_.calls (a0.size:Int) 1 10 true _ A3.out).mono ?_);rintro e w' ⟨rfl,⟨nd,rfl⟩⟩;refine⟨_,rfl,?_⟩;have p6:0≤(0:Int):=(by omega);have q6:0<a0.size:=(by have:(0:Int)<(a0.size:Int):=TD;omega);have I:∀h:0<a0.size,((a0[0]'h).toNat:Int)=bt a0 0:=ca_ a0 0;clear p6;have qi6:(0<(a0.size:Int))=True:=eq_true TD;replace q6:=eq_true q6));go_meet
    case rel=>exact⟨_,(false),TF,H',⟨by first|omega|exact Nat.le_refl _⟩,TN⟩
  ·replace c4:=Bool.eq_false_iff.mpr c4;subst c4;replace H:=iff' H;have H':=AM H;clear H;go_wp2_with (first|((with_reducible refine ac_ (f:=80) rfl ?_);refine goesL_ (some 7) rfl rfl Tryz.func80 KR rfl #[.int .i64 (a0.size:Int),.int .i64 1,.int .i64 10] rfl TA ?_;(with_reducible refine(bb_.calls (a0.size:Int) 1 10 false _ A3.out).mono ?_);rintro e w' ⟨rfl,⟨nd,rfl⟩⟩;refine⟨_,rfl,?_⟩));go_meet
   case rel=>exact⟨_,(true),TF,H',⟨by first|omega|exact Nat.le_refl _⟩,TN⟩
 case rest =>
  clear u;obtain⟨kq,g,rfl,HA,HJ1,⟨mc1,rfl⟩⟩:=hcut
  cases kq with
  | zero=>exact absurd HA.out (by simp[a2_.j0])
  | succ B =>
   have H:=HA.out;clear HA;simp only[a2_.j0] at H;by_cases c8:g=true
   ·subst c8;replace H:=ift H;obtain rfl:=Option.some.inj H;go_wp2;go_ret;exact⟨TF,TN⟩
   ·replace c8:=Bool.eq_false_iff.mpr c8;subst c8;replace H:=iff' H;have H':=AM H;clear H;go_wp2;go_loopg [3,4] B (fun kq v3 v4 w'=>∃(l:Int) (c:Int),v3=.int .i64 l∧v4=.int .i64 c∧Aside0 (a2_.l0 kq a0 l c=some r)∧Aside0 (kq≤B)∧Drawn0 w w')
    case atStart=>exact⟨(0),(0),TF,TF,H',⟨Nat.le_refl _⟩,TN⟩
    case round =>
     clear H';obtain⟨l,c,rfl,rfl,HA,HK2,⟨m2,rfl⟩⟩:=hrel
     cases gk with
     | zero=>exact absurd HA.out (by simp[a2_.l0])
     | succ k2 =>
      have H:=HA.out;clear HA;simp only[a2_.l0] at H;by_cases c9:c<(a0.size:Int)
      ·rw[if_pos c9] at H;have C:=decide_eq_true c9;clear c9;obtain⟨c10,H⟩:=ifn H;have J:=decide_eq_true c10;clear c10;by_cases m:(bt a0 c)<48
       ·rw[if_pos m] at H;have v:=decide_eq_true m;clear m;obtain rfl:=Option.some.inj H;have i:0≤(c:Int):=TD;have j:c<(a0.size:Int):=TD;have t:=ca_ a0 c;replace i:=eq_true i;replace j:=eq_true j;go_wp2;go_ret;exact⟨TF,TN⟩
       ·rw[if_neg m] at H;have v:=decide_eq_false m;clear m;by_cases n:(bt a0 c) > 57
        ·rw[if_pos n] at H;have x:=decide_eq_true n;clear n;obtain rfl:=Option.some.inj H;have i:0≤(c:Int):=TD;have j:c<(a0.size:Int):=TD;have t:=ca_ a0 c;replace i:=eq_true i;replace j:=eq_true j;have p:0≤(c:Int):=TD;have q:c<(a0.size:Int):=TD;have D:=ca_ a0 c;replace p:=eq_true p;replace q:=eq_true q;go_wp2;go_ret;exact⟨TF,TN⟩
        ·rw[if_neg n] at H;have x:=decide_eq_false n;clear n;have H':=AM H;clear H;have i:0≤(c:Int):=TD;have j:c<(a0.size:Int):=TD;have t:=ca_ a0 c;replace i:=eq_true i;replace j:=eq_true j;have p:0≤(c:Int):=TD;have q:c<(a0.size:Int):=TD;have D:=ca_ a0 c;replace p:=eq_true p;replace q:=eq_true q;have E:0≤(c:Int):=TD;have F:c<(a0.size:Int):=TD;have K:=ca_ a0 c;replace E:=eq_true E;replace F:=eq_true F;go_wp2;go_roundg k2
         case measure=>have:=HJ1.out;have:=HK2.out;omega
         case rel=>exact⟨(wrap64 ((wrap64 (10 * l))+(((bt a0 c) - 48) % 256))),(wrap64 (c+1)),TF,TF,H',⟨by have:=HJ1.out;have:=HK2.out;omega⟩,TN⟩
      ·rw[if_neg c9] at H;have C:=decide_eq_false c9;clear c9;obtain rfl:=Option.some.inj H;go_wp2;go_ret;exact⟨TF,TN⟩
end
section
def aM_.l0:Nat→Int→List Int→Int→Option (ByteArray)
 | 0,_,_,_=>none
 | k+1,x0,x5,x6=>if x6≥0 then(if 0≤x6 then(if x6<(x5.length:Int) then(aM_.l0 k (x0 / 256) (x5.set (x6:Int).toNat ((x0) % 256)) (wrap64 (x6 - 1))) else(none)) else(none)) else(some (strOfNums x5))
def aM_.f (k:Nat) (a0:Int) (a1:Int):Option (ByteArray):=if 0≤a1 then(if (a1:Int).toNat≤281474976710656 then(aM_.l0 k a0 (List.replicate (a1:Int).toNat 0) (wrap64 (a1 - 1))) else(none)) else(none)
theorem aM_.calls (k:Nat) (a0:Int) (a1:Int) (r:ByteArray) (w:World) (h:aM_.f k a0 a1=some r) :
  Calls Tryz.prog 184 #[.int .i64 a0,.int .i64 a1] w fun e w'=>e=.returned (.string r)∧Below w.heap.size w w':=by
 have HB:=AM (Below.refl w.heap.size w);have H:(if 0≤a1 then(if (a1:Int).toNat≤281474976710656 then(aM_.l0 k a0 (List.replicate (a1:Int).toNat 0) (wrap64 (a1 - 1))) else(none)) else(none))=some r:=h;clear h;obtain⟨c3,H⟩:=ifn H;have G:=eq_true c3;have I:=decide_eq_true c3;clear c3;obtain⟨c4,H⟩:=ifn H;have J:=eq_true c4;have K:=decide_eq_true c4;clear c4;obtain⟨q,i⟩:∃y_:List Int,y_=(List.replicate (a1:Int).toNat 0):=⟨_,rfl⟩
 replace H:(aM_.l0 k a0 q (wrap64 (a1 - 1)))=some r:=by first|(rw[i];with_reducible exact H)|(have H2_:=(Option.bind_some _ _).symm.trans H;rw[i];with_reducible exact H2_)|(have H2_:=(Option.bind_some _ _).symm.trans H;with_reducible exact H2_)|with_reducible exact H|(rw[i];exact H)|exact H
 have Ny136:=AM i;clear i;have H':=AM H;clear H;go_enter Tryz.func184,Tryz.ntmps184;go_wp2_with (first|((with_reducible refine af_ (N:=8) rfl ?_);refine Kd.R_make (Kd.int .u8) _ 5 rfl (N:=8) rfl 162 _ _ rfl a1 rfl rfl Tryz.underlying162 (.int .u8 0) 1 info5 rfl (by decide) (by omega) 0 (ok:=fun _=>True) (okp:=fun _=>True) rfl (fun _ hk=>hk) trivial TD (Nat.le_trans (Nat.mul_le_mul_right _ (TD:a1.toNat≤281474976710656)) (by omega)) (Below.refl _ _) (Nat.le_refl _) ?_;intro B w5 n hb hg_ hnew_;clear hg_ hnew_;(first|rw[←Ny136.out] at n|(simp only[Int.reduceToNat] at n;rw[←Ny136.out] at n));have x:=RL n;replace HB:=BS hb;clear hb n));go_loopg [0,6] k (fun kq v0 v6 w'=>∃(g:Int) (l:List Int) (c:Int),v0=.int .i64 g∧v6=.int .i64 c∧Aside0 (aM_.l0 kq g l c=some r)∧Aside0 (kq≤k)∧Aside0 (Kd.R (Kd.int .u8) 5 w' w.heap.size (fun _=>True) B l)∧Aside0 (Below w.heap.size w w'))
 case atStart=>exact⟨(a0),(q),(wrap64 (a1 - 1)),TF,TF,H',⟨Nat.le_refl _⟩,RW x,⟨TB⟩⟩
 case round =>
  clear H';obtain⟨g,l,c,rfl,rfl,HA,HK1,m,HB⟩:=hrel
  cases gk with
  | zero=>exact absurd HA.out (by simp[aM_.l0])
  | succ k1 =>
   have H:=HA.out;clear HA;simp only[aM_.l0] at H;by_cases c7:c≥0
   ·rw[if_pos c7] at H;have C:=decide_eq_true c7;clear c7;obtain⟨c8,H⟩:=ifn H;have M:=decide_eq_true c8;clear c8;obtain⟨c9,H⟩:=ifn H;have O:=decide_eq_true c9;clear c9;obtain⟨o,j⟩:∃y_:List Int,y_=(l.set (c:Int).toNat ((g) % 256)):=⟨_,rfl⟩
    replace H:(aM_.l0 k1 (g / 256) o (wrap64 (c - 1)))=some r:=by first|(rw[j];with_reducible exact H)|(have H2_:=(Option.bind_some _ _).symm.trans H;rw[j];with_reducible exact H2_)|(have H2_:=(Option.bind_some _ _).symm.trans H;with_reducible exact H2_)|with_reducible exact H|(rw[j];exact H)|exact H
    have Ny139:=AM j;clear j;have H':=AM H;clear H;have y:0≤(c:Int):=TD;have z:(c:Int)<((l.length:Int):Int):=TD;obtain⟨go10,D,eo10,s,gl10,cl10,u⟩:=Kd.R_form m.out (by omega);(first|cases eo10|(injection eo10 with ea_ en_ ec_;(first|subst ea_|(injection ea_ with ea_;subst ea_));subst ec_;clear en_));have E:=AM s;have GG10:=AM u;clear s gl10 u;obtain⟨F,hf10_0⟩:=Kd.R_celln 0 m.out (c:Int) y z;replace y:=eq_true y;replace z:=eq_true z;have HP11:=Kd.R_putg m.out (c:Int) ((g) % 256);go_wp2_with (first|((with_reducible refine bN_ (t:=5) (p:=19) rfl ?_);refine bJ_ (t:=5) (p:=19) (v:=?vo_w12) (w1:=(wr.setCell ⟨go10,(c:Int).toNat,none⟩ (.int .u8 ((g) % 256)))) ?hg ?ho ?hn ?hr ?_;(case ho=>rfl);(case hg=>rfl);(case hn=>rfl);(case hr=>first|(go_simp;done)|(go_simp;rfl));intro A hw;have hg:wr.grownBy A (some go10):=(by rw[hw];exact HP11.2);have hp_:Kd.R (Kd.int .u8) 5 A w.heap.size (fun _=>True) (.slice (some ⟨go10,0,none⟩) l.length D) o:=(by rw[hw,Ny139.out];exact HP11.1);clear HP11;replace m:=AM (hp_);replace HB:=AM ((by rw[hw];exact bx_ (HB.out) E.out:Below w.heap.size w A));clear hg hw hp_));go_roundg k1
    case measure=>have:=HK1.out;omega
    case rel=>exact⟨(g / 256),(o),(wrap64 (c - 1)),TF,TF,H',⟨TM⟩,RW m,⟨TB⟩⟩
   ·rw[if_neg c7] at H;have C:=decide_eq_false c7;clear c7;obtain rfl:=Option.some.inj H;have hcv13:=own_string (P:=Tryz.prog) Tryz.underlying162 Tryz.underlying5 Tryz.underlying9 (Kd.own_of_R m.out);go_wp2;go_ret;exact⟨TE,TB⟩
end
section
def bn_.l0:Nat→ByteArray→Bool→List ByteArray→Int→Int→Option (Bool)
 | 0,_,_,_,_,_=>none
 | k+1,x0,x4,f,g,c=>if c<g then(if 0≤c then(if c<(f.length:Int) then(if x4=true then(bn_.l0 k x0 ((rdOf ByteArray.empty f c).toList != ([42]:List UInt8)) f g (wrap64 (c+1))) else(bn_.l0 k x0 false f g (wrap64 (c+1)))) else(none)) else(none)) else(if x4=true then(some (x0.toList != ([]:List UInt8))) else(some false))
def bn_.f (k:Nat) (a0:ByteArray):Option (Bool):=(a4_.f k a0).bind fun bt146=>(bn_.l0 k a0 bt146.2 bt146.1 (bt146.1.length:Int) 0)
theorem bn_.calls (k:Nat) (a0:ByteArray) (r:Bool) (w:World) (h:bn_.f k a0=some r) :
  Calls Tryz.prog 185 #[.string a0] w fun e w'=>e=.returned (.bool r)∧Below w.heap.size w w':=by
 have HB:=AM (Below.refl w.heap.size w);have H:((a4_.f k a0).bind fun bt146=>(bn_.l0 k a0 bt146.2 bt146.1 (bt146.1.length:Int) 0))=some r:=h;clear h;obtain⟨⟨g,q⟩,A2,H⟩:=bnd H
 try dsimp only at H
 have H':=AM H;clear H;go_enter Tryz.func185,Tryz.ntmps185;go_wp2_with (first|((with_reducible refine ac_ (f:=127) rfl ?_);refine goesL_ (some 9) rfl rfl Tryz.func127 KR rfl #[.string a0] rfl TA ?_;(with_reducible refine(a4_.calls k a0 g q _ A2.out).mono ?_);rintro e w3 ⟨z,rfl,t,hb⟩;refine⟨_,rfl,?_⟩;have n:=RL t;replace HB:=BS hb;clear hb;(try clear t);obtain⟨v,x,eo4⟩:=Kd.bh_ n.out;subst eo4));go_loopg [4,14] k (fun kq v4 y w'=>∃(m:Bool) (c:Int),v4=.bool m∧y=.int .i64 c∧Aside0 (bn_.l0 kq a0 m g (g.length:Int) c=some r)∧Aside0 (kq≤k)∧Aside0 (Kd.R Kd.string 9 w' w.heap.size (fun _=>True) (.slice v g.length x) g)∧Aside0 (Below w.heap.size w w'))
 case atStart=>exact⟨(q),(0),TF,TF,H',⟨Nat.le_refl _⟩,RW n,⟨TB⟩⟩
 case round =>
  clear H';obtain⟨m,c,rfl,rfl,HA,HK1,l,HB⟩:=hrel
  cases gk with
  | zero=>exact absurd HA.out (by simp[bn_.l0])
  | succ k1 =>
   have H:=HA.out;clear HA;simp only[bn_.l0] at H;by_cases c5:c<(g.length:Int)
   ·rw[if_pos c5] at H;have u:=decide_eq_true c5;clear c5;obtain⟨c6,H⟩:=ifn H;have A:=decide_eq_true c6;clear c6;obtain⟨c7,H⟩:=ifn H;have B:=decide_eq_true c7;clear c7;by_cases c8:m=true
    ·subst c8;replace H:=ift H;have H':=AM H;clear H;have i:0≤(c:Int):=TD;have j:c<(g.length:Int):=TD;obtain⟨s,o,p⟩:=Kd.bp_ (Kd.aL_ l.out).2.2 c i j;cases o;replace i:=eq_true i;replace j:=eq_true j;go_wp2;go_roundg k1
     case measure=>have:=HK1.out;omega
     case rel=>exact⟨(((rdOf ByteArray.empty g c).toList != ([42]:List UInt8))),(wrap64 (c+1)),TF,TF,H',⟨TM⟩,RW l,⟨TB⟩⟩
    ·replace c8:=Bool.eq_false_iff.mpr c8;subst c8;replace H:=iff' H;have H':=AM H;clear H;have i:0≤(c:Int):=TD;have j:c<(g.length:Int):=TD;obtain⟨s,o,p⟩:=Kd.bp_ (Kd.aL_ l.out).2.2 c i j;cases o;replace i:=eq_true i;replace j:=eq_true j;go_wp2;go_roundg k1
     case measure=>have:=HK1.out;omega
     case rel=>exact⟨(false),(wrap64 (c+1)),TF,TF,H',⟨TM⟩,RW l,⟨TB⟩⟩
   ·rw[if_neg c5] at H;have u:=decide_eq_false c5;clear c5;by_cases c9:m=true
    ·subst c9;replace H:=ift H;obtain rfl:=Option.some.inj H;go_wp2;go_ret;exact⟨by first|rfl|(simp[az_,ay_]<;>rfl)|(simp[*,az_,ay_]<;>rfl)|(simp[az_,ay_];rw[Bool.eq_iff_iff];simp),TB⟩
    ·replace c9:=Bool.eq_false_iff.mpr c9;subst c9;replace H:=iff' H;obtain rfl:=Option.some.inj H;go_wp2;go_ret;exact⟨by first|rfl|(simp[az_,ay_]<;>rfl)|(simp[*,az_,ay_]<;>rfl)|(simp[az_,ay_];rw[Bool.eq_iff_iff];simp),TB⟩
end
section
def bG_.l0:Nat→ByteArray→List ByteArray→Int→Int→Option (ByteArray)
 | 0,_,_,_,_=>none
 | k+1,x5,f,h,c=>if c<h then(if 0≤c then(if c<(f.length:Int) then((some (([(((rdOf ByteArray.empty f c).size:Int)) % 256]:List Int):List Int)).bind fun g=>(if (strOfNums g).size+(rdOf ByteArray.empty f c).size≤9223372036854775807 then(if x5.size+((strOfNums g)++(rdOf ByteArray.empty f c)).size≤9223372036854775807 then(bG_.l0 k (x5++((strOfNums g)++(rdOf ByteArray.empty f c))) f h (wrap64 (c+1))) else(none)) else(none))) else(none)) else(none)) else(if x5.size+1≤9223372036854775807 then(some (x5++(⟨#[0]⟩:ByteArray))) else(none))
def bG_.f (k:Nat) (a0:ByteArray):Option (ByteArray):=(a4_.f k a0).bind fun bt151=>(bG_.l0 k (⟨#[]⟩:ByteArray) bt151.1 (bt151.1.length:Int) 0)
theorem bG_.calls (k:Nat) (a0:ByteArray) (r:ByteArray) (w:World) (h:bG_.f k a0=some r) :
  Calls Tryz.prog 186 #[.string a0] w fun e w'=>e=.returned (.string r)∧Below w.heap.size w w':=by
 have HB:=AM (Below.refl w.heap.size w);have H:((a4_.f k a0).bind fun bt151=>(bG_.l0 k (⟨#[]⟩:ByteArray) bt151.1 (bt151.1.length:Int) 0))=some r:=h;clear h;obtain⟨⟨g,u⟩,A2,H⟩:=bnd H
 try dsimp only at H
 have H':=AM H;clear H;go_enter Tryz.func186,Tryz.ntmps186;go_wp2_with (first|((with_reducible refine ac_ (f:=127) rfl ?_);refine goesL_ (some 10) rfl rfl Tryz.func127 KR rfl #[.string a0] rfl TA ?_;(with_reducible refine(a4_.calls k a0 g u _ A2.out).mono ?_);rintro e w3 ⟨I,rfl,v,hb⟩;refine⟨_,rfl,?_⟩;have o:=RL v;replace HB:=BS hb;clear hb;(try clear v);obtain⟨A,B,eo4⟩:=Kd.bh_ o.out;subst eo4));go_loopg [5,15] k (fun kq v5 C w'=>∃(i:ByteArray) (c:Int),v5=.string i∧C=.int .i64 c∧Aside0 (bG_.l0 kq i g (g.length:Int) c=some r)∧Aside0 (kq≤k)∧Aside0 (Kd.R Kd.string 9 w' w.heap.size (fun _=>True) (.slice A g.length B) g)∧Aside0 (Below w.heap.size w w'))
 case atStart=>exact⟨((⟨#[]⟩:ByteArray)),(0),TF,TF,H',⟨Nat.le_refl _⟩,RW o,⟨TB⟩⟩
 case round =>
  clear H';obtain⟨i,c,rfl,rfl,HA,HK1,m,HB⟩:=hrel
  cases gk with
  | zero=>exact absurd HA.out (by simp[bG_.l0])
  | succ k1 =>
   have H:=HA.out;clear HA;simp only[bG_.l0] at H;by_cases c5:c<(g.length:Int)
   ·rw[if_pos c5] at H;have x:=decide_eq_true c5;clear c5;obtain⟨c6,H⟩:=ifn H;have J:=decide_eq_true c6;clear c6;obtain⟨c7,H⟩:=ifn H;have K:=decide_eq_true c7;clear c7;obtain⟨l,j⟩:∃y_:List Int,y_=(([(((rdOf ByteArray.empty g c).size:Int)) % 256]:List Int)):=⟨_,rfl⟩
    replace H:(if (strOfNums l).size+(rdOf ByteArray.empty g c).size≤9223372036854775807 then(if i.size+((strOfNums l)++(rdOf ByteArray.empty g c)).size≤9223372036854775807 then(bG_.l0 k1 (i++((strOfNums l)++(rdOf ByteArray.empty g c))) g (g.length:Int) (wrap64 (c+1))) else(none)) else(none))=some r:=by first|(rw[j];with_reducible exact H)|(have H2_:=(Option.bind_some _ _).symm.trans H;rw[j];with_reducible exact H2_)|(have H2_:=(Option.bind_some _ _).symm.trans H;with_reducible exact H2_)|with_reducible exact H|(rw[j];exact H)|exact H
    have Ny156:=AM j;clear j;obtain⟨c8,H⟩:=ifn H;have O:=eq_true c8;have U:=decide_eq_true c8
    try have V:(9223372036854775807<(strOfNums l).size+(rdOf ByteArray.empty g c).size)=False:=eq_false (Nat.not_lt.2 c8)
    obtain⟨c9,H⟩:=ifn H;have W:=eq_true c9;have X:=decide_eq_true c9
    try have Y:(9223372036854775807<i.size+((strOfNums l)++(rdOf ByteArray.empty g c)).size)=False:=eq_false (Nat.not_lt.2 c9)
    have H':=AM H;clear H;have p:0≤(c:Int):=TD;have q:c<(g.length:Int):=TD;obtain⟨D,y,z⟩:=Kd.bp_ (Kd.aL_ m.out).2.2 c p q;cases y;replace p:=eq_true p;replace q:=eq_true q;go_wp2_with (first|((with_reducible refine af_ (N:=23) rfl ?_);refine Kd.R_lit (Kd.int .u8) _ 5 ?hg (N:=23) ?hd (xs:=([(((rdOf ByteArray.empty g c).size:Int)) % 256]:List Int)) (inner:=[.int .u8 ((((rdOf ByteArray.empty g c).size:Int)) % 256)]) (ok:=fun _=>True) (okp:=fun _=>True) ?hr ?hp (fun _ hk=>hk) trivial (Below.refl _ _) (Nat.le_refl _) (by simp) ?_;(case hd=>rfl);(case hg=>rfl);(case hr=>first|(go_simp;done)|(go_simp;rfl));(case hp=>exact(Reps.one (show Kd.M (Kd.int .u8) _ _ _ ((((rdOf ByteArray.empty g c).size:Int)) % 256) [.int .u8 ((((rdOf ByteArray.empty g c).size:Int)) % 256)] from rfl) (Reps.none _ _)));intro Z aa n hb hg_ hnew_;clear hg_ hnew_;(first|rw[←Ny156.out] at n|(simp only[Int.reduceToNat] at n;rw[←Ny156.out] at n));replace m:=RB m hb;have s:=RL n;replace HB:=BS hb;clear hb n;have hcv12:=own_string (P:=Tryz.prog) Tryz.underlying162 Tryz.underlying5 Tryz.underlying9 (Kd.own_of_R s.out)));go_roundg k1
    case measure=>have:=HK1.out;omega
    case rel=>exact⟨(i++((strOfNums l)++(rdOf ByteArray.empty g c))),(wrap64 (c+1)),TF,TF,H',⟨TM⟩,RW m,⟨TB⟩⟩
   ·rw[if_neg c5] at H;have x:=decide_eq_false c5;clear c5;obtain⟨t,H⟩:=ifn H;have E:=eq_true t;have F:=decide_eq_true t
    try have G:(9223372036854775807<i.size+1)=False:=eq_false (Nat.not_lt.2 t)
    obtain rfl:=Option.some.inj H;go_wp2;go_ret;exact⟨TE,TB⟩
end
section
mutual
def ak_.l0:Nat→ByteArray→List ByteArray→List ByteArray→Int→Int→Option (ByteArray × Bool)
 | 0,_,_,_,_,_=>none
 | k+1,x6,x7,i,j,c=>if c<j then(if 0≤c then(if c<(i.length:Int) then((a2_.f k (rdOf ByteArray.empty i c)).bind fun g=>((bb_.f g 0 255).bind fun l=>(if l=true then((aM_.f k g 1).bind fun h=>(if x6.size+h.size≤9223372036854775807 then(ak_.l0 k (x6++h) x7 i j (wrap64 (c+1))) else(none))) else(some ((⟨#[]⟩:ByteArray),false))))) else(none)) else(none)) else(some (x6,((x7.length:Int)==4)))
def ak_.j1:Nat→ByteArray→Int→Bool→Option (ByteArray × Bool)
 | 0,_,_,_=>none
 | k+1,x1,h,q=>if q=true then((bn_.f k x1).bind fun i=>(if i=true then((bG_.f k x1).bind fun j=>(some (j,true))) else(some ((⟨#[]⟩:ByteArray),false)))) else(if h=6 then((a2_.f k x1).bind fun g=>((aM_.f k g 4).bind fun l=>((bb_.f g 0 4294967295).bind fun m=>(some (l,m))))) else(if h=15 then((a9_.f k x1 32).bind fun c=>(if (c.length:Int)=2 then(if 0<(c.length:Int) then((a2_.f k (rdOf ByteArray.empty c 0)).bind fun n=>((bb_.f n 0 65535).bind fun o=>(if o=true then(if 1<(c.length:Int) then((bn_.f k (rdOf ByteArray.empty c 1)).bind fun p=>(ak_.j2 k c (!p))) else(none)) else(ak_.j2 k c true)))) else(none)) else(ak_.j2 k c true))) else(if h=16 then(ak_.l1 k x1 0) else(some ((⟨#[]⟩:ByteArray),false)))))
def ak_.j2:Nat→List ByteArray→Bool→Option (ByteArray × Bool)
 | 0,_,_=>none
 | k+1,c,j=>if j=true then(some ((⟨#[]⟩:ByteArray),false)) else(if 0<(c.length:Int) then((a2_.f k (rdOf ByteArray.empty c 0)).bind fun i=>((aM_.f k i 2).bind fun g=>(if 1<(c.length:Int) then((bG_.f k (rdOf ByteArray.empty c 1)).bind fun h=>(if g.size+h.size≤9223372036854775807 then(some (g++h,true)) else(none))) else(none)))) else(none))
def ak_.l1:Nat→ByteArray→Int→Option (ByteArray × Bool)
 | 0,_,_=>none
 | k+1,x1,c=>if c<(x1.size:Int) then(if 0≤c then(if (bt x1 c)<32 then(some ((⟨#[]⟩:ByteArray),false)) else(if (bt x1 c) > 126 then(some ((⟨#[]⟩:ByteArray),false)) else(ak_.l1 k x1 (wrap64 (c+1))))) else(none)) else((some (([((x1.size:Int)) % 256]:List Int):List Int)).bind fun f=>(if (strOfNums f).size+x1.size≤9223372036854775807 then(some ((strOfNums f)++x1,decide ((x1.size:Int)≤30))) else(none)))
end
def ak_.f (k:Nat) (a0:Int) (a1:ByteArray):Option (ByteArray × Bool):=if a0=1 then((a9_.f k a1 46).bind fun t159=>(ak_.l0 k (⟨#[]⟩:ByteArray) t159 t159 (t159.length:Int) 0)) else(if a0=2 then(ak_.j1 k a1 a0 (a0==2)) else(ak_.j1 k a1 a0 (a0==5)))
def ak_.T26:Bool × List (List Nat × List Nat):=(true,[([],[]),([0],[0]),([1],[1]),([2],[2]),([3,3],[3]),([],[]),([5],[5]),([6],[6]),([7,4],[7]),([4,8],[4,8]),([9,8,0,1,2,3,4,5,6,7,8,9],[9]),([10,0,1,2,3,4,5,6,7,8,9,10],[])])
def ak_.B26:List Nat:=[0,1,3,7,15,0,32,96,255,511,1023,2047]
theorem ak_.tab26:rtab .any (opsOf Tryz.f160 26)=ak_.T26:=by kernel_rfl
theorem ak_.bits26:waitsOk ak_.T26.2 ak_.B26=true:=by kernel_rfl
theorem ak_.calls (k:Nat) (a0:Int) (a1:ByteArray) (r1:ByteArray) (r2:Bool) (w:World) (h:ak_.f k a0 a1=some (r1,r2)) :
  Calls Tryz.prog 160 #[.int .i64 a0,.string a1] w fun e w'=>e=.returned (.tuple #[.string r1,.bool r2])∧Below w.heap.size w w':=by
 have HB:=AM (Below.refl w.heap.size w);have H:(if a0=1 then((a9_.f k a1 46).bind fun l=>(ak_.l0 k (⟨#[]⟩:ByteArray) l l (l.length:Int) 0)) else(if a0=2 then(ak_.j1 k a1 a0 (a0==2)) else(ak_.j1 k a1 a0 (a0==5))))=some (r1,r2):=h;clear h;by_cases c3:a0=1
 ·rw[if_pos c3] at H;have a6:=beq_iff_eq.mpr c3;have a7:=bne_eq_false_iff_eq.mpr c3;clear c3;obtain⟨l,A4,H⟩:=bnd H;have H':=AM H;clear H;go_enter Tryz.func160,Tryz.ntmps160;go_wp2_with (first|((with_reducible refine ac_ (f:=164) rfl ?_);refine goesL_ (some 18) rfl rfl Tryz.func164 KR rfl #[.string a1,.int .u8 46] rfl TA ?_;(with_reducible refine(a9_.calls k a1 46 l _ A4.out).mono ?_);rintro e w5 ⟨b9,rfl,aj,hb⟩;refine⟨_,rfl,?_⟩;have X:=RL aj;replace HB:=BS hb;clear hb;(try clear aj);obtain⟨a8,a9,eo6⟩:=Kd.bh_ X.out;subst eo6));go_loopg [6,21] k (fun kq v6 bz w'=>∃(I:ByteArray) (j:Int),v6=.string I∧bz=.int .i64 j∧Aside0 (ak_.l0 kq I l l (l.length:Int) j=some (r1,r2))∧Aside0 (kq≤k)∧Aside0 (Kd.R Kd.string 9 w' w.heap.size (fun _=>True) (.slice a8 l.length a9) l)∧Aside0 (Kd.R Kd.string 9 w' w.heap.size (fun _=>True) (.slice a8 l.length a9) l)∧Aside0 (Below w.heap.size w w'))
  case atStart=>exact⟨((⟨#[]⟩:ByteArray)),(0),TF,TF,H',⟨Nat.le_refl _⟩,RW X,RW X,⟨TB⟩⟩
  case round =>
   clear H';obtain⟨I,j,rfl,rfl,HA,HK1,ak,y,HB⟩:=hrel
   cases gk with
   | zero=>exact absurd HA.out (by simp[ak_.l0])
   | succ k1 =>
    have H:=HA.out;clear HA;simp only[ak_.l0] at H;by_cases c7:j<(l.length:Int)
    ·rw[if_pos c7] at H;have ba:=decide_eq_true c7;clear c7;obtain⟨c8,H⟩:=ifn H;have ca:=decide_eq_true c8;clear c8;obtain⟨c9,H⟩:=ifn H;have cb:=decide_eq_true c9;clear c9;obtain⟨u,bb,H⟩:=bnd H;obtain⟨bd,be,H⟩:=bnd H;by_cases aF:bd=true
     ·subst aF;replace H:=ift H;obtain⟨al,bA,H⟩:=bnd H;obtain⟨aO,H⟩:=ifn H;have bB:=eq_true aO;have bC:=decide_eq_true aO
      try have bD:(9223372036854775807<I.size+al.size)=False:=eq_false (Nat.not_lt.2 aO)
      have H':=AM H;clear H;have z:0≤(j:Int):=TD;have A:j<(l.length:Int):=TD;obtain⟨aP,am,an⟩:=Kd.bp_ (Kd.aL_ y.out).2.2 j z A;cases am;replace z:=eq_true z;replace A:=eq_true A;go_wp2_with (first|((with_reducible refine ac_ (f:=183) rfl ?_);refine goesL_ (some 26) rfl rfl Tryz.func183 KR rfl #[.string (rdOf ByteArray.empty l j)] rfl TA ?_;(with_reducible refine(a2_.calls k1 (rdOf ByteArray.empty l j) u _ bb.out).mono ?_);rintro e w' ⟨rfl,⟨nd,rfl⟩⟩;refine⟨_,rfl,?_⟩)|((with_reducible refine ac_ (f:=80) rfl ?_);refine goesL_ (some 28) rfl rfl Tryz.func80 KR rfl #[.int .i64 u,.int .i64 0,.int .i64 255] rfl TA ?_;(with_reducible refine(bb_.calls u 0 255 true _ be.out).mono ?_);rintro e w' ⟨rfl,⟨nd,rfl⟩⟩;refine⟨_,rfl,?_⟩)|((with_reducible refine ac_ (f:=184) rfl ?_);refine goesL_ (some 32) rfl rfl Tryz.func184 KR rfl #[.int .i64 u,.int .i64 1] rfl TA ?_;(with_reducible refine(aM_.calls k1 u 1 al _ bA.out).mono ?_);rintro e cl ⟨rfl,hb⟩;refine⟨_,rfl,?_⟩;replace ak:=RB ak hb;replace y:=RB y hb;replace HB:=BS hb;clear hb));go_roundg k1
      case measure=>have:=HK1.out;omega
      case rel=>exact⟨(I++al),(wrap64 (j+1)),TF,TF,H',⟨TM⟩,RW ak,RW y,⟨TB⟩⟩
     ·replace aF:=Bool.eq_false_iff.mpr aF;subst aF;replace H:=iff' H;simp only[Option.some.injEq,Prod.mk.injEq] at H;obtain⟨rfl,rfl⟩:=H;have z:0≤(j:Int):=TD;have A:j<(l.length:Int):=TD;obtain⟨aP,am,an⟩:=Kd.bp_ (Kd.aL_ y.out).2.2 j z A;cases am;replace z:=eq_true z;replace A:=eq_true A;go_wp2_with (first|((with_reducible refine ac_ (f:=183) rfl ?_);refine goesL_ (some 26) rfl rfl Tryz.func183 KR rfl #[.string (rdOf ByteArray.empty l j)] rfl TA ?_;(with_reducible refine(a2_.calls k1 (rdOf ByteArray.empty l j) u _ bb.out).mono ?_);rintro e w' ⟨rfl,⟨nd,rfl⟩⟩;refine⟨_,rfl,?_⟩)|((with_reducible refine ac_ (f:=80) rfl ?_);refine goesL_ (some 28) rfl rfl Tryz.func80 KR rfl #[.int .i64 u,.int .i64 0,.int .i64 255] rfl TA ?_;(with_reducible refine(bb_.calls u 0 255 false _ be.out).mono ?_);rintro e w' ⟨rfl,⟨nd,rfl⟩⟩;refine⟨_,rfl,?_⟩));go_ret2;exact⟨TE,TB⟩
    ·rw[if_neg c7] at H;have ba:=decide_eq_false c7;clear c7;simp only[Option.some.injEq,Prod.mk.injEq] at H;obtain⟨rfl,rfl⟩:=H;go_wp2;go_ret2;exact⟨TE,TB⟩
 ·rw[if_neg c3] at H;have a6:=beq_eq_false_iff_ne.mpr c3;have a7:=bne_iff_ne.mpr c3;have ao:=AM H;clear H;go_enter Tryz.func160,Tryz.ntmps160
  go_upto_if 39 with (fail)
  go_cut [39] (fun bF wc=>∃(kq:Nat) (v:Bool),bF=.bool v∧Aside0 (ak_.j1 kq a1 a0 v=some (r1,r2))∧Aside0 (kq≤k)∧Aside0 (Below w.heap.size w wc))
  case first =>
   have H:=ao.out;clear ao;by_cases Y:a0=2
   ·rw[if_pos Y] at H;have B:=beq_iff_eq.mpr Y;have Z:=bne_eq_false_iff_eq.mpr Y;clear Y;(first|rw[B]|(simp only[bZ_,i32_w];rw[B])|rw[Z]|skip);have H':=AM H;clear H;go_wp2;go_meet
    case rel=>exact⟨_,((a0==2)),TF,H',⟨by first|omega|exact Nat.le_refl _⟩,⟨TB⟩⟩
   ·rw[if_neg Y] at H;have B:=beq_eq_false_iff_ne.mpr Y;have Z:=bne_iff_ne.mpr Y;(first|rw[B]|(simp only[bZ_,i32_w];rw[B])|rw[Z]|skip);have H':=AM H;clear H;go_wp2;go_meet
    case rel=>exact⟨_,((a0==5)),TF,H',⟨by first|omega|exact Nat.le_refl _⟩,⟨TB⟩⟩
  case rest =>
   clear ao;obtain⟨kq,v,rfl,HA,HJ15,HB⟩:=hcut
   cases kq with
   | zero=>exact absurd HA.out (by simp[ak_.j1])
   | succ p =>
    have H:=HA.out;clear HA;simp only[ak_.j1] at H;by_cases aG:v=true
    ·subst aG;replace H:=ift H;obtain⟨bf,bg,H⟩:=bnd H;by_cases aH:bf=true
     ·subst aH;replace H:=ift H;obtain⟨bh,bH,H⟩:=bnd H;simp only[Option.some.injEq,Prod.mk.injEq] at H;obtain⟨rfl,rfl⟩:=H;go_wp2_with (first|((with_reducible refine ac_ (f:=185) rfl ?_);refine goesL_ (some 43) rfl rfl Tryz.func185 KR rfl #[.string a1] rfl TA ?_;(with_reducible refine(bn_.calls p a1 true _ bg.out).mono ?_);rintro e cm ⟨rfl,hb⟩;refine⟨_,rfl,?_⟩;replace HB:=BS hb;clear hb)|((with_reducible refine ac_ (f:=186) rfl ?_);refine goesL_ (some 46) rfl rfl Tryz.func186 KR rfl #[.string a1] rfl TA ?_;(with_reducible refine(bG_.calls p a1 bh _ bH.out).mono ?_);rintro e cn ⟨rfl,hb⟩;refine⟨_,rfl,?_⟩;replace HB:=BS hb;clear hb));go_ret2;exact⟨TE,TB⟩
     ·replace aH:=Bool.eq_false_iff.mpr aH;subst aH;replace H:=iff' H;simp only[Option.some.injEq,Prod.mk.injEq] at H;obtain⟨rfl,rfl⟩:=H;go_wp2_with (first|((with_reducible refine ac_ (f:=185) rfl ?_);refine goesL_ (some 43) rfl rfl Tryz.func185 KR rfl #[.string a1] rfl TA ?_;(with_reducible refine(bn_.calls p a1 false _ bg.out).mono ?_);rintro e co ⟨rfl,hb⟩;refine⟨_,rfl,?_⟩;replace HB:=BS hb;clear hb));go_ret2;exact⟨TE,TB⟩
    ·replace aG:=Bool.eq_false_iff.mpr aG;subst aG;replace H:=iff' H;by_cases aa:a0=6
     ·rw[if_pos aa] at H;have aQ:=beq_iff_eq.mpr aa;have aR:=bne_eq_false_iff_eq.mpr aa;clear aa;obtain⟨J,bI,H⟩:=bnd H;obtain⟨bi,bJ,H⟩:=bnd H;obtain⟨bj,bK,H⟩:=bnd H;simp only[Option.some.injEq,Prod.mk.injEq] at H;obtain⟨rfl,rfl⟩:=H;go_wp2_with (first|((with_reducible refine ac_ (f:=183) rfl ?_);refine goesL_ (some 50) rfl rfl Tryz.func183 KR rfl #[.string a1] rfl TA ?_;(with_reducible refine(a2_.calls p a1 J _ bI.out).mono ?_);rintro e w' ⟨rfl,⟨nd,rfl⟩⟩;refine⟨_,rfl,?_⟩)|((with_reducible refine ac_ (f:=184) rfl ?_);refine goesL_ (some 52) rfl rfl Tryz.func184 KR rfl #[.int .i64 J,.int .i64 4] rfl TA ?_;(with_reducible refine(aM_.calls p J 4 bi _ bJ.out).mono ?_);rintro e cp ⟨rfl,hb⟩;refine⟨_,rfl,?_⟩;replace HB:=BS hb;clear hb)|((with_reducible refine ac_ (f:=80) rfl ?_);refine goesL_ (some 54) rfl rfl Tryz.func80 KR rfl #[.int .i64 J,.int .i64 0,.int .i64 4294967295] rfl TA ?_;(with_reducible refine(bb_.calls J 0 4294967295 bj _ bK.out).mono ?_);rintro e w' ⟨rfl,⟨nd,rfl⟩⟩;refine⟨_,rfl,?_⟩));go_ret2;exact⟨TE,TB⟩
     ·rw[if_neg aa] at H;have aQ:=beq_eq_false_iff_ne.mpr aa;have aR:=bne_iff_ne.mpr aa;by_cases ab:a0=15
      ·rw[if_pos ab] at H;have aS:=beq_iff_eq.mpr ab;have aT:=bne_eq_false_iff_eq.mpr ab;clear ab;obtain⟨g,bL,H⟩:=bnd H;have ap:=AM H;clear H
       go_upto_region 24 with (first|((with_reducible refine ac_ (f:=164) rfl ?_);refine goesL_ (some 58) rfl rfl Tryz.func164 KR rfl #[.string a1,.int .u8 32] rfl TA ?_;(with_reducible refine(a9_.calls p a1 32 g _ bL.out).mono ?_);rintro e cq ⟨bk,rfl,aj,hb⟩;refine⟨_,rfl,?_⟩;have m:=RL aj;replace HB:=BS hb;clear hb;(try clear aj)))
       (try simp only[Act.put,List.setIfInBounds_toArray,List.set_cons_zero,List.set_cons_succ]);go_cut [76] (fun bO wc=>∃(kq:Nat) (x:Bool),bO=.bool x∧Aside0 (ak_.j2 kq g x=some (r1,r2))∧Aside0 (kq≤p)∧Aside0 (Kd.R Kd.string 9 wc w.heap.size (fun _=>True) bk g)∧Aside0 (Below w.heap.size w wc))
       case first =>
        have H:=ap.out;clear ap;by_cases ac:(g.length:Int)=2
        ·rw[if_pos ac] at H;have C:=beq_iff_eq.mpr ac;have ad:=bne_eq_false_iff_eq.mpr ac;clear ac;(first|rw[C]|(simp only[bZ_,i32_w];rw[C])|rw[ad]|skip);obtain⟨bl,H⟩:=ifn H;have bP:=decide_eq_true bl;have bQ:decide (0<g.length)=true:=decide_eq_true (by omega);clear bl;obtain⟨af,bm,H⟩:=bnd H;obtain⟨bn,bo,H⟩:=bnd H;by_cases aI:bn=true
         ·subst aI;replace H:=ift H;obtain⟨bp,H⟩:=ifn H;have bR:=decide_eq_true bp;have bS:decide (1<g.length)=true:=decide_eq_true (by omega);clear bp;obtain⟨aK,bT,H⟩:=bnd H;have H':=AM H;clear H;obtain⟨cc,cd,eo41⟩:=Kd.bh_ m.out;subst eo41;have D:0≤(0:Int):=(by omega);have E:0<(g.length:Int):=TD;obtain⟨aq,ar,q⟩:=Kd.bp_ (Kd.aL_ m.out).2.2 0 D E;cases ar;have qi174:(0<g.length)=True:=eq_true (by omega);(try rw[show((0:Int)).toNat=0 from rfl] at q);(try rw[Addr.add_zero'] at q);replace D:=eq_true D;replace E:=eq_true E;go_wp2_with (first|(go_at_call 183;(with_reducible refine(a2_.calls p (rdOf ByteArray.empty g 0) af _ bm.out).mono ?_);rintro e w' ⟨rfl,⟨nd,rfl⟩⟩)|(go_at_call 80;(with_reducible refine(bb_.calls af 0 65535 true _ bo.out).mono ?_);rintro e w' ⟨rfl,⟨nd,rfl⟩⟩;have au:0≤(1:Int):=(by omega);have av:1<(g.length:Int):=TD;obtain⟨aU,bq,O⟩:=Kd.bp_ (Kd.aL_ m.out).2.2 1 au av;obtain rfl:aq=aU:=(by injection bq);(try simp only[show(1:Int).toNat=1 from rfl,Nat.reduceMul,Nat.reduceEqDiff,Go.Addr.add,↓reduceIte] at O);have qi177:(1<g.length)=True:=eq_true (by omega);(try rw[show((1:Int)).toNat=1 from rfl] at O);replace au:=eq_true au;replace av:=eq_true av)|(go_at_call 185;(with_reducible refine(bn_.calls p (rdOf ByteArray.empty g 1) aK _ bT.out).mono ?_);rintro e cr ⟨rfl,hb⟩;replace m:=RB m hb;replace HB:=BS hb;clear hb));go_meet
          case rel=>exact⟨_,(!aK),TF,H',⟨by have:=HJ15.out;first|omega|exact Nat.le_refl _⟩,RW m,⟨TB⟩⟩
         ·replace aI:=Bool.eq_false_iff.mpr aI;subst aI;replace H:=iff' H;have H':=AM H;clear H;obtain⟨ce,cf,eo43⟩:=Kd.bh_ m.out;subst eo43;have D:0≤(0:Int):=(by omega);have E:0<(g.length:Int):=TD;obtain⟨aq,ar,q⟩:=Kd.bp_ (Kd.aL_ m.out).2.2 0 D E;cases ar;have qi174:(0<g.length)=True:=eq_true (by omega);(try rw[show((0:Int)).toNat=0 from rfl] at q);(try rw[Addr.add_zero'] at q);replace D:=eq_true D;replace E:=eq_true E;go_wp2_with (first|(go_at_call 183;(with_reducible refine(a2_.calls p (rdOf ByteArray.empty g 0) af _ bm.out).mono ?_);rintro e w' ⟨rfl,⟨nd,rfl⟩⟩)|(go_at_call 80;(with_reducible refine(bb_.calls af 0 65535 false _ bo.out).mono ?_);rintro e w' ⟨rfl,⟨nd,rfl⟩⟩));go_meet
          case rel=>exact⟨_,(true),TF,H',⟨by have:=HJ15.out;first|omega|exact Nat.le_refl _⟩,RW m,⟨TB⟩⟩
        ·rw[if_neg ac] at H;have C:=beq_eq_false_iff_ne.mpr ac;have ad:=bne_iff_ne.mpr ac;(first|rw[C]|(simp only[bZ_,i32_w];rw[C])|rw[ad]|skip);have H':=AM H;clear H;obtain⟨cg,ch,eo44⟩:=Kd.bh_ m.out;subst eo44;go_wp2;go_meet
         case rel=>exact⟨_,(true),TF,H',⟨by have:=HJ15.out;first|omega|exact Nat.le_refl _⟩,RW m,⟨TB⟩⟩
       case rest =>
        clear ap;obtain⟨kq,x,rfl,HA,HJ31,o,HB⟩:=hcut
        cases kq with
        | zero=>exact absurd HA.out (by simp[ak_.j2])
        | succ aw =>
         have H:=HA.out;clear HA;simp only[ak_.j2] at H;by_cases aJ:x=true
         ·subst aJ;replace H:=ift H;simp only[Option.some.injEq,Prod.mk.injEq] at H;obtain⟨rfl,rfl⟩:=H;go_wp2;go_ret2;exact⟨TE,TB⟩
         ·replace aJ:=Bool.eq_false_iff.mpr aJ;subst aJ;replace H:=iff' H;obtain⟨br,H⟩:=ifn H;have bU:=decide_eq_true br;have bV:decide (0<g.length)=true:=decide_eq_true (by omega);clear br;obtain⟨ax,bW,H⟩:=bnd H;obtain⟨aL,bX,H⟩:=bnd H;obtain⟨bs,H⟩:=ifn H;have bY:=decide_eq_true bs;have bZ:decide (1<g.length)=true:=decide_eq_true (by omega);clear bs;obtain⟨aM,b0,H⟩:=bnd H;obtain⟨aV,H⟩:=ifn H;have b1:=eq_true aV;have b2:=decide_eq_true aV
          try have b3:(9223372036854775807<aL.size+aM.size)=False:=eq_false (Nat.not_lt.2 aV)
          simp only[Option.some.injEq,Prod.mk.injEq] at H;obtain⟨rfl,rfl⟩:=H
          try go_wp2
          replace o:=AM (Kd.R_drew o.out);replace HB:=AM (ah_ HB.out);obtain⟨ci,cj,eo53⟩:=Kd.bh_ o.out;(first|subst eo53|(injection eo53 with f1_ f2_ f3_;have f4_:=f1_.symm;have f5_:=f3_.symm;clear f1_ f2_ f3_;subst f4_;subst f5_));have ay:0≤(0:Int):=(by omega);have az:0<(g.length:Int):=TD;obtain⟨G,bu,s⟩:=Kd.bp_ (Kd.aL_ o.out).2.2 0 ay az;cases bu;have qi179:(0<g.length)=True:=eq_true (by omega);(try rw[show((0:Int)).toNat=0 from rfl] at s);(try rw[Addr.add_zero'] at s);replace ay:=eq_true ay;replace az:=eq_true az;have aA:0≤(1:Int):=(by omega);have aB:1<(g.length:Int):=TD;obtain⟨aW,bv,t⟩:=Kd.bp_ (Kd.aL_ o.out).2.2 1 aA aB;obtain rfl:G=aW:=(by injection bv);(try simp only[show(1:Int).toNat=1 from rfl,Nat.reduceMul,Nat.reduceEqDiff,Go.Addr.add,↓reduceIte] at t);have qi182:(1<g.length)=True:=eq_true (by omega);(try rw[show((1:Int)).toNat=1 from rfl] at t);replace aA:=eq_true aA;replace aB:=eq_true aB;refine start_ (n:=12) (S:=fun w'=>w'.cell? G=some (.string (rdOf ByteArray.empty g 0))∧w'.cell? ⟨G.block,G.off+1,none⟩=some (.string (rdOf ByteArray.empty g 1))) (ds:=[]) #[false,false,false,false,false,false,false,false,false,false,false,false] KR rfl rfl ⟨s,t⟩ (fun hHeld=>?_);refine aR_ ak_.tab26 ak_.bits26 (fun HT_ HW_=>?_);generalize wc.drew=cs at o HB s t hHeld ⊢;refine pA 0 77 (mL 12 1) HT_ rfl rfl ?_;refine pA 1 78 (mL 12 3) HT_ rfl rfl ?_;refine pA 5 82 (mL 12 35) HT_ rfl rfl ?_;refine pA 6 83 (mL 12 99) HT_ rfl rfl ?_;refine tA 2 79 (mL 12 103) HT_ HW_ hHeld rfl rfl (by rintro w' ⟨s0,s1⟩;go_simp;with_reducible rfl) ?_;refine tA 7 84 (mL 12 231) HT_ HW_ hHeld rfl rfl (by rintro w' ⟨s0,s1⟩;go_simp;with_reducible rfl) ?_;refine one_ (i:=3) (N:=some 80) (mL 12 239) rfl rfl (aJ_ HT_.out KR) (by decide) (fun K hK=>?_);refine goes_ Tryz.func183 KR rfl #[.string (rdOf ByteArray.empty g 0)] (by rfl) rfl rfl TA ?_
          with_reducible refine(a2_.calls aw (rdOf ByteArray.empty g 0) ax _ bW.out).mono ?_
          rintro e w' ⟨rfl,⟨nd,rfl⟩⟩;refine⟨_,rfl,?_⟩;refine hK.out _ _ ⟨hHeld.1,hHeld.2⟩ (fun hHeld=>?_);clear hK K;refine nA ?_;refine one_ (i:=4) (N:=some 81) (mL 12 255) rfl rfl (aJ_ HT_.out KR) (by decide) (fun K hK=>?_);refine goes_ Tryz.func184 KR rfl #[.int .i64 ax,.int .i64 2] (by rfl) rfl rfl TA ?_
          with_reducible refine(aM_.calls aw ax 2 aL _ bX.out).mono ?_
          rintro e ct ⟨rfl,hb⟩;have HS0_:=(hb.cell (World.block_lt_of_cell? _ _ (hHeld.1))).trans (hHeld.1);have HS1_:=(hb.cell (World.block_lt_of_cell? _ _ (hHeld.2))).trans (hHeld.2);refine⟨_,rfl,?_⟩;replace o:=RB o hb;replace HB:=BS hb;(try clear hb);refine hK.out _ _ ⟨HS0_,HS1_⟩ (fun hHeld=>?_);clear hK K;refine nA ?_;refine one_ (i:=8) (N:=some 85) (mL 12 511) rfl rfl (aJ_ HT_.out KR) (by decide) (fun K hK=>?_);refine goes_ Tryz.func186 KR rfl #[.string (rdOf ByteArray.empty g 1)] (by rfl) rfl rfl TA ?_
          with_reducible refine(bG_.calls aw (rdOf ByteArray.empty g 1) aM _ b0.out).mono ?_
          rintro e cu ⟨rfl,hb⟩;have HS0_:=(hb.cell (World.block_lt_of_cell? _ _ (hHeld.1))).trans (hHeld.1);have HS1_:=(hb.cell (World.block_lt_of_cell? _ _ (hHeld.2))).trans (hHeld.2);refine⟨_,rfl,?_⟩;replace o:=RB o hb;replace HB:=BS hb;(try clear hb);refine hK.out _ _ ⟨HS0_,HS1_⟩ (fun hHeld=>?_);clear hK K;refine nA ?_;refine pA 9 86 (mL 12 1023) HT_ rfl rfl ?_;refine pA 10 4 (mL 12 2047) HT_ rfl rfl ?_;refine pA 11 5 (mL 12 4095) HT_ rfl rfl ?_;refine done_ (a6_ HT_.out KR) ?_
          try go_wp2
          go_ret2;exact⟨TE,TB⟩
      ·rw[if_neg ab] at H;have aS:=beq_eq_false_iff_ne.mpr ab;have aT:=bne_iff_ne.mpr ab;by_cases ae:a0=16
       ·rw[if_pos ae] at H;have aX:=beq_iff_eq.mpr ae;have aY:=bne_eq_false_iff_eq.mpr ae;clear ae;have H':=AM H;clear H;go_wp2;go_loopg [13] p (fun kq b4 w'=>∃(c:Int),b4=.int .i64 c∧Aside0 (ak_.l1 kq a1 c=some (r1,r2))∧Aside0 (kq≤p)∧Aside0 (Below w.heap.size w w'))
        case atStart=>exact⟨(0),TF,H',⟨Nat.le_refl _⟩,⟨TB⟩⟩
        case round =>
         clear H';obtain⟨c,rfl,HA,HK2,HB⟩:=hrel
         cases gk with
         | zero=>exact absurd HA.out (by simp[ak_.l1])
         | succ k2 =>
          have H:=HA.out;clear HA;simp only[ak_.l1] at H;by_cases ag:c<(a1.size:Int)
          ·rw[if_pos ag] at H;have aZ:=decide_eq_true ag;clear ag;obtain⟨bw,H⟩:=ifn H;have b5:=decide_eq_true bw;clear bw;by_cases ah:(bt a1 c)<32
           ·rw[if_pos ah] at H;have a2:=decide_eq_true ah;clear ah;simp only[Option.some.injEq,Prod.mk.injEq] at H;obtain⟨rfl,rfl⟩:=H;have U:0≤(c:Int):=TD;have V:c<(a1.size:Int):=TD;have aN:=ca_ a1 c;replace U:=eq_true U;replace V:=eq_true V;go_wp2;go_ret2;exact⟨TE,TB⟩
           ·rw[if_neg ah] at H;have a2:=decide_eq_false ah;clear ah;by_cases ai:(bt a1 c) > 126
            ·rw[if_pos ai] at H;have a3:=decide_eq_true ai;clear ai;simp only[Option.some.injEq,Prod.mk.injEq] at H;obtain⟨rfl,rfl⟩:=H;have U:0≤(c:Int):=TD;have V:c<(a1.size:Int):=TD;have aN:=ca_ a1 c;replace U:=eq_true U;replace V:=eq_true V;have aC:0≤(c:Int):=TD;have aD:c<(a1.size:Int):=TD;have bx:=ca_ a1 c;replace aC:=eq_true aC;replace aD:=eq_true aD;go_wp2;go_ret2;exact⟨TE,TB⟩
            ·rw[if_neg ai] at H;have a3:=decide_eq_false ai;clear ai;have H':=AM H;clear H;have U:0≤(c:Int):=TD;have V:c<(a1.size:Int):=TD;have aN:=ca_ a1 c;replace U:=eq_true U;replace V:=eq_true V;have aC:0≤(c:Int):=TD;have aD:c<(a1.size:Int):=TD;have bx:=ca_ a1 c;replace aC:=eq_true aC;replace aD:=eq_true aD;go_wp2;go_roundg k2
             case measure=>have:=HJ15.out;have:=HK2.out;omega
             case rel=>exact⟨(wrap64 (c+1)),TF,H',⟨by have:=HJ15.out;have:=HK2.out;omega⟩,⟨TB⟩⟩
          ·rw[if_neg ag] at H;have aZ:=decide_eq_false ag;clear ag;obtain⟨aE,F⟩:∃y_:List Int,y_=(([((a1.size:Int)) % 256]:List Int)):=⟨_,rfl⟩
           replace H:(if (strOfNums aE).size+a1.size≤9223372036854775807 then(some ((strOfNums aE)++a1,decide ((a1.size:Int)≤30))) else(none))=some (r1,r2):=by first|(rw[F];with_reducible exact H)|(have H2_:=(Option.bind_some _ _).symm.trans H;rw[F];with_reducible exact H2_)|(have H2_:=(Option.bind_some _ _).symm.trans H;with_reducible exact H2_)|with_reducible exact H|(rw[F];exact H)|exact H
           have Ny184:=AM F;clear F;obtain⟨a4,H⟩:=ifn H;have b6:=eq_true a4;have b7:=decide_eq_true a4
           try have b8:(9223372036854775807<(strOfNums aE).size+a1.size)=False:=eq_false (Nat.not_lt.2 a4)
           simp only[Option.some.injEq,Prod.mk.injEq] at H;obtain⟨rfl,rfl⟩:=H;go_wp2_with (first|((with_reducible refine af_ (N:=108) rfl ?_);refine Kd.R_lit (Kd.int .u8) _ 5 ?hg (N:=108) ?hd (xs:=([((a1.size:Int)) % 256]:List Int)) (inner:=[.int .u8 (((a1.size:Int)) % 256)]) (ok:=fun _=>True) (okp:=fun _=>True) ?hr ?hp (fun _ hk=>hk) trivial (Below.refl _ _) (Nat.le_refl _) (by simp) ?_;(case hd=>rfl);(case hg=>rfl);(case hr=>first|(go_simp;done)|(go_simp;rfl));(case hp=>exact(Reps.one (show Kd.M (Kd.int .u8) _ _ _ (((a1.size:Int)) % 256) [.int .u8 (((a1.size:Int)) % 256)] from rfl) (Reps.none _ _)));intro ck w64 W hb hg_ hnew_;clear hg_ hnew_;(first|rw[←Ny184.out] at W|(simp only[Int.reduceToNat] at W;rw[←Ny184.out] at W));have a5:=RL W;replace HB:=BS hb;clear hb W;have hcv66:=own_string (P:=Tryz.prog) Tryz.underlying162 Tryz.underlying5 Tryz.underlying9 (Kd.own_of_R a5.out)));go_ret2;exact⟨TE,TB⟩
       ·rw[if_neg ae] at H;have aX:=beq_eq_false_iff_ne.mpr ae;have aY:=bne_iff_ne.mpr ae;simp only[Option.some.injEq,Prod.mk.injEq] at H;obtain⟨rfl,rfl⟩:=H;go_wp2;go_ret2;exact⟨TE,TB⟩
end
section
def bz_.f (k:Nat) (a0_0:ByteArray) (a0_1:Int) (a0_2:Int) (a0_3:ByteArray):Option (Bool):=(ak_.f k a0_1 a0_3).bind fun bt192=>(if bt192.2=true then((bF_.f k a0_0).bind fun t194=>(if t194=true then((bb_.f a0_2 0 100000).bind fun t195=>(some t195)) else(some false))) else(some false))
theorem bz_.calls (k:Nat) (j:ByteArray) (g:Int) (l:Int) (i:ByteArray) (r:Bool) (w:World) (h:bz_.f k j g l i=some r) :
  Calls Tryz.prog 118 #[.agg #[.string j,.int .i64 g,.int .i64 l,.string i]] w fun e w'=>e=.returned (.bool r)∧Below w.heap.size w w':=by
 have hu93:=Tryz.underlying93;have HB:=AM (Below.refl w.heap.size w);have H:((ak_.f k g i).bind fun bt192=>(if bt192.2=true then((bF_.f k j).bind fun m=>(if m=true then((bb_.f l 0 100000).bind fun n=>(some n)) else(some false))) else(some false)))=some r:=h;clear h;obtain⟨⟨o,s⟩,A2,H⟩:=bnd H
 try dsimp only at H
 by_cases c3:s=true
 ·subst c3;replace H:=ift H;obtain⟨m,A4,H⟩:=bnd H;by_cases c5:m=true
  ·subst c5;replace H:=ift H;obtain⟨n,A6,H⟩:=bnd H;obtain rfl:=Option.some.inj H;go_enter Tryz.func118,Tryz.ntmps118;go_wp2_with (first|((with_reducible refine af_ (N:=1) rfl ?_);refine bE 1 #[.string j,.int .i64 g,.int .i64 l,.string i] 93 ?_;intro p hg w7 hbox hb;have c:=AM (hbox);have q:=bG hg;replace HB:=BS hb;clear hb hbox hg;have z:=cz4 c)|((with_reducible refine ac_ (f:=160) rfl ?_);refine goesL_ (some 10) rfl rfl Tryz.func160 KR rfl #[.int .i64 g,.string i] rfl TA ?_;(with_reducible refine(ak_.calls k g i o true _ A2.out).mono ?_);rintro e w9 ⟨rfl,hb⟩;refine⟨_,rfl,?_⟩;replace c:=KB c hb;replace HB:=BS hb;clear hb;have t:=cz4 c)|(go_at_call 81;(with_reducible refine(bF_.calls k j true _ A4.out).mono ?_);rintro e A ⟨rfl,hb⟩;replace c:=KB c hb;replace HB:=BS hb;clear hb;have u:=cz4 c)|(go_at_call 80;(with_reducible refine(bb_.calls l 0 100000 n _ A6.out).mono ?_);rintro e w' ⟨rfl,⟨nd,rfl⟩⟩));go_ret;exact⟨TE,TB⟩
  ·replace c5:=Bool.eq_false_iff.mpr c5;subst c5;replace H:=iff' H;obtain rfl:=Option.some.inj H;go_enter Tryz.func118,Tryz.ntmps118;go_wp2_with (first|((with_reducible refine af_ (N:=1) rfl ?_);refine bE 1 #[.string j,.int .i64 g,.int .i64 l,.string i] 93 ?_;intro p hg B hbox hb;have c:=AM (hbox);have q:=bG hg;replace HB:=BS hb;clear hb hbox hg;have v:=cz4 c)|((with_reducible refine ac_ (f:=160) rfl ?_);refine goesL_ (some 10) rfl rfl Tryz.func160 KR rfl #[.int .i64 g,.string i] rfl TA ?_;(with_reducible refine(ak_.calls k g i o true _ A2.out).mono ?_);rintro e C ⟨rfl,hb⟩;refine⟨_,rfl,?_⟩;replace c:=KB c hb;replace HB:=BS hb;clear hb;have x:=cz4 c)|(go_at_call 81;(with_reducible refine(bF_.calls k j false _ A4.out).mono ?_);rintro e D ⟨rfl,hb⟩;replace c:=KB c hb;replace HB:=BS hb;clear hb));go_ret;exact⟨TE,TB⟩
 ·replace c3:=Bool.eq_false_iff.mpr c3;subst c3;replace H:=iff' H;obtain rfl:=Option.some.inj H;go_enter Tryz.func118,Tryz.ntmps118;go_wp2_with (first|((with_reducible refine af_ (N:=1) rfl ?_);refine bE 1 #[.string j,.int .i64 g,.int .i64 l,.string i] 93 ?_;intro p hg E hbox hb;have c:=AM (hbox);have q:=bG hg;replace HB:=BS hb;clear hb hbox hg;have y:=cz4 c)|((with_reducible refine ac_ (f:=160) rfl ?_);refine goesL_ (some 10) rfl rfl Tryz.func160 KR rfl #[.int .i64 g,.string i] rfl TA ?_;(with_reducible refine(ak_.calls k g i o false _ A2.out).mono ?_);rintro e F ⟨rfl,hb⟩;refine⟨_,rfl,?_⟩;replace c:=KB c hb;replace HB:=BS hb;clear hb));go_ret;exact⟨TE,TB⟩
end
section
def cg_.f (a0:Bool):Option (Int):=if a0=true then(some (-1)) else(some 1)
theorem cg_.calls (a0:Bool) (r:Int) (w:World) (h:cg_.f a0=some r) :
  Calls Tryz.prog 161 #[.bool a0] w fun e w'=>e=.returned (.int .i64 r)∧Drawn0 w w':=by
 have H:(if a0=true then(some (-1)) else(some 1))=some r:=h;clear h;by_cases c2:a0=true
 ·subst c2;replace H:=ift H;obtain rfl:=Option.some.inj H;go_enter Tryz.func161,Tryz.ntmps161;go_wp2;go_ret;exact⟨TF,TN⟩
 ·replace c2:=Bool.eq_false_iff.mpr c2;subst c2;replace H:=iff' H;obtain rfl:=Option.some.inj H;go_enter Tryz.func161,Tryz.ntmps161;go_wp2;go_ret;exact⟨TF,TN⟩
end
section
def b2_.f (k:Nat) (l:ByteArray) (c:Int) (h:Int) (m:ByteArray) (n:ByteArray) (g:Int) (i:Int) (o:ByteArray):Option (Int):=(aK_.f k l n).bind fun j=>(if j=0 then((ak_.f k c m).bind fun bt209=>((ak_.f k g o).bind fun bt211=>(if c=g then(if bt209.1.toList=bt211.1.toList then(if h=i then(some 0) else((cg_.f (decide (h<i))).bind fun p=>(some p))) else((cg_.f (Op.bytesLess bt209.1.toList bt211.1.toList)).bind fun q=>(some q))) else((cg_.f (decide (c<g))).bind fun s=>(some s))))) else(some j))
theorem b2_.calls (k:Nat) (m:ByteArray) (j:Int) (s:Int) (o:ByteArray) (n:ByteArray) (l:Int) (t:Int) (p:ByteArray) (r:Int) (w:World) (h:b2_.f k m j s o n l t p=some r) :
  Calls Tryz.prog 119 #[.agg #[.string m,.int .i64 j,.int .i64 s,.string o],.agg #[.string n,.int .i64 l,.int .i64 t,.string p]] w fun e w'=>e=.returned (.int .i64 r)∧Below w.heap.size w w':=by
 have hu93:=Tryz.underlying93;have HB:=AM (Below.refl w.heap.size w);have H:((aK_.f k m n).bind fun u=>(if u=0 then((ak_.f k j o).bind fun bt209=>((ak_.f k l p).bind fun bt211=>(if j=l then(if bt209.1.toList=bt211.1.toList then(if s=t then(some 0) else((cg_.f (decide (s<t))).bind fun E=>(some E))) else((cg_.f (Op.bytesLess bt209.1.toList bt211.1.toList)).bind fun F=>(some F))) else((cg_.f (decide (j<l))).bind fun G=>(some G))))) else(some u)))=some r:=h;clear h;obtain⟨u,A3,H⟩:=bnd H;by_cases c4:u=0
 ·rw[if_pos c4] at H;have I:=beq_iff_eq.mpr c4;have J:=bne_eq_false_iff_eq.mpr c4;clear c4;obtain⟨⟨v,C⟩,A5,H⟩:=bnd H
  try dsimp only at H
  obtain⟨⟨x,D⟩,A6,H⟩:=bnd H
  try dsimp only at H
  by_cases c7:j=l
  ·rw[if_pos c7] at H;have K:=beq_iff_eq.mpr c7;have M:=bne_eq_false_iff_eq.mpr c7;clear c7;by_cases c8:v.toList=x.toList
   ·rw[if_pos c8] at H;have O:=beq_iff_eq.mpr c8;have R:=bne_eq_false_iff_eq.mpr c8;clear c8;by_cases c9:s=t
    ·rw[if_pos c9] at H;have U:=beq_iff_eq.mpr c9;have V:=bne_eq_false_iff_eq.mpr c9;clear c9;obtain rfl:=Option.some.inj H;go_enter Tryz.func119,Tryz.ntmps119;go_wp2_with (first|((with_reducible refine af_ (N:=2) rfl ?_);refine bE 2 #[.string m,.int .i64 j,.int .i64 s,.string o] 93 ?_;intro y hg aL hbox hb;have c:=AM (hbox);have z:=bG hg;replace HB:=BS hb;clear hb hbox hg)|((with_reducible refine af_ (N:=3) rfl ?_);refine bE 3 #[.string n,.int .i64 l,.int .i64 t,.string p] 93 ?_;intro A hg aM hbox hb;have g:=AM (hbox);have B:=bG hg;replace HB:=BS hb;have i:=bN c hg;have q:=bM c hg;replace c:=KB c hb;clear hb hbox hg;obtain⟨W,X⟩:=nn i;have Y:=cz4 c;have Z:=cz4 g)|((with_reducible refine ac_ (f:=134) rfl ?_);refine goesL_ (some 14) rfl rfl Tryz.func134 KR rfl #[.string m,.string n] rfl TA ?_;(with_reducible refine(aK_.calls k m n u _ A3.out).mono ?_);rintro e aN ⟨rfl,hb⟩;refine⟨_,rfl,?_⟩;replace c:=KB c hb;replace g:=KB g hb;replace HB:=BS hb;clear hb;have aa:=cz4 c)|((with_reducible refine ac_ (f:=160) rfl ?_);refine goesL_ (some 23) rfl rfl Tryz.func160 KR rfl #[.int .i64 j,.string o] rfl TA ?_;(with_reducible refine(ak_.calls k j o v C _ A5.out).mono ?_);rintro e aO ⟨rfl,hb⟩;refine⟨_,rfl,?_⟩;replace c:=KB c hb;replace g:=KB g hb;replace HB:=BS hb;clear hb;have ab:=cz4 g)|((with_reducible refine ac_ (f:=160) rfl ?_);refine goesL_ (some 31) rfl rfl Tryz.func160 KR rfl #[.int .i64 l,.string p] rfl TA ?_;(with_reducible refine(ak_.calls k l p x D _ A6.out).mono ?_);rintro e aP ⟨rfl,hb⟩;refine⟨_,rfl,?_⟩;replace c:=KB c hb;replace g:=KB g hb;replace HB:=BS hb;clear hb;have ac:=cz4 c;have ad:=cz4 g));go_ret;exact⟨TE,TB⟩
    ·rw[if_neg c9] at H;have U:=beq_eq_false_iff_ne.mpr c9;have V:=bne_iff_ne.mpr c9;obtain⟨E,ae,H⟩:=bnd H;obtain rfl:=Option.some.inj H;go_enter Tryz.func119,Tryz.ntmps119;go_wp2_with (first|((with_reducible refine af_ (N:=2) rfl ?_);refine bE 2 #[.string m,.int .i64 j,.int .i64 s,.string o] 93 ?_;intro y hg aQ hbox hb;have c:=AM (hbox);have z:=bG hg;replace HB:=BS hb;clear hb hbox hg)|((with_reducible refine af_ (N:=3) rfl ?_);refine bE 3 #[.string n,.int .i64 l,.int .i64 t,.string p] 93 ?_;intro A hg aR hbox hb;have g:=AM (hbox);have B:=bG hg;replace HB:=BS hb;have i:=bN c hg;have q:=bM c hg;replace c:=KB c hb;clear hb hbox hg;obtain⟨af,ag⟩:=nn i;have ah:=cz4 c;have ai:=cz4 g)|((with_reducible refine ac_ (f:=134) rfl ?_);refine goesL_ (some 14) rfl rfl Tryz.func134 KR rfl #[.string m,.string n] rfl TA ?_;(with_reducible refine(aK_.calls k m n u _ A3.out).mono ?_);rintro e aS ⟨rfl,hb⟩;refine⟨_,rfl,?_⟩;replace c:=KB c hb;replace g:=KB g hb;replace HB:=BS hb;clear hb;have aj:=cz4 c)|((with_reducible refine ac_ (f:=160) rfl ?_);refine goesL_ (some 23) rfl rfl Tryz.func160 KR rfl #[.int .i64 j,.string o] rfl TA ?_;(with_reducible refine(ak_.calls k j o v C _ A5.out).mono ?_);rintro e aT ⟨rfl,hb⟩;refine⟨_,rfl,?_⟩;replace c:=KB c hb;replace g:=KB g hb;replace HB:=BS hb;clear hb;have ak:=cz4 g)|((with_reducible refine ac_ (f:=160) rfl ?_);refine goesL_ (some 31) rfl rfl Tryz.func160 KR rfl #[.int .i64 l,.string p] rfl TA ?_;(with_reducible refine(ak_.calls k l p x D _ A6.out).mono ?_);rintro e aU ⟨rfl,hb⟩;refine⟨_,rfl,?_⟩;replace c:=KB c hb;replace g:=KB g hb;replace HB:=BS hb;clear hb;have al:=cz4 c;have am:=cz4 g)|((with_reducible refine ac_ (f:=161) rfl ?_);refine goesL_ (some 65) rfl rfl Tryz.func161 KR rfl #[.bool (decide (s<t))] rfl TA ?_;(with_reducible refine(cg_.calls (decide (s<t)) E _ ae.out).mono ?_);rintro e w' ⟨rfl,⟨nd,rfl⟩⟩;refine⟨_,rfl,?_⟩));go_ret;exact⟨TE,TB⟩
   ·rw[if_neg c8] at H;have O:=beq_eq_false_iff_ne.mpr c8;have R:=bne_iff_ne.mpr c8;obtain⟨F,an,H⟩:=bnd H;obtain rfl:=Option.some.inj H;go_enter Tryz.func119,Tryz.ntmps119;go_wp2_with (first|((with_reducible refine af_ (N:=2) rfl ?_);refine bE 2 #[.string m,.int .i64 j,.int .i64 s,.string o] 93 ?_;intro y hg aV hbox hb;have c:=AM (hbox);have z:=bG hg;replace HB:=BS hb;clear hb hbox hg)|((with_reducible refine af_ (N:=3) rfl ?_);refine bE 3 #[.string n,.int .i64 l,.int .i64 t,.string p] 93 ?_;intro A hg aW hbox hb;have g:=AM (hbox);have B:=bG hg;replace HB:=BS hb;have i:=bN c hg;have q:=bM c hg;replace c:=KB c hb;clear hb hbox hg;obtain⟨ao,ap⟩:=nn i;have aq:=cz4 c;have ar:=cz4 g)|((with_reducible refine ac_ (f:=134) rfl ?_);refine goesL_ (some 14) rfl rfl Tryz.func134 KR rfl #[.string m,.string n] rfl TA ?_;(with_reducible refine(aK_.calls k m n u _ A3.out).mono ?_);rintro e aX ⟨rfl,hb⟩;refine⟨_,rfl,?_⟩;replace c:=KB c hb;replace g:=KB g hb;replace HB:=BS hb;clear hb;have au:=cz4 c)|((with_reducible refine ac_ (f:=160) rfl ?_);refine goesL_ (some 23) rfl rfl Tryz.func160 KR rfl #[.int .i64 j,.string o] rfl TA ?_;(with_reducible refine(ak_.calls k j o v C _ A5.out).mono ?_);rintro e aY ⟨rfl,hb⟩;refine⟨_,rfl,?_⟩;replace c:=KB c hb;replace g:=KB g hb;replace HB:=BS hb;clear hb;have av:=cz4 g)|((with_reducible refine ac_ (f:=160) rfl ?_);refine goesL_ (some 31) rfl rfl Tryz.func160 KR rfl #[.int .i64 l,.string p] rfl TA ?_;(with_reducible refine(ak_.calls k l p x D _ A6.out).mono ?_);rintro e aZ ⟨rfl,hb⟩;refine⟨_,rfl,?_⟩;replace c:=KB c hb;replace g:=KB g hb;replace HB:=BS hb;clear hb;have aw:=cz4 c;have ax:=cz4 g)|((with_reducible refine ac_ (f:=161) rfl ?_);refine goesL_ (some 53) rfl rfl Tryz.func161 KR rfl #[.bool (Op.bytesLess v.toList x.toList)] rfl TA ?_;(with_reducible refine(cg_.calls (Op.bytesLess v.toList x.toList) F _ an.out).mono ?_);rintro e w' ⟨rfl,⟨nd,rfl⟩⟩;refine⟨_,rfl,?_⟩));go_ret;exact⟨TE,TB⟩
  ·rw[if_neg c7] at H;have K:=beq_eq_false_iff_ne.mpr c7;have M:=bne_iff_ne.mpr c7;obtain⟨G,ay,H⟩:=bnd H;obtain rfl:=Option.some.inj H;go_enter Tryz.func119,Tryz.ntmps119;go_wp2_with (first|((with_reducible refine af_ (N:=2) rfl ?_);refine bE 2 #[.string m,.int .i64 j,.int .i64 s,.string o] 93 ?_;intro y hg a0 hbox hb;have c:=AM (hbox);have z:=bG hg;replace HB:=BS hb;clear hb hbox hg)|((with_reducible refine af_ (N:=3) rfl ?_);refine bE 3 #[.string n,.int .i64 l,.int .i64 t,.string p] 93 ?_;intro A hg a1 hbox hb;have g:=AM (hbox);have B:=bG hg;replace HB:=BS hb;have i:=bN c hg;have q:=bM c hg;replace c:=KB c hb;clear hb hbox hg;obtain⟨az,aA⟩:=nn i;have aB:=cz4 c;have aC:=cz4 g)|((with_reducible refine ac_ (f:=134) rfl ?_);refine goesL_ (some 14) rfl rfl Tryz.func134 KR rfl #[.string m,.string n] rfl TA ?_;(with_reducible refine(aK_.calls k m n u _ A3.out).mono ?_);rintro e a2 ⟨rfl,hb⟩;refine⟨_,rfl,?_⟩;replace c:=KB c hb;replace g:=KB g hb;replace HB:=BS hb;clear hb;have aD:=cz4 c)|((with_reducible refine ac_ (f:=160) rfl ?_);refine goesL_ (some 23) rfl rfl Tryz.func160 KR rfl #[.int .i64 j,.string o] rfl TA ?_;(with_reducible refine(ak_.calls k j o v C _ A5.out).mono ?_);rintro e a3 ⟨rfl,hb⟩;refine⟨_,rfl,?_⟩;replace c:=KB c hb;replace g:=KB g hb;replace HB:=BS hb;clear hb;have aE:=cz4 g)|((with_reducible refine ac_ (f:=160) rfl ?_);refine goesL_ (some 31) rfl rfl Tryz.func160 KR rfl #[.int .i64 l,.string p] rfl TA ?_;(with_reducible refine(ak_.calls k l p x D _ A6.out).mono ?_);rintro e a4 ⟨rfl,hb⟩;refine⟨_,rfl,?_⟩;replace c:=KB c hb;replace g:=KB g hb;replace HB:=BS hb;clear hb;have aF:=cz4 c;have aG:=cz4 g)|((with_reducible refine ac_ (f:=161) rfl ?_);refine goesL_ (some 45) rfl rfl Tryz.func161 KR rfl #[.bool (decide (j<l))] rfl TA ?_;(with_reducible refine(cg_.calls (decide (j<l)) G _ ay.out).mono ?_);rintro e w' ⟨rfl,⟨nd,rfl⟩⟩;refine⟨_,rfl,?_⟩));go_ret;exact⟨TE,TB⟩
 ·rw[if_neg c4] at H;have I:=beq_eq_false_iff_ne.mpr c4;have J:=bne_iff_ne.mpr c4;obtain rfl:=Option.some.inj H;go_enter Tryz.func119,Tryz.ntmps119;go_wp2_with (first|((with_reducible refine af_ (N:=2) rfl ?_);refine bE 2 #[.string m,.int .i64 j,.int .i64 s,.string o] 93 ?_;intro y hg a5 hbox hb;have c:=AM (hbox);have z:=bG hg;replace HB:=BS hb;clear hb hbox hg)|((with_reducible refine af_ (N:=3) rfl ?_);refine bE 3 #[.string n,.int .i64 l,.int .i64 t,.string p] 93 ?_;intro A hg a6 hbox hb;have g:=AM (hbox);have B:=bG hg;replace HB:=BS hb;have i:=bN c hg;have q:=bM c hg;replace c:=KB c hb;clear hb hbox hg;obtain⟨aH,aI⟩:=nn i;have aJ:=cz4 c;have aK:=cz4 g)|((with_reducible refine ac_ (f:=134) rfl ?_);refine goesL_ (some 14) rfl rfl Tryz.func134 KR rfl #[.string m,.string n] rfl TA ?_;(with_reducible refine(aK_.calls k m n u _ A3.out).mono ?_);rintro e a7 ⟨rfl,hb⟩;refine⟨_,rfl,?_⟩;replace c:=KB c hb;replace g:=KB g hb;replace HB:=BS hb;clear hb));go_ret;exact⟨TE,TB⟩
end
end Go.Proofs.YthohohfmdieohaaGreatDoor.Pp
