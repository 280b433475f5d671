/- The functions that the law reaches,one Lean function and its proof for each;written by wip/pp of this workplace,joined by claimit.py. -/
import Derived.Test.YtbgbbdbolldfcaaGreatDoorProg
import Derived.Below
import Derived.Deep.Draws
import Derived.Deep.AppendLies
import Derived.Maps.AppendAt
import Derived.OwnWalk
import Derived.Laws.BytesArg
import Derived.Laws.MakeOwn
import Derived.Laws.OwnMore
import Derived.Deep.OwnRows
import Derived.Tactics
import Derived.Lib.ConvBytes
import Derived.Laws.Slices
import Derived.WalkKit
import Derived.KernelRfl
import Derived.RowKit3
import Derived.Deep.LoopGhost
import Derived.Deep.QuietTactic
import Derived.BigQuiet
import Derived.WideLaws
import Derived.Deep.DeepCutAuto
import Derived.Deep.CutBlock
import Derived.Deep.RegionHeld3
import Derived.Laws.Rows
import Derived.Lib.AppendStr
import Derived.ArgAppend
import Derived.Laws.IdiomCopy
import Derived.OrdersHeld
import Derived.Laws.BitsLemmas
import Derived.RowKit
import Derived.Test.YtbgbbdbolldfcaaGreatDoorKFnExactApplyDiffW
import Derived.Laws.CopyRow
import Derived.Lib.Overlaps
import Derived.Lib.AppendZerosOnto
import Derived.Laws.Externs
import Derived.Shelf.Spec.SlicesInsert
namespace Go.Proofs.YtbgbbdbolldfcaaGreatDoor.Pp
open Go.RowKit Go.Proofs.YtbgbbdbolldfcaaGreatDoorW.PrintWords Go.Proofs.YtbgbbdbolldfcaaGreatDoorW.PrintLast Go.Proofs.YtbgbbdbolldfcaaGreatDoorW.PrintMore
attribute [local go_sem] max2_int min2_int max_two min_two max_three min_three max_four min_four
set_option linter.unusedVariables false
set_option linter.unusedSimpArgs false
set_option maxHeartbeats 8000000
set_option maxRecDepth 100000
section
def errW:Option Int→Value
 | none=>.nilIface
 | some c=>.iface 0 (.int .i64 c)
theorem aw_:errW none=.nilIface:=rfl
theorem av_ (c:Int):errW (some c)=.iface 0 (.int .i64 c):=rfl
theorem info3:(Tryz.prog.info? 3).map (fun i=>(i.zero,i.size,i.bytes))=some (some (.int .i64 0),1,8):=by kernel_rfl
theorem info5:(Tryz.prog.info? 5).map (fun i=>(i.zero,i.size,i.bytes))=some (some (.int .u8 0),1,1):=by kernel_rfl
theorem info9:(Tryz.prog.info? 9).map (fun i=>(i.zero,i.size,i.bytes))=some (some (.string ⟨#[]⟩),1,16):=by kernel_rfl
theorem info47:(Tryz.prog.info? 47).map (fun i=>(i.zero,i.size,i.bytes))=some (some (.agg #[(.string ⟨#[]⟩),(.int .i64 0),(.int .i64 0),(.string ⟨#[]⟩)]),4,48):=by kernel_rfl
structure aF_ where
 f0:ByteArray
 f1:Int
 f2:Int
 f3:ByteArray
def z_LRecord:aF_:=⟨(⟨#[]⟩:ByteArray),(0:Int),(0:Int),(⟨#[]⟩:ByteArray)⟩
def bm_:Kd aF_:=Kd.iso (Kd.pair Kd.string (Kd.pair (Kd.int .i64) (Kd.pair (Kd.int .i64) Kd.string))) (fun x:aF_=>(x.f0,x.f1,x.f2,x.f3))
theorem k_LRecord_open {w:World} {x:aF_} {cs:List Value} (h:bm_.K w x cs):cs=[.string x.f0,.int .i64 x.f1,.int .i64 x.f2,.string x.f3]:=by
 obtain⟨_,_,rfl,rfl,⟨_,_,rfl,rfl,⟨_,_,rfl,rfl,rfl⟩⟩⟩:=h;exact rfl
theorem k_LRecord_openM {w:World} {base:Nat} {ok:Nat→Prop} {x:aF_} {cs:List Value} (h:bm_.M w base ok x cs):cs=[.string x.f0,.int .i64 x.f1,.int .i64 x.f2,.string x.f3]:=by
 obtain⟨_,_,rfl,rfl,⟨_,_,rfl,rfl,⟨_,_,rfl,rfl,rfl⟩⟩⟩:=h;exact rfl
theorem k_LRecord_mk (w:World) (x:aF_)  : bm_.K w x [.string x.f0,.int .i64 x.f1,.int .i64 x.f2,.string x.f3]:=⟨[.string x.f0],[.int .i64 x.f1,.int .i64 x.f2,.string x.f3],rfl,rfl,⟨[.int .i64 x.f1],[.int .i64 x.f2,.string x.f3],rfl,rfl,⟨[.int .i64 x.f2],[.string x.f3],rfl,rfl,rfl⟩⟩⟩
theorem k_LRecord_mkM (w:World) (base:Nat) (ok:Nat→Prop) (x:aF_)  : bm_.M w base ok x [.string x.f0,.int .i64 x.f1,.int .i64 x.f2,.string x.f3]:=⟨[.string x.f0],[.int .i64 x.f1,.int .i64 x.f2,.string x.f3],rfl,rfl,⟨[.int .i64 x.f1],[.int .i64 x.f2,.string x.f3],rfl,rfl,⟨[.int .i64 x.f2],[.string x.f3],rfl,rfl,rfl⟩⟩⟩
def a5_ (xs:List aF_) (i:Int):aF_:=xs.getD i.toNat z_LRecord
theorem at_TLRecord {w:World} {A:Option Addr} {n:Nat} {xs:List aF_} (h:Kd.C bm_ w A n xs) (i:Int) (h0:0≤i) (h1:i<n):∃ad , A=some ad∧w.cell? (ad.add (i.toNat * 4))=some (.string (a5_ xs i).f0)∧w.cell? ⟨(ad.add (i.toNat * 4)).block,(ad.add (i.toNat * 4)).off+1,none⟩=some (.int .i64 (a5_ xs i).f1)∧w.cell? ⟨(ad.add (i.toNat * 4)).block,(ad.add (i.toNat * 4)).off+2,none⟩=some (.int .i64 (a5_ xs i).f2)∧w.cell? ⟨(ad.add (i.toNat * 4)).block,(ad.add (i.toNat * 4)).off+3,none⟩=some (.string (a5_ xs i).f3):=by
 obtain⟨ad,c,e,_,hK,f⟩:=Kd.C_get h z_LRecord i h0 h1;have hc:∀j u,c[j]? = some u→w.cell? (ad.add (i.toNat * 4+j))=some u:=f;obtain rfl:=k_LRecord_open hK;exact⟨ad,e,hc 0 _ rfl,by rw[←cV_ _ _ 1 (by omega)];exact hc 1 _ rfl,by rw[←cV_ _ _ 2 (by omega)];exact hc 2 _ rfl,by rw[←cV_ _ _ 3 (by omega)];exact hc 3 _ rfl⟩
structure aa_ where
 f0:ByteArray
 f1:Int
 f2:Int
 f3:ByteArray
def co_:aa_:=⟨(⟨#[]⟩:ByteArray),(0:Int),(0:Int),(⟨#[]⟩:ByteArray)⟩
def ad_:Kd aa_:=Kd.iso (Kd.pair Kd.string (Kd.pair (Kd.int .i64) (Kd.pair (Kd.int .i64) Kd.string))) (fun x:aa_=>(x.f0,x.f1,x.f2,x.f3))
theorem k_Record_open {w:World} {x:aa_} {cs:List Value} (h:ad_.K w x cs):cs=[.string x.f0,.int .i64 x.f1,.int .i64 x.f2,.string x.f3]:=by
 obtain⟨_,_,rfl,rfl,⟨_,_,rfl,rfl,⟨_,_,rfl,rfl,rfl⟩⟩⟩:=h;exact rfl
theorem cd_ {w:World} {base:Nat} {ok:Nat→Prop} {x:aa_} {cs:List Value} (h:ad_.M w base ok x cs):cs=[.string x.f0,.int .i64 x.f1,.int .i64 x.f2,.string x.f3]:=by
 obtain⟨_,_,rfl,rfl,⟨_,_,rfl,rfl,⟨_,_,rfl,rfl,rfl⟩⟩⟩:=h;exact rfl
theorem k_Record_mk (w:World) (x:aa_)  : ad_.K w x [.string x.f0,.int .i64 x.f1,.int .i64 x.f2,.string x.f3]:=⟨[.string x.f0],[.int .i64 x.f1,.int .i64 x.f2,.string x.f3],rfl,rfl,⟨[.int .i64 x.f1],[.int .i64 x.f2,.string x.f3],rfl,rfl,⟨[.int .i64 x.f2],[.string x.f3],rfl,rfl,rfl⟩⟩⟩
theorem b9_ (w:World) (base:Nat) (ok:Nat→Prop) (x:aa_)  : ad_.M w base ok x [.string x.f0,.int .i64 x.f1,.int .i64 x.f2,.string x.f3]:=⟨[.string x.f0],[.int .i64 x.f1,.int .i64 x.f2,.string x.f3],rfl,rfl,⟨[.int .i64 x.f1],[.int .i64 x.f2,.string x.f3],rfl,rfl,⟨[.int .i64 x.f2],[.string x.f3],rfl,rfl,rfl⟩⟩⟩
def a_ (xs:List aa_) (i:Int):aa_:=xs.getD i.toNat co_
theorem af_ {w:World} {A:Option Addr} {n:Nat} {xs:List aa_} (h:Kd.C ad_ w A n xs) (i:Int) (h0:0≤i) (h1:i<n):∃ad , A=some ad∧w.cell? (ad.add (i.toNat * 4))=some (.string (a_ xs i).f0)∧w.cell? ⟨(ad.add (i.toNat * 4)).block,(ad.add (i.toNat * 4)).off+1,none⟩=some (.int .i64 (a_ xs i).f1)∧w.cell? ⟨(ad.add (i.toNat * 4)).block,(ad.add (i.toNat * 4)).off+2,none⟩=some (.int .i64 (a_ xs i).f2)∧w.cell? ⟨(ad.add (i.toNat * 4)).block,(ad.add (i.toNat * 4)).off+3,none⟩=some (.string (a_ xs i).f3):=by
 obtain⟨ad,c,e,_,hK,f⟩:=Kd.C_get h co_ i h0 h1;have hc:∀j u,c[j]? = some u→w.cell? (ad.add (i.toNat * 4+j))=some u:=f;obtain rfl:=k_Record_open hK;exact⟨ad,e,hc 0 _ rfl,by rw[←cV_ _ _ 1 (by omega)];exact hc 1 _ rfl,by rw[←cV_ _ _ 2 (by omega)];exact hc 2 _ rfl,by rw[←cV_ _ _ 3 (by omega)];exact hc 3 _ rfl⟩
def rd_L5 (xs:List (List aF_)) (i:Int):(List aF_):=xs.getD i.toNat ([]:List aF_)
theorem at_L5 {w:World} {A:Option Addr} {n:Nat} {xs:List (List aF_)} (h:Kd.C (Kd.slice 54 bm_) w A n xs) (i:Int) (h0:0≤i) (h1:i<n):∃ad A0 c0,A=some ad∧w.cell? (ad.add i.toNat)=some (.slice A0 (rd_L5 xs i).length c0)∧(rd_L5 xs i).length≤c0∧bm_.C w A0 (rd_L5 xs i).length (rd_L5 xs i):=by
 obtain⟨ad,c,e,_,hK,f⟩:=Kd.C_get h ([]:List aF_) i h0 h1;have hc:∀j u,c[j]? = some u→w.cell? (ad.add (i.toNat * 1+j))=some u:=f;obtain⟨A0,c0,rfl,l0,g0⟩:=hK;exact⟨ad,A0,c0,e,by have hq:=hc 0 _ rfl;rwa [Nat.mul_one,Nat.add_zero] at hq,l0,g0⟩
structure S24 where
 f0:ByteArray
 f1:Int
 f2:(List aF_)
def z24:S24:=⟨(⟨#[]⟩:ByteArray),(0:Int),([]:List aF_)⟩
def k24:Kd S24:=Kd.iso (Kd.pair Kd.string (Kd.pair (Kd.int .i64) (Kd.slice 54 bm_))) (fun x:S24=>(x.f0,x.f1,x.f2))
theorem k24_open {w:World} {x:S24} {cs:List Value} (h:k24.K w x cs):∃A2 c2,cs=[.string x.f0,.int .i64 x.f1,.slice A2 x.f2.length c2]∧x.f2.length≤c2∧bm_.C w A2 x.f2.length x.f2:=by
 obtain⟨_,_,rfl,rfl,⟨_,_,rfl,rfl,⟨A2,c2,rfl,l2,g2⟩⟩⟩:=h;exact⟨A2,c2,rfl,l2,g2⟩
theorem k24_openM {w:World} {base:Nat} {ok:Nat→Prop} {x:S24} {cs:List Value} (h:k24.M w base ok x cs):∃v2,cs=[.string x.f0,.int .i64 x.f1,v2]∧bm_.R 54 w base ok v2 x.f2:=by
 obtain⟨_,_,rfl,rfl,⟨_,_,rfl,rfl,⟨v2,rfl,g2⟩⟩⟩:=h;exact⟨v2,rfl,g2⟩
theorem k24_mk (w:World) (x:S24) {A2:Option Addr} {c2:Nat} (l2:x.f2.length≤c2) (g2:bm_.C w A2 x.f2.length x.f2):k24.K w x [.string x.f0,.int .i64 x.f1,.slice A2 x.f2.length c2]:=⟨[.string x.f0],[.int .i64 x.f1,.slice A2 x.f2.length c2],rfl,rfl,⟨[.int .i64 x.f1],[.slice A2 x.f2.length c2],rfl,rfl,⟨A2,c2,rfl,l2,g2⟩⟩⟩
theorem k24_mkM (w:World) (base:Nat) (ok:Nat→Prop) (x:S24) {v2:Value} (g2:bm_.R 54 w base ok v2 x.f2):k24.M w base ok x [.string x.f0,.int .i64 x.f1,v2]:=⟨[.string x.f0],[.int .i64 x.f1,v2],rfl,rfl,⟨[.int .i64 x.f1],[v2],rfl,rfl,⟨v2,rfl,g2⟩⟩⟩
def rd_T24 (xs:List S24) (i:Int):S24:=xs.getD i.toNat z24
theorem at_T24 {w:World} {A:Option Addr} {n:Nat} {xs:List S24} (h:Kd.C k24 w A n xs) (i:Int) (h0:0≤i) (h1:i<n):∃ad A2 c2,A=some ad∧w.cell? (ad.add (i.toNat * 3))=some (.string (rd_T24 xs i).f0)∧w.cell? ⟨(ad.add (i.toNat * 3)).block,(ad.add (i.toNat * 3)).off+1,none⟩=some (.int .i64 (rd_T24 xs i).f1)∧w.cell? ⟨(ad.add (i.toNat * 3)).block,(ad.add (i.toNat * 3)).off+2,none⟩=some (.slice A2 (rd_T24 xs i).f2.length c2)∧(rd_T24 xs i).f2.length≤c2∧bm_.C w A2 (rd_T24 xs i).f2.length (rd_T24 xs i).f2:=by
 obtain⟨ad,c,e,_,hK,f⟩:=Kd.C_get h z24 i h0 h1;have hc:∀j u,c[j]? = some u→w.cell? (ad.add (i.toNat * 3+j))=some u:=f;obtain⟨A2,c2,rfl,l2,g2⟩:=k24_open hK;exact⟨ad,A2,c2,e,hc 0 _ rfl,by rw[←cV_ _ _ 1 (by omega)];exact hc 1 _ rfl,by rw[←cV_ _ _ 2 (by omega)];exact hc 2 _ rfl,l2,g2⟩
structure S_LDiff where
 f0:Int
 f1:Int
 f2:(List aF_)
 f3:(List aF_)
def z_LDiff:S_LDiff:=⟨(0:Int),(0:Int),([]:List aF_),([]:List aF_)⟩
def k_LDiff:Kd S_LDiff:=Kd.iso (Kd.pair (Kd.int .i64) (Kd.pair (Kd.int .i64) (Kd.pair (Kd.slice 54 bm_) (Kd.slice 54 bm_)))) (fun x:S_LDiff=>(x.f0,x.f1,x.f2,x.f3))
theorem k_LDiff_open {w:World} {x:S_LDiff} {cs:List Value} (h:k_LDiff.K w x cs):∃A2 c2 A3 c3,cs=[.int .i64 x.f0,.int .i64 x.f1,.slice A2 x.f2.length c2,.slice A3 x.f3.length c3]∧x.f2.length≤c2∧bm_.C w A2 x.f2.length x.f2∧x.f3.length≤c3∧bm_.C w A3 x.f3.length x.f3:=by
 obtain⟨_,_,rfl,rfl,⟨_,_,rfl,rfl,⟨_,_,rfl,⟨A2,c2,rfl,l2,g2⟩,⟨A3,c3,rfl,l3,g3⟩⟩⟩⟩:=h;exact⟨A2,c2,A3,c3,rfl,l2,g2,l3,g3⟩
theorem k_LDiff_openM {w:World} {base:Nat} {ok:Nat→Prop} {x:S_LDiff} {cs:List Value} (h:k_LDiff.M w base ok x cs):∃v2 v3,cs=[.int .i64 x.f0,.int .i64 x.f1,v2,v3]∧bm_.R 54 w base ok v2 x.f2∧bm_.R 54 w base ok v3 x.f3:=by
 obtain⟨_,_,rfl,rfl,⟨_,_,rfl,rfl,⟨_,_,rfl,⟨v2,rfl,g2⟩,⟨v3,rfl,g3⟩⟩⟩⟩:=h;exact⟨v2,v3,rfl,g2,g3⟩
theorem k_LDiff_mk (w:World) (x:S_LDiff) {A2:Option Addr} {c2:Nat} (l2:x.f2.length≤c2) (g2:bm_.C w A2 x.f2.length x.f2) {A3:Option Addr} {c3:Nat} (l3:x.f3.length≤c3) (g3:bm_.C w A3 x.f3.length x.f3):k_LDiff.K w x [.int .i64 x.f0,.int .i64 x.f1,.slice A2 x.f2.length c2,.slice A3 x.f3.length c3]:=⟨[.int .i64 x.f0],[.int .i64 x.f1,.slice A2 x.f2.length c2,.slice A3 x.f3.length c3],rfl,rfl,⟨[.int .i64 x.f1],[.slice A2 x.f2.length c2,.slice A3 x.f3.length c3],rfl,rfl,⟨[.slice A2 x.f2.length c2],[.slice A3 x.f3.length c3],rfl,⟨A2,c2,rfl,l2,g2⟩,⟨A3,c3,rfl,l3,g3⟩⟩⟩⟩
theorem k_LDiff_mkM (w:World) (base:Nat) (ok:Nat→Prop) (x:S_LDiff) {v2:Value} (g2:bm_.R 54 w base ok v2 x.f2) {v3:Value} (g3:bm_.R 54 w base ok v3 x.f3):k_LDiff.M w base ok x [.int .i64 x.f0,.int .i64 x.f1,v2,v3]:=⟨[.int .i64 x.f0],[.int .i64 x.f1,v2,v3],rfl,rfl,⟨[.int .i64 x.f1],[v2,v3],rfl,rfl,⟨[v2],[v3],rfl,⟨v2,rfl,g2⟩,⟨v3,rfl,g3⟩⟩⟩⟩
def rd_TLDiff (xs:List S_LDiff) (i:Int):S_LDiff:=xs.getD i.toNat z_LDiff
theorem at_TLDiff {w:World} {A:Option Addr} {n:Nat} {xs:List S_LDiff} (h:Kd.C k_LDiff w A n xs) (i:Int) (h0:0≤i) (h1:i<n):∃ad A2 c2 A3 c3,A=some ad∧w.cell? (ad.add (i.toNat * 4))=some (.int .i64 (rd_TLDiff xs i).f0)∧w.cell? ⟨(ad.add (i.toNat * 4)).block,(ad.add (i.toNat * 4)).off+1,none⟩=some (.int .i64 (rd_TLDiff xs i).f1)∧w.cell? ⟨(ad.add (i.toNat * 4)).block,(ad.add (i.toNat * 4)).off+2,none⟩=some (.slice A2 (rd_TLDiff xs i).f2.length c2)∧w.cell? ⟨(ad.add (i.toNat * 4)).block,(ad.add (i.toNat * 4)).off+3,none⟩=some (.slice A3 (rd_TLDiff xs i).f3.length c3)∧(rd_TLDiff xs i).f2.length≤c2∧bm_.C w A2 (rd_TLDiff xs i).f2.length (rd_TLDiff xs i).f2∧(rd_TLDiff xs i).f3.length≤c3∧bm_.C w A3 (rd_TLDiff xs i).f3.length (rd_TLDiff xs i).f3:=by
 obtain⟨ad,c,e,_,hK,f⟩:=Kd.C_get h z_LDiff i h0 h1;have hc:∀j u,c[j]? = some u→w.cell? (ad.add (i.toNat * 4+j))=some u:=f;obtain⟨A2,c2,A3,c3,rfl,l2,g2,l3,g3⟩:=k_LDiff_open hK;exact⟨ad,A2,c2,A3,c3,e,hc 0 _ rfl,by rw[←cV_ _ _ 1 (by omega)];exact hc 1 _ rfl,by rw[←cV_ _ _ 2 (by omega)];exact hc 2 _ rfl,by rw[←cV_ _ _ 3 (by omega)];exact hc 3 _ rfl,l2,g2,l3,g3⟩
def cK_ (x:aF_):Prop:=(x.f0.size≤maxLen)∧((Lit.int .i64 x.f1).wf=true)∧((Lit.int .i64 x.f2).wf=true)∧x.f3.size≤maxLen
def WF24 (x:S24):Prop:=(x.f0.size≤maxLen)∧((Lit.int .i64 x.f1).wf=true)∧x.f2.length≤maxLen∧∀x_∈x.f2,cK_ x_
def WF_LDiff (x:S_LDiff):Prop:=((Lit.int .i64 x.f0).wf=true)∧((Lit.int .i64 x.f1).wf=true)∧(x.f2.length≤maxLen∧∀x_∈x.f2,cK_ x_)∧x.f3.length≤maxLen∧∀x_∈x.f3,cK_ x_
end
section
def cO_.f (a0_0:ByteArray) (a0_1:Int) (a0_2:Int) (a0_3:ByteArray) (a1:Int):Option (Int):=if (wrap64 (a1 - (a0_0.size:Int)))<0 then(some (-1)) else(if (wrap64 ((wrap64 (a1 - (a0_0.size:Int))) - (a0_3.size:Int)))<0 then(some (-1)) else(some (wrap64 ((wrap64 (a1 - (a0_0.size:Int))) - (a0_3.size:Int)))))
theorem cO_.calls (c:ByteArray) (j:Int) (l:Int) (i:ByteArray) (a1:Int) (r:Int) (w:World) (h:cO_.f c j l i a1=some r) :
  Calls Tryz.prog 29 #[.agg #[.string c,.int .i64 j,.int .i64 l,.string i],.int .i64 a1] w fun e w'=>e=.returned (.int .i64 r)∧Below w.heap.size w w':=by
 have hu54:=Tryz.underlying54;have HB:=AM (Below.refl w.heap.size w);have H:=h;clear h;unfold cO_.f at H;by_cases c3:(wrap64 (a1 - (c.size:Int)))<0
 ·rw[if_pos c3] at H;have o:=decide_eq_true c3;clear c3;obtain rfl:=Option.some.inj H;go_enter Tryz.func29,Tryz.ntmps29;go_wp2_with (first|(refine gD 2 rfl ?_;refine bE 2 #[.string c,.int .i64 j,.int .i64 l,.string i] 54 ?_;intro m hg w4 hbox hb;have g:=AM (hbox);have n:=bG hg;replace HB:=BS hb;clear hb hbox hg;have s:=cz4 g));go_ret;exact⟨TE,TB⟩
 ·rw[if_neg c3] at H;have o:=decide_eq_false c3;clear c3;by_cases c6:(wrap64 ((wrap64 (a1 - (c.size:Int))) - (i.size:Int)))<0
  ·rw[if_pos c6] at H;have p:=decide_eq_true c6;clear c6;obtain rfl:=Option.some.inj H;go_enter Tryz.func29,Tryz.ntmps29;go_wp2_with (first|(refine gD 2 rfl ?_;refine bE 2 #[.string c,.int .i64 j,.int .i64 l,.string i] 54 ?_;intro m hg w7 hbox hb;have g:=AM (hbox);have n:=bG hg;replace HB:=BS hb;clear hb hbox hg;have t:=cz4 g));go_ret;exact⟨TE,TB⟩
  ·rw[if_neg c6] at H;have p:=decide_eq_false c6;clear c6;obtain rfl:=Option.some.inj H;go_enter Tryz.func29,Tryz.ntmps29;go_wp2_with (first|(refine gD 2 rfl ?_;refine bE 2 #[.string c,.int .i64 j,.int .i64 l,.string i] 54 ?_;intro m hg w9 hbox hb;have g:=AM (hbox);have n:=bG hg;replace HB:=BS hb;clear hb hbox hg;have q:=cz4 g));go_ret;exact⟨TE,TB⟩
end
section
def bh_.l0:Nat→List (aF_)→Int→Int→Option (Int)
 | 0,_,_,_=>none
 | k+1,x0,x1,x5=>if x5<(x0.length:Int) then(if 0≤x5 then((cO_.f ((a5_ x0 x5).f0) ((a5_ x0 x5).f1) ((a5_ x0 x5).f2) ((a5_ x0 x5).f3) x1).bind fun c=>(if c<0 then(some (-1)) else(bh_.l0 k x0 c (wrap64 (x5+1))))) else(none)) else(some x1)
def bh_.f (k:Nat) (l0:List (aF_)) (a1:Int):Option (Int):=if (wrap64 (a1 - (l0.length:Int)))<0 then(some (-1)) else(bh_.l0 k l0 (wrap64 (a1 - (l0.length:Int))) 0)
theorem bh_.calls (k:Nat) (A0:Option Addr) (c0:Nat) (l0:List (aF_)) (a1:Int) (r:Int) (w:World) (t:Kd.C bm_ w A0 l0.length l0) (u:l0.length≤c0) (h:bh_.f k l0 a1=some r) :
  Calls Tryz.prog 15 #[.slice A0 l0.length c0,.int .i64 a1] w fun e w'=>e=.returned (.int .i64 r)∧Below w.heap.size w w':=by
 have hu54:=Tryz.underlying54;have v:=AM t;have B:=AM u;clear t u;have HB:=AM (Below.refl w.heap.size w);have H:=h;clear h;unfold bh_.f at H;by_cases c3:(wrap64 (a1 - (l0.length:Int)))<0
 ·rw[if_pos c3] at H;have x:=decide_eq_true c3;clear c3;obtain rfl:=Option.some.inj H;go_enter Tryz.func15,Tryz.ntmps15;go_wp2;go_ret;exact⟨TE,TB⟩
 ·rw[if_neg c3] at H;have x:=decide_eq_false c3;clear c3;have H':=AM H;clear H;go_enter Tryz.func15,Tryz.ntmps15;go_wp2;go_loopg [1,5] k (fun kq v1 v5 w'=>∃(g:Int) (c:Int),v1=.int .i64 g∧v5=.int .i64 c∧Aside0 (bh_.l0 kq l0 g c=some r)∧Aside0 (kq≤k)∧Aside0 (Below w.heap.size w w'))
  case atStart=>exact⟨(wrap64 (a1 - (l0.length:Int))),(0),TF,TF,H',⟨Nat.le_refl _⟩,⟨TB⟩⟩
  case round =>
   clear H';obtain⟨g,c,rfl,rfl,HA,HK1,HB⟩:=hrel
   cases gk with
   | zero=>exact absurd HA.out (by simp[bh_.l0])
   | succ k1 =>
    have H:=HA.out;clear HA;simp only[bh_.l0] at H;by_cases c4:c<(l0.length:Int)
    ·rw[if_pos c4] at H;have y:=decide_eq_true c4;clear c4;obtain⟨c5,H⟩:=ifn H;have A:=decide_eq_true c5;clear c5;obtain⟨l,A6,H⟩:=bnd H;by_cases c7:l<0
     ·rw[if_pos c7] at H;have z:=decide_eq_true c7;clear c7;obtain rfl:=Option.some.inj H;have i:0≤(c:Int):=TD;have j:c<(l0.length:Int):=TD;obtain⟨s,m,n,o,p,q⟩:=at_TLRecord (Kd.ac_ v.out HB.out) c i j;cases m;replace i:=eq_true i;replace j:=eq_true j;go_wp2_with (first|(refine gL 23 rfl Tryz.func29 #[.agg #[.string ((a5_ l0 c).f0),.int .i64 ((a5_ l0 c).f1),.int .i64 ((a5_ l0 c).f2),.string ((a5_ l0 c).f3)],.int .i64 g] rfl TA ?_;(with_reducible refine(cO_.calls ((a5_ l0 c).f0) ((a5_ l0 c).f1) ((a5_ l0 c).f2) ((a5_ l0 c).f3) g l _ A6.out).mono ?_);rintro e w8 ⟨rfl,hb⟩;refine⟨_,rfl,?_⟩;replace HB:=BS hb;clear hb));go_ret;exact⟨TE,TB⟩
     ·rw[if_neg c7] at H;have z:=decide_eq_false c7;clear c7;have H':=AM H;clear H;have i:0≤(c:Int):=TD;have j:c<(l0.length:Int):=TD;obtain⟨s,m,n,o,p,q⟩:=at_TLRecord (Kd.ac_ v.out HB.out) c i j;cases m;replace i:=eq_true i;replace j:=eq_true j;go_wp2_with (first|(refine gL 23 rfl Tryz.func29 #[.agg #[.string ((a5_ l0 c).f0),.int .i64 ((a5_ l0 c).f1),.int .i64 ((a5_ l0 c).f2),.string ((a5_ l0 c).f3)],.int .i64 g] rfl TA ?_;(with_reducible refine(cO_.calls ((a5_ l0 c).f0) ((a5_ l0 c).f1) ((a5_ l0 c).f2) ((a5_ l0 c).f3) g l _ A6.out).mono ?_);rintro e w9 ⟨rfl,hb⟩;refine⟨_,rfl,?_⟩;replace HB:=BS hb;clear hb));go_roundg k1
      case measure=>have:=HK1.out;omega
      case rel=>exact⟨(l),(wrap64 (c+1)),TF,TF,H',⟨TM⟩,⟨TB⟩⟩
    ·rw[if_neg c4] at H;have y:=decide_eq_false c4;clear c4;obtain rfl:=Option.some.inj H;go_wp2;go_ret;exact⟨TE,TB⟩
end
section
def cG_.f (k:Nat) (a0_0:ByteArray) (a0_1:Int) (l0_2:List (aF_)) (a1:Int):Option (Int):=if (wrap64 (a1 - (a0_0.size:Int)))<0 then(some (-1)) else((bh_.f k l0_2 (wrap64 (a1 - (a0_0.size:Int)))).bind fun t105=>(if t105<0 then(some (-1)) else(some t105)))
theorem cG_.calls (k:Nat) (i:ByteArray) (m:Int) (j:Option Addr) (l:Nat) (g:List (aF_)) (a1:Int) (r:Int) (w:World) (n:Kd.C bm_ w j g.length g) (o:g.length≤l) (h:cG_.f k i m g a1=some r) :
  Calls Tryz.prog 4 #[.agg #[.string i,.int .i64 m,.slice j g.length l],.int .i64 a1] w fun e w'=>e=.returned (.int .i64 r)∧Below w.heap.size w w':=by
 have hu24:=Tryz.underlying24;have p:=AM n;have q:=AM o;clear n o;have HB:=AM (Below.refl w.heap.size w);have H:=h;clear h;unfold cG_.f at H;by_cases c3:(wrap64 (a1 - (i.size:Int)))<0
 ·rw[if_pos c3] at H;have v:=decide_eq_true c3;clear c3;obtain rfl:=Option.some.inj H;go_enter Tryz.func4,Tryz.ntmps4;go_wp2_with (first|(refine gD 2 rfl ?_;refine bE 2 #[.string i,.int .i64 m,.slice j g.length l] 24 ?_;intro s hg w4 hbox hb;have c:=AM (hbox);have t:=bG hg;replace HB:=BS hb;clear hb hbox hg;have z:=cz3 c));go_ret;exact⟨TE,TB⟩
 ·rw[if_neg c3] at H;have v:=decide_eq_false c3;clear c3;obtain⟨u,A6,H⟩:=bnd H;by_cases c7:u<0
  ·rw[if_pos c7] at H;have x:=decide_eq_true c7;clear c7;obtain rfl:=Option.some.inj H;go_enter Tryz.func4,Tryz.ntmps4;go_wp2_with (first|(refine gD 2 rfl ?_;refine bE 2 #[.string i,.int .i64 m,.slice j g.length l] 24 ?_;intro s hg w8 hbox hb;have c:=AM (hbox);have t:=bG hg;replace HB:=BS hb;clear hb hbox hg;have A:=cz3 c)|(refine gL 15 rfl Tryz.func15 #[.slice j g.length l,.int .i64 (wrap64 (a1 - (i.size:Int)))] rfl TA ?_;(with_reducible refine(bh_.calls k _ _ g (wrap64 (a1 - (i.size:Int))) u _ ?side1 ?side2 A6.out).mono ?_);(case side1=>exact CW ((Kd.ac_ p.out HB.out)));(case side2=>exact q.out);rintro e B ⟨rfl,hb⟩;refine⟨_,rfl,?_⟩;replace c:=KB c hb;replace HB:=BS hb;clear hb));go_ret;exact⟨TE,TB⟩
  ·rw[if_neg c7] at H;have x:=decide_eq_false c7;clear c7;obtain rfl:=Option.some.inj H;go_enter Tryz.func4,Tryz.ntmps4;go_wp2_with (first|(refine gD 2 rfl ?_;refine bE 2 #[.string i,.int .i64 m,.slice j g.length l] 24 ?_;intro s hg D hbox hb;have c:=AM (hbox);have t:=bG hg;replace HB:=BS hb;clear hb hbox hg;have y:=cz3 c)|(refine gL 15 rfl Tryz.func15 #[.slice j g.length l,.int .i64 (wrap64 (a1 - (i.size:Int)))] rfl TA ?_;(with_reducible refine(bh_.calls k _ _ g (wrap64 (a1 - (i.size:Int))) u _ ?side1 ?side2 A6.out).mono ?_);(case side1=>exact CW ((Kd.ac_ p.out HB.out)));(case side2=>exact q.out);rintro e E ⟨rfl,hb⟩;refine⟨_,rfl,?_⟩;replace c:=KB c hb;replace HB:=BS hb;clear hb));go_ret;exact⟨TE,TB⟩
end
section
def cR_.f (k:Nat) (a0_0:Int) (a0_1:Int) (l0_2:List (aF_)) (l0_3:List (aF_)) (a1:Int):Option (Int):=(bh_.f k l0_2 a1).bind fun t107=>(if t107<0 then(some (-1)) else((bh_.f k l0_3 t107).bind fun t108=>(if t108<0 then(some (-1)) else(some t108))))
theorem cR_.calls (k:Nat) (p:Int) (q:Int) (j:Option Addr) (l:Nat) (g:List (aF_)) (n:Option Addr) (o:Nat) (i:List (aF_)) (a1:Int) (r:Int) (w:World) (u:Kd.C bm_ w j g.length g) (v:g.length≤l) (x:Kd.C bm_ w n i.length i) (y:i.length≤o) (h:cR_.f k p q g i a1=some r) :
  Calls Tryz.prog 5 #[.agg #[.int .i64 p,.int .i64 q,.slice j g.length l,.slice n i.length o],.int .i64 a1] w fun e w'=>e=.returned (.int .i64 r)∧Below w.heap.size w w':=by
 have hu26:=Tryz.underlying26;have s:=AM u;have t:=AM v;clear u v;have z:=AM x;have A:=AM y;clear x y;have HB:=AM (Below.refl w.heap.size w);have H:=h;clear h;unfold cR_.f at H;obtain⟨m,A3,H⟩:=bnd H;by_cases c4:m<0
 ·rw[if_pos c4] at H;have F:=decide_eq_true c4;clear c4;obtain rfl:=Option.some.inj H;go_enter Tryz.func5,Tryz.ntmps5;go_wp2_with (first|(refine gD 2 rfl ?_;refine bE 2 #[.int .i64 p,.int .i64 q,.slice j g.length l,.slice n i.length o] 26 ?_;intro B hg w5 hbox hb;have c:=AM (hbox);have D:=bG hg;replace HB:=BS hb;clear hb hbox hg;have N:=cz4 c)|(refine gL 8 rfl Tryz.func15 #[.slice j g.length l,.int .i64 a1] rfl TA ?_;(with_reducible refine(bh_.calls k _ _ g a1 m _ ?side1 ?side2 A3.out).mono ?_);(case side1=>exact CW ((Kd.ac_ s.out HB.out)));(case side2=>exact t.out);rintro e w7 ⟨rfl,hb⟩;refine⟨_,rfl,?_⟩;replace c:=KB c hb;replace HB:=BS hb;clear hb));go_ret;exact⟨TE,TB⟩
 ·rw[if_neg c4] at H;have F:=decide_eq_false c4;clear c4;obtain⟨E,A8,H⟩:=bnd H;by_cases c9:E<0
  ·rw[if_pos c9] at H;have G:=decide_eq_true c9;clear c9;obtain rfl:=Option.some.inj H;go_enter Tryz.func5,Tryz.ntmps5;go_wp2_with (first|(refine gD 2 rfl ?_;refine bE 2 #[.int .i64 p,.int .i64 q,.slice j g.length l,.slice n i.length o] 26 ?_;intro B hg O hbox hb;have c:=AM (hbox);have D:=bG hg;replace HB:=BS hb;clear hb hbox hg;have I:=cz4 c)|(refine gL 8 rfl Tryz.func15 #[.slice j g.length l,.int .i64 a1] rfl TA ?_;(with_reducible refine(bh_.calls k _ _ g a1 m _ ?side1 ?side2 A3.out).mono ?_);(case side1=>exact CW ((Kd.ac_ s.out HB.out)));(case side2=>exact t.out);rintro e R ⟨rfl,hb⟩;refine⟨_,rfl,?_⟩;replace c:=KB c hb;replace HB:=BS hb;clear hb;have J:=cz4 c)|(refine gL 14 rfl Tryz.func15 #[.slice n i.length o,.int .i64 m] rfl TA ?_;(with_reducible refine(bh_.calls k _ _ i m E _ ?side1 ?side2 A8.out).mono ?_);(case side1=>exact CW ((Kd.ac_ z.out HB.out)));(case side2=>exact A.out);rintro e U ⟨rfl,hb⟩;refine⟨_,rfl,?_⟩;replace c:=KB c hb;replace HB:=BS hb;clear hb));go_ret;exact⟨TE,TB⟩
  ·rw[if_neg c9] at H;have G:=decide_eq_false c9;clear c9;obtain rfl:=Option.some.inj H;go_enter Tryz.func5,Tryz.ntmps5;go_wp2_with (first|(refine gD 2 rfl ?_;refine bE 2 #[.int .i64 p,.int .i64 q,.slice j g.length l,.slice n i.length o] 26 ?_;intro B hg V hbox hb;have c:=AM (hbox);have D:=bG hg;replace HB:=BS hb;clear hb hbox hg;have K:=cz4 c)|(refine gL 8 rfl Tryz.func15 #[.slice j g.length l,.int .i64 a1] rfl TA ?_;(with_reducible refine(bh_.calls k _ _ g a1 m _ ?side1 ?side2 A3.out).mono ?_);(case side1=>exact CW ((Kd.ac_ s.out HB.out)));(case side2=>exact t.out);rintro e W ⟨rfl,hb⟩;refine⟨_,rfl,?_⟩;replace c:=KB c hb;replace HB:=BS hb;clear hb;have M:=cz4 c)|(refine gL 14 rfl Tryz.func15 #[.slice n i.length o,.int .i64 m] rfl TA ?_;(with_reducible refine(bh_.calls k _ _ i m E _ ?side1 ?side2 A8.out).mono ?_);(case side1=>exact CW ((Kd.ac_ z.out HB.out)));(case side2=>exact A.out);rintro e X ⟨rfl,hb⟩;refine⟨_,rfl,?_⟩;replace c:=KB c hb;replace HB:=BS hb;clear hb));go_ret;exact⟨TE,TB⟩
end
section
def laws_toRecord.f (a0_0:ByteArray) (a0_1:Int) (a0_2:Int) (a0_3:ByteArray):Option (ByteArray × Int × Int × ByteArray):=some (a0_0,a0_1,a0_2,a0_3)
theorem laws_toRecord.calls (i:ByteArray) (j:Int) (l:Int) (m:ByteArray) (r1:ByteArray) (r2:Int) (r3:Int) (r4:ByteArray) (w:World) (h:laws_toRecord.f i j l m=some (r1,r2,r3,r4)) :
  Calls Tryz.prog 36 #[.agg #[.string i,.int .i64 j,.int .i64 l,.string m]] w fun e w'=>e=.returned (.agg #[.string r1,.int .i64 r2,.int .i64 r3,.string r4])∧Below w.heap.size w w':=by
 have hu54:=Tryz.underlying54;have hu47:=Tryz.underlying47;have HB:=AM (Below.refl w.heap.size w);have H:(some (i,j,l,m))=some (r1,r2,r3,r4):=h;clear h;simp only[Option.some.injEq,Prod.mk.injEq] at H;obtain⟨rfl,rfl,rfl,rfl⟩:=H;go_enter Tryz.func36,Tryz.ntmps36;go_wp2_with (first|(refine gD 1 rfl ?_;refine bE 1 #[.string i,.int .i64 j,.int .i64 l,.string m] 54 ?_;intro x hg w2 hbox hb;have c:=AM (hbox);have y:=bG hg;replace HB:=BS hb;clear hb hbox hg)|(refine gD 2 rfl ?_;refine bE 2 #[.string (⟨#[]⟩:ByteArray),.int .i64 0,.int .i64 0,.string (⟨#[]⟩:ByteArray)] 47 ?_;intro s hg w3 hbox hb;have g:=AM (hbox);have z:=bG hg;replace HB:=BS hb;have n:=bN c hg;have t:=bM c hg;replace c:=KB c hb;clear hb hbox hg)|(refine gD 3 rfl ?_;refine bE 3 #[.string (⟨#[]⟩:ByteArray),.int .i64 0,.int .i64 0,.string (⟨#[]⟩:ByteArray)] 47 ?_;intro A hg w4 hbox hb;have u:=AM (hbox);have B:=bG hg;replace HB:=BS hb;have o:=bN c hg;have v:=bM c hg;replace c:=KB c hb;have p:=bN g hg;have q:=bM g hg;replace g:=KB g hb;clear hb hbox hg;obtain⟨D,E⟩:=nn n;obtain⟨F,G⟩:=nn o;have I:=cz4 c;obtain⟨J,K⟩:=nn q;have M:=cz4 u;have C:=cz4 g));refine bodyPost_ret (results_cell_row rfl _ _ s 47 #[.string i,.int .i64 j,.int .i64 l,.string m] (0,0) _ rfl (by(with_reducible repeat (first|refine aS_ ?_ _|refine ag_ ?_|refine aT_ ?_ _));apply PF4;(with_reducible repeat (first|refine aS_ ?_ _|refine ag_ ?_|refine aT_ ?_ _));refine FF4 ?_ p.out;exact(KW g).out) Tryz.underlying47 rfl KR) rfl ?_;exact⟨TE,TB⟩
end
section
def br_.l0:Nat→List (aF_)→List (aa_)→Int→Option ((List (aa_)))
 | 0,_,_,_=>none
 | k+1,x0,x3,x4=>if x4<(x0.length:Int) then(if 0≤x4 then((laws_toRecord.f ((a5_ x0 x4).f0) ((a5_ x0 x4).f1) ((a5_ x0 x4).f2) ((a5_ x0 x4).f3)).bind fun bt116=>(if x4<(x3.length:Int) then(br_.l0 k x0 (x3.set (x4:Int).toNat (⟨bt116.1,bt116.2.1,bt116.2.2.1,bt116.2.2.2⟩:aa_)) (wrap64 (x4+1))) else(none))) else(none)) else(some x3)
def br_.f (k:Nat) (l0:List (aF_)):Option ((List (aa_))):=if 0≤(l0.length:Int) then(if ((l0.length:Int):Int).toNat≤5864062014805 then(br_.l0 k l0 (List.replicate ((l0.length:Int):Int).toNat co_) 0) else(none)) else(none)
theorem br_.calls (k:Nat) (A0:Option Addr) (c0:Nat) (l0:List (aF_)) (r:List (aa_)) (w:World) (X:Kd.C bm_ w A0 l0.length l0) (Y:l0.length≤c0) (h:br_.f k l0=some r) :
  Calls Tryz.prog 21 #[.slice A0 l0.length c0] w fun e w'=>∃v0_:Value,e=.returned (v0_)∧Kd.R ad_ 47 w' w.heap.size (fun _=>True) v0_ r∧Below w.heap.size w w':=by
 have hu54:=Tryz.underlying54;have hu47:=Tryz.underlying47;have ak:=AM X;have au:=AM Y;clear X Y;have HB:=AM (Below.refl w.heap.size w);have H:=h;clear h;unfold br_.f at H;obtain⟨c2,H⟩:=ifn H;have am:=eq_true c2;have an:=decide_eq_true c2;clear c2;obtain⟨c3,H⟩:=ifn H;have ao:=eq_true c3;have ap:=decide_eq_true c3;clear c3;obtain⟨I,l⟩:∃y_:List (aa_),y_=(List.replicate ((l0.length:Int):Int).toNat co_):=⟨_,rfl⟩
 replace H:(br_.l0 k l0 I 0)=some r:=by first|(rw[l];with_reducible exact H)|(have H2_:=(Option.bind_some _ _).symm.trans H;rw[l];with_reducible exact H2_)|(have H2_:=(Option.bind_some _ _).symm.trans H;with_reducible exact H2_)|with_reducible exact H|(rw[l];exact H)|exact H
 have Ny112:=AM l;clear l;have H':=AM H;clear H;go_enter Tryz.func21,Tryz.ntmps21;go_wp2_with (first|((with_reducible refine ah_ (N:=7) rfl ?_);refine Kd.R_make ad_ _ 47 rfl (N:=7) rfl 29 _ _ rfl (l0.length:Int) rfl rfl Tryz.underlying29 (.agg #[(.string ⟨#[]⟩),(.int .i64 0),(.int .i64 0),(.string ⟨#[]⟩)]) 48 info47 rfl (by decide) (by omega) co_ (ok:=fun _=>True) (okp:=fun _=>True) (b9_ _ _ _ co_ ) (fun _ hk=>hk) trivial TD (Nat.le_trans (Nat.mul_le_mul_right _ (TD:(l0.length:Int).toNat≤5864062014805)) (by omega)) (Below.refl _ _) (Nat.le_refl _) ?_;intro Z w4 y hb hg_ hnew_;clear hg_ hnew_;(first|rw[←Ny112.out] at y|(simp only[Int.reduceToNat] at y;rw[←Ny112.out] at y));have O:=RL y;replace HB:=BS hb;clear hb y));go_loopg [4] k (fun kq v4 w'=>∃(g:List (aa_)) (c:Int),v4=.int .i64 c∧Aside0 (br_.l0 kq l0 g c=some r)∧Aside0 (kq≤k)∧Aside0 (Kd.R ad_ 47 w' w.heap.size (fun _=>True) Z g)∧Aside0 (Below w.heap.size w w'))
 case atStart=>exact⟨(I),(0),TF,H',⟨Nat.le_refl _⟩,RW O,⟨TB⟩⟩
 case round =>
  clear H';obtain⟨g,c,rfl,HA,HK1,i,HB⟩:=hrel
  cases gk with
  | zero=>exact absurd HA.out (by simp[br_.l0])
  | succ k1 =>
   have H:=HA.out;clear HA;simp only[br_.l0] at H;by_cases c6:c<(l0.length:Int)
   ·rw[if_pos c6] at H;have aa:=decide_eq_true c6;clear c6;obtain⟨c7,H⟩:=ifn H;have aq:=decide_eq_true c7;clear c7;obtain⟨⟨o,q,s,u⟩,A8,H⟩:=bnd H
    try dsimp only at H
    obtain⟨c9,H⟩:=ifn H;have ar:=decide_eq_true c9;clear c9;obtain⟨z,m⟩:∃y_:List (aa_),y_=(g.set (c:Int).toNat (⟨o,q,s,u⟩:aa_)):=⟨_,rfl⟩
    replace H:(br_.l0 k1 l0 z (wrap64 (c+1)))=some r:=by first|(rw[m];with_reducible exact H)|(have H2_:=(Option.bind_some _ _).symm.trans H;rw[m];with_reducible exact H2_)|(have H2_:=(Option.bind_some _ _).symm.trans H;with_reducible exact H2_)|with_reducible exact H|(rw[m];exact H)|exact H
    have Ny120:=AM m;clear m;have H':=AM H;clear H;have A:0≤(c:Int):=TD;have B:c<(l0.length:Int):=TD;obtain⟨al,ab,ac,ad,ae,af⟩:=at_TLRecord (Kd.ac_ ak.out HB.out) c A B;cases ab;replace A:=eq_true A;replace B:=eq_true B;go_wp2_with (first|(refine gL 20 rfl Tryz.func36 #[.agg #[.string ((a5_ l0 c).f0),.int .i64 ((a5_ l0 c).f1),.int .i64 ((a5_ l0 c).f2),.string ((a5_ l0 c).f3)]] rfl TA ?_;(with_reducible refine(laws_toRecord.calls ((a5_ l0 c).f0) ((a5_ l0 c).f1) ((a5_ l0 c).f2) ((a5_ l0 c).f3) o q s u _ A8.out).mono ?_);rintro e n ⟨rfl,hb⟩;refine⟨_,rfl,?_⟩;replace i:=RB i hb;replace HB:=BS hb;clear hb;have U:0≤(c:Int):=TD;have V:(c:Int)<((g.length:Int):Int):=TD;obtain⟨go10,J,eo10,K,gl10,cl10,M⟩:=Kd.R_form i.out (by omega);(first|cases eo10|(injection eo10 with ea_ en_ ec_;(first|subst ea_|(injection ea_ with ea_;subst ea_));subst ec_;clear en_));have x:=AM K;have GG10:=AM M;clear K gl10 M;obtain⟨ce10,hcl10,hM10,hcc10,hfr10⟩:=Kd.R_elem i.out co_ (c:Int) U V;obtain rfl:=cd_ hM10;have ag:n.cell? ⟨go10,(c:Int).toNat * 4,none⟩=some (.string ((a_ g c).f0)):=hcc10 0 _ rfl;have ah:n.cell? ⟨go10,(c:Int).toNat * 4+1,none⟩=some (.int .i64 ((a_ g c).f1)):=hcc10 1 _ rfl;have ai:n.cell? ⟨go10,(c:Int).toNat * 4+2,none⟩=some (.int .i64 ((a_ g c).f2)):=hcc10 2 _ rfl;have aj:n.cell? ⟨go10,(c:Int).toNat * 4+3,none⟩=some (.string ((a_ g c).f3)):=hcc10 3 _ rfl;have hf10_0:n.frozen? ⟨go10,(c:Int).toNat * 4,none⟩=false:=hfr10 0;have hf10_1:n.frozen? ⟨go10,(c:Int).toNat * 4+1,none⟩=false:=hfr10 1;have hf10_2:n.frozen? ⟨go10,(c:Int).toNat * 4+2,none⟩=false:=hfr10 2;have hf10_3:n.frozen? ⟨go10,(c:Int).toNat * 4+3,none⟩=false:=hfr10 3;clear hcl10 hcc10 hfr10 hM10;replace U:=eq_true U;replace V:=eq_true V;have HX12:=AM (show Kd.R ad_ 47 n w.heap.size (fun _=>True) (.slice (some ⟨go10,0,none⟩) g.length J) g from(RW i).out);obtain⟨ce12,hcl12,hM12,hcc12,hfr12⟩:=Kd.R_elem HX12.out co_ (c:Int) TD (by have h_:(c:Int)<((g.length:Int):Int):=TD;first|exact h_|(have e_:=(Kd.ae_ i.out).1;omega)|simpa using h_);obtain rfl:=cd_ hM12;have HP12:=Kd.R_seg HX12.out (c:Int) TD (by have h_:(c:Int)<((g.length:Int):Int):=TD;first|exact h_|(have e_:=(Kd.ae_ i.out).1;omega)|simpa using h_) (seg:=[.string o,.int .i64 q,.int .i64 s,.string u]) (j:=0) hcl12 hcc12 (show 4≤4 from by decide) (x':=(⟨o,q,s,u⟩:aa_)) (b9_ _ _ _ (⟨o,q,s,u⟩:aa_) ) (fun _ hk=>hk);have D:=hcc12 0 _ rfl;(try simp only[show(ad_).sz=4 from rfl,Nat.mul_one,Nat.add_zero] at D);have hf12_0:=hfr12 0;(try simp only[show(ad_).sz=4 from rfl,Nat.mul_one,Nat.add_zero] at hf12_0);have E:=hcc12 1 _ rfl;(try simp only[show(ad_).sz=4 from rfl,Nat.mul_one,Nat.add_zero] at E);have hf12_1:=hfr12 1;(try simp only[show(ad_).sz=4 from rfl,Nat.mul_one,Nat.add_zero] at hf12_1);have F:=hcc12 2 _ rfl;(try simp only[show(ad_).sz=4 from rfl,Nat.mul_one,Nat.add_zero] at F);have hf12_2:=hfr12 2;(try simp only[show(ad_).sz=4 from rfl,Nat.mul_one,Nat.add_zero] at hf12_2);have G:=hcc12 3 _ rfl;(try simp only[show(ad_).sz=4 from rfl,Nat.mul_one,Nat.add_zero] at G);have hf12_3:=hfr12 3;(try simp only[show(ad_).sz=4 from rfl,Nat.mul_one,Nat.add_zero] at hf12_3);clear hcl12 hcc12 hfr12 hM12)|((with_reducible refine cq_ (t:=47) (p:=21) rfl ?_);refine cg_ (t:=47) (p:=21) (v:=?vo_w13) (w1:=((((n.setCell ⟨go10,(c:Int).toNat * 4,none⟩ (.string o)).setCell ⟨go10,(c:Int).toNat * 4+1,none⟩ (.int .i64 q)).setCell ⟨go10,(c:Int).toNat * 4+2,none⟩ (.int .i64 s)).setCell ⟨go10,(c:Int).toNat * 4+3,none⟩ (.string u))) ?hg ?ho ?hn ?hr ?_;(case ho=>rfl);(case hg=>rfl);(case hn=>rfl);(case hr=>first|(go_simp;done)|(go_simp;rfl));intro W hw;have hg:n.grownBy W (some go10):=(by rw[hw];exact HP12.2);have hp_:Kd.R ad_ 47 W w.heap.size (fun _=>True) (.slice (some ⟨go10,0,none⟩) g.length J) z:=(by rw[hw,Ny120.out];exact HP12.1);clear HP12;replace i:=AM (hp_);replace HB:=AM ((by rw[hw];exact aR_ (aR_ (aR_ (aR_ (HB.out) x.out) x.out) x.out) x.out:Below w.heap.size w W));clear hg hw hp_));go_roundg k1
    case measure=>have:=HK1.out;omega
    case rel=>exact⟨(z),(wrap64 (c+1)),TF,H',⟨TM⟩,RW i,⟨TB⟩⟩
   ·rw[if_neg c6] at H;have aa:=decide_eq_false c6;clear c6;obtain rfl:=Option.some.inj H;go_wp2;go_ret;exact⟨_,TE,(RW i).out,TB⟩
end
section
def bU_.f (k:Nat) (a0_0:ByteArray) (a0_1:Int) (l0_2:List (aF_)):Option (ByteArray × Int × (List (aa_))):=(br_.f k l0_2).bind fun t124=>(some (a0_0,a0_1,t124))
theorem bU_.calls (k:Nat) (l:ByteArray) (m:Int) (u:Option Addr) (v:Nat) (i:List (aF_)) (r1:ByteArray) (r2:Int) (r3:List (aa_)) (w:World) (y:Kd.C bm_ w u i.length i) (z:i.length≤v) (h:bU_.f k l m i=some (r1,r2,r3)) :
  Calls Tryz.prog 7 #[.agg #[.string l,.int .i64 m,.slice u i.length v]] w fun e w'=>∃v2_:Value,e=.returned (.agg #[.string r1,.int .i64 r2,v2_])∧Kd.R ad_ 47 w' w.heap.size (fun _=>True) v2_ r3∧Below w.heap.size w w':=by
 have hu24:=Tryz.underlying24;have hu31:=Tryz.underlying31;have E:=AM y;have F:=AM z;clear y z;have HB:=AM (Below.refl w.heap.size w);have H:=h;clear h;unfold bU_.f at H;obtain⟨x,A2,H⟩:=bnd H;simp only[Option.some.injEq,Prod.mk.injEq] at H;obtain⟨rfl,rfl,rfl⟩:=H;go_enter Tryz.func7,Tryz.ntmps7;go_wp2_with (first|(refine gD 1 rfl ?_;refine bE 1 #[.string l,.int .i64 m,.slice u i.length v] 24 ?_;intro M hg w3 hbox hb;have c:=AM (hbox);have N:=bG hg;replace HB:=BS hb;clear hb hbox hg)|(refine gD 2 rfl ?_;refine bE 2 #[.string (⟨#[]⟩:ByteArray),.int .i64 0,.slice none 0 0] 31 ?_;intro n hg w4 hbox hb;have g:=AM (hbox);have O:=bG hg;replace HB:=BS hb;have o:=bN c hg;have G:=bM c hg;replace c:=KB c hb;clear hb hbox hg)|(refine gD 3 rfl ?_;refine bE 3 #[.string (⟨#[]⟩:ByteArray),.int .i64 0,.slice none 0 0] 31 ?_;intro I hg w5 hbox hb;have j:=AM (hbox);have U:=bG hg;replace HB:=BS hb;have q:=bN c hg;have J:=bM c hg;replace c:=KB c hb;have s:=bN g hg;have t:=bM g hg;replace g:=KB g hb;clear hb hbox hg;obtain⟨Y,Z⟩:=nn o;obtain⟨aa,ab⟩:=nn q;have ac:=cz3 c;obtain⟨ad,ae⟩:=nn t;have V:=cz3 j)|(refine gL 12 rfl Tryz.func21 #[.slice u i.length v] rfl TA ?_;(with_reducible refine(br_.calls k _ _ i x _ ?side1 ?side2 A2.out).mono ?_);(case side1=>exact Kd.ac_ E.out TB);(case side2=>exact F.out);rintro e ag ⟨af,rfl,K,hb⟩;refine⟨_,rfl,?_⟩;have A:=RL K;replace c:=KF c hb;replace g:=KF g hb;replace j:=KP j #[.string l,.int .i64 m,.slice none 0 0] hb;replace HB:=BS hb;clear hb;(try clear K);obtain⟨B,D,eo12⟩:=Kd.ar_ A.out;subst eo12;have W:=cz3 j;have X:=cz3 g));refine bodyPost_ret (results_cell_row rfl _ _ n 31 #[.string l,.int .i64 m,.slice B x.length D] (0,0) _ rfl (by(with_reducible repeat (first|refine aS_ ?_ _|refine ag_ ?_|refine aT_ ?_ _));apply PF3;(with_reducible repeat (first|refine aS_ ?_ _|refine ag_ ?_|refine aT_ ?_ _));refine FF1 ?_ s.out;exact(KW g).out) Tryz.underlying31 rfl KR) rfl ?_;exact⟨_,TE,by(with_reducible repeat (first|apply Kd.bF_|apply Kd.bE_|apply Kd.aZ_));exact Kd.a4_ (Kd.c_ (p:=⟨n,2,none⟩) (Kd.c_ (p:=⟨n,1,none⟩) (Kd.c_ (p:=⟨n,0,none⟩) (Kd.c_ (p:=⟨I,2,none⟩) (Kd.R_types (Kd.R_types A.out j.out (by decide)) g.out (by decide)) (fun _ hk=>hk.1.2) (.slice B x.length D)) (fun _ hk=>hk.2) (.string l)) (fun _ hk=>hk.2) (.int .i64 m)) (fun _ hk=>hk.2) (.slice B x.length D)) (fun _ hk=>trivial),TB⟩
end
section
def bO_.f (k:Nat) (a0_0:Int) (a0_1:Int) (l0_2:List (aF_)) (l0_3:List (aF_)):Option (Int × Int × (List (aa_)) × (List (aa_))):=(br_.f k l0_2).bind fun t130=>((br_.f k l0_3).bind fun t133=>(some (a0_0,a0_1,t130,t133)))
theorem bO_.calls (k:Nat) (l:Int) (m:Int) (B:Option Addr) (D:Nat) (n:List (aF_)) (E:Option Addr) (F:Nat) (o:List (aF_)) (r1:Int) (r2:Int) (r3:List (aa_)) (r4:List (aa_)) (w:World) (K:Kd.C bm_ w B n.length n) (M:n.length≤D) (N:Kd.C bm_ w E o.length o) (O:o.length≤F) (h:bO_.f k l m n o=some (r1,r2,r3,r4)) :
  Calls Tryz.prog 8 #[.agg #[.int .i64 l,.int .i64 m,.slice B n.length D,.slice E o.length F]] w fun e w'=>∃v2_ v3_:Value,e=.returned (.agg #[.int .i64 r1,.int .i64 r2,v2_,v3_])∧Kd.R ad_ 47 w' w.heap.size (fun k_=>some k_≠(v3_:Value).ownBlock) v2_ r3∧Kd.R ad_ 47 w' w.heap.size (fun k_=>some k_≠(v2_:Value).ownBlock) v3_ r4∧Below w.heap.size w w':=by
 have hu26:=Tryz.underlying26;have hu36:=Tryz.underlying36;have W:=AM K;have X:=AM M;clear K M;have Y:=AM N;have Z:=AM O;clear N O;have HB:=AM (Below.refl w.heap.size w);have H:=h;clear h;unfold bO_.f at H;obtain⟨t,A2,H⟩:=bnd H;obtain⟨s,A3,H⟩:=bnd H;simp only[Option.some.injEq,Prod.mk.injEq] at H;obtain⟨rfl,rfl,rfl,rfl⟩:=H;go_enter Tryz.func8,Tryz.ntmps8;go_wp2_with (first|(refine gD 1 rfl ?_;refine bE 1 #[.int .i64 l,.int .i64 m,.slice B n.length D,.slice E o.length F] 26 ?_;intro ac hg w4 hbox hb;have c:=AM (hbox);have ad:=bG hg;replace HB:=BS hb;clear hb hbox hg)|(refine gD 2 rfl ?_;refine bE 2 #[.int .i64 0,.int .i64 0,.slice none 0 0,.slice none 0 0] 36 ?_;intro j hg w5 hbox hb;have g:=AM (hbox);have ae:=bG hg;replace HB:=BS hb;have x:=bN c hg;have aa:=bM c hg;replace c:=KB c hb;clear hb hbox hg)|(refine gD 3 rfl ?_;refine bE 3 #[.int .i64 0,.int .i64 0,.slice none 0 0,.slice none 0 0] 36 ?_;intro U hg w6 hbox hb;have i:=AM (hbox);have af:=bG hg;replace HB:=BS hb;have y:=bN c hg;have ab:=bM c hg;replace c:=KB c hb;have z:=bN g hg;have A:=bM g hg;replace g:=KB g hb;clear hb hbox hg;obtain⟨an,ao⟩:=nn x;obtain⟨ap,aq⟩:=nn y;have ar:=cz4 c;obtain⟨ag,ah⟩:=nn A;have ai:=cz4 i)|(refine gL 12 rfl Tryz.func21 #[.slice B n.length D] rfl TA ?_;(with_reducible refine(br_.calls k _ _ n t _ ?side1 ?side2 A2.out).mono ?_);(case side1=>exact Kd.ac_ W.out TB);(case side2=>exact X.out);rintro e aw ⟨au,rfl,J,hb⟩;refine⟨_,rfl,?_⟩;have q:=RL J;replace c:=KF c hb;replace g:=KF g hb;replace i:=KP i #[.int .i64 l,.int .i64 m,.slice none 0 0,.slice none 0 0] hb;replace HB:=BS hb;clear hb;(try clear J);obtain⟨G,I,eo13⟩:=Kd.ar_ q.out;subst eo13;have aj:=cz4 i;have ak:=cz4 c)|(refine gL 16 rfl Tryz.func21 #[.slice E o.length F] rfl TA ?_;(with_reducible refine(br_.calls k _ _ o s _ ?side1 ?side2 A3.out).mono ?_);(case side1=>exact Kd.ac_ Y.out TB);(case side2=>exact Z.out);rintro e ax ⟨av,rfl,J,hb⟩;refine⟨_,rfl,?_⟩;have V:=RL (NT J q i);replace q:=ET q i J hb;replace c:=KF c hb;replace g:=KF g hb;replace i:=KP i #[.int .i64 l,.int .i64 m,.slice G t.length I,.slice none 0 0] hb;replace HB:=BS hb;clear hb;(try clear J);obtain⟨u,v,eo17⟩:=Kd.ar_ V.out;subst eo17;have al:=cz4 i;have am:=cz4 g));refine bodyPost_ret (results_cell_row rfl _ _ j 36 #[.int .i64 l,.int .i64 m,.slice G t.length I,.slice u s.length v] (0,0) _ rfl (by(with_reducible repeat (first|refine aS_ ?_ _|refine ag_ ?_|refine aT_ ?_ _));apply PF4;(with_reducible repeat (first|refine aS_ ?_ _|refine ag_ ?_|refine aT_ ?_ _));refine FF1 ?_ z.out;exact(KW g).out) Tryz.underlying36 rfl KR) rfl ?_;exact⟨_,_,TE,by(with_reducible repeat (first|apply Kd.bF_|apply Kd.bE_|apply Kd.aZ_));exact Kd.a4_ (Kd.c_ (p:=⟨j,3,none⟩) (Kd.c_ (p:=⟨j,2,none⟩) (Kd.c_ (p:=⟨j,1,none⟩) (Kd.c_ (p:=⟨j,0,none⟩) (Kd.c_ (p:=⟨U,3,none⟩) (Kd.R_types (Kd.R_types q.out i.out (by decide)) g.out (by decide)) (fun _ hk=>hk.1.2) (.slice u s.length v)) (fun _ hk=>hk.2) (.int .i64 l)) (fun _ hk=>hk.2) (.int .i64 m)) (fun _ hk=>hk.2) (.slice G t.length I)) (fun _ hk=>hk.2) (.slice u s.length v)) (fun _ hk=>hk.1.1.2),by(with_reducible repeat (first|apply Kd.bF_|apply Kd.bE_|apply Kd.aZ_));exact Kd.a4_ (Kd.c_ (p:=⟨j,3,none⟩) (Kd.c_ (p:=⟨j,2,none⟩) (Kd.c_ (p:=⟨j,1,none⟩) (Kd.c_ (p:=⟨j,0,none⟩) (Kd.c_ (p:=⟨U,3,none⟩) (Kd.R_types (Kd.R_types V.out i.out (by decide)) g.out (by decide)) (fun _ hk=>hk.1.2) (.slice u s.length v)) (fun _ hk=>hk.2) (.int .i64 l)) (fun _ hk=>hk.2) (.int .i64 m)) (fun _ hk=>hk.2) (.slice G t.length I)) (fun _ hk=>hk.2) (.slice u s.length v)) (fun _ hk=>hk.1.1.2),TB⟩
end
section
def bH_.f (a0:Int) (a1:Int) (a2:Int):Option (Bool):=if a0≥a1 then(some (decide (a0≤a2))) else(some false)
theorem bH_.calls (a0:Int) (a1:Int) (a2:Int) (r:Bool) (w:World) (h:bH_.f a0 a1 a2=some r) :
  Calls Tryz.prog 30 #[.int .i64 a0,.int .i64 a1,.int .i64 a2] w fun e w'=>e=.returned (.bool r)∧Drawn0 w w':=by
 have H:(if a0≥a1 then(some (decide (a0≤a2))) else(some false))=some r:=h;clear h;by_cases c4:a0≥a1
 ·rw[if_pos c4] at H;have c:=decide_eq_true c4;clear c4;obtain rfl:=Option.some.inj H;go_enter Tryz.func30,Tryz.ntmps30;go_wp2;go_ret;exact⟨TF,TN⟩
 ·rw[if_neg c4] at H;have c:=decide_eq_false c4;clear c4;obtain rfl:=Option.some.inj H;go_enter Tryz.func30,Tryz.ntmps30;go_wp2;go_ret;exact⟨TF,TN⟩
end
section
def bo_.l0:Nat→ByteArray→Int→List ByteArray→Int→Int→Option (List ByteArray)
 | 0,_,_,_,_,_=>none
 | k+1,x0,x1,x5,x6,x7=>if x7<(x0.size:Int) then(if 0≤x7 then(if (bt x0 x7)=x1 then(if 0≤x6 then(if x6≤x7 then(if x7≤(x0.size:Int) then(if x5.length<8796093022208 then(bo_.l0 k x0 x1 (x5++[x0.extract (x6:Int).toNat (x7:Int).toNat]) (wrap64 (x7+1)) (wrap64 (x7+1))) else(none)) else(none)) else(none)) else(none)) else(bo_.l0 k x0 x1 x5 x6 (wrap64 (x7+1)))) else(none)) else(if 0≤x6 then(if x6≤(x0.size:Int) then(if x5.length<8796093022208 then(some (x5++[x0.extract (x6:Int).toNat x0.size])) else(none)) else(none)) else(none))
def bo_.f (k:Nat) (a0:ByteArray) (a1:Int):Option (List ByteArray):=bo_.l0 k a0 a1 ([]:List ByteArray) 0 0
theorem bo_.calls (k:Nat) (a0:ByteArray) (a1:Int) (r:List ByteArray) (w:World) (h:bo_.f k a0 a1=some r) :
  Calls Tryz.prog 86 #[.string a0,.int .u8 a1] w fun e w'=>∃v0_:Value,e=.returned (v0_)∧Kd.R Kd.string 9 w' w.heap.size (fun _=>True) v0_ r∧Below w.heap.size w w':=by
 have HB:=AM (Below.refl w.heap.size w);have H:(bo_.l0 k a0 a1 ([]:List ByteArray) 0 0)=some r:=h;clear h;have H':=AM H;clear H;go_enter Tryz.func86,Tryz.ntmps86;go_wp2;go_loopg [5,6,7] k (fun kq v5 v6 v7 w'=>∃(i:List ByteArray) (g:Int) (c:Int),v6=.int .i64 g∧v7=.int .i64 c∧Aside0 (bo_.l0 kq a0 a1 i g c=some r)∧Aside0 (kq≤k)∧Aside0 (Kd.R Kd.string 9 w' w.heap.size (fun _=>True) v5 i)∧Aside0 (Below w.heap.size w w'))
 case atStart=>exact⟨(([]:List ByteArray)),(0),(0),TF,TF,H',⟨Nat.le_refl _⟩,⟨TZ⟩,⟨TB⟩⟩
 case round =>
  clear H';obtain⟨i,g,c,rfl,rfl,HA,HK1,m,HB⟩:=hrel
  cases gk with
  | zero=>exact absurd HA.out (by simp[bo_.l0])
  | succ k1 =>
   have H:=HA.out;clear HA;simp only[bo_.l0] at H;by_cases c3:c<(a0.size:Int)
   ·rw[if_pos c3] at H;have t:=decide_eq_true c3;clear c3;obtain⟨c4,H⟩:=ifn H;have E:=decide_eq_true c4;clear c4;by_cases c6:(bt a0 c)=a1
    ·rw[if_pos c6] at H;have u:=beq_iff_eq.mpr c6;have v:=bne_eq_false_iff_eq.mpr c6;clear c6;obtain⟨c7,H⟩:=ifn H;have F:=eq_true c7;have G:=decide_eq_true c7;clear c7;obtain⟨c8,H⟩:=ifn H;have I:=eq_true c8;have J:=decide_eq_true c8;clear c8;obtain⟨c9,H⟩:=ifn H;have K:=eq_true c9;have M:=decide_eq_true c9;clear c9;obtain⟨c10,H⟩:=ifn H;have LMc10:=AM c10;clear c10;obtain⟨n,j⟩:∃y_:List ByteArray,y_=(i++[a0.extract (g:Int).toNat (c:Int).toNat]):=⟨_,rfl⟩
     replace H:(bo_.l0 k1 a0 a1 n (wrap64 (c+1)) (wrap64 (c+1)))=some r:=by first|(rw[j];with_reducible exact H)|(have H2_:=(Option.bind_some _ _).symm.trans H;rw[j];with_reducible exact H2_)|(have H2_:=(Option.bind_some _ _).symm.trans H;with_reducible exact H2_)|with_reducible exact H|(rw[j];exact H)|exact H
     have Ny136:=AM j;clear j;have H':=AM H;clear H;have p5:0≤(c:Int):=TD;have q5:c<(a0.size:Int):=TD;have z:=cb_ a0 c;replace p5:=eq_true p5;replace q5:=eq_true q5;go_wp2_with (first|((with_reducible refine bX_ (b:=.append) (xs:=#[.tmp 19,.tmp 24]) rfl ?_);at_builtin;refine Kd.R_append Kd.string (w0:=w) w.heap.size rfl (.tmp 19) (.tmp 24) 78 9 (.string ⟨#[]⟩) 16 rfl Tryz.underlying78 info9 rfl (by decide) (by omega) u5 i (a0.extract (g:Int).toNat (c:Int).toNat) [.string (a0.extract (g:Int).toNat (c:Int).toNat)] (fun _=>True) (fun _=>False) rfl rfl ?aP (fun _ hk=>hk.elim) ?aF ?aO ?aB ?aS ?aL ?_;(case aP=>exact rfl);(case aB=>exact TB);(case aF=>exact(fun _ _=>trivial));(case aO=>exact(RW m).out);(case aS=>exact(b3_ TB));(case aL=>have:=LMc10.out;omega);intro N U ho hb hg hat;rw[←Ny136.out] at ho;have n0_:=AM (hb);have n1_:=AM (ho);clear HB m;have HB:=n0_;have o:=n1_;clear n0_ n1_ ho hb hg hat));go_roundg k1
     case measure=>have:=HK1.out;omega
     case rel=>exact⟨(n),(wrap64 (c+1)),(wrap64 (c+1)),TF,TF,H',⟨TM⟩,RW o,⟨TB⟩⟩
    ·rw[if_neg c6] at H;have u:=beq_eq_false_iff_ne.mpr c6;have v:=bne_iff_ne.mpr c6;have H':=AM H;clear H;have p5:0≤(c:Int):=TD;have q5:c<(a0.size:Int):=TD;have z:=cb_ a0 c;replace p5:=eq_true p5;replace q5:=eq_true q5;go_wp2;go_roundg k1
     case measure=>have:=HK1.out;omega
     case rel=>exact⟨(i),(g),(wrap64 (c+1)),TF,TF,H',⟨TM⟩,RW m,⟨TB⟩⟩
   ·rw[if_neg c3] at H;have t:=decide_eq_false c3;clear c3;obtain⟨p,H⟩:=ifn H;have A:=eq_true p;have B:=decide_eq_true p;clear p;obtain⟨q,H⟩:=ifn H;have C:=eq_true q;have D:=decide_eq_true q;clear q;obtain⟨x,H⟩:=ifn H;have LMc14:=AM x;clear x;obtain⟨y,l⟩:∃y_:List ByteArray,y_=(i++[a0.extract (g:Int).toNat a0.size]):=⟨_,rfl⟩
    replace H:(some y)=some r:=by first|(rw[l];with_reducible exact H)|(have H2_:=(Option.bind_some _ _).symm.trans H;rw[l];with_reducible exact H2_)|(have H2_:=(Option.bind_some _ _).symm.trans H;with_reducible exact H2_)|with_reducible exact H|(rw[l];exact H)|exact H
    have Ny139:=AM l;clear l;obtain rfl:=Option.some.inj H;go_wp2_with (first|((with_reducible refine bX_ (b:=.append) (xs:=#[.tmp 28,.tmp 32]) rfl ?_);at_builtin;refine Kd.R_append Kd.string (w0:=w) w.heap.size rfl (.tmp 28) (.tmp 32) 78 9 (.string ⟨#[]⟩) 16 rfl Tryz.underlying78 info9 rfl (by decide) (by omega) u5 i (a0.extract (g:Int).toNat a0.size) [.string (a0.extract (g:Int).toNat a0.size)] (fun _=>True) (fun _=>False) rfl rfl ?aP (fun _ hk=>hk.elim) ?aF ?aO ?aB ?aS ?aL ?_;(case aP=>exact rfl);(case aB=>exact TB);(case aF=>exact(fun _ _=>trivial));(case aO=>exact(RW m).out);(case aS=>exact(b3_ TB));(case aL=>have:=LMc14.out;omega);intro O V ho hb hg hat;rw[←Ny139.out] at ho;have n0_:=AM (hb);have n1_:=AM (ho);clear HB m;have HB:=n0_;have s:=n1_;clear n0_ n1_ ho hb hg hat));go_ret;exact⟨_,TE,(RW s).out,TB⟩
end
section
def bn_.l0:Nat→ByteArray→Int→Option (Bool)
 | 0,_,_=>none
 | k+1,x0,x3=>if x3<(x0.size:Int) then(if 0≤x3 then(if (bt x0 x3)≥97 then(if (bt x0 x3)≤122 then(bn_.l0 k x0 (wrap64 (x3+1))) else(if (bt x0 x3)≥48 then(if (bt x0 x3)≤57 then(bn_.l0 k x0 (wrap64 (x3+1))) else(if (bt x0 x3)=45 then(bn_.l0 k x0 (wrap64 (x3+1))) else(if ((bt x0 x3)=95) then(bn_.l0 k x0 (wrap64 (x3+1))) else(some false)))) else(if (bt x0 x3)=45 then(bn_.l0 k x0 (wrap64 (x3+1))) else(if ((bt x0 x3)=95) then(bn_.l0 k x0 (wrap64 (x3+1))) else(some false))))) else(if (bt x0 x3)≥48 then(if (bt x0 x3)≤57 then(bn_.l0 k x0 (wrap64 (x3+1))) else(if (bt x0 x3)=45 then(bn_.l0 k x0 (wrap64 (x3+1))) else(if ((bt x0 x3)=95) then(bn_.l0 k x0 (wrap64 (x3+1))) else(some false)))) else(if (bt x0 x3)=45 then(bn_.l0 k x0 (wrap64 (x3+1))) else(if ((bt x0 x3)=95) then(bn_.l0 k x0 (wrap64 (x3+1))) else(some false))))) else(none)) else((bH_.f (x0.size:Int) 1 20).bind fun c=>(some c))
def bn_.f (k:Nat) (a0:ByteArray):Option (Bool):=if a0.toList=([42]:List UInt8) then(some true) else(bn_.l0 k a0 0)
theorem bn_.calls (k:Nat) (a0:ByteArray) (r:Bool) (w:World) (h:bn_.f k a0=some r) :
  Calls Tryz.prog 87 #[.string a0] w fun e w'=>e=.returned (.bool r)∧Drawn0 w w':=by
 have H:=h;clear h;unfold bn_.f at H;by_cases c2:a0.toList=([42]:List UInt8)
 ·rw[if_pos c2] at H;have O:=beq_iff_eq.mpr c2;have R:=bne_eq_false_iff_eq.mpr c2;clear c2;obtain rfl:=Option.some.inj H;go_enter Tryz.func87,Tryz.ntmps87;go_wp2;go_ret;exact⟨TF,TN⟩
 ·rw[if_neg c2] at H;have O:=beq_eq_false_iff_ne.mpr c2;have R:=bne_iff_ne.mpr c2;have H':=AM H;clear H;go_enter Tryz.func87,Tryz.ntmps87;go_wp2;go_loopg [3] k (fun kq v3 w'=>∃(c:Int),v3=.int .i64 c∧Aside0 (bn_.l0 kq a0 c=some r)∧Aside0 (kq≤k)∧Drawn0 w w')
  case atStart=>exact⟨(0),TF,H',⟨Nat.le_refl _⟩,TN⟩
  case round =>
   clear H';obtain⟨c,rfl,HA,HK1,⟨m1,rfl⟩⟩:=hrel
   cases gk with
   | zero=>exact absurd HA.out (by simp[bn_.l0])
   | succ k1 =>
    have H:=HA.out;clear HA;simp only[bn_.l0] at H;by_cases c3:c<(a0.size:Int)
    ·rw[if_pos c3] at H;have U:=decide_eq_true c3;clear c3;obtain⟨c4,H⟩:=ifn H;have ab:=decide_eq_true c4;clear c4;by_cases c6:(bt a0 c)≥97
     ·rw[if_pos c6] at H;have V:=decide_eq_true c6;clear c6;by_cases c7:(bt a0 c)≤122
      ·rw[if_pos c7] at H;have W:=decide_eq_true c7;clear c7;have H':=AM H;clear H;have p5:0≤(c:Int):=TD;have q5:c<(a0.size:Int):=TD;have g:=cb_ a0 c;replace p5:=eq_true p5;replace q5:=eq_true q5;go_wp2;go_roundg k1
       case measure=>have:=HK1.out;omega
       case rel=>exact⟨(wrap64 (c+1)),TF,H',⟨TM⟩,TN⟩
      ·rw[if_neg c7] at H;have W:=decide_eq_false c7;clear c7;by_cases c8:(bt a0 c)≥48
       ·rw[if_pos c8] at H;have X:=decide_eq_true c8;clear c8;by_cases c9:(bt a0 c)≤57
        ·rw[if_pos c9] at H;have Y:=decide_eq_true c9;clear c9;have H':=AM H;clear H;have p5:0≤(c:Int):=TD;have q5:c<(a0.size:Int):=TD;have g:=cb_ a0 c;replace p5:=eq_true p5;replace q5:=eq_true q5;go_wp2;go_roundg k1
         case measure=>have:=HK1.out;omega
         case rel=>exact⟨(wrap64 (c+1)),TF,H',⟨TM⟩,TN⟩
        ·rw[if_neg c9] at H;have Y:=decide_eq_false c9;clear c9;by_cases c10:(bt a0 c)=45
         ·rw[if_pos c10] at H;have t:=beq_iff_eq.mpr c10;have u:=bne_eq_false_iff_eq.mpr c10;clear c10;have H':=AM H;clear H;have p5:0≤(c:Int):=TD;have q5:c<(a0.size:Int):=TD;have g:=cb_ a0 c;replace p5:=eq_true p5;replace q5:=eq_true q5;go_wp2;go_roundg k1
          case measure=>have:=HK1.out;omega
          case rel=>exact⟨(wrap64 (c+1)),TF,H',⟨TM⟩,TN⟩
         ·rw[if_neg c10] at H;have t:=beq_eq_false_iff_ne.mpr c10;have u:=bne_iff_ne.mpr c10;by_cases i:((bt a0 c)=95)
          ·rw[if_pos i] at H;have v:=beq_iff_eq.mpr i;have x:=bne_eq_false_iff_eq.mpr i;clear i;have H':=AM H;clear H;have p5:0≤(c:Int):=TD;have q5:c<(a0.size:Int):=TD;have g:=cb_ a0 c;replace p5:=eq_true p5;replace q5:=eq_true q5;go_wp2;go_roundg k1
           case measure=>have:=HK1.out;omega
           case rel=>exact⟨(wrap64 (c+1)),TF,H',⟨TM⟩,TN⟩
          ·rw[if_neg i] at H;have v:=beq_eq_false_iff_ne.mpr i;have x:=bne_iff_ne.mpr i;obtain rfl:=Option.some.inj H;have p5:0≤(c:Int):=TD;have q5:c<(a0.size:Int):=TD;have g:=cb_ a0 c;replace p5:=eq_true p5;replace q5:=eq_true q5;go_wp2;go_ret;exact⟨TF,TN⟩
       ·rw[if_neg c8] at H;have X:=decide_eq_false c8;clear c8;by_cases j:(bt a0 c)=45
        ·rw[if_pos j] at H;have y:=beq_iff_eq.mpr j;have z:=bne_eq_false_iff_eq.mpr j;clear j;have H':=AM H;clear H;have p5:0≤(c:Int):=TD;have q5:c<(a0.size:Int):=TD;have g:=cb_ a0 c;replace p5:=eq_true p5;replace q5:=eq_true q5;go_wp2;go_roundg k1
         case measure=>have:=HK1.out;omega
         case rel=>exact⟨(wrap64 (c+1)),TF,H',⟨TM⟩,TN⟩
        ·rw[if_neg j] at H;have y:=beq_eq_false_iff_ne.mpr j;have z:=bne_iff_ne.mpr j;by_cases l:((bt a0 c)=95)
         ·rw[if_pos l] at H;have A:=beq_iff_eq.mpr l;have B:=bne_eq_false_iff_eq.mpr l;clear l;have H':=AM H;clear H;have p5:0≤(c:Int):=TD;have q5:c<(a0.size:Int):=TD;have g:=cb_ a0 c;replace p5:=eq_true p5;replace q5:=eq_true q5;go_wp2;go_roundg k1
          case measure=>have:=HK1.out;omega
          case rel=>exact⟨(wrap64 (c+1)),TF,H',⟨TM⟩,TN⟩
         ·rw[if_neg l] at H;have A:=beq_eq_false_iff_ne.mpr l;have B:=bne_iff_ne.mpr l;obtain rfl:=Option.some.inj H;have p5:0≤(c:Int):=TD;have q5:c<(a0.size:Int):=TD;have g:=cb_ a0 c;replace p5:=eq_true p5;replace q5:=eq_true q5;go_wp2;go_ret;exact⟨TF,TN⟩
     ·rw[if_neg c6] at H;have V:=decide_eq_false c6;clear c6;by_cases q:(bt a0 c)≥48
      ·rw[if_pos q] at H;have C:=decide_eq_true q;clear q;by_cases s:(bt a0 c)≤57
       ·rw[if_pos s] at H;have D:=decide_eq_true s;clear s;have H':=AM H;clear H;have p5:0≤(c:Int):=TD;have q5:c<(a0.size:Int):=TD;have g:=cb_ a0 c;replace p5:=eq_true p5;replace q5:=eq_true q5;go_wp2;go_roundg k1
        case measure=>have:=HK1.out;omega
        case rel=>exact⟨(wrap64 (c+1)),TF,H',⟨TM⟩,TN⟩
       ·rw[if_neg s] at H;have D:=decide_eq_false s;clear s;by_cases m:(bt a0 c)=45
        ·rw[if_pos m] at H;have E:=beq_iff_eq.mpr m;have F:=bne_eq_false_iff_eq.mpr m;clear m;have H':=AM H;clear H;have p5:0≤(c:Int):=TD;have q5:c<(a0.size:Int):=TD;have g:=cb_ a0 c;replace p5:=eq_true p5;replace q5:=eq_true q5;go_wp2;go_roundg k1
         case measure=>have:=HK1.out;omega
         case rel=>exact⟨(wrap64 (c+1)),TF,H',⟨TM⟩,TN⟩
        ·rw[if_neg m] at H;have E:=beq_eq_false_iff_ne.mpr m;have F:=bne_iff_ne.mpr m;by_cases n:((bt a0 c)=95)
         ·rw[if_pos n] at H;have G:=beq_iff_eq.mpr n;have I:=bne_eq_false_iff_eq.mpr n;clear n;have H':=AM H;clear H;have p5:0≤(c:Int):=TD;have q5:c<(a0.size:Int):=TD;have g:=cb_ a0 c;replace p5:=eq_true p5;replace q5:=eq_true q5;go_wp2;go_roundg k1
          case measure=>have:=HK1.out;omega
          case rel=>exact⟨(wrap64 (c+1)),TF,H',⟨TM⟩,TN⟩
         ·rw[if_neg n] at H;have G:=beq_eq_false_iff_ne.mpr n;have I:=bne_iff_ne.mpr n;obtain rfl:=Option.some.inj H;have p5:0≤(c:Int):=TD;have q5:c<(a0.size:Int):=TD;have g:=cb_ a0 c;replace p5:=eq_true p5;replace q5:=eq_true q5;go_wp2;go_ret;exact⟨TF,TN⟩
      ·rw[if_neg q] at H;have C:=decide_eq_false q;clear q;by_cases o:(bt a0 c)=45
       ·rw[if_pos o] at H;have J:=beq_iff_eq.mpr o;have K:=bne_eq_false_iff_eq.mpr o;clear o;have H':=AM H;clear H;have p5:0≤(c:Int):=TD;have q5:c<(a0.size:Int):=TD;have g:=cb_ a0 c;replace p5:=eq_true p5;replace q5:=eq_true q5;go_wp2;go_roundg k1
        case measure=>have:=HK1.out;omega
        case rel=>exact⟨(wrap64 (c+1)),TF,H',⟨TM⟩,TN⟩
       ·rw[if_neg o] at H;have J:=beq_eq_false_iff_ne.mpr o;have K:=bne_iff_ne.mpr o;by_cases p:((bt a0 c)=95)
        ·rw[if_pos p] at H;have M:=beq_iff_eq.mpr p;have N:=bne_eq_false_iff_eq.mpr p;clear p;have H':=AM H;clear H;have p5:0≤(c:Int):=TD;have q5:c<(a0.size:Int):=TD;have g:=cb_ a0 c;replace p5:=eq_true p5;replace q5:=eq_true q5;go_wp2;go_roundg k1
         case measure=>have:=HK1.out;omega
         case rel=>exact⟨(wrap64 (c+1)),TF,H',⟨TM⟩,TN⟩
        ·rw[if_neg p] at H;have M:=beq_eq_false_iff_ne.mpr p;have N:=bne_iff_ne.mpr p;obtain rfl:=Option.some.inj H;have p5:0≤(c:Int):=TD;have q5:c<(a0.size:Int):=TD;have g:=cb_ a0 c;replace p5:=eq_true p5;replace q5:=eq_true q5;go_wp2;go_ret;exact⟨TF,TN⟩
    ·rw[if_neg c3] at H;have U:=decide_eq_false c3;clear c3;obtain⟨Z,aa,H⟩:=bnd H;obtain rfl:=Option.some.inj H;go_wp2_with (first|(refine gL 41 rfl Tryz.func30 #[.int .i64 (a0.size:Int),.int .i64 1,.int .i64 20] rfl TA ?_;(with_reducible refine(bH_.calls (a0.size:Int) 1 20 Z _ aa.out).mono ?_);rintro e w' ⟨rfl,⟨nd,rfl⟩⟩;refine⟨_,rfl,?_⟩));go_ret;exact⟨TF,TN⟩
end
section
def bi_.l0:Nat→ByteArray→List ByteArray→List ByteArray→Int→Int→Option (List ByteArray × Bool)
 | 0,_,_,_,_,_=>none
 | k+1,x0,x4,g,h,c=>if c<h then(if 0≤c then(if c<(g.length:Int) then((bn_.f k (rdOf ByteArray.empty g c)).bind fun i=>(if i=true then(bi_.l0 k x0 x4 g h (wrap64 (c+1))) else(some (([]:List ByteArray),false)))) else(none)) else(none)) else(if (x0.size:Int)≤60 then(some (x4,decide ((x4.length:Int)≤8))) else(some (x4,false)))
def bi_.f (k:Nat) (a0:ByteArray):Option (List ByteArray × Bool):=if a0.toList=([]:List UInt8) then(some (([]:List ByteArray),true)) else((bo_.f k a0 46).bind fun t143=>(bi_.l0 k a0 t143 t143 (t143.length:Int) 0))
theorem bi_.calls (k:Nat) (a0:ByteArray) (r1:List ByteArray) (r2:Bool) (w:World) (h:bi_.f k a0=some (r1,r2)) :
  Calls Tryz.prog 65 #[.string a0] w fun e w'=>∃v0_:Value,e=.returned (.tuple #[v0_,.bool r2])∧Kd.R Kd.string 9 w' w.heap.size (fun _=>True) v0_ r1∧Below w.heap.size w w':=by
 have HB:=AM (Below.refl w.heap.size w);have H:=h;clear h;unfold bi_.f at H;by_cases c2:a0.toList=([]:List UInt8)
 ·rw[if_pos c2] at H;have v:=beq_iff_eq.mpr c2;have x:=bne_eq_false_iff_eq.mpr c2;clear c2;simp only[Option.some.injEq,Prod.mk.injEq] at H;obtain⟨rfl,rfl⟩:=H;go_enter Tryz.func65,Tryz.ntmps65;go_wp2;go_ret2;exact⟨_,by first|rfl|(simp[aw_,av_]<;>rfl)|(simp[*,aw_,av_]<;>rfl)|(simp[aw_,av_];rw[Bool.eq_iff_iff];simp),TZ,TB⟩
 ·rw[if_neg c2] at H;have v:=beq_eq_false_iff_ne.mpr c2;have x:=bne_iff_ne.mpr c2;obtain⟨g,A3,H⟩:=bnd H;have H':=AM H;clear H;go_enter Tryz.func65,Tryz.ntmps65;go_wp2_with (first|(refine gL 10 rfl Tryz.func86 #[.string a0,.int .u8 46] rfl TA ?_;(with_reducible refine(bo_.calls k a0 46 g _ A3.out).mono ?_);rintro e w4 ⟨E,rfl,y,hb⟩;refine⟨_,rfl,?_⟩;have l:=RL y;replace HB:=BS hb;clear hb;(try clear y);obtain⟨z,A,eo5⟩:=Kd.ar_ l.out;subst eo5));go_loopg [13] k (fun kq D w'=>∃(c:Int),D=.int .i64 c∧Aside0 (bi_.l0 kq a0 g g (g.length:Int) c=some (r1,r2))∧Aside0 (kq≤k)∧Aside0 (Kd.R Kd.string 9 w' w.heap.size (fun _=>True) (.slice z g.length A) g)∧Aside0 (Kd.R Kd.string 9 w' w.heap.size (fun _=>True) (.slice z g.length A) g)∧Aside0 (Below w.heap.size w w'))
  case atStart=>exact⟨(0),TF,H',⟨Nat.le_refl _⟩,RW l,RW l,⟨TB⟩⟩
  case round =>
   clear H';obtain⟨c,rfl,HA,HK1,o,m,HB⟩:=hrel
   cases gk with
   | zero=>exact absurd HA.out (by simp[bi_.l0])
   | succ k1 =>
    have H:=HA.out;clear HA;simp only[bi_.l0] at H;by_cases c6:c<(g.length:Int)
    ·rw[if_pos c6] at H;have B:=decide_eq_true c6;clear c6;obtain⟨c7,H⟩:=ifn H;have F:=decide_eq_true c7;clear c7;obtain⟨c8,H⟩:=ifn H;have G:=decide_eq_true c8;clear c8;obtain⟨C,A9,H⟩:=bnd H;by_cases c10:C=true
     ·subst c10;replace H:=ift H;have H':=AM H;clear H;have i:0≤(c:Int):=TD;have j:c<(g.length:Int):=TD;obtain⟨s,p,q⟩:=Kd.bs_ (Kd.ae_ m.out).2.2 c i j;cases p;replace i:=eq_true i;replace j:=eq_true j;go_wp2_with (first|(refine gL 18 rfl Tryz.func87 #[.string (rdOf ByteArray.empty g c)] rfl TA ?_;(with_reducible refine(bn_.calls k1 (rdOf ByteArray.empty g c) true _ A9.out).mono ?_);rintro e w' ⟨rfl,⟨nd,rfl⟩⟩;refine⟨_,rfl,?_⟩));go_roundg k1
      case measure=>have:=HK1.out;omega
      case rel=>exact⟨(wrap64 (c+1)),TF,H',⟨TM⟩,RW o,RW m,⟨TB⟩⟩
     ·replace c10:=Bool.eq_false_iff.mpr c10;subst c10;replace H:=iff' H;simp only[Option.some.injEq,Prod.mk.injEq] at H;obtain⟨rfl,rfl⟩:=H;have i:0≤(c:Int):=TD;have j:c<(g.length:Int):=TD;obtain⟨s,p,q⟩:=Kd.bs_ (Kd.ae_ m.out).2.2 c i j;cases p;replace i:=eq_true i;replace j:=eq_true j;go_wp2_with (first|(refine gL 18 rfl Tryz.func87 #[.string (rdOf ByteArray.empty g c)] rfl TA ?_;(with_reducible refine(bn_.calls k1 (rdOf ByteArray.empty g c) false _ A9.out).mono ?_);rintro e w' ⟨rfl,⟨nd,rfl⟩⟩;refine⟨_,rfl,?_⟩));go_ret2;exact⟨_,by first|rfl|(simp[aw_,av_]<;>rfl)|(simp[*,aw_,av_]<;>rfl)|(simp[aw_,av_];rw[Bool.eq_iff_iff];simp),TZ,TB⟩
    ·rw[if_neg c6] at H;have B:=decide_eq_false c6;clear c6;by_cases n:(a0.size:Int)≤60
     ·rw[if_pos n] at H;have t:=decide_eq_true n;have u:decide (a0.size≤60)=true:=decide_eq_true (by omega);clear n;simp only[Option.some.injEq,Prod.mk.injEq] at H;obtain⟨rfl,rfl⟩:=H;go_wp2;go_ret2;exact⟨_,by first|rfl|(simp[aw_,av_]<;>rfl)|(simp[*,aw_,av_]<;>rfl)|(simp[aw_,av_];rw[Bool.eq_iff_iff];simp),(RW o).out,TB⟩
     ·rw[if_neg n] at H;have t:=decide_eq_false n;have u:decide (a0.size≤60)=false:=decide_eq_false (by omega);clear n;simp only[Option.some.injEq,Prod.mk.injEq] at H;obtain⟨rfl,rfl⟩:=H;go_wp2;go_ret2;exact⟨_,by first|rfl|(simp[aw_,av_]<;>rfl)|(simp[*,aw_,av_]<;>rfl)|(simp[aw_,av_];rw[Bool.eq_iff_iff];simp),(RW o).out,TB⟩
end
section
def bP_.l0:Nat→Bool→List ByteArray→Int→Int→Option (Bool)
 | 0,_,_,_,_=>none
 | k+1,x4,f,g,c=>if c<g then(if 0≤c then(if c<(f.length:Int) then(if x4=true then(bP_.l0 k ((rdOf ByteArray.empty f c).toList != ([42]:List UInt8)) f g (wrap64 (c+1))) else(bP_.l0 k false f g (wrap64 (c+1)))) else(none)) else(none)) else(some x4)
def bP_.f (k:Nat) (a0:ByteArray):Option (Bool):=(bi_.f k a0).bind fun bt148=>(bP_.l0 k bt148.2 bt148.1 (bt148.1.length:Int) 0)
theorem bP_.calls (k:Nat) (a0:ByteArray) (r:Bool) (w:World) (h:bP_.f k a0=some r) :
  Calls Tryz.prog 49 #[.string a0] w fun e w'=>e=.returned (.bool r)∧Below w.heap.size w w':=by
 have HB:=AM (Below.refl w.heap.size w);have H:=h;clear h;unfold bP_.f at H;obtain⟨⟨g,q⟩,A2,H⟩:=bnd H
 try dsimp only at H
 have H':=AM H;clear H;go_enter Tryz.func49,Tryz.ntmps49;go_wp2_with (first|(refine gL 9 rfl Tryz.func65 #[.string a0] rfl TA ?_;(with_reducible refine(bi_.calls k a0 g q _ A2.out).mono ?_);rintro e w3 ⟨z,rfl,t,hb⟩;refine⟨_,rfl,?_⟩;have n:=RL t;replace HB:=BS hb;clear hb;(try clear t);obtain⟨v,x,eo4⟩:=Kd.ar_ n.out;subst eo4));go_loopg [4,14] k (fun kq v4 y w'=>∃(m:Bool) (c:Int),v4=.bool m∧y=.int .i64 c∧Aside0 (bP_.l0 kq m g (g.length:Int) c=some r)∧Aside0 (kq≤k)∧Aside0 (Kd.R Kd.string 9 w' w.heap.size (fun _=>True) (.slice v g.length x) g)∧Aside0 (Below w.heap.size w w'))
 case atStart=>exact⟨(q),(0),TF,TF,H',⟨Nat.le_refl _⟩,RW n,⟨TB⟩⟩
 case round =>
  clear H';obtain⟨m,c,rfl,rfl,HA,HK1,l,HB⟩:=hrel
  cases gk with
  | zero=>exact absurd HA.out (by simp[bP_.l0])
  | succ k1 =>
   have H:=HA.out;clear HA;simp only[bP_.l0] at H;by_cases c5:c<(g.length:Int)
   ·rw[if_pos c5] at H;have u:=decide_eq_true c5;clear c5;obtain⟨c6,H⟩:=ifn H;have A:=decide_eq_true c6;clear c6;obtain⟨c7,H⟩:=ifn H;have B:=decide_eq_true c7;clear c7;by_cases c8:m=true
    ·subst c8;replace H:=ift H;have H':=AM H;clear H;have i:0≤(c:Int):=TD;have j:c<(g.length:Int):=TD;obtain⟨s,o,p⟩:=Kd.bs_ (Kd.ae_ l.out).2.2 c i j;cases o;replace i:=eq_true i;replace j:=eq_true j;go_wp2;go_roundg k1
     case measure=>have:=HK1.out;omega
     case rel=>exact⟨(((rdOf ByteArray.empty g c).toList != ([42]:List UInt8))),(wrap64 (c+1)),TF,TF,H',⟨TM⟩,RW l,⟨TB⟩⟩
    ·replace c8:=Bool.eq_false_iff.mpr c8;subst c8;replace H:=iff' H;have H':=AM H;clear H;have i:0≤(c:Int):=TD;have j:c<(g.length:Int):=TD;obtain⟨s,o,p⟩:=Kd.bs_ (Kd.ae_ l.out).2.2 c i j;cases o;replace i:=eq_true i;replace j:=eq_true j;go_wp2;go_roundg k1
     case measure=>have:=HK1.out;omega
     case rel=>exact⟨(false),(wrap64 (c+1)),TF,TF,H',⟨TM⟩,RW l,⟨TB⟩⟩
   ·rw[if_neg c5] at H;have u:=decide_eq_false c5;clear c5;obtain rfl:=Option.some.inj H;go_wp2;go_ret;exact⟨TE,TB⟩
end
section
mutual
def bb_.j0:Nat→ByteArray→Bool→Option (Int)
 | 0,_,_=>none
 | k+1,x0,x18=>if x18=true then(some (-1)) else(bb_.l0 k x0 0 0)
def bb_.l0:Nat→ByteArray→Int→Int→Option (Int)
 | 0,_,_,_=>none
 | k+1,x0,x3,x4=>if x4<(x0.size:Int) then(if 0≤x4 then(if (bt x0 x4)<48 then(some (-1)) else(if (bt x0 x4) > 57 then(some (-1)) else(bb_.l0 k x0 (wrap64 ((wrap64 (10 * x3))+(((bt x0 x4) - 48) % 256))) (wrap64 (x4+1))))) else(none)) else(some x3)
end
def bb_.f (k:Nat) (a0:ByteArray):Option (Int):=(bH_.f (a0.size:Int) 1 10).bind fun t153=>(if t153=true then(if 0<(a0.size:Int) then(if (bt a0 0)=48 then(bb_.j0 k a0 (decide ((a0.size:Int) > 1))) else(bb_.j0 k a0 false)) else(none)) else(bb_.j0 k a0 true))
theorem bb_.calls (k:Nat) (a0:ByteArray) (r:Int) (w:World) (h:bb_.f k a0=some r) :
  Calls Tryz.prog 89 #[.string a0] w fun e w'=>e=.returned (.int .i64 r)∧Drawn0 w w':=by
 have H:=h;clear h;unfold bb_.f at H;have t:=AM H;clear H;go_enter Tryz.func89,Tryz.ntmps89
 go_upto_region 1 with (fail)
 go_cut [18] (fun G wc=>∃(kq:Nat) (g:Bool),G=.bool g∧Aside0 (bb_.j0 kq a0 g=some r)∧Aside0 (kq≤k)∧Drawn0 w wc)
 case first =>
  have H:=t.out;clear t;obtain⟨x,A3,H⟩:=bnd H;by_cases c4:x=true
  ·subst c4;replace H:=ift H;obtain⟨c5,H⟩:=ifn H;have q:=decide_eq_true c5;have y:decide (0<a0.size)=true:=decide_eq_true (by omega);clear c5;(first|rw[q]|(simp only[bA_,b6_];rw[q])|rw[y]|skip);by_cases c7:(bt a0 0)=48
   ·rw[if_pos c7] at H;have z:=beq_iff_eq.mpr c7;have A:=bne_eq_false_iff_eq.mpr c7;clear c7;have H':=AM H;clear H;go_wp2_with (first|(refine gL 7 rfl Tryz.func30 #[.int .i64 (a0.size:Int),.int .i64 1,.int .i64 10] rfl TA ?_;(with_reducible refine(bH_.calls (a0.size:Int) 1 10 true _ A3.out).mono ?_);rintro e w' ⟨rfl,⟨nd,rfl⟩⟩;refine⟨_,rfl,?_⟩;have p6:0≤(0:Int):=(by omega);have q6:0<a0.size:=(by have:(0:Int)<(a0.size:Int):=TD;omega);have I:∀h:0<a0.size,((a0[0]'h).toNat:Int)=bt a0 0:=cb_ a0 0;clear p6;have qi6:(0<(a0.size:Int))=True:=eq_true TD;replace q6:=eq_true q6));go_meet
    case rel=>exact⟨_,(decide ((a0.size:Int) > 1)),TF,H',⟨by first|omega|exact Nat.le_refl _⟩,TN⟩
   ·rw[if_neg c7] at H;have z:=beq_eq_false_iff_ne.mpr c7;have A:=bne_iff_ne.mpr c7;have H':=AM H;clear H;go_wp2_with (first|(refine gL 7 rfl Tryz.func30 #[.int .i64 (a0.size:Int),.int .i64 1,.int .i64 10] rfl TA ?_;(with_reducible refine(bH_.calls (a0.size:Int) 1 10 true _ A3.out).mono ?_);rintro e w' ⟨rfl,⟨nd,rfl⟩⟩;refine⟨_,rfl,?_⟩;have p6:0≤(0:Int):=(by omega);have q6:0<a0.size:=(by have:(0:Int)<(a0.size:Int):=TD;omega);have I:∀h:0<a0.size,((a0[0]'h).toNat:Int)=bt a0 0:=cb_ a0 0;clear p6;have qi6:(0<(a0.size:Int))=True:=eq_true TD;replace q6:=eq_true q6));go_meet
    case rel=>exact⟨_,(false),TF,H',⟨by first|omega|exact Nat.le_refl _⟩,TN⟩
  ·replace c4:=Bool.eq_false_iff.mpr c4;subst c4;replace H:=iff' H;have H':=AM H;clear H;go_wp2_with (first|(refine gL 7 rfl Tryz.func30 #[.int .i64 (a0.size:Int),.int .i64 1,.int .i64 10] rfl TA ?_;(with_reducible refine(bH_.calls (a0.size:Int) 1 10 false _ A3.out).mono ?_);rintro e w' ⟨rfl,⟨nd,rfl⟩⟩;refine⟨_,rfl,?_⟩));go_meet
   case rel=>exact⟨_,(true),TF,H',⟨by first|omega|exact Nat.le_refl _⟩,TN⟩
 case rest =>
  clear t;obtain⟨kq,g,rfl,HA,HJ1,⟨mc1,rfl⟩⟩:=hcut
  cases kq with
  | zero=>exact absurd HA.out (by simp[bb_.j0])
  | succ B =>
   have H:=HA.out;clear HA;simp only[bb_.j0] at H;by_cases c8:g=true
   ·subst c8;replace H:=ift H;obtain rfl:=Option.some.inj H;go_wp2;go_ret;exact⟨TF,TN⟩
   ·replace c8:=Bool.eq_false_iff.mpr c8;subst c8;replace H:=iff' H;have H':=AM H;clear H;go_wp2;go_loopg [3,4] B (fun kq v3 v4 w'=>∃(l:Int) (c:Int),v3=.int .i64 l∧v4=.int .i64 c∧Aside0 (bb_.l0 kq a0 l c=some r)∧Aside0 (kq≤B)∧Drawn0 w w')
    case atStart=>exact⟨(0),(0),TF,TF,H',⟨Nat.le_refl _⟩,TN⟩
    case round =>
     clear H';obtain⟨l,c,rfl,rfl,HA,HK2,⟨m2,rfl⟩⟩:=hrel
     cases gk with
     | zero=>exact absurd HA.out (by simp[bb_.l0])
     | succ k2 =>
      have H:=HA.out;clear HA;simp only[bb_.l0] at H;by_cases c9:c<(a0.size:Int)
      ·rw[if_pos c9] at H;have C:=decide_eq_true c9;clear c9;obtain⟨c10,H⟩:=ifn H;have J:=decide_eq_true c10;clear c10;by_cases m:(bt a0 c)<48
       ·rw[if_pos m] at H;have u:=decide_eq_true m;clear m;obtain rfl:=Option.some.inj H;have i:0≤(c:Int):=TD;have j:c<(a0.size:Int):=TD;have s:=cb_ a0 c;replace i:=eq_true i;replace j:=eq_true j;go_wp2;go_ret;exact⟨TF,TN⟩
       ·rw[if_neg m] at H;have u:=decide_eq_false m;clear m;by_cases n:(bt a0 c) > 57
        ·rw[if_pos n] at H;have v:=decide_eq_true n;clear n;obtain rfl:=Option.some.inj H;have i:0≤(c:Int):=TD;have j:c<(a0.size:Int):=TD;have s:=cb_ a0 c;replace i:=eq_true i;replace j:=eq_true j;have o:0≤(c:Int):=TD;have p:c<(a0.size:Int):=TD;have D:=cb_ a0 c;replace o:=eq_true o;replace p:=eq_true p;go_wp2;go_ret;exact⟨TF,TN⟩
        ·rw[if_neg n] at H;have v:=decide_eq_false n;clear n;have H':=AM H;clear H;have i:0≤(c:Int):=TD;have j:c<(a0.size:Int):=TD;have s:=cb_ a0 c;replace i:=eq_true i;replace j:=eq_true j;have o:0≤(c:Int):=TD;have p:c<(a0.size:Int):=TD;have D:=cb_ a0 c;replace o:=eq_true o;replace p:=eq_true p;have E:0≤(c:Int):=TD;have F:c<(a0.size:Int):=TD;have K:=cb_ a0 c;replace E:=eq_true E;replace F:=eq_true F;go_wp2;go_roundg k2
         case measure=>have:=HJ1.out;have:=HK2.out;omega
         case rel=>exact⟨(wrap64 ((wrap64 (10 * l))+(((bt a0 c) - 48) % 256))),(wrap64 (c+1)),TF,TF,H',⟨by have:=HJ1.out;have:=HK2.out;omega⟩,TN⟩
      ·rw[if_neg c9] at H;have C:=decide_eq_false c9;clear c9;obtain rfl:=Option.some.inj H;go_wp2;go_ret;exact⟨TF,TN⟩
end
section
def aM_.l0:Nat→Int→List Int→Int→Option (ByteArray)
 | 0,_,_,_=>none
 | k+1,x0,x5,x6=>if x6≥0 then(if 0≤x6 then(if x6<(x5.length:Int) then(aM_.l0 k (x0 / 256) (x5.set (x6:Int).toNat ((x0) % 256)) (wrap64 (x6 - 1))) else(none)) else(none)) else(some (strOfNums x5))
def aM_.f (k:Nat) (a0:Int) (a1:Int):Option (ByteArray):=if 0≤a1 then(if (a1:Int).toNat≤281474976710656 then(aM_.l0 k a0 (List.replicate (a1:Int).toNat 0) (wrap64 (a1 - 1))) else(none)) else(none)
theorem aM_.calls (k:Nat) (a0:Int) (a1:Int) (r:ByteArray) (w:World) (h:aM_.f k a0 a1=some r) :
  Calls Tryz.prog 90 #[.int .i64 a0,.int .i64 a1] w fun e w'=>e=.returned (.string r)∧Below w.heap.size w w':=by
 have HB:=AM (Below.refl w.heap.size w);have H:=h;clear h;unfold aM_.f at H;obtain⟨c3,H⟩:=ifn H;have G:=eq_true c3;have I:=decide_eq_true c3;clear c3;obtain⟨c4,H⟩:=ifn H;have J:=eq_true c4;have K:=decide_eq_true c4;clear c4;obtain⟨q,i⟩:∃y_:List Int,y_=(List.replicate (a1:Int).toNat 0):=⟨_,rfl⟩
 replace H:(aM_.l0 k a0 q (wrap64 (a1 - 1)))=some r:=by first|(rw[i];with_reducible exact H)|(have H2_:=(Option.bind_some _ _).symm.trans H;rw[i];with_reducible exact H2_)|(have H2_:=(Option.bind_some _ _).symm.trans H;with_reducible exact H2_)|with_reducible exact H|(rw[i];exact H)|exact H
 have Ny154:=AM i;clear i;have H':=AM H;clear H;go_enter Tryz.func90,Tryz.ntmps90;go_wp2_with (first|((with_reducible refine ah_ (N:=8) rfl ?_);refine Kd.R_make (Kd.int .u8) _ 5 rfl (N:=8) rfl 77 _ _ rfl a1 rfl rfl Tryz.underlying77 (.int .u8 0) 1 info5 rfl (by decide) (by omega) 0 (ok:=fun _=>True) (okp:=fun _=>True) rfl (fun _ hk=>hk) trivial TD (Nat.le_trans (Nat.mul_le_mul_right _ (TD:a1.toNat≤281474976710656)) (by omega)) (Below.refl _ _) (Nat.le_refl _) ?_;intro B w5 n hb hg_ hnew_;clear hg_ hnew_;(first|rw[←Ny154.out] at n|(simp only[Int.reduceToNat] at n;rw[←Ny154.out] at n));have x:=RL n;replace HB:=BS hb;clear hb n));go_loopg [0,6] k (fun kq v0 v6 w'=>∃(g:Int) (l:List Int) (c:Int),v0=.int .i64 g∧v6=.int .i64 c∧Aside0 (aM_.l0 kq g l c=some r)∧Aside0 (kq≤k)∧Aside0 (Kd.R (Kd.int .u8) 5 w' w.heap.size (fun _=>True) B l)∧Aside0 (Below w.heap.size w w'))
 case atStart=>exact⟨(a0),(q),(wrap64 (a1 - 1)),TF,TF,H',⟨Nat.le_refl _⟩,RW x,⟨TB⟩⟩
 case round =>
  clear H';obtain⟨g,l,c,rfl,rfl,HA,HK1,m,HB⟩:=hrel
  cases gk with
  | zero=>exact absurd HA.out (by simp[aM_.l0])
  | succ k1 =>
   have H:=HA.out;clear HA;simp only[aM_.l0] at H;by_cases c7:c≥0
   ·rw[if_pos c7] at H;have C:=decide_eq_true c7;clear c7;obtain⟨c8,H⟩:=ifn H;have M:=decide_eq_true c8;clear c8;obtain⟨c9,H⟩:=ifn H;have O:=decide_eq_true c9;clear c9;obtain⟨o,j⟩:∃y_:List Int,y_=(l.set (c:Int).toNat ((g) % 256)):=⟨_,rfl⟩
    replace H:(aM_.l0 k1 (g / 256) o (wrap64 (c - 1)))=some r:=by first|(rw[j];with_reducible exact H)|(have H2_:=(Option.bind_some _ _).symm.trans H;rw[j];with_reducible exact H2_)|(have H2_:=(Option.bind_some _ _).symm.trans H;with_reducible exact H2_)|with_reducible exact H|(rw[j];exact H)|exact H
    have Ny157:=AM j;clear j;have H':=AM H;clear H;have y:0≤(c:Int):=TD;have z:(c:Int)<((l.length:Int):Int):=TD;obtain⟨go10,D,eo10,s,gl10,cl10,u⟩:=Kd.R_form m.out (by omega);(first|cases eo10|(injection eo10 with ea_ en_ ec_;(first|subst ea_|(injection ea_ with ea_;subst ea_));subst ec_;clear en_));have E:=AM s;have GG10:=AM u;clear s gl10 u;obtain⟨F,hf10_0⟩:=Kd.R_celln 0 m.out (c:Int) y z;replace y:=eq_true y;replace z:=eq_true z;have HP11:=Kd.R_putg m.out (c:Int) ((g) % 256);go_wp2_with (first|((with_reducible refine cq_ (t:=5) (p:=19) rfl ?_);refine cg_ (t:=5) (p:=19) (v:=?vo_w12) (w1:=(wr.setCell ⟨go10,(c:Int).toNat,none⟩ (.int .u8 ((g) % 256)))) ?hg ?ho ?hn ?hr ?_;(case ho=>rfl);(case hg=>rfl);(case hn=>rfl);(case hr=>first|(go_simp;done)|(go_simp;rfl));intro A hw;have hg:wr.grownBy A (some go10):=(by rw[hw];exact HP11.2);have hp_:Kd.R (Kd.int .u8) 5 A w.heap.size (fun _=>True) (.slice (some ⟨go10,0,none⟩) l.length D) o:=(by rw[hw,Ny157.out];exact HP11.1);clear HP11;replace m:=AM (hp_);replace HB:=AM ((by rw[hw];exact aR_ (HB.out) E.out:Below w.heap.size w A));clear hg hw hp_));go_roundg k1
    case measure=>have:=HK1.out;omega
    case rel=>exact⟨(g / 256),(o),(wrap64 (c - 1)),TF,TF,H',⟨TM⟩,RW m,⟨TB⟩⟩
   ·rw[if_neg c7] at H;have C:=decide_eq_false c7;clear c7;obtain rfl:=Option.some.inj H;have hcv13:=cS_ (P:=Tryz.prog) Tryz.underlying77 Tryz.underlying5 Tryz.underlying9 (Kd.c2_ m.out);go_wp2;go_ret;exact⟨TE,TB⟩
end
section
def bu_.l0:Nat→ByteArray→Bool→List ByteArray→Int→Int→Option (Bool)
 | 0,_,_,_,_,_=>none
 | k+1,x0,x4,f,g,c=>if c<g then(if 0≤c then(if c<(f.length:Int) then(if x4=true then(bu_.l0 k x0 ((rdOf ByteArray.empty f c).toList != ([42]:List UInt8)) f g (wrap64 (c+1))) else(bu_.l0 k x0 false f g (wrap64 (c+1)))) else(none)) else(none)) else(if x4=true then(some (x0.toList != ([]:List UInt8))) else(some false))
def bu_.f (k:Nat) (a0:ByteArray):Option (Bool):=(bi_.f k a0).bind fun bt158=>(bu_.l0 k a0 bt158.2 bt158.1 (bt158.1.length:Int) 0)
theorem bu_.calls (k:Nat) (a0:ByteArray) (r:Bool) (w:World) (h:bu_.f k a0=some r) :
  Calls Tryz.prog 91 #[.string a0] w fun e w'=>e=.returned (.bool r)∧Below w.heap.size w w':=by
 have HB:=AM (Below.refl w.heap.size w);have H:=h;clear h;unfold bu_.f at H;obtain⟨⟨g,q⟩,A2,H⟩:=bnd H
 try dsimp only at H
 have H':=AM H;clear H;go_enter Tryz.func91,Tryz.ntmps91;go_wp2_with (first|(refine gL 9 rfl Tryz.func65 #[.string a0] rfl TA ?_;(with_reducible refine(bi_.calls k a0 g q _ A2.out).mono ?_);rintro e w3 ⟨z,rfl,t,hb⟩;refine⟨_,rfl,?_⟩;have n:=RL t;replace HB:=BS hb;clear hb;(try clear t);obtain⟨v,x,eo4⟩:=Kd.ar_ n.out;subst eo4));go_loopg [4,14] k (fun kq v4 y w'=>∃(m:Bool) (c:Int),v4=.bool m∧y=.int .i64 c∧Aside0 (bu_.l0 kq a0 m g (g.length:Int) c=some r)∧Aside0 (kq≤k)∧Aside0 (Kd.R Kd.string 9 w' w.heap.size (fun _=>True) (.slice v g.length x) g)∧Aside0 (Below w.heap.size w w'))
 case atStart=>exact⟨(q),(0),TF,TF,H',⟨Nat.le_refl _⟩,RW n,⟨TB⟩⟩
 case round =>
  clear H';obtain⟨m,c,rfl,rfl,HA,HK1,l,HB⟩:=hrel
  cases gk with
  | zero=>exact absurd HA.out (by simp[bu_.l0])
  | succ k1 =>
   have H:=HA.out;clear HA;simp only[bu_.l0] at H;by_cases c5:c<(g.length:Int)
   ·rw[if_pos c5] at H;have u:=decide_eq_true c5;clear c5;obtain⟨c6,H⟩:=ifn H;have A:=decide_eq_true c6;clear c6;obtain⟨c7,H⟩:=ifn H;have B:=decide_eq_true c7;clear c7;by_cases c8:m=true
    ·subst c8;replace H:=ift H;have H':=AM H;clear H;have i:0≤(c:Int):=TD;have j:c<(g.length:Int):=TD;obtain⟨s,o,p⟩:=Kd.bs_ (Kd.ae_ l.out).2.2 c i j;cases o;replace i:=eq_true i;replace j:=eq_true j;go_wp2;go_roundg k1
     case measure=>have:=HK1.out;omega
     case rel=>exact⟨(((rdOf ByteArray.empty g c).toList != ([42]:List UInt8))),(wrap64 (c+1)),TF,TF,H',⟨TM⟩,RW l,⟨TB⟩⟩
    ·replace c8:=Bool.eq_false_iff.mpr c8;subst c8;replace H:=iff' H;have H':=AM H;clear H;have i:0≤(c:Int):=TD;have j:c<(g.length:Int):=TD;obtain⟨s,o,p⟩:=Kd.bs_ (Kd.ae_ l.out).2.2 c i j;cases o;replace i:=eq_true i;replace j:=eq_true j;go_wp2;go_roundg k1
     case measure=>have:=HK1.out;omega
     case rel=>exact⟨(false),(wrap64 (c+1)),TF,TF,H',⟨TM⟩,RW l,⟨TB⟩⟩
   ·rw[if_neg c5] at H;have u:=decide_eq_false c5;clear c5;by_cases c9:m=true
    ·subst c9;replace H:=ift H;obtain rfl:=Option.some.inj H;go_wp2;go_ret;exact⟨by first|rfl|(simp[aw_,av_]<;>rfl)|(simp[*,aw_,av_]<;>rfl)|(simp[aw_,av_];rw[Bool.eq_iff_iff];simp),TB⟩
    ·replace c9:=Bool.eq_false_iff.mpr c9;subst c9;replace H:=iff' H;obtain rfl:=Option.some.inj H;go_wp2;go_ret;exact⟨by first|rfl|(simp[aw_,av_]<;>rfl)|(simp[*,aw_,av_]<;>rfl)|(simp[aw_,av_];rw[Bool.eq_iff_iff];simp),TB⟩
end
section
def bL_.l0:Nat→ByteArray→List ByteArray→Int→Int→Option (ByteArray)
 | 0,_,_,_,_=>none
 | k+1,x5,f,h,c=>if c<h then(if 0≤c then(if c<(f.length:Int) then((some (([(((rdOf ByteArray.empty f c).size:Int)) % 256]:List Int):List Int)).bind fun g=>(if (strOfNums g).size+(rdOf ByteArray.empty f c).size≤9223372036854775807 then(if x5.size+((strOfNums g)++(rdOf ByteArray.empty f c)).size≤9223372036854775807 then(bL_.l0 k (x5++((strOfNums g)++(rdOf ByteArray.empty f c))) f h (wrap64 (c+1))) else(none)) else(none))) else(none)) else(none)) else(if x5.size+1≤9223372036854775807 then(some (x5++(⟨#[0]⟩:ByteArray))) else(none))
def bL_.f (k:Nat) (a0:ByteArray):Option (ByteArray):=(bi_.f k a0).bind fun bt163=>(bL_.l0 k (⟨#[]⟩:ByteArray) bt163.1 (bt163.1.length:Int) 0)
theorem bL_.calls (k:Nat) (a0:ByteArray) (r:ByteArray) (w:World) (h:bL_.f k a0=some r) :
  Calls Tryz.prog 92 #[.string a0] w fun e w'=>e=.returned (.string r)∧Below w.heap.size w w':=by
 have HB:=AM (Below.refl w.heap.size w);have H:=h;clear h;unfold bL_.f at H;obtain⟨⟨g,u⟩,A2,H⟩:=bnd H
 try dsimp only at H
 have H':=AM H;clear H;go_enter Tryz.func92,Tryz.ntmps92;go_wp2_with (first|(refine gL 10 rfl Tryz.func65 #[.string a0] rfl TA ?_;(with_reducible refine(bi_.calls k a0 g u _ A2.out).mono ?_);rintro e w3 ⟨I,rfl,v,hb⟩;refine⟨_,rfl,?_⟩;have o:=RL v;replace HB:=BS hb;clear hb;(try clear v);obtain⟨A,B,eo4⟩:=Kd.ar_ o.out;subst eo4));go_loopg [5,15] k (fun kq v5 C w'=>∃(i:ByteArray) (c:Int),v5=.string i∧C=.int .i64 c∧Aside0 (bL_.l0 kq i g (g.length:Int) c=some r)∧Aside0 (kq≤k)∧Aside0 (Kd.R Kd.string 9 w' w.heap.size (fun _=>True) (.slice A g.length B) g)∧Aside0 (Below w.heap.size w w'))
 case atStart=>exact⟨((⟨#[]⟩:ByteArray)),(0),TF,TF,H',⟨Nat.le_refl _⟩,RW o,⟨TB⟩⟩
 case round =>
  clear H';obtain⟨i,c,rfl,rfl,HA,HK1,m,HB⟩:=hrel
  cases gk with
  | zero=>exact absurd HA.out (by simp[bL_.l0])
  | succ k1 =>
   have H:=HA.out;clear HA;simp only[bL_.l0] at H;by_cases c5:c<(g.length:Int)
   ·rw[if_pos c5] at H;have x:=decide_eq_true c5;clear c5;obtain⟨c6,H⟩:=ifn H;have J:=decide_eq_true c6;clear c6;obtain⟨c7,H⟩:=ifn H;have K:=decide_eq_true c7;clear c7;obtain⟨l,j⟩:∃y_:List Int,y_=(([(((rdOf ByteArray.empty g c).size:Int)) % 256]:List Int)):=⟨_,rfl⟩
    replace H:(if (strOfNums l).size+(rdOf ByteArray.empty g c).size≤9223372036854775807 then(if i.size+((strOfNums l)++(rdOf ByteArray.empty g c)).size≤9223372036854775807 then(bL_.l0 k1 (i++((strOfNums l)++(rdOf ByteArray.empty g c))) g (g.length:Int) (wrap64 (c+1))) else(none)) else(none))=some r:=by first|(rw[j];with_reducible exact H)|(have H2_:=(Option.bind_some _ _).symm.trans H;rw[j];with_reducible exact H2_)|(have H2_:=(Option.bind_some _ _).symm.trans H;with_reducible exact H2_)|with_reducible exact H|(rw[j];exact H)|exact H
    have Ny168:=AM j;clear j;obtain⟨c8,H⟩:=ifn H;have O:=eq_true c8;have U:=decide_eq_true c8
    try have V:(9223372036854775807<(strOfNums l).size+(rdOf ByteArray.empty g c).size)=False:=eq_false (Nat.not_lt.2 c8)
    obtain⟨c9,H⟩:=ifn H;have W:=eq_true c9;have X:=decide_eq_true c9
    try have Y:(9223372036854775807<i.size+((strOfNums l)++(rdOf ByteArray.empty g c)).size)=False:=eq_false (Nat.not_lt.2 c9)
    have H':=AM H;clear H;have p:0≤(c:Int):=TD;have q:c<(g.length:Int):=TD;obtain⟨D,y,z⟩:=Kd.bs_ (Kd.ae_ m.out).2.2 c p q;cases y;replace p:=eq_true p;replace q:=eq_true q;go_wp2_with (first|((with_reducible refine ah_ (N:=23) rfl ?_);refine Kd.R_lit (Kd.int .u8) _ 5 ?hg (N:=23) ?hd (xs:=([(((rdOf ByteArray.empty g c).size:Int)) % 256]:List Int)) (inner:=[.int .u8 ((((rdOf ByteArray.empty g c).size:Int)) % 256)]) (ok:=fun _=>True) (okp:=fun _=>True) ?hr ?hp (fun _ hk=>hk) trivial (Below.refl _ _) (Nat.le_refl _) (by simp) ?_;(case hd=>rfl);(case hg=>rfl);(case hr=>first|(go_simp;done)|(go_simp;rfl));(case hp=>exact(Reps.one (show Kd.M (Kd.int .u8) _ _ _ ((((rdOf ByteArray.empty g c).size:Int)) % 256) [.int .u8 ((((rdOf ByteArray.empty g c).size:Int)) % 256)] from rfl) (Reps.none _ _)));intro Z aa n hb hg_ hnew_;clear hg_ hnew_;(first|rw[←Ny168.out] at n|(simp only[Int.reduceToNat] at n;rw[←Ny168.out] at n));replace m:=RB m hb;have s:=RL n;replace HB:=BS hb;clear hb n;have hcv12:=cS_ (P:=Tryz.prog) Tryz.underlying77 Tryz.underlying5 Tryz.underlying9 (Kd.c2_ s.out)));go_roundg k1
    case measure=>have:=HK1.out;omega
    case rel=>exact⟨(i++((strOfNums l)++(rdOf ByteArray.empty g c))),(wrap64 (c+1)),TF,TF,H',⟨TM⟩,RW m,⟨TB⟩⟩
   ·rw[if_neg c5] at H;have x:=decide_eq_false c5;clear c5;obtain⟨t,H⟩:=ifn H;have E:=eq_true t;have F:=decide_eq_true t
    try have G:(9223372036854775807<i.size+1)=False:=eq_false (Nat.not_lt.2 t)
    obtain rfl:=Option.some.inj H;go_wp2;go_ret;exact⟨TE,TB⟩
end
section
mutual
def am_.l0:Nat→ByteArray→List ByteArray→List ByteArray→Int→Int→Option (ByteArray × Bool)
 | 0,_,_,_,_,_=>none
 | k+1,x6,x7,i,j,c=>if c<j then(if 0≤c then(if c<(i.length:Int) then((bb_.f k (rdOf ByteArray.empty i c)).bind fun g=>((bH_.f g 0 255).bind fun l=>(if l=true then((aM_.f k g 1).bind fun h=>(if x6.size+h.size≤9223372036854775807 then(am_.l0 k (x6++h) x7 i j (wrap64 (c+1))) else(none))) else(some ((⟨#[]⟩:ByteArray),false))))) else(none)) else(none)) else(some (x6,((x7.length:Int)==4)))
def am_.j1:Nat→ByteArray→Int→Bool→Option (ByteArray × Bool)
 | 0,_,_,_=>none
 | k+1,x1,h,q=>if q=true then((bu_.f k x1).bind fun i=>(if i=true then((bL_.f k x1).bind fun j=>(some (j,true))) else(some ((⟨#[]⟩:ByteArray),false)))) else(if h=6 then((bb_.f k x1).bind fun g=>((aM_.f k g 4).bind fun l=>((bH_.f g 0 4294967295).bind fun m=>(some (l,m))))) else(if h=15 then((bo_.f k x1 32).bind fun c=>(if (c.length:Int)=2 then(if 0<(c.length:Int) then((bb_.f k (rdOf ByteArray.empty c 0)).bind fun n=>((bH_.f n 0 65535).bind fun o=>(if o=true then(if 1<(c.length:Int) then((bu_.f k (rdOf ByteArray.empty c 1)).bind fun p=>(am_.j2 k c (!p))) else(none)) else(am_.j2 k c true)))) else(none)) else(am_.j2 k c true))) else(if h=16 then(am_.l1 k x1 0) else(some ((⟨#[]⟩:ByteArray),false)))))
def am_.j2:Nat→List ByteArray→Bool→Option (ByteArray × Bool)
 | 0,_,_=>none
 | k+1,c,j=>if j=true then(some ((⟨#[]⟩:ByteArray),false)) else(if 0<(c.length:Int) then((bb_.f k (rdOf ByteArray.empty c 0)).bind fun i=>((aM_.f k i 2).bind fun g=>(if 1<(c.length:Int) then((bL_.f k (rdOf ByteArray.empty c 1)).bind fun h=>(if g.size+h.size≤9223372036854775807 then(some (g++h,true)) else(none))) else(none)))) else(none))
def am_.l1:Nat→ByteArray→Int→Option (ByteArray × Bool)
 | 0,_,_=>none
 | k+1,x1,c=>if c<(x1.size:Int) then(if 0≤c then(if (bt x1 c)<32 then(some ((⟨#[]⟩:ByteArray),false)) else(if (bt x1 c) > 126 then(some ((⟨#[]⟩:ByteArray),false)) else(am_.l1 k x1 (wrap64 (c+1))))) else(none)) else((some (([((x1.size:Int)) % 256]:List Int):List Int)).bind fun f=>(if (strOfNums f).size+x1.size≤9223372036854775807 then(some ((strOfNums f)++x1,decide ((x1.size:Int)≤30))) else(none)))
end
def am_.f (k:Nat) (a0:Int) (a1:ByteArray):Option (ByteArray × Bool):=if a0=1 then((bo_.f k a1 46).bind fun t171=>(am_.l0 k (⟨#[]⟩:ByteArray) t171 t171 (t171.length:Int) 0)) else(if a0=2 then(am_.j1 k a1 a0 (a0==2)) else(am_.j1 k a1 a0 (a0==5)))
def am_.T26:Bool × List (List Nat × List Nat):=(true,[([],[]),([0],[0]),([1],[1]),([2],[2]),([3,3],[3]),([],[]),([5],[5]),([6],[6]),([7,4],[7]),([4,8],[4,8]),([9,8,0,1,2,3,4,5,6,7,8,9],[9]),([10,0,1,2,3,4,5,6,7,8,9,10],[])])
def am_.B26:List Nat:=[0,1,3,7,15,0,32,96,255,511,1023,2047]
theorem am_.tab26:rtab .any (opsOf Tryz.f69 26)=am_.T26:=by kernel_rfl
theorem am_.bits26:waitsOk am_.T26.2 am_.B26=true:=by kernel_rfl
theorem am_.calls (k:Nat) (a0:Int) (a1:ByteArray) (r1:ByteArray) (r2:Bool) (w:World) (h:am_.f k a0 a1=some (r1,r2)) :
  Calls Tryz.prog 69 #[.int .i64 a0,.string a1] w fun e w'=>e=.returned (.tuple #[.string r1,.bool r2])∧Below w.heap.size w w':=by
 have HB:=AM (Below.refl w.heap.size w);have H:=h;clear h;unfold am_.f at H;by_cases c3:a0=1
 ·rw[if_pos c3] at H;have a6:=beq_iff_eq.mpr c3;have a7:=bne_eq_false_iff_eq.mpr c3;clear c3;obtain⟨l,A4,H⟩:=bnd H;have H':=AM H;clear H;go_enter Tryz.func69,Tryz.ntmps69;go_wp2_with (first|(refine gL 18 rfl Tryz.func86 #[.string a1,.int .u8 46] rfl TA ?_;(with_reducible refine(bo_.calls k a1 46 l _ A4.out).mono ?_);rintro e w5 ⟨b9,rfl,aj,hb⟩;refine⟨_,rfl,?_⟩;have X:=RL aj;replace HB:=BS hb;clear hb;(try clear aj);obtain⟨a8,a9,eo6⟩:=Kd.ar_ X.out;subst eo6));go_loopg [6,21] k (fun kq v6 bz w'=>∃(I:ByteArray) (j:Int),v6=.string I∧bz=.int .i64 j∧Aside0 (am_.l0 kq I l l (l.length:Int) j=some (r1,r2))∧Aside0 (kq≤k)∧Aside0 (Kd.R Kd.string 9 w' w.heap.size (fun _=>True) (.slice a8 l.length a9) l)∧Aside0 (Kd.R Kd.string 9 w' w.heap.size (fun _=>True) (.slice a8 l.length a9) l)∧Aside0 (Below w.heap.size w w'))
  case atStart=>exact⟨((⟨#[]⟩:ByteArray)),(0),TF,TF,H',⟨Nat.le_refl _⟩,RW X,RW X,⟨TB⟩⟩
  case round =>
   clear H';obtain⟨I,j,rfl,rfl,HA,HK1,ak,y,HB⟩:=hrel
   cases gk with
   | zero=>exact absurd HA.out (by simp[am_.l0])
   | succ k1 =>
    have H:=HA.out;clear HA;simp only[am_.l0] at H;by_cases c7:j<(l.length:Int)
    ·rw[if_pos c7] at H;have ba:=decide_eq_true c7;clear c7;obtain⟨c8,H⟩:=ifn H;have ca:=decide_eq_true c8;clear c8;obtain⟨c9,H⟩:=ifn H;have cb:=decide_eq_true c9;clear c9;obtain⟨u,bb,H⟩:=bnd H;obtain⟨bd,be,H⟩:=bnd H;by_cases aF:bd=true
     ·subst aF;replace H:=ift H;obtain⟨al,bA,H⟩:=bnd H;obtain⟨aO,H⟩:=ifn H;have bB:=eq_true aO;have bC:=decide_eq_true aO
      try have bD:(9223372036854775807<I.size+al.size)=False:=eq_false (Nat.not_lt.2 aO)
      have H':=AM H;clear H;have z:0≤(j:Int):=TD;have A:j<(l.length:Int):=TD;obtain⟨aP,am,an⟩:=Kd.bs_ (Kd.ae_ y.out).2.2 j z A;cases am;replace z:=eq_true z;replace A:=eq_true A;go_wp2_with (first|(refine gL 26 rfl Tryz.func89 #[.string (rdOf ByteArray.empty l j)] rfl TA ?_;(with_reducible refine(bb_.calls k1 (rdOf ByteArray.empty l j) u _ bb.out).mono ?_);rintro e w' ⟨rfl,⟨nd,rfl⟩⟩;refine⟨_,rfl,?_⟩)|(refine gL 28 rfl Tryz.func30 #[.int .i64 u,.int .i64 0,.int .i64 255] rfl TA ?_;(with_reducible refine(bH_.calls u 0 255 true _ be.out).mono ?_);rintro e w' ⟨rfl,⟨nd,rfl⟩⟩;refine⟨_,rfl,?_⟩)|(refine gL 32 rfl Tryz.func90 #[.int .i64 u,.int .i64 1] rfl TA ?_;(with_reducible refine(aM_.calls k1 u 1 al _ bA.out).mono ?_);rintro e cl ⟨rfl,hb⟩;refine⟨_,rfl,?_⟩;replace ak:=RB ak hb;replace y:=RB y hb;replace HB:=BS hb;clear hb));go_roundg k1
      case measure=>have:=HK1.out;omega
      case rel=>exact⟨(I++al),(wrap64 (j+1)),TF,TF,H',⟨TM⟩,RW ak,RW y,⟨TB⟩⟩
     ·replace aF:=Bool.eq_false_iff.mpr aF;subst aF;replace H:=iff' H;simp only[Option.some.injEq,Prod.mk.injEq] at H;obtain⟨rfl,rfl⟩:=H;have z:0≤(j:Int):=TD;have A:j<(l.length:Int):=TD;obtain⟨aP,am,an⟩:=Kd.bs_ (Kd.ae_ y.out).2.2 j z A;cases am;replace z:=eq_true z;replace A:=eq_true A;go_wp2_with (first|(refine gL 26 rfl Tryz.func89 #[.string (rdOf ByteArray.empty l j)] rfl TA ?_;(with_reducible refine(bb_.calls k1 (rdOf ByteArray.empty l j) u _ bb.out).mono ?_);rintro e w' ⟨rfl,⟨nd,rfl⟩⟩;refine⟨_,rfl,?_⟩)|(refine gL 28 rfl Tryz.func30 #[.int .i64 u,.int .i64 0,.int .i64 255] rfl TA ?_;(with_reducible refine(bH_.calls u 0 255 false _ be.out).mono ?_);rintro e w' ⟨rfl,⟨nd,rfl⟩⟩;refine⟨_,rfl,?_⟩));go_ret2;exact⟨TE,TB⟩
    ·rw[if_neg c7] at H;have ba:=decide_eq_false c7;clear c7;simp only[Option.some.injEq,Prod.mk.injEq] at H;obtain⟨rfl,rfl⟩:=H;go_wp2;go_ret2;exact⟨TE,TB⟩
 ·rw[if_neg c3] at H;have a6:=beq_eq_false_iff_ne.mpr c3;have a7:=bne_iff_ne.mpr c3;have ao:=AM H;clear H;go_enter Tryz.func69,Tryz.ntmps69
  go_upto_if 39 with (fail)
  go_cut [39] (fun bF wc=>∃(kq:Nat) (v:Bool),bF=.bool v∧Aside0 (am_.j1 kq a1 a0 v=some (r1,r2))∧Aside0 (kq≤k)∧Aside0 (Below w.heap.size w wc))
  case first =>
   have H:=ao.out;clear ao;by_cases Y:a0=2
   ·rw[if_pos Y] at H;have B:=beq_iff_eq.mpr Y;have Z:=bne_eq_false_iff_eq.mpr Y;clear Y;(first|rw[B]|(simp only[bA_,b6_];rw[B])|rw[Z]|skip);have H':=AM H;clear H;go_wp2;go_meet
    case rel=>exact⟨_,((a0==2)),TF,H',⟨by first|omega|exact Nat.le_refl _⟩,⟨TB⟩⟩
   ·rw[if_neg Y] at H;have B:=beq_eq_false_iff_ne.mpr Y;have Z:=bne_iff_ne.mpr Y;(first|rw[B]|(simp only[bA_,b6_];rw[B])|rw[Z]|skip);have H':=AM H;clear H;go_wp2;go_meet
    case rel=>exact⟨_,((a0==5)),TF,H',⟨by first|omega|exact Nat.le_refl _⟩,⟨TB⟩⟩
  case rest =>
   clear ao;obtain⟨kq,v,rfl,HA,HJ15,HB⟩:=hcut
   cases kq with
   | zero=>exact absurd HA.out (by simp[am_.j1])
   | succ p =>
    have H:=HA.out;clear HA;simp only[am_.j1] at H;by_cases aG:v=true
    ·subst aG;replace H:=ift H;obtain⟨bf,bg,H⟩:=bnd H;by_cases aH:bf=true
     ·subst aH;replace H:=ift H;obtain⟨bh,bH,H⟩:=bnd H;simp only[Option.some.injEq,Prod.mk.injEq] at H;obtain⟨rfl,rfl⟩:=H;go_wp2_with (first|(refine gL 43 rfl Tryz.func91 #[.string a1] rfl TA ?_;(with_reducible refine(bu_.calls p a1 true _ bg.out).mono ?_);rintro e cm ⟨rfl,hb⟩;refine⟨_,rfl,?_⟩;replace HB:=BS hb;clear hb)|(refine gL 46 rfl Tryz.func92 #[.string a1] rfl TA ?_;(with_reducible refine(bL_.calls p a1 bh _ bH.out).mono ?_);rintro e cn ⟨rfl,hb⟩;refine⟨_,rfl,?_⟩;replace HB:=BS hb;clear hb));go_ret2;exact⟨TE,TB⟩
     ·replace aH:=Bool.eq_false_iff.mpr aH;subst aH;replace H:=iff' H;simp only[Option.some.injEq,Prod.mk.injEq] at H;obtain⟨rfl,rfl⟩:=H;go_wp2_with (first|(refine gL 43 rfl Tryz.func91 #[.string a1] rfl TA ?_;(with_reducible refine(bu_.calls p a1 false _ bg.out).mono ?_);rintro e co ⟨rfl,hb⟩;refine⟨_,rfl,?_⟩;replace HB:=BS hb;clear hb));go_ret2;exact⟨TE,TB⟩
    ·replace aG:=Bool.eq_false_iff.mpr aG;subst aG;replace H:=iff' H;by_cases aa:a0=6
     ·rw[if_pos aa] at H;have aQ:=beq_iff_eq.mpr aa;have aR:=bne_eq_false_iff_eq.mpr aa;clear aa;obtain⟨J,bI,H⟩:=bnd H;obtain⟨bi,bJ,H⟩:=bnd H;obtain⟨bj,bK,H⟩:=bnd H;simp only[Option.some.injEq,Prod.mk.injEq] at H;obtain⟨rfl,rfl⟩:=H;go_wp2_with (first|(refine gL 50 rfl Tryz.func89 #[.string a1] rfl TA ?_;(with_reducible refine(bb_.calls p a1 J _ bI.out).mono ?_);rintro e w' ⟨rfl,⟨nd,rfl⟩⟩;refine⟨_,rfl,?_⟩)|(refine gL 52 rfl Tryz.func90 #[.int .i64 J,.int .i64 4] rfl TA ?_;(with_reducible refine(aM_.calls p J 4 bi _ bJ.out).mono ?_);rintro e cp ⟨rfl,hb⟩;refine⟨_,rfl,?_⟩;replace HB:=BS hb;clear hb)|(refine gL 54 rfl Tryz.func30 #[.int .i64 J,.int .i64 0,.int .i64 4294967295] rfl TA ?_;(with_reducible refine(bH_.calls J 0 4294967295 bj _ bK.out).mono ?_);rintro e w' ⟨rfl,⟨nd,rfl⟩⟩;refine⟨_,rfl,?_⟩));go_ret2;exact⟨TE,TB⟩
     ·rw[if_neg aa] at H;have aQ:=beq_eq_false_iff_ne.mpr aa;have aR:=bne_iff_ne.mpr aa;by_cases ab:a0=15
      ·rw[if_pos ab] at H;have aS:=beq_iff_eq.mpr ab;have aT:=bne_eq_false_iff_eq.mpr ab;clear ab;obtain⟨g,bL,H⟩:=bnd H;have ap:=AM H;clear H
       go_upto_region 24 with (first|(refine gL 58 rfl Tryz.func86 #[.string a1,.int .u8 32] rfl TA ?_;(with_reducible refine(bo_.calls p a1 32 g _ bL.out).mono ?_);rintro e cq ⟨bk,rfl,aj,hb⟩;refine⟨_,rfl,?_⟩;have m:=RL aj;replace HB:=BS hb;clear hb;(try clear aj)))
       (try simp only[Act.put,List.setIfInBounds_toArray,List.set_cons_zero,List.set_cons_succ]);go_cut [76] (fun bO wc=>∃(kq:Nat) (x:Bool),bO=.bool x∧Aside0 (am_.j2 kq g x=some (r1,r2))∧Aside0 (kq≤p)∧Aside0 (Kd.R Kd.string 9 wc w.heap.size (fun _=>True) bk g)∧Aside0 (Below w.heap.size w wc))
       case first =>
        have H:=ap.out;clear ap;by_cases ac:(g.length:Int)=2
        ·rw[if_pos ac] at H;have C:=beq_iff_eq.mpr ac;have ad:=bne_eq_false_iff_eq.mpr ac;clear ac;(first|rw[C]|(simp only[bA_,b6_];rw[C])|rw[ad]|skip);obtain⟨bl,H⟩:=ifn H;have bP:=decide_eq_true bl;have bQ:decide (0<g.length)=true:=decide_eq_true (by omega);clear bl;obtain⟨af,bm,H⟩:=bnd H;obtain⟨bn,bo,H⟩:=bnd H;by_cases aI:bn=true
         ·subst aI;replace H:=ift H;obtain⟨bp,H⟩:=ifn H;have bR:=decide_eq_true bp;have bS:decide (1<g.length)=true:=decide_eq_true (by omega);clear bp;obtain⟨aK,bT,H⟩:=bnd H;have H':=AM H;clear H;obtain⟨cc,cd,eo41⟩:=Kd.ar_ m.out;subst eo41;have D:0≤(0:Int):=(by omega);have E:0<(g.length:Int):=TD;obtain⟨aq,ar,q⟩:=Kd.bs_ (Kd.ae_ m.out).2.2 0 D E;cases ar;have qi186:(0<g.length)=True:=eq_true (by omega);(try rw[show((0:Int)).toNat=0 from rfl] at q);(try rw[Addr.add_zero'] at q);replace D:=eq_true D;replace E:=eq_true E;go_wp2_with (first|(go_at_call 89;(with_reducible refine(bb_.calls p (rdOf ByteArray.empty g 0) af _ bm.out).mono ?_);rintro e w' ⟨rfl,⟨nd,rfl⟩⟩)|(go_at_call 30;(with_reducible refine(bH_.calls af 0 65535 true _ bo.out).mono ?_);rintro e w' ⟨rfl,⟨nd,rfl⟩⟩;have au:0≤(1:Int):=(by omega);have av:1<(g.length:Int):=TD;obtain⟨aU,bq,O⟩:=Kd.bs_ (Kd.ae_ m.out).2.2 1 au av;obtain rfl:aq=aU:=(by injection bq);(try simp only[show(1:Int).toNat=1 from rfl,Nat.reduceMul,Nat.reduceEqDiff,Go.Addr.add,↓reduceIte] at O);have qi189:(1<g.length)=True:=eq_true (by omega);(try rw[show((1:Int)).toNat=1 from rfl] at O);replace au:=eq_true au;replace av:=eq_true av)|(go_at_call 91;(with_reducible refine(bu_.calls p (rdOf ByteArray.empty g 1) aK _ bT.out).mono ?_);rintro e cr ⟨rfl,hb⟩;replace m:=RB m hb;replace HB:=BS hb;clear hb));go_meet
          case rel=>exact⟨_,(!aK),TF,H',⟨by have:=HJ15.out;first|omega|exact Nat.le_refl _⟩,RW m,⟨TB⟩⟩
         ·replace aI:=Bool.eq_false_iff.mpr aI;subst aI;replace H:=iff' H;have H':=AM H;clear H;obtain⟨ce,cf,eo43⟩:=Kd.ar_ m.out;subst eo43;have D:0≤(0:Int):=(by omega);have E:0<(g.length:Int):=TD;obtain⟨aq,ar,q⟩:=Kd.bs_ (Kd.ae_ m.out).2.2 0 D E;cases ar;have qi186:(0<g.length)=True:=eq_true (by omega);(try rw[show((0:Int)).toNat=0 from rfl] at q);(try rw[Addr.add_zero'] at q);replace D:=eq_true D;replace E:=eq_true E;go_wp2_with (first|(go_at_call 89;(with_reducible refine(bb_.calls p (rdOf ByteArray.empty g 0) af _ bm.out).mono ?_);rintro e w' ⟨rfl,⟨nd,rfl⟩⟩)|(go_at_call 30;(with_reducible refine(bH_.calls af 0 65535 false _ bo.out).mono ?_);rintro e w' ⟨rfl,⟨nd,rfl⟩⟩));go_meet
          case rel=>exact⟨_,(true),TF,H',⟨by have:=HJ15.out;first|omega|exact Nat.le_refl _⟩,RW m,⟨TB⟩⟩
        ·rw[if_neg ac] at H;have C:=beq_eq_false_iff_ne.mpr ac;have ad:=bne_iff_ne.mpr ac;(first|rw[C]|(simp only[bA_,b6_];rw[C])|rw[ad]|skip);have H':=AM H;clear H;obtain⟨cg,ch,eo44⟩:=Kd.ar_ m.out;subst eo44;go_wp2;go_meet
         case rel=>exact⟨_,(true),TF,H',⟨by have:=HJ15.out;first|omega|exact Nat.le_refl _⟩,RW m,⟨TB⟩⟩
       case rest =>
        clear ap;obtain⟨kq,x,rfl,HA,HJ31,o,HB⟩:=hcut
        cases kq with
        | zero=>exact absurd HA.out (by simp[am_.j2])
        | succ aw =>
         have H:=HA.out;clear HA;simp only[am_.j2] at H;by_cases aJ:x=true
         ·subst aJ;replace H:=ift H;simp only[Option.some.injEq,Prod.mk.injEq] at H;obtain⟨rfl,rfl⟩:=H;go_wp2;go_ret2;exact⟨TE,TB⟩
         ·replace aJ:=Bool.eq_false_iff.mpr aJ;subst aJ;replace H:=iff' H;obtain⟨br,H⟩:=ifn H;have bU:=decide_eq_true br;have bV:decide (0<g.length)=true:=decide_eq_true (by omega);clear br;obtain⟨ax,bW,H⟩:=bnd H;obtain⟨aL,bX,H⟩:=bnd H;obtain⟨bs,H⟩:=ifn H;have bY:=decide_eq_true bs;have bZ:decide (1<g.length)=true:=decide_eq_true (by omega);clear bs;obtain⟨aM,b0,H⟩:=bnd H;obtain⟨aV,H⟩:=ifn H;have b1:=eq_true aV;have b2:=decide_eq_true aV
          try have b3:(9223372036854775807<aL.size+aM.size)=False:=eq_false (Nat.not_lt.2 aV)
          simp only[Option.some.injEq,Prod.mk.injEq] at H;obtain⟨rfl,rfl⟩:=H
          try go_wp2
          replace o:=AM (Kd.aZ_ o.out);replace HB:=AM (ap_ HB.out);obtain⟨ci,cj,eo53⟩:=Kd.ar_ o.out;(first|subst eo53|(injection eo53 with f1_ f2_ f3_;have f4_:=f1_.symm;have f5_:=f3_.symm;clear f1_ f2_ f3_;subst f4_;subst f5_));have ay:0≤(0:Int):=(by omega);have az:0<(g.length:Int):=TD;obtain⟨G,bu,s⟩:=Kd.bs_ (Kd.ae_ o.out).2.2 0 ay az;cases bu;have qi191:(0<g.length)=True:=eq_true (by omega);(try rw[show((0:Int)).toNat=0 from rfl] at s);(try rw[Addr.add_zero'] at s);replace ay:=eq_true ay;replace az:=eq_true az;have aA:0≤(1:Int):=(by omega);have aB:1<(g.length:Int):=TD;obtain⟨aW,bv,t⟩:=Kd.bs_ (Kd.ae_ o.out).2.2 1 aA aB;obtain rfl:G=aW:=(by injection bv);(try simp only[show(1:Int).toNat=1 from rfl,Nat.reduceMul,Nat.reduceEqDiff,Go.Addr.add,↓reduceIte] at t);have qi194:(1<g.length)=True:=eq_true (by omega);(try rw[show((1:Int)).toNat=1 from rfl] at t);replace aA:=eq_true aA;replace aB:=eq_true aB;refine start_ (n:=12) (S:=fun w'=>w'.cell? G=some (.string (rdOf ByteArray.empty g 0))∧w'.cell? ⟨G.block,G.off+1,none⟩=some (.string (rdOf ByteArray.empty g 1))) (ds:=[]) #[false,false,false,false,false,false,false,false,false,false,false,false] KR rfl rfl ⟨s,t⟩ (fun hHeld=>?_);refine a7_ am_.tab26 am_.bits26 (fun HT_ HW_=>?_);generalize wc.drew=cs at o HB s t hHeld ⊢;refine pA 0 77 (mL 12 1) HT_ rfl rfl ?_;refine pA 1 78 (mL 12 3) HT_ rfl rfl ?_;refine pA 5 82 (mL 12 35) HT_ rfl rfl ?_;refine pA 6 83 (mL 12 99) HT_ rfl rfl ?_;refine tA 2 79 (mL 12 103) HT_ HW_ hHeld rfl rfl (by rintro w' ⟨s0,s1⟩;go_simp;with_reducible rfl) ?_;refine tA 7 84 (mL 12 231) HT_ HW_ hHeld rfl rfl (by rintro w' ⟨s0,s1⟩;go_simp;with_reducible rfl) ?_;refine one_ (i:=3) (N:=some 80) (mL 12 239) rfl rfl (aE_ HT_.out KR) (by decide) (fun K hK=>?_);refine goes_ Tryz.func89 KR rfl #[.string (rdOf ByteArray.empty g 0)] (by rfl) rfl rfl TA ?_
          with_reducible refine(bb_.calls aw (rdOf ByteArray.empty g 0) ax _ bW.out).mono ?_
          rintro e w' ⟨rfl,⟨nd,rfl⟩⟩;refine⟨_,rfl,?_⟩;refine hK.out _ _ ⟨hHeld.1,hHeld.2⟩ (fun hHeld=>?_);clear hK K;refine nA ?_;refine one_ (i:=4) (N:=some 81) (mL 12 255) rfl rfl (aE_ HT_.out KR) (by decide) (fun K hK=>?_);refine goes_ Tryz.func90 KR rfl #[.int .i64 ax,.int .i64 2] (by rfl) rfl rfl TA ?_
          with_reducible refine(aM_.calls aw ax 2 aL _ bX.out).mono ?_
          rintro e ct ⟨rfl,hb⟩;have HS0_:=(hb.cell (World.block_lt_of_cell? _ _ (hHeld.1))).trans (hHeld.1);have HS1_:=(hb.cell (World.block_lt_of_cell? _ _ (hHeld.2))).trans (hHeld.2);refine⟨_,rfl,?_⟩;replace o:=RB o hb;replace HB:=BS hb;clear hb;refine hK.out _ _ ⟨HS0_,HS1_⟩ (fun hHeld=>?_);clear hK K;refine nA ?_;refine one_ (i:=8) (N:=some 85) (mL 12 511) rfl rfl (aE_ HT_.out KR) (by decide) (fun K hK=>?_);refine goes_ Tryz.func92 KR rfl #[.string (rdOf ByteArray.empty g 1)] (by rfl) rfl rfl TA ?_
          with_reducible refine(bL_.calls aw (rdOf ByteArray.empty g 1) aM _ b0.out).mono ?_
          rintro e cu ⟨rfl,hb⟩;have HS0_:=(hb.cell (World.block_lt_of_cell? _ _ (hHeld.1))).trans (hHeld.1);have HS1_:=(hb.cell (World.block_lt_of_cell? _ _ (hHeld.2))).trans (hHeld.2);refine⟨_,rfl,?_⟩;replace o:=RB o hb;replace HB:=BS hb;clear hb;refine hK.out _ _ ⟨HS0_,HS1_⟩ (fun hHeld=>?_);clear hK K;refine nA ?_;refine pA 9 86 (mL 12 1023) HT_ rfl rfl ?_;refine pA 10 4 (mL 12 2047) HT_ rfl rfl ?_;refine pA 11 5 (mL 12 4095) HT_ rfl rfl ?_;refine done_ (bq_ HT_.out KR) ?_
          try go_wp2
          go_ret2;exact⟨TE,TB⟩
      ·rw[if_neg ab] at H;have aS:=beq_eq_false_iff_ne.mpr ab;have aT:=bne_iff_ne.mpr ab;by_cases ae:a0=16
       ·rw[if_pos ae] at H;have aX:=beq_iff_eq.mpr ae;have aY:=bne_eq_false_iff_eq.mpr ae;clear ae;have H':=AM H;clear H;go_wp2;go_loopg [13] p (fun kq b4 w'=>∃(c:Int),b4=.int .i64 c∧Aside0 (am_.l1 kq a1 c=some (r1,r2))∧Aside0 (kq≤p)∧Aside0 (Below w.heap.size w w'))
        case atStart=>exact⟨(0),TF,H',⟨Nat.le_refl _⟩,⟨TB⟩⟩
        case round =>
         clear H';obtain⟨c,rfl,HA,HK2,HB⟩:=hrel
         cases gk with
         | zero=>exact absurd HA.out (by simp[am_.l1])
         | succ k2 =>
          have H:=HA.out;clear HA;simp only[am_.l1] at H;by_cases ag:c<(a1.size:Int)
          ·rw[if_pos ag] at H;have aZ:=decide_eq_true ag;clear ag;obtain⟨bw,H⟩:=ifn H;have b5:=decide_eq_true bw;clear bw;by_cases ah:(bt a1 c)<32
           ·rw[if_pos ah] at H;have a2:=decide_eq_true ah;clear ah;simp only[Option.some.injEq,Prod.mk.injEq] at H;obtain⟨rfl,rfl⟩:=H;have U:0≤(c:Int):=TD;have V:c<(a1.size:Int):=TD;have aN:=cb_ a1 c;replace U:=eq_true U;replace V:=eq_true V;go_wp2;go_ret2;exact⟨TE,TB⟩
           ·rw[if_neg ah] at H;have a2:=decide_eq_false ah;clear ah;by_cases ai:(bt a1 c) > 126
            ·rw[if_pos ai] at H;have a3:=decide_eq_true ai;clear ai;simp only[Option.some.injEq,Prod.mk.injEq] at H;obtain⟨rfl,rfl⟩:=H;have U:0≤(c:Int):=TD;have V:c<(a1.size:Int):=TD;have aN:=cb_ a1 c;replace U:=eq_true U;replace V:=eq_true V;have aC:0≤(c:Int):=TD;have aD:c<(a1.size:Int):=TD;have bx:=cb_ a1 c;replace aC:=eq_true aC;replace aD:=eq_true aD;go_wp2;go_ret2;exact⟨TE,TB⟩
            ·rw[if_neg ai] at H;have a3:=decide_eq_false ai;clear ai;have H':=AM H;clear H;have U:0≤(c:Int):=TD;have V:c<(a1.size:Int):=TD;have aN:=cb_ a1 c;replace U:=eq_true U;replace V:=eq_true V;have aC:0≤(c:Int):=TD;have aD:c<(a1.size:Int):=TD;have bx:=cb_ a1 c;replace aC:=eq_true aC;replace aD:=eq_true aD;go_wp2;go_roundg k2
             case measure=>have:=HJ15.out;have:=HK2.out;omega
             case rel=>exact⟨(wrap64 (c+1)),TF,H',⟨by have:=HJ15.out;have:=HK2.out;omega⟩,⟨TB⟩⟩
          ·rw[if_neg ag] at H;have aZ:=decide_eq_false ag;clear ag;obtain⟨aE,F⟩:∃y_:List Int,y_=(([((a1.size:Int)) % 256]:List Int)):=⟨_,rfl⟩
           replace H:(if (strOfNums aE).size+a1.size≤9223372036854775807 then(some ((strOfNums aE)++a1,decide ((a1.size:Int)≤30))) else(none))=some (r1,r2):=by first|(rw[F];with_reducible exact H)|(have H2_:=(Option.bind_some _ _).symm.trans H;rw[F];with_reducible exact H2_)|(have H2_:=(Option.bind_some _ _).symm.trans H;with_reducible exact H2_)|with_reducible exact H|(rw[F];exact H)|exact H
           have Ny196:=AM F;clear F;obtain⟨a4,H⟩:=ifn H;have b6:=eq_true a4;have b7:=decide_eq_true a4
           try have b8:(9223372036854775807<(strOfNums aE).size+a1.size)=False:=eq_false (Nat.not_lt.2 a4)
           simp only[Option.some.injEq,Prod.mk.injEq] at H;obtain⟨rfl,rfl⟩:=H;go_wp2_with (first|((with_reducible refine ah_ (N:=108) rfl ?_);refine Kd.R_lit (Kd.int .u8) _ 5 ?hg (N:=108) ?hd (xs:=([((a1.size:Int)) % 256]:List Int)) (inner:=[.int .u8 (((a1.size:Int)) % 256)]) (ok:=fun _=>True) (okp:=fun _=>True) ?hr ?hp (fun _ hk=>hk) trivial (Below.refl _ _) (Nat.le_refl _) (by simp) ?_;(case hd=>rfl);(case hg=>rfl);(case hr=>first|(go_simp;done)|(go_simp;rfl));(case hp=>exact(Reps.one (show Kd.M (Kd.int .u8) _ _ _ (((a1.size:Int)) % 256) [.int .u8 (((a1.size:Int)) % 256)] from rfl) (Reps.none _ _)));intro ck w64 W hb hg_ hnew_;clear hg_ hnew_;(first|rw[←Ny196.out] at W|(simp only[Int.reduceToNat] at W;rw[←Ny196.out] at W));have a5:=RL W;replace HB:=BS hb;clear hb W;have hcv66:=cS_ (P:=Tryz.prog) Tryz.underlying77 Tryz.underlying5 Tryz.underlying9 (Kd.c2_ a5.out)));go_ret2;exact⟨TE,TB⟩
       ·rw[if_neg ae] at H;have aX:=beq_eq_false_iff_ne.mpr ae;have aY:=bne_iff_ne.mpr ae;simp only[Option.some.injEq,Prod.mk.injEq] at H;obtain⟨rfl,rfl⟩:=H;go_wp2;go_ret2;exact⟨TE,TB⟩
end
section
def c1_.f (k:Nat) (a0:ByteArray):Option (Bool):=(bi_.f k a0).bind fun bt199=>(some bt199.2)
theorem c1_.calls (k:Nat) (a0:ByteArray) (r:Bool) (w:World) (h:c1_.f k a0=some r) :
  Calls Tryz.prog 70 #[.string a0] w fun e w'=>e=.returned (.bool r)∧Below w.heap.size w w':=by
 have HB:=AM (Below.refl w.heap.size w);have H:((bi_.f k a0).bind fun bt199=>(some bt199.2))=some r:=h;clear h;obtain⟨⟨c,g⟩,A2,H⟩:=bnd H
 try dsimp only at H
 obtain rfl:=Option.some.inj H;go_enter Tryz.func70,Tryz.ntmps70;go_wp2_with (first|(refine gL 7 rfl Tryz.func65 #[.string a0] rfl TA ?_;(with_reducible refine(bi_.calls k a0 c g _ A2.out).mono ?_);rintro e w3 ⟨l,rfl,i,hb⟩;refine⟨_,rfl,?_⟩;have j:=RL i;replace HB:=BS hb;clear hb;(try clear i)));go_ret;exact⟨TE,TB⟩
end
section
def ch_.f (k:Nat) (a0_0:ByteArray) (a0_1:Int) (a0_2:Int) (a0_3:ByteArray):Option (Bool):=(am_.f k a0_1 a0_3).bind fun bt204=>(if bt204.2=true then((c1_.f k a0_0).bind fun t206=>(if t206=true then((bH_.f a0_2 0 100000).bind fun t207=>(some t207)) else(some false))) else(some false))
theorem ch_.calls (k:Nat) (j:ByteArray) (g:Int) (l:Int) (i:ByteArray) (r:Bool) (w:World) (h:ch_.f k j g l i=some r) :
  Calls Tryz.prog 52 #[.agg #[.string j,.int .i64 g,.int .i64 l,.string i]] w fun e w'=>e=.returned (.bool r)∧Below w.heap.size w w':=by
 have hu47:=Tryz.underlying47;have HB:=AM (Below.refl w.heap.size w);have H:=h;clear h;unfold ch_.f at H;obtain⟨⟨m,p⟩,A2,H⟩:=bnd H
 try dsimp only at H
 by_cases c3:p=true
 ·subst c3;replace H:=ift H;obtain⟨q,A4,H⟩:=bnd H;by_cases c5:q=true
  ·subst c5;replace H:=ift H;obtain⟨s,A6,H⟩:=bnd H;obtain rfl:=Option.some.inj H;go_enter Tryz.func52,Tryz.ntmps52;go_wp2_with (first|(refine gD 1 rfl ?_;refine bE 1 #[.string j,.int .i64 g,.int .i64 l,.string i] 47 ?_;intro n hg w7 hbox hb;have c:=AM (hbox);have o:=bG hg;replace HB:=BS hb;clear hb hbox hg;have z:=cz4 c)|(refine gL 10 rfl Tryz.func69 #[.int .i64 g,.string i] rfl TA ?_;(with_reducible refine(am_.calls k g i m true _ A2.out).mono ?_);rintro e w9 ⟨rfl,hb⟩;refine⟨_,rfl,?_⟩;replace c:=KB c hb;replace HB:=BS hb;clear hb;have t:=cz4 c)|(go_at_call 70;(with_reducible refine(c1_.calls k j true _ A4.out).mono ?_);rintro e A ⟨rfl,hb⟩;replace c:=KB c hb;replace HB:=BS hb;clear hb;have u:=cz4 c)|(go_at_call 30;(with_reducible refine(bH_.calls l 0 100000 s _ A6.out).mono ?_);rintro e w' ⟨rfl,⟨nd,rfl⟩⟩));go_ret;exact⟨TE,TB⟩
  ·replace c5:=Bool.eq_false_iff.mpr c5;subst c5;replace H:=iff' H;obtain rfl:=Option.some.inj H;go_enter Tryz.func52,Tryz.ntmps52;go_wp2_with (first|(refine gD 1 rfl ?_;refine bE 1 #[.string j,.int .i64 g,.int .i64 l,.string i] 47 ?_;intro n hg B hbox hb;have c:=AM (hbox);have o:=bG hg;replace HB:=BS hb;clear hb hbox hg;have v:=cz4 c)|(refine gL 10 rfl Tryz.func69 #[.int .i64 g,.string i] rfl TA ?_;(with_reducible refine(am_.calls k g i m true _ A2.out).mono ?_);rintro e C ⟨rfl,hb⟩;refine⟨_,rfl,?_⟩;replace c:=KB c hb;replace HB:=BS hb;clear hb;have x:=cz4 c)|(go_at_call 70;(with_reducible refine(c1_.calls k j false _ A4.out).mono ?_);rintro e D ⟨rfl,hb⟩;replace c:=KB c hb;replace HB:=BS hb;clear hb));go_ret;exact⟨TE,TB⟩
 ·replace c3:=Bool.eq_false_iff.mpr c3;subst c3;replace H:=iff' H;obtain rfl:=Option.some.inj H;go_enter Tryz.func52,Tryz.ntmps52;go_wp2_with (first|(refine gD 1 rfl ?_;refine bE 1 #[.string j,.int .i64 g,.int .i64 l,.string i] 47 ?_;intro n hg E hbox hb;have c:=AM (hbox);have o:=bG hg;replace HB:=BS hb;clear hb hbox hg;have y:=cz4 c)|(refine gL 10 rfl Tryz.func69 #[.int .i64 g,.string i] rfl TA ?_;(with_reducible refine(am_.calls k g i m false _ A2.out).mono ?_);rintro e F ⟨rfl,hb⟩;refine⟨_,rfl,?_⟩;replace c:=KB c hb;replace HB:=BS hb;clear hb));go_ret;exact⟨TE,TB⟩
end
section
mutual
def aY_.l0:Nat→List ByteArray→List ByteArray→Int→Option (Int)
 | 0,_,_,_=>none
 | k+1,x5,x7,x9=>if x9≤(x5.length:Int) then(aY_.j1 k x5 x7 x9 (decide (x9≤(x7.length:Int)))) else(aY_.j1 k x5 x7 x9 false)
def aY_.j1:Nat→List ByteArray→List ByteArray→Int→Bool→Option (Int)
 | 0,_,_,_,_=>none
 | k+1,x5,x7,x9,c=>if c=true then(if 0≤(wrap64 ((x5.length:Int) - x9)) then(if (wrap64 ((x5.length:Int) - x9))<(x5.length:Int) then(if 0≤(wrap64 ((x7.length:Int) - x9)) then(if (wrap64 ((x7.length:Int) - x9))<(x7.length:Int) then(if (Op.bytesLess ((rdOf ByteArray.empty x5 (wrap64 ((x5.length:Int) - x9))).toList) ((rdOf ByteArray.empty x7 (wrap64 ((x7.length:Int) - x9))).toList))=true then(some (-1)) else(if (rdOf ByteArray.empty x5 (wrap64 ((x5.length:Int) - x9))).toList=(rdOf ByteArray.empty x7 (wrap64 ((x7.length:Int) - x9))).toList then(aY_.l0 k x5 x7 (wrap64 (x9+1))) else(some 1))) else(none)) else(none)) else(none)) else(none)) else(if (x5.length:Int)<(x7.length:Int) then(some (-1)) else(if (x5.length:Int) > (x7.length:Int) then(some 1) else(some 0)))
end
def aY_.f (k:Nat) (a0:ByteArray) (a1:ByteArray):Option (Int):=(bi_.f k a0).bind fun bt208=>((bi_.f k a1).bind fun bt212=>(aY_.l0 k bt208.1 bt212.1 1))
theorem aY_.calls (k:Nat) (a0:ByteArray) (a1:ByteArray) (r:Int) (w:World) (h:aY_.f k a0 a1=some r) :
  Calls Tryz.prog 71 #[.string a0,.string a1] w fun e w'=>e=.returned (.int .i64 r)∧Below w.heap.size w w':=by
 have HB:=AM (Below.refl w.heap.size w);have H:=h;clear h;unfold aY_.f at H;obtain⟨⟨g,ac⟩,A3,H⟩:=bnd H
 try dsimp only at H
 obtain⟨⟨c,ad⟩,A4,H⟩:=bnd H
 try dsimp only at H
 have H':=AM H;clear H;go_enter Tryz.func71,Tryz.ntmps71;go_wp2_with (first|(refine gL 14 rfl Tryz.func65 #[.string a0] rfl TA ?_;(with_reducible refine(bi_.calls k a0 g ac _ A3.out).mono ?_);rintro e w5 ⟨E,rfl,G,hb⟩;refine⟨_,rfl,?_⟩;have t:=RL G;replace HB:=BS hb;clear hb;(try clear G))|(refine gL 19 rfl Tryz.func65 #[.string a1] rfl TA ?_;(with_reducible refine(bi_.calls k a1 c ad _ A4.out).mono ?_);rintro e w6 ⟨F,rfl,G,hb⟩;refine⟨_,rfl,?_⟩;have N:=RL (NW G t);replace t:=EL t G hb;replace HB:=BS hb;clear hb;(try clear G)));go_loopg [9] k (fun kq v9 w'=>∃(l:Int),v9=.int .i64 l∧Aside0 (aY_.l0 kq g c l=some r)∧Aside0 (kq≤k)∧Aside0 (Kd.R Kd.string 9 w' w.heap.size (fun k_=>some k_≠(F:Value).ownBlock) E g)∧Aside0 (Kd.R Kd.string 9 w' w.heap.size (fun k_=>some k_≠(E:Value).ownBlock) F c)∧Aside0 (Below w.heap.size w w'))
 case atStart=>exact⟨(1),TF,H',⟨Nat.le_refl _⟩,MO t,MO N,⟨TB⟩⟩
 case round =>
  clear H';obtain⟨l,rfl,HA,HK1,m,n,HB⟩:=hrel
  cases gk with
  | zero=>exact absurd HA.out (by simp[aY_.l0])
  | succ k1 =>
   have H:=HA.out;clear HA;simp only[aY_.l0] at H;have O:=AM H;clear H
   go_upto_region 4 with (fail)
   go_cut [31] (fun ai wc=>∃(kq:Nat) (u:Bool),ai=.bool u∧Aside0 (aY_.j1 kq g c l u=some r)∧Aside0 (kq≤k1)∧Aside0 (Kd.R Kd.string 9 wc w.heap.size (fun k_=>some k_≠(F:Value).ownBlock) E g)∧Aside0 (Kd.R Kd.string 9 wc w.heap.size (fun k_=>some k_≠(E:Value).ownBlock) F c)∧Aside0 (Below w.heap.size w wc))
   case first =>
    have H:=O.out;clear O;by_cases c8:l≤(g.length:Int)
    ·rw[if_pos c8] at H;have v:=decide_eq_true c8;clear c8;(first|rw[v]|(simp only[bA_,b6_];rw[v])|skip);have H':=AM H;clear H;obtain⟨aR,aS,eo9⟩:=Kd.ar_ m.out;subst eo9;obtain⟨an,ao,eo10⟩:=Kd.ar_ n.out;subst eo10;go_wp2;go_meet
     case rel=>exact⟨_,(decide (l≤(c.length:Int))),TF,H',⟨by have:=HK1.out;first|omega|exact Nat.le_refl _⟩,RW m,RW n,⟨TB⟩⟩
    ·rw[if_neg c8] at H;have v:=decide_eq_false c8;clear c8;(first|rw[v]|(simp only[bA_,b6_];rw[v])|skip);have H':=AM H;clear H;obtain⟨ap,aq,eo11⟩:=Kd.ar_ m.out;subst eo11;go_wp2;go_meet
     case rel=>exact⟨_,(false),TF,H',⟨by have:=HK1.out;first|omega|exact Nat.le_refl _⟩,RW m,RW n,⟨TB⟩⟩
   case rest =>
    clear O;obtain⟨kq,u,rfl,HA,HJ6,m,n,HB⟩:=hcut
    cases kq with
    | zero=>exact absurd HA.out (by simp[aY_.j1])
    | succ U =>
     have H:=HA.out;clear HA;simp only[aY_.j1] at H;by_cases M:u=true
     ·subst M;replace H:=ift H;obtain⟨i,hji13⟩:∃j_:Int,(wrap64 ((g.length:Int) - l))=j_:=⟨_,rfl⟩
      replace H:(if 0≤(i) then(if (i)<(g.length:Int) then(if 0≤(wrap64 ((c.length:Int) - l)) then(if (wrap64 ((c.length:Int) - l))<(c.length:Int) then(if (Op.bytesLess ((rdOf ByteArray.empty g (i)).toList) ((rdOf ByteArray.empty c (wrap64 ((c.length:Int) - l))).toList))=true then(some (-1)) else(if (rdOf ByteArray.empty g (i)).toList=(rdOf ByteArray.empty c (wrap64 ((c.length:Int) - l))).toList then(aY_.l0 U g c (wrap64 (l+1))) else(some 1))) else(none)) else(none)) else(none)) else(none))=some r:=by first|(rw[hji13] at H;exact H)|(simp only[hji13] at H ⊢;exact H)
      have hji13w:(IntKind.i64.wrap ((g.length:Int) - l))=i:=(bA_ _).trans hji13;obtain⟨ae,H⟩:=ifn H;have aj:=decide_eq_true ae;clear ae;obtain⟨af,H⟩:=ifn H;have ak:=decide_eq_true af;clear af;obtain⟨j,hji16⟩:∃j_:Int,(wrap64 ((c.length:Int) - l))=j_:=⟨_,rfl⟩
      replace H:(if 0≤(j) then(if (j)<(c.length:Int) then(if (Op.bytesLess ((rdOf ByteArray.empty g (i)).toList) ((rdOf ByteArray.empty c (j)).toList))=true then(some (-1)) else(if (rdOf ByteArray.empty g (i)).toList=(rdOf ByteArray.empty c (j)).toList then(aY_.l0 U g c (wrap64 (l+1))) else(some 1))) else(none)) else(none))=some r:=by first|(rw[hji16] at H;exact H)|(simp only[hji16] at H ⊢;exact H)
      have hji16w:(IntKind.i64.wrap ((c.length:Int) - l))=j:=(bA_ _).trans hji16;obtain⟨ag,H⟩:=ifn H;have al:=decide_eq_true ag;clear ag;obtain⟨ah,H⟩:=ifn H;have am:=decide_eq_true ah;clear ah;by_cases I:(Op.bytesLess ((rdOf ByteArray.empty g (i)).toList) ((rdOf ByteArray.empty c (j)).toList))=true
      ·rw[if_pos I] at H;have V:(Op.bytesLess ((rdOf ByteArray.empty g (i)).toList) ((rdOf ByteArray.empty c (j)).toList))=true:=I;clear I;obtain rfl:=Option.some.inj H;obtain⟨ar,au,eo20⟩:=Kd.ar_ m.out;subst eo20;have o:0≤((i):Int):=TD;have p:(i)<(g.length:Int):=TD;obtain⟨J,x,y⟩:=Kd.bs_ (Kd.ae_ m.out).2.2 (i) o p;cases x;replace o:=eq_true o;replace p:=eq_true p;obtain⟨av,aw,eo21⟩:=Kd.ar_ n.out;subst eo21;have q:0≤((j):Int):=TD;have s:(j)<(c.length:Int):=TD;obtain⟨K,z,A⟩:=Kd.bs_ (Kd.ae_ n.out).2.2 (j) q s;cases z;replace q:=eq_true q;replace s:=eq_true s;go_wp2;go_ret;exact⟨by first|rfl|(simp[aw_,av_]<;>rfl)|(simp only[←hji13,←hji16];first|rfl|(simp[aw_,av_]<;>rfl))|(simp[*,aw_,av_]<;>rfl),TB⟩
      ·rw[if_neg I] at H
       have V:(Op.bytesLess ((rdOf ByteArray.empty g (i)).toList) ((rdOf ByteArray.empty c (j)).toList))=false:=by simpa using I
       clear I;by_cases D:(rdOf ByteArray.empty g (i)).toList=(rdOf ByteArray.empty c (j)).toList
       ·rw[if_pos D] at H;have W:=beq_iff_eq.mpr D;have X:=bne_eq_false_iff_eq.mpr D;clear D;have H':=AM H;clear H;obtain⟨ax,ay,eo23⟩:=Kd.ar_ m.out;subst eo23;have o:0≤((i):Int):=TD;have p:(i)<(g.length:Int):=TD;obtain⟨J,x,y⟩:=Kd.bs_ (Kd.ae_ m.out).2.2 (i) o p;cases x;replace o:=eq_true o;replace p:=eq_true p;obtain⟨az,aA,eo24⟩:=Kd.ar_ n.out;subst eo24;have q:0≤((j):Int):=TD;have s:(j)<(c.length:Int):=TD;obtain⟨K,z,A⟩:=Kd.bs_ (Kd.ae_ n.out).2.2 (j) q s;cases z;replace q:=eq_true q;replace s:=eq_true s;go_wp2;go_roundg U
        case measure=>have:=HK1.out;have:=HJ6.out;omega
        case rel=>exact⟨(wrap64 (l+1)),TF,H',⟨by have:=HK1.out;have:=HJ6.out;omega⟩,RW m,RW n,⟨TB⟩⟩
       ·rw[if_neg D] at H;have W:=beq_eq_false_iff_ne.mpr D;have X:=bne_iff_ne.mpr D;obtain rfl:=Option.some.inj H;obtain⟨aB,aC,eo25⟩:=Kd.ar_ m.out;subst eo25;have o:0≤((i):Int):=TD;have p:(i)<(g.length:Int):=TD;obtain⟨J,x,y⟩:=Kd.bs_ (Kd.ae_ m.out).2.2 (i) o p;cases x;replace o:=eq_true o;replace p:=eq_true p;obtain⟨aD,aE,eo26⟩:=Kd.ar_ n.out;subst eo26;have q:0≤((j):Int):=TD;have s:(j)<(c.length:Int):=TD;obtain⟨K,z,A⟩:=Kd.bs_ (Kd.ae_ n.out).2.2 (j) q s;cases z;replace q:=eq_true q;replace s:=eq_true s;go_wp2;go_ret;exact⟨by first|rfl|(simp[aw_,av_]<;>rfl)|(simp only[←hji13,←hji16];first|rfl|(simp[aw_,av_]<;>rfl))|(simp[*,aw_,av_]<;>rfl),TB⟩
     ·replace M:=Bool.eq_false_iff.mpr M;subst M;replace H:=iff' H;by_cases B:(g.length:Int)<(c.length:Int)
      ·rw[if_pos B] at H;have Y:=decide_eq_true B;have Z:decide (g.length<c.length)=true:=decide_eq_true (Int.ofNat_lt.mp B);clear B;obtain rfl:=Option.some.inj H;obtain⟨aF,aG,eo28⟩:=Kd.ar_ m.out;subst eo28;obtain⟨aH,aI,eo29⟩:=Kd.ar_ n.out;subst eo29;go_wp2;go_ret;exact⟨TE,TB⟩
      ·rw[if_neg B] at H;have Y:=decide_eq_false B;have Z:decide (g.length<c.length)=false:=decide_eq_false (fun h=>B (Int.ofNat_lt.mpr h));clear B;by_cases C:(g.length:Int) > (c.length:Int)
       ·rw[if_pos C] at H;have aa:=decide_eq_true C;have ab:decide (c.length<g.length)=true:=decide_eq_true (Int.ofNat_lt.mp C);clear C;obtain rfl:=Option.some.inj H;obtain⟨aJ,aK,eo31⟩:=Kd.ar_ m.out;subst eo31;obtain⟨aL,aM,eo32⟩:=Kd.ar_ n.out;subst eo32;go_wp2;go_ret;exact⟨TE,TB⟩
       ·rw[if_neg C] at H;have aa:=decide_eq_false C;have ab:decide (c.length<g.length)=false:=decide_eq_false (fun h=>C (Int.ofNat_lt.mpr h));clear C;obtain rfl:=Option.some.inj H;obtain⟨aN,aO,eo33⟩:=Kd.ar_ m.out;subst eo33;obtain⟨aP,aQ,eo34⟩:=Kd.ar_ n.out;subst eo34;go_wp2;go_ret;exact⟨TE,TB⟩
end
section
def cH_.f (a0:Bool):Option (Int):=if a0=true then(some (-1)) else(some 1)
theorem cH_.calls (a0:Bool) (r:Int) (w:World) (h:cH_.f a0=some r) :
  Calls Tryz.prog 72 #[.bool a0] w fun e w'=>e=.returned (.int .i64 r)∧Drawn0 w w':=by
 have H:(if a0=true then(some (-1)) else(some 1))=some r:=h;clear h;by_cases c2:a0=true
 ·subst c2;replace H:=ift H;obtain rfl:=Option.some.inj H;go_enter Tryz.func72,Tryz.ntmps72;go_wp2;go_ret;exact⟨TF,TN⟩
 ·replace c2:=Bool.eq_false_iff.mpr c2;subst c2;replace H:=iff' H;obtain rfl:=Option.some.inj H;go_enter Tryz.func72,Tryz.ntmps72;go_wp2;go_ret;exact⟨TF,TN⟩
end
section
def b5_.f (k:Nat) (l:ByteArray) (c:Int) (h:Int) (m:ByteArray) (n:ByteArray) (g:Int) (i:Int) (o:ByteArray):Option (Int):=(aY_.f k l n).bind fun j=>(if j=0 then((am_.f k c m).bind fun bt221=>((am_.f k g o).bind fun bt223=>(if c=g then(if bt221.1.toList=bt223.1.toList then(if h=i then(some 0) else((cH_.f (decide (h<i))).bind fun p=>(some p))) else((cH_.f (Op.bytesLess bt221.1.toList bt223.1.toList)).bind fun q=>(some q))) else((cH_.f (decide (c<g))).bind fun s=>(some s))))) else(some j))
theorem b5_.calls (k:Nat) (m:ByteArray) (j:Int) (s:Int) (o:ByteArray) (n:ByteArray) (l:Int) (t:Int) (p:ByteArray) (r:Int) (w:World) (h:b5_.f k m j s o n l t p=some r) :
  Calls Tryz.prog 53 #[.agg #[.string m,.int .i64 j,.int .i64 s,.string o],.agg #[.string n,.int .i64 l,.int .i64 t,.string p]] w fun e w'=>e=.returned (.int .i64 r)∧Below w.heap.size w w':=by
 have hu47:=Tryz.underlying47;have HB:=AM (Below.refl w.heap.size w);have H:=h;clear h;unfold b5_.f at H;obtain⟨x,A3,H⟩:=bnd H;by_cases c4:x=0
 ·rw[if_pos c4] at H;have E:=beq_iff_eq.mpr c4;have F:=bne_eq_false_iff_eq.mpr c4;clear c4;obtain⟨⟨u,C⟩,A5,H⟩:=bnd H
  try dsimp only at H
  obtain⟨⟨v,D⟩,A6,H⟩:=bnd H
  try dsimp only at H
  by_cases c7:j=l
  ·rw[if_pos c7] at H;have G:=beq_iff_eq.mpr c7;have I:=bne_eq_false_iff_eq.mpr c7;clear c7;by_cases c8:u.toList=v.toList
   ·rw[if_pos c8] at H;have J:=beq_iff_eq.mpr c8;have K:=bne_eq_false_iff_eq.mpr c8;clear c8;by_cases c9:s=t
    ·rw[if_pos c9] at H;have M:=beq_iff_eq.mpr c9;have N:=bne_eq_false_iff_eq.mpr c9;clear c9;obtain rfl:=Option.some.inj H;go_enter Tryz.func53,Tryz.ntmps53;go_wp2_with (first|(refine gD 2 rfl ?_;refine bE 2 #[.string m,.int .i64 j,.int .i64 s,.string o] 47 ?_;intro y hg aK hbox hb;have c:=AM (hbox);have z:=bG hg;replace HB:=BS hb;clear hb hbox hg)|(refine gD 3 rfl ?_;refine bE 3 #[.string n,.int .i64 l,.int .i64 t,.string p] 47 ?_;intro A hg aL hbox hb;have g:=AM (hbox);have B:=bG hg;replace HB:=BS hb;have i:=bN c hg;have q:=bM c hg;replace c:=KB c hb;clear hb hbox hg;obtain⟨V,W⟩:=nn i;have X:=cz4 c;have Y:=cz4 g)|(refine gL 14 rfl Tryz.func71 #[.string m,.string n] rfl TA ?_;(with_reducible refine(aY_.calls k m n x _ A3.out).mono ?_);rintro e aM ⟨rfl,hb⟩;refine⟨_,rfl,?_⟩;replace c:=KB c hb;replace g:=KB g hb;replace HB:=BS hb;clear hb;have Z:=cz4 c)|(refine gL 23 rfl Tryz.func69 #[.int .i64 j,.string o] rfl TA ?_;(with_reducible refine(am_.calls k j o u C _ A5.out).mono ?_);rintro e aN ⟨rfl,hb⟩;refine⟨_,rfl,?_⟩;replace c:=KB c hb;replace g:=KB g hb;replace HB:=BS hb;clear hb;have aa:=cz4 g)|(refine gL 31 rfl Tryz.func69 #[.int .i64 l,.string p] rfl TA ?_;(with_reducible refine(am_.calls k l p v D _ A6.out).mono ?_);rintro e aO ⟨rfl,hb⟩;refine⟨_,rfl,?_⟩;replace c:=KB c hb;replace g:=KB g hb;replace HB:=BS hb;clear hb;have ab:=cz4 c;have ac:=cz4 g));go_ret;exact⟨TE,TB⟩
    ·rw[if_neg c9] at H;have M:=beq_eq_false_iff_ne.mpr c9;have N:=bne_iff_ne.mpr c9;obtain⟨O,ad,H⟩:=bnd H;obtain rfl:=Option.some.inj H;go_enter Tryz.func53,Tryz.ntmps53;go_wp2_with (first|(refine gD 2 rfl ?_;refine bE 2 #[.string m,.int .i64 j,.int .i64 s,.string o] 47 ?_;intro y hg aP hbox hb;have c:=AM (hbox);have z:=bG hg;replace HB:=BS hb;clear hb hbox hg)|(refine gD 3 rfl ?_;refine bE 3 #[.string n,.int .i64 l,.int .i64 t,.string p] 47 ?_;intro A hg aQ hbox hb;have g:=AM (hbox);have B:=bG hg;replace HB:=BS hb;have i:=bN c hg;have q:=bM c hg;replace c:=KB c hb;clear hb hbox hg;obtain⟨ae,af⟩:=nn i;have ag:=cz4 c;have ah:=cz4 g)|(refine gL 14 rfl Tryz.func71 #[.string m,.string n] rfl TA ?_;(with_reducible refine(aY_.calls k m n x _ A3.out).mono ?_);rintro e aR ⟨rfl,hb⟩;refine⟨_,rfl,?_⟩;replace c:=KB c hb;replace g:=KB g hb;replace HB:=BS hb;clear hb;have ai:=cz4 c)|(refine gL 23 rfl Tryz.func69 #[.int .i64 j,.string o] rfl TA ?_;(with_reducible refine(am_.calls k j o u C _ A5.out).mono ?_);rintro e aS ⟨rfl,hb⟩;refine⟨_,rfl,?_⟩;replace c:=KB c hb;replace g:=KB g hb;replace HB:=BS hb;clear hb;have aj:=cz4 g)|(refine gL 31 rfl Tryz.func69 #[.int .i64 l,.string p] rfl TA ?_;(with_reducible refine(am_.calls k l p v D _ A6.out).mono ?_);rintro e aT ⟨rfl,hb⟩;refine⟨_,rfl,?_⟩;replace c:=KB c hb;replace g:=KB g hb;replace HB:=BS hb;clear hb;have ak:=cz4 c;have al:=cz4 g)|(refine gL 65 rfl Tryz.func72 #[.bool (decide (s<t))] rfl TA ?_;(with_reducible refine(cH_.calls (decide (s<t)) O _ ad.out).mono ?_);rintro e w' ⟨rfl,⟨nd,rfl⟩⟩;refine⟨_,rfl,?_⟩));go_ret;exact⟨TE,TB⟩
   ·rw[if_neg c8] at H;have J:=beq_eq_false_iff_ne.mpr c8;have K:=bne_iff_ne.mpr c8;obtain⟨R,am,H⟩:=bnd H;obtain rfl:=Option.some.inj H;go_enter Tryz.func53,Tryz.ntmps53;go_wp2_with (first|(refine gD 2 rfl ?_;refine bE 2 #[.string m,.int .i64 j,.int .i64 s,.string o] 47 ?_;intro y hg aU hbox hb;have c:=AM (hbox);have z:=bG hg;replace HB:=BS hb;clear hb hbox hg)|(refine gD 3 rfl ?_;refine bE 3 #[.string n,.int .i64 l,.int .i64 t,.string p] 47 ?_;intro A hg aV hbox hb;have g:=AM (hbox);have B:=bG hg;replace HB:=BS hb;have i:=bN c hg;have q:=bM c hg;replace c:=KB c hb;clear hb hbox hg;obtain⟨an,ao⟩:=nn i;have ap:=cz4 c;have aq:=cz4 g)|(refine gL 14 rfl Tryz.func71 #[.string m,.string n] rfl TA ?_;(with_reducible refine(aY_.calls k m n x _ A3.out).mono ?_);rintro e aW ⟨rfl,hb⟩;refine⟨_,rfl,?_⟩;replace c:=KB c hb;replace g:=KB g hb;replace HB:=BS hb;clear hb;have ar:=cz4 c)|(refine gL 23 rfl Tryz.func69 #[.int .i64 j,.string o] rfl TA ?_;(with_reducible refine(am_.calls k j o u C _ A5.out).mono ?_);rintro e aX ⟨rfl,hb⟩;refine⟨_,rfl,?_⟩;replace c:=KB c hb;replace g:=KB g hb;replace HB:=BS hb;clear hb;have au:=cz4 g)|(refine gL 31 rfl Tryz.func69 #[.int .i64 l,.string p] rfl TA ?_;(with_reducible refine(am_.calls k l p v D _ A6.out).mono ?_);rintro e aY ⟨rfl,hb⟩;refine⟨_,rfl,?_⟩;replace c:=KB c hb;replace g:=KB g hb;replace HB:=BS hb;clear hb;have av:=cz4 c;have aw:=cz4 g)|(refine gL 53 rfl Tryz.func72 #[.bool (Op.bytesLess u.toList v.toList)] rfl TA ?_;(with_reducible refine(cH_.calls (Op.bytesLess u.toList v.toList) R _ am.out).mono ?_);rintro e w' ⟨rfl,⟨nd,rfl⟩⟩;refine⟨_,rfl,?_⟩));go_ret;exact⟨TE,TB⟩
  ·rw[if_neg c7] at H;have G:=beq_eq_false_iff_ne.mpr c7;have I:=bne_iff_ne.mpr c7;obtain⟨U,ax,H⟩:=bnd H;obtain rfl:=Option.some.inj H;go_enter Tryz.func53,Tryz.ntmps53;go_wp2_with (first|(refine gD 2 rfl ?_;refine bE 2 #[.string m,.int .i64 j,.int .i64 s,.string o] 47 ?_;intro y hg aZ hbox hb;have c:=AM (hbox);have z:=bG hg;replace HB:=BS hb;clear hb hbox hg)|(refine gD 3 rfl ?_;refine bE 3 #[.string n,.int .i64 l,.int .i64 t,.string p] 47 ?_;intro A hg a0 hbox hb;have g:=AM (hbox);have B:=bG hg;replace HB:=BS hb;have i:=bN c hg;have q:=bM c hg;replace c:=KB c hb;clear hb hbox hg;obtain⟨ay,az⟩:=nn i;have aA:=cz4 c;have aB:=cz4 g)|(refine gL 14 rfl Tryz.func71 #[.string m,.string n] rfl TA ?_;(with_reducible refine(aY_.calls k m n x _ A3.out).mono ?_);rintro e a1 ⟨rfl,hb⟩;refine⟨_,rfl,?_⟩;replace c:=KB c hb;replace g:=KB g hb;replace HB:=BS hb;clear hb;have aC:=cz4 c)|(refine gL 23 rfl Tryz.func69 #[.int .i64 j,.string o] rfl TA ?_;(with_reducible refine(am_.calls k j o u C _ A5.out).mono ?_);rintro e a2 ⟨rfl,hb⟩;refine⟨_,rfl,?_⟩;replace c:=KB c hb;replace g:=KB g hb;replace HB:=BS hb;clear hb;have aD:=cz4 g)|(refine gL 31 rfl Tryz.func69 #[.int .i64 l,.string p] rfl TA ?_;(with_reducible refine(am_.calls k l p v D _ A6.out).mono ?_);rintro e a3 ⟨rfl,hb⟩;refine⟨_,rfl,?_⟩;replace c:=KB c hb;replace g:=KB g hb;replace HB:=BS hb;clear hb;have aE:=cz4 c;have aF:=cz4 g)|(refine gL 45 rfl Tryz.func72 #[.bool (decide (j<l))] rfl TA ?_;(with_reducible refine(cH_.calls (decide (j<l)) U _ ax.out).mono ?_);rintro e w' ⟨rfl,⟨nd,rfl⟩⟩;refine⟨_,rfl,?_⟩));go_ret;exact⟨TE,TB⟩
 ·rw[if_neg c4] at H;have E:=beq_eq_false_iff_ne.mpr c4;have F:=bne_iff_ne.mpr c4;obtain rfl:=Option.some.inj H;go_enter Tryz.func53,Tryz.ntmps53;go_wp2_with (first|(refine gD 2 rfl ?_;refine bE 2 #[.string m,.int .i64 j,.int .i64 s,.string o] 47 ?_;intro y hg a4 hbox hb;have c:=AM (hbox);have z:=bG hg;replace HB:=BS hb;clear hb hbox hg)|(refine gD 3 rfl ?_;refine bE 3 #[.string n,.int .i64 l,.int .i64 t,.string p] 47 ?_;intro A hg a5 hbox hb;have g:=AM (hbox);have B:=bG hg;replace HB:=BS hb;have i:=bN c hg;have q:=bM c hg;replace c:=KB c hb;clear hb hbox hg;obtain⟨aG,aH⟩:=nn i;have aI:=cz4 c;have aJ:=cz4 g)|(refine gL 14 rfl Tryz.func71 #[.string m,.string n] rfl TA ?_;(with_reducible refine(aY_.calls k m n x _ A3.out).mono ?_);rintro e a6 ⟨rfl,hb⟩;refine⟨_,rfl,?_⟩;replace c:=KB c hb;replace g:=KB g hb;replace HB:=BS hb;clear hb));go_ret;exact⟨TE,TB⟩
end
section
def a3_.l0:Nat→List (aa_)→List (aa_)→Int→Int→Option (Bool)
 | 0,_,_,_,_=>none
 | k+1,x0,x5,x6,x7=>if x7<x6 then(if 0≤x7 then(if x7<(x5.length:Int) then((ch_.f k ((a_ x5 x7).f0) ((a_ x5 x7).f1) ((a_ x5 x7).f2) ((a_ x5 x7).f3)).bind fun c=>(if c=true then(if x7 > 0 then(if 0≤(wrap64 (x7 - 1)) then(if (wrap64 (x7 - 1))<(x0.length:Int) then((b5_.f k ((a_ x0 (wrap64 (x7 - 1))).f0) ((a_ x0 (wrap64 (x7 - 1))).f1) ((a_ x0 (wrap64 (x7 - 1))).f2) ((a_ x0 (wrap64 (x7 - 1))).f3) ((a_ x5 x7).f0) ((a_ x5 x7).f1) ((a_ x5 x7).f2) ((a_ x5 x7).f3)).bind fun g=>(if g≥0 then(some false) else(a3_.l0 k x0 x5 x6 (wrap64 (x7+1))))) else(none)) else(none)) else(a3_.l0 k x0 x5 x6 (wrap64 (x7+1)))) else(some false))) else(none)) else(none)) else(some (decide ((x0.length:Int)≤40)))
def a3_.f (k:Nat) (l0:List (aa_)):Option (Bool):=a3_.l0 k l0 l0 (l0.length:Int) 0
def a3_.T4:Bool × List (List Nat × List Nat):=(true,[([],[]),([0],[0]),([1],[1]),([2,1],[2]),([3],[3]),([4,3],[3,4]),([5,3,3],[3,5]),([6],[6]),([6],[6]),([8,6],[6,8]),([7,9,6],[6,7,9]),([10,6],[6,10]),([6],[6]),([11,12,6,6],[6,11,12]),([13,6],[6,13]),([6,14,3],[3,6,14]),([3,15],[3,15])])
def a3_.B4:List Nat:=[0,1,3,7,15,31,63,127,127,383,1023,2047,127,8191,16383,32767,65535]
theorem a3_.tab4:rtab .any (opsOf Tryz.f34 4)=a3_.T4:=by kernel_rfl
theorem a3_.bits4:waitsOk a3_.T4.2 a3_.B4=true:=by kernel_rfl
theorem a3_.calls (k:Nat) (A0:Option Addr) (c0:Nat) (l0:List (aa_)) (r:Bool) (w:World) (ab:Kd.C ad_ w A0 l0.length l0) (ac:l0.length≤c0) (h:a3_.f k l0=some r) :
  Calls Tryz.prog 34 #[.slice A0 l0.length c0] w fun e w'=>e=.returned (.bool r)∧Below w.heap.size w w':=by
 have hu47:=Tryz.underlying47;have R:=AM ab;have av:=AM ac;clear ab ac;have HB:=AM (Below.refl w.heap.size w);have H:(a3_.l0 k l0 l0 (l0.length:Int) 0)=some r:=h;clear h;have H':=AM H;clear H;go_enter Tryz.func34,Tryz.ntmps34;go_wp2;go_loopg [7] k (fun kq v7 w'=>∃(c:Int),v7=.int .i64 c∧Aside0 (a3_.l0 kq l0 l0 (l0.length:Int) c=some r)∧Aside0 (kq≤k)∧Aside0 (Below w.heap.size w w'))
 case atStart=>exact⟨(0),TF,H',⟨Nat.le_refl _⟩,⟨TB⟩⟩
 case round =>
  clear H';obtain⟨c,rfl,HA,HK1,HB⟩:=hrel
  cases gk with
  | zero=>exact absurd HA.out (by simp[a3_.l0])
  | succ k1 =>
   have H:=HA.out;clear HA;simp only[a3_.l0] at H;by_cases c2:c<(l0.length:Int)
   ·rw[if_pos c2] at H;have ad:=decide_eq_true c2;clear c2;obtain⟨c3,H⟩:=ifn H;have aq:=decide_eq_true c3;clear c3;obtain⟨c4,H⟩:=ifn H;have ar:=decide_eq_true c4;clear c4;obtain⟨ae,A5,H⟩:=bnd H;by_cases c6:ae=true
    ·subst c6;replace H:=ift H;by_cases c7:c > 0
     ·rw[if_pos c7] at H;have af:=decide_eq_true c7;clear c7;obtain⟨l,hji8⟩:∃j_:Int,(wrap64 (c - 1))=j_:=⟨_,rfl⟩
      replace H:(if 0≤(l) then(if (l)<(l0.length:Int) then((b5_.f k1 ((a_ l0 (l)).f0) ((a_ l0 (l)).f1) ((a_ l0 (l)).f2) ((a_ l0 (l)).f3) ((a_ l0 c).f0) ((a_ l0 c).f1) ((a_ l0 c).f2) ((a_ l0 c).f3)).bind fun J=>(if J≥0 then(some false) else(a3_.l0 k1 l0 l0 (l0.length:Int) (wrap64 (c+1))))) else(none)) else(none))=some r:=by first|(rw[hji8] at H;exact H)|(simp only[hji8] at H ⊢;exact H)
      (try rw[hji8] at A5);have hji8w:(IntKind.i64.wrap (c - 1))=l:=(bA_ _).trans hji8;obtain⟨c9,H⟩:=ifn H;have au:=decide_eq_true c9;clear c9;obtain⟨c10,H⟩:=ifn H;have ah:=decide_eq_true c10;clear c10;obtain⟨J,ag,H⟩:=bnd H;by_cases U:J≥0
      ·rw[if_pos U] at H;have W:=decide_eq_true U;clear U;obtain rfl:=Option.some.inj H;have t:0≤(c:Int):=TD;have u:c<(l0.length:Int):=TD;obtain⟨m,A,B,D,E,F⟩:=af_ (Kd.ac_ R.out HB.out) c t u;cases A;replace t:=eq_true t;replace u:=eq_true u
       try go_wp2_with (first|(refine gD 4 rfl ?_;refine bE 4 #[.string (⟨#[]⟩:ByteArray),.int .i64 0,.int .i64 0,.string (⟨#[]⟩:ByteArray)] 47 ?_;intro j hg X hbox hb;have g:=AM (hbox);have M:=bG hg;replace HB:=BS hb;clear hb hbox hg;have ai:=cz4 g))
       have n0_:Aside0 (((((X.setCell ⟨j,0,none⟩ (.string ((a_ l0 c).f0))).setCell ⟨j,1,none⟩ (.int .i64 ((a_ l0 c).f1))).setCell ⟨j,2,none⟩ (.int .i64 ((a_ l0 c).f2))).setCell ⟨j,3,none⟩ (.string ((a_ l0 c).f3))).heap[j]? = some (.cells #[.string ((a_ l0 c).f0),.int .i64 ((a_ l0 c).f1),.int .i64 ((a_ l0 c).f2),.string ((a_ l0 c).f3)] 47 (0,0))):=⟨TS⟩;have n1_:Aside0 (Below w.heap.size w ((((X.setCell ⟨j,0,none⟩ (.string ((a_ l0 c).f0))).setCell ⟨j,1,none⟩ (.int .i64 ((a_ l0 c).f1))).setCell ⟨j,2,none⟩ (.int .i64 ((a_ l0 c).f2))).setCell ⟨j,3,none⟩ (.string ((a_ l0 c).f3)))):=⟨TB⟩;(try clear g);(try clear HB);generalize ((((X.setCell ⟨j,0,none⟩ (.string ((a_ l0 c).f0))).setCell ⟨j,1,none⟩ (.int .i64 ((a_ l0 c).f1))).setCell ⟨j,2,none⟩ (.int .i64 ((a_ l0 c).f2))).setCell ⟨j,3,none⟩ (.string ((a_ l0 c).f3)))=aj at n0_ n1_ ⊢;have g:=n0_;have HB:=n1_;clear n0_ n1_;replace g:=AM (ag_ g.out);replace HB:=AM (ap_ HB.out);have G:0≤((l):Int):=TD;have I:(l)<(l0.length:Int):=TD;obtain⟨O,V,o,p,q,s⟩:=af_ R.out (l) G I;have v:=s;have x:=q;have y:=p;have z:=o;obtain rfl:m=O:=(by injection V);replace o:=hBc HB o;replace p:=hBc HB p;replace q:=hBc HB q;replace s:=hBc HB s;replace G:=eq_true G;replace I:=eq_true I;refine start_ (n:=17) (S:=fun w'=>w'.cell? ⟨j,0,none⟩=some (.string ((a_ l0 c).f0))∧w'.cell? ⟨j,1,none⟩=some (.int .i64 ((a_ l0 c).f1))∧w'.cell? ⟨j,2,none⟩=some (.int .i64 ((a_ l0 c).f2))∧w'.cell? ⟨j,3,none⟩=some (.string ((a_ l0 c).f3))∧w'.cell? (m.add (((l)).toNat * 4))=some (.string ((a_ l0 (l)).f0))∧w'.cell? ⟨(m.add (((l)).toNat * 4)).block,(m.add (((l)).toNat * 4)).off+1,none⟩=some (.int .i64 ((a_ l0 (l)).f1))∧w'.cell? ⟨(m.add (((l)).toNat * 4)).block,(m.add (((l)).toNat * 4)).off+2,none⟩=some (.int .i64 ((a_ l0 (l)).f2))∧w'.cell? ⟨(m.add (((l)).toNat * 4)).block,(m.add (((l)).toNat * 4)).off+3,none⟩=some (.string ((a_ l0 (l)).f3))) (ds:=[]) #[false,false,false,false,false,false,false,false,false,false,false,false,false,false,false,false,false] KR rfl rfl ⟨bc 0 g,bc 1 g,bc 2 g,bc 3 g,(hBc HB z),(hBc HB y),(hBc HB x),(hBc HB v)⟩ (fun hHeld=>?_);refine a7_ a3_.tab4 a3_.bits4 (fun HT_ HW_=>?_);generalize aj.drew=aw at g HB o p q s hHeld ⊢;refine tA 0 12 (mL 17 1) HT_ HW_ hHeld rfl rfl (by rintro w' ⟨s0,s1,s2,s3,s4,s5,s6,s7⟩;go_simp;with_reducible rfl) ?_;refine one_ (i:=1) (N:=some 13) (mL 17 3) rfl rfl (aE_ HT_.out KR) (by decide) (fun K hK=>?_);refine goes_ Tryz.func52 KR rfl #[.agg #[.string ((a_ l0 c).f0),.int .i64 ((a_ l0 c).f1),.int .i64 ((a_ l0 c).f2),.string ((a_ l0 c).f3)]] (by rfl) rfl rfl TA ?_
       with_reducible refine(ch_.calls k1 ((a_ l0 c).f0) ((a_ l0 c).f1) ((a_ l0 c).f2) ((a_ l0 c).f3) true _ A5.out).mono ?_
       rintro e ax ⟨rfl,hb⟩;refine⟨_,rfl,?_⟩;replace g:=KB g hb;replace HB:=BS hb;clear hb;refine hK.out _ _ ⟨bc 0 g,bc 1 g,bc 2 g,bc 3 g,(hBc HB z),(hBc HB y),(hBc HB x),(hBc HB v)⟩ (fun hHeld=>?_);clear hK K;refine nA ?_;refine pA 2 14 (mL 17 7) HT_ rfl rfl ?_;refine pA 3 15 (mL 17 15) HT_ rfl rfl ?_;refine pA 4 16 (mL 17 31) HT_ rfl rfl ?_;refine pA 5 17 (mL 17 63) HT_ rfl rfl ?_;refine pA 6 18 (mL 17 127) HT_ rfl rfl ?_;refine pA 7 19 (mL 17 255) HT_ rfl rfl ?_;refine pA 8 20 (mL 17 511) HT_ rfl rfl ?_;refine pA 9 21 (mL 17 1023) HT_ rfl rfl ?_;refine pA 10 22 (mL 17 2047) HT_ rfl rfl ?_;refine tA 11 23 (mL 17 4095) HT_ HW_ hHeld rfl rfl (by rintro w' ⟨s0,s1,s2,s3,s4,s5,s6,s7⟩;go_simp;with_reducible rfl) ?_;refine tA 12 24 (mL 17 8191) HT_ HW_ hHeld rfl rfl (by rintro w' ⟨s0,s1,s2,s3,s4,s5,s6,s7⟩;go_simp;with_reducible rfl) ?_;refine one_ (i:=13) (N:=some 25) (mL 17 16383) rfl rfl (aE_ HT_.out KR) (by decide) (fun K hK=>?_);refine goes_ Tryz.func53 KR rfl #[.agg #[.string ((a_ l0 (l)).f0),.int .i64 ((a_ l0 (l)).f1),.int .i64 ((a_ l0 (l)).f2),.string ((a_ l0 (l)).f3)],.agg #[.string ((a_ l0 c).f0),.int .i64 ((a_ l0 c).f1),.int .i64 ((a_ l0 c).f2),.string ((a_ l0 c).f3)]] (by rfl) rfl rfl (by(try simp only[List.map_toArray,List.map_cons,List.map_nil]);first|done|(simp only[hji8];rfl)|rfl|(simp only[List.length_drop,List.length_take];rfl)) ?_
       with_reducible refine(b5_.calls k1 ((a_ l0 (l)).f0) ((a_ l0 (l)).f1) ((a_ l0 (l)).f2) ((a_ l0 (l)).f3) ((a_ l0 c).f0) ((a_ l0 c).f1) ((a_ l0 c).f2) ((a_ l0 c).f3) J _ ag.out).mono ?_
       rintro e ay ⟨rfl,hb⟩;refine⟨_,rfl,?_⟩;replace g:=KB g hb;replace HB:=BS hb;clear hb;refine hK.out _ _ ⟨bc 0 g,bc 1 g,bc 2 g,bc 3 g,(hBc HB z),(hBc HB y),(hBc HB x),(hBc HB v)⟩ (fun hHeld=>?_);clear hK K;refine nA ?_;refine pA 14 26 (mL 17 32767) HT_ rfl rfl ?_;refine pA 15 27 (mL 17 65535) HT_ rfl rfl ?_;refine pA 16 28 (mL 17 131071) HT_ rfl rfl ?_;refine done_ (bq_ HT_.out KR) ?_
       try go_wp2
       go_ret;exact⟨by first|rfl|(simp[aw_,av_]<;>rfl)|(simp only[←hji8];first|rfl|(simp[aw_,av_]<;>rfl))|(simp[*,aw_,av_]<;>rfl),TB⟩
      ·rw[if_neg U] at H;have W:=decide_eq_false U;clear U;have H':=AM H;clear H;have t:0≤(c:Int):=TD;have u:c<(l0.length:Int):=TD;obtain⟨m,A,B,D,E,F⟩:=af_ (Kd.ac_ R.out HB.out) c t u;cases A;replace t:=eq_true t;replace u:=eq_true u
       try go_wp2_with (first|(refine gD 4 rfl ?_;refine bE 4 #[.string (⟨#[]⟩:ByteArray),.int .i64 0,.int .i64 0,.string (⟨#[]⟩:ByteArray)] 47 ?_;intro j hg Y hbox hb;have g:=AM (hbox);have M:=bG hg;replace HB:=BS hb;clear hb hbox hg;have ak:=cz4 g))
       have n0_:Aside0 (((((Y.setCell ⟨j,0,none⟩ (.string ((a_ l0 c).f0))).setCell ⟨j,1,none⟩ (.int .i64 ((a_ l0 c).f1))).setCell ⟨j,2,none⟩ (.int .i64 ((a_ l0 c).f2))).setCell ⟨j,3,none⟩ (.string ((a_ l0 c).f3))).heap[j]? = some (.cells #[.string ((a_ l0 c).f0),.int .i64 ((a_ l0 c).f1),.int .i64 ((a_ l0 c).f2),.string ((a_ l0 c).f3)] 47 (0,0))):=⟨TS⟩;have n1_:Aside0 (Below w.heap.size w ((((Y.setCell ⟨j,0,none⟩ (.string ((a_ l0 c).f0))).setCell ⟨j,1,none⟩ (.int .i64 ((a_ l0 c).f1))).setCell ⟨j,2,none⟩ (.int .i64 ((a_ l0 c).f2))).setCell ⟨j,3,none⟩ (.string ((a_ l0 c).f3)))):=⟨TB⟩;(try clear g);(try clear HB);generalize ((((Y.setCell ⟨j,0,none⟩ (.string ((a_ l0 c).f0))).setCell ⟨j,1,none⟩ (.int .i64 ((a_ l0 c).f1))).setCell ⟨j,2,none⟩ (.int .i64 ((a_ l0 c).f2))).setCell ⟨j,3,none⟩ (.string ((a_ l0 c).f3)))=al at n0_ n1_ ⊢;have g:=n0_;have HB:=n1_;clear n0_ n1_;replace g:=AM (ag_ g.out);replace HB:=AM (ap_ HB.out);have G:0≤((l):Int):=TD;have I:(l)<(l0.length:Int):=TD;obtain⟨O,V,o,p,q,s⟩:=af_ R.out (l) G I;have v:=s;have x:=q;have y:=p;have z:=o;obtain rfl:m=O:=(by injection V);replace o:=hBc HB o;replace p:=hBc HB p;replace q:=hBc HB q;replace s:=hBc HB s;replace G:=eq_true G;replace I:=eq_true I;refine start_ (n:=17) (S:=fun w'=>w'.cell? ⟨j,0,none⟩=some (.string ((a_ l0 c).f0))∧w'.cell? ⟨j,1,none⟩=some (.int .i64 ((a_ l0 c).f1))∧w'.cell? ⟨j,2,none⟩=some (.int .i64 ((a_ l0 c).f2))∧w'.cell? ⟨j,3,none⟩=some (.string ((a_ l0 c).f3))∧w'.cell? (m.add (((l)).toNat * 4))=some (.string ((a_ l0 (l)).f0))∧w'.cell? ⟨(m.add (((l)).toNat * 4)).block,(m.add (((l)).toNat * 4)).off+1,none⟩=some (.int .i64 ((a_ l0 (l)).f1))∧w'.cell? ⟨(m.add (((l)).toNat * 4)).block,(m.add (((l)).toNat * 4)).off+2,none⟩=some (.int .i64 ((a_ l0 (l)).f2))∧w'.cell? ⟨(m.add (((l)).toNat * 4)).block,(m.add (((l)).toNat * 4)).off+3,none⟩=some (.string ((a_ l0 (l)).f3))) (ds:=[]) #[false,false,false,false,false,false,false,false,false,false,false,false,false,false,false,false,false] KR rfl rfl ⟨bc 0 g,bc 1 g,bc 2 g,bc 3 g,(hBc HB z),(hBc HB y),(hBc HB x),(hBc HB v)⟩ (fun hHeld=>?_);refine a7_ a3_.tab4 a3_.bits4 (fun HT_ HW_=>?_);generalize al.drew=az at g HB o p q s hHeld ⊢;refine tA 0 12 (mL 17 1) HT_ HW_ hHeld rfl rfl (by rintro w' ⟨s0,s1,s2,s3,s4,s5,s6,s7⟩;go_simp;with_reducible rfl) ?_;refine one_ (i:=1) (N:=some 13) (mL 17 3) rfl rfl (aE_ HT_.out KR) (by decide) (fun K hK=>?_);refine goes_ Tryz.func52 KR rfl #[.agg #[.string ((a_ l0 c).f0),.int .i64 ((a_ l0 c).f1),.int .i64 ((a_ l0 c).f2),.string ((a_ l0 c).f3)]] (by rfl) rfl rfl TA ?_
       with_reducible refine(ch_.calls k1 ((a_ l0 c).f0) ((a_ l0 c).f1) ((a_ l0 c).f2) ((a_ l0 c).f3) true _ A5.out).mono ?_
       rintro e aA ⟨rfl,hb⟩;refine⟨_,rfl,?_⟩;replace g:=KB g hb;replace HB:=BS hb;clear hb;refine hK.out _ _ ⟨bc 0 g,bc 1 g,bc 2 g,bc 3 g,(hBc HB z),(hBc HB y),(hBc HB x),(hBc HB v)⟩ (fun hHeld=>?_);clear hK K;refine nA ?_;refine pA 2 14 (mL 17 7) HT_ rfl rfl ?_;refine pA 3 15 (mL 17 15) HT_ rfl rfl ?_;refine pA 4 16 (mL 17 31) HT_ rfl rfl ?_;refine pA 5 17 (mL 17 63) HT_ rfl rfl ?_;refine pA 6 18 (mL 17 127) HT_ rfl rfl ?_;refine pA 7 19 (mL 17 255) HT_ rfl rfl ?_;refine pA 8 20 (mL 17 511) HT_ rfl rfl ?_;refine pA 9 21 (mL 17 1023) HT_ rfl rfl ?_;refine pA 10 22 (mL 17 2047) HT_ rfl rfl ?_;refine tA 11 23 (mL 17 4095) HT_ HW_ hHeld rfl rfl (by rintro w' ⟨s0,s1,s2,s3,s4,s5,s6,s7⟩;go_simp;with_reducible rfl) ?_;refine tA 12 24 (mL 17 8191) HT_ HW_ hHeld rfl rfl (by rintro w' ⟨s0,s1,s2,s3,s4,s5,s6,s7⟩;go_simp;with_reducible rfl) ?_;refine one_ (i:=13) (N:=some 25) (mL 17 16383) rfl rfl (aE_ HT_.out KR) (by decide) (fun K hK=>?_);refine goes_ Tryz.func53 KR rfl #[.agg #[.string ((a_ l0 (l)).f0),.int .i64 ((a_ l0 (l)).f1),.int .i64 ((a_ l0 (l)).f2),.string ((a_ l0 (l)).f3)],.agg #[.string ((a_ l0 c).f0),.int .i64 ((a_ l0 c).f1),.int .i64 ((a_ l0 c).f2),.string ((a_ l0 c).f3)]] (by rfl) rfl rfl (by(try simp only[List.map_toArray,List.map_cons,List.map_nil]);first|done|(simp only[hji8];rfl)|rfl|(simp only[List.length_drop,List.length_take];rfl)) ?_
       with_reducible refine(b5_.calls k1 ((a_ l0 (l)).f0) ((a_ l0 (l)).f1) ((a_ l0 (l)).f2) ((a_ l0 (l)).f3) ((a_ l0 c).f0) ((a_ l0 c).f1) ((a_ l0 c).f2) ((a_ l0 c).f3) J _ ag.out).mono ?_
       rintro e aB ⟨rfl,hb⟩;refine⟨_,rfl,?_⟩;replace g:=KB g hb;replace HB:=BS hb;clear hb;refine hK.out _ _ ⟨bc 0 g,bc 1 g,bc 2 g,bc 3 g,(hBc HB z),(hBc HB y),(hBc HB x),(hBc HB v)⟩ (fun hHeld=>?_);clear hK K;refine nA ?_;refine pA 14 26 (mL 17 32767) HT_ rfl rfl ?_;refine pA 15 27 (mL 17 65535) HT_ rfl rfl ?_;refine pA 16 28 (mL 17 131071) HT_ rfl rfl ?_;refine done_ (bq_ HT_.out KR) ?_
       try go_wp2
       go_roundg k1
       case measure=>have:=HK1.out;omega
       case rel=>exact⟨(wrap64 (c+1)),TF,H',⟨TM⟩,⟨TB⟩⟩
     ·rw[if_neg c7] at H;have af:=decide_eq_false c7;clear c7;have H':=AM H;clear H;have t:0≤(c:Int):=TD;have u:c<(l0.length:Int):=TD;obtain⟨m,A,B,D,E,F⟩:=af_ (Kd.ac_ R.out HB.out) c t u;cases A;replace t:=eq_true t;replace u:=eq_true u
      try go_wp2_with (first|(refine gD 4 rfl ?_;refine bE 4 #[.string (⟨#[]⟩:ByteArray),.int .i64 0,.int .i64 0,.string (⟨#[]⟩:ByteArray)] 47 ?_;intro j hg Z hbox hb;have g:=AM (hbox);have M:=bG hg;replace HB:=BS hb;clear hb hbox hg;have am:=cz4 g))
      have n0_:Aside0 (((((Z.setCell ⟨j,0,none⟩ (.string ((a_ l0 c).f0))).setCell ⟨j,1,none⟩ (.int .i64 ((a_ l0 c).f1))).setCell ⟨j,2,none⟩ (.int .i64 ((a_ l0 c).f2))).setCell ⟨j,3,none⟩ (.string ((a_ l0 c).f3))).heap[j]? = some (.cells #[.string ((a_ l0 c).f0),.int .i64 ((a_ l0 c).f1),.int .i64 ((a_ l0 c).f2),.string ((a_ l0 c).f3)] 47 (0,0))):=⟨TS⟩;have n1_:Aside0 (Below w.heap.size w ((((Z.setCell ⟨j,0,none⟩ (.string ((a_ l0 c).f0))).setCell ⟨j,1,none⟩ (.int .i64 ((a_ l0 c).f1))).setCell ⟨j,2,none⟩ (.int .i64 ((a_ l0 c).f2))).setCell ⟨j,3,none⟩ (.string ((a_ l0 c).f3)))):=⟨TB⟩;(try clear g);(try clear HB);generalize ((((Z.setCell ⟨j,0,none⟩ (.string ((a_ l0 c).f0))).setCell ⟨j,1,none⟩ (.int .i64 ((a_ l0 c).f1))).setCell ⟨j,2,none⟩ (.int .i64 ((a_ l0 c).f2))).setCell ⟨j,3,none⟩ (.string ((a_ l0 c).f3)))=an at n0_ n1_ ⊢;have g:=n0_;have HB:=n1_;clear n0_ n1_;replace g:=AM (ag_ g.out);replace HB:=AM (ap_ HB.out);refine start_ (n:=17) (S:=fun w'=>w'.cell? ⟨j,0,none⟩=some (.string ((a_ l0 c).f0))∧w'.cell? ⟨j,1,none⟩=some (.int .i64 ((a_ l0 c).f1))∧w'.cell? ⟨j,2,none⟩=some (.int .i64 ((a_ l0 c).f2))∧w'.cell? ⟨j,3,none⟩=some (.string ((a_ l0 c).f3))) (ds:=[]) #[false,false,false,false,false,false,false,false,false,false,false,false,false,false,false,false,false] KR rfl rfl ⟨bc 0 g,bc 1 g,bc 2 g,bc 3 g⟩ (fun hHeld=>?_);refine a7_ a3_.tab4 a3_.bits4 (fun HT_ HW_=>?_);generalize an.drew=aC at g HB hHeld ⊢;refine tA 0 12 (mL 17 1) HT_ HW_ hHeld rfl rfl (by rintro w' ⟨s0,s1,s2,s3⟩;go_simp;with_reducible rfl) ?_;refine one_ (i:=1) (N:=some 13) (mL 17 3) rfl rfl (aE_ HT_.out KR) (by decide) (fun K hK=>?_);refine goes_ Tryz.func52 KR rfl #[.agg #[.string ((a_ l0 c).f0),.int .i64 ((a_ l0 c).f1),.int .i64 ((a_ l0 c).f2),.string ((a_ l0 c).f3)]] (by rfl) rfl rfl TA ?_
      with_reducible refine(ch_.calls k1 ((a_ l0 c).f0) ((a_ l0 c).f1) ((a_ l0 c).f2) ((a_ l0 c).f3) true _ A5.out).mono ?_
      rintro e aD ⟨rfl,hb⟩;refine⟨_,rfl,?_⟩;replace g:=KB g hb;replace HB:=BS hb;clear hb;refine hK.out _ _ ⟨bc 0 g,bc 1 g,bc 2 g,bc 3 g⟩ (fun hHeld=>?_);clear hK K;refine nA ?_;refine pA 2 14 (mL 17 7) HT_ rfl rfl ?_;refine pA 3 15 (mL 17 15) HT_ rfl rfl ?_;refine pA 4 16 (mL 17 31) HT_ rfl rfl ?_;refine pA 5 17 (mL 17 63) HT_ rfl rfl ?_;refine pA 6 18 (mL 17 127) HT_ rfl rfl ?_;refine pU 7 19 (mL 17 255) HT_ rfl rfl ?_;refine pU 8 20 (mL 17 511) HT_ rfl rfl ?_;refine pU 9 21 (mL 17 1023) HT_ rfl rfl ?_;refine pU 10 22 (mL 17 2047) HT_ rfl rfl ?_;refine pU 11 23 (mL 17 4095) HT_ rfl rfl ?_;refine pU 12 24 (mL 17 8191) HT_ rfl rfl ?_;refine pU 13 25 (mL 17 16383) HT_ rfl rfl ?_;refine pU 14 26 (mL 17 32767) HT_ rfl rfl ?_;refine pA 15 27 (mL 17 65535) HT_ rfl rfl ?_;refine pA 16 28 (mL 17 131071) HT_ rfl rfl ?_;refine done_ (bq_ HT_.out KR) ?_
      try go_wp2
      go_roundg k1
      case measure=>have:=HK1.out;omega
      case rel=>exact⟨(wrap64 (c+1)),TF,H',⟨TM⟩,⟨TB⟩⟩
    ·replace c6:=Bool.eq_false_iff.mpr c6;subst c6;replace H:=iff' H;obtain rfl:=Option.some.inj H;have t:0≤(c:Int):=TD;have u:c<(l0.length:Int):=TD;obtain⟨m,A,B,D,E,F⟩:=af_ (Kd.ac_ R.out HB.out) c t u;cases A;replace t:=eq_true t;replace u:=eq_true u
     try go_wp2_with (first|(refine gD 4 rfl ?_;refine bE 4 #[.string (⟨#[]⟩:ByteArray),.int .i64 0,.int .i64 0,.string (⟨#[]⟩:ByteArray)] 47 ?_;intro j hg aa hbox hb;have g:=AM (hbox);have M:=bG hg;replace HB:=BS hb;clear hb hbox hg;have ao:=cz4 g))
     have n0_:Aside0 (((((aa.setCell ⟨j,0,none⟩ (.string ((a_ l0 c).f0))).setCell ⟨j,1,none⟩ (.int .i64 ((a_ l0 c).f1))).setCell ⟨j,2,none⟩ (.int .i64 ((a_ l0 c).f2))).setCell ⟨j,3,none⟩ (.string ((a_ l0 c).f3))).heap[j]? = some (.cells #[.string ((a_ l0 c).f0),.int .i64 ((a_ l0 c).f1),.int .i64 ((a_ l0 c).f2),.string ((a_ l0 c).f3)] 47 (0,0))):=⟨TS⟩;have n1_:Aside0 (Below w.heap.size w ((((aa.setCell ⟨j,0,none⟩ (.string ((a_ l0 c).f0))).setCell ⟨j,1,none⟩ (.int .i64 ((a_ l0 c).f1))).setCell ⟨j,2,none⟩ (.int .i64 ((a_ l0 c).f2))).setCell ⟨j,3,none⟩ (.string ((a_ l0 c).f3)))):=⟨TB⟩;(try clear g);(try clear HB);generalize ((((aa.setCell ⟨j,0,none⟩ (.string ((a_ l0 c).f0))).setCell ⟨j,1,none⟩ (.int .i64 ((a_ l0 c).f1))).setCell ⟨j,2,none⟩ (.int .i64 ((a_ l0 c).f2))).setCell ⟨j,3,none⟩ (.string ((a_ l0 c).f3)))=ap at n0_ n1_ ⊢;have g:=n0_;have HB:=n1_;clear n0_ n1_;replace g:=AM (ag_ g.out);replace HB:=AM (ap_ HB.out);refine start_ (n:=17) (S:=fun w'=>w'.cell? ⟨j,0,none⟩=some (.string ((a_ l0 c).f0))∧w'.cell? ⟨j,1,none⟩=some (.int .i64 ((a_ l0 c).f1))∧w'.cell? ⟨j,2,none⟩=some (.int .i64 ((a_ l0 c).f2))∧w'.cell? ⟨j,3,none⟩=some (.string ((a_ l0 c).f3))) (ds:=[]) #[false,false,false,false,false,false,false,false,false,false,false,false,false,false,false,false,false] KR rfl rfl ⟨bc 0 g,bc 1 g,bc 2 g,bc 3 g⟩ (fun hHeld=>?_);refine a7_ a3_.tab4 a3_.bits4 (fun HT_ HW_=>?_);generalize ap.drew=aE at g HB hHeld ⊢;refine tA 0 12 (mL 17 1) HT_ HW_ hHeld rfl rfl (by rintro w' ⟨s0,s1,s2,s3⟩;go_simp;with_reducible rfl) ?_;refine one_ (i:=1) (N:=some 13) (mL 17 3) rfl rfl (aE_ HT_.out KR) (by decide) (fun K hK=>?_);refine goes_ Tryz.func52 KR rfl #[.agg #[.string ((a_ l0 c).f0),.int .i64 ((a_ l0 c).f1),.int .i64 ((a_ l0 c).f2),.string ((a_ l0 c).f3)]] (by rfl) rfl rfl TA ?_
     with_reducible refine(ch_.calls k1 ((a_ l0 c).f0) ((a_ l0 c).f1) ((a_ l0 c).f2) ((a_ l0 c).f3) false _ A5.out).mono ?_
     rintro e aF ⟨rfl,hb⟩;refine⟨_,rfl,?_⟩;replace g:=KB g hb;replace HB:=BS hb;clear hb;refine hK.out _ _ ⟨bc 0 g,bc 1 g,bc 2 g,bc 3 g⟩ (fun hHeld=>?_);clear hK K;refine nA ?_;refine pA 2 14 (mL 17 7) HT_ rfl rfl ?_;refine pA 3 15 (mL 17 15) HT_ rfl rfl ?_;refine pU 4 16 (mL 17 31) HT_ rfl rfl ?_;refine pU 5 17 (mL 17 63) HT_ rfl rfl ?_;refine pU 6 18 (mL 17 127) HT_ rfl rfl ?_;refine pU 7 19 (mL 17 255) HT_ rfl rfl ?_;refine pU 8 20 (mL 17 511) HT_ rfl rfl ?_;refine pU 9 21 (mL 17 1023) HT_ rfl rfl ?_;refine pU 10 22 (mL 17 2047) HT_ rfl rfl ?_;refine pU 11 23 (mL 17 4095) HT_ rfl rfl ?_;refine pU 12 24 (mL 17 8191) HT_ rfl rfl ?_;refine pU 13 25 (mL 17 16383) HT_ rfl rfl ?_;refine pU 14 26 (mL 17 32767) HT_ rfl rfl ?_;refine pU 15 27 (mL 17 65535) HT_ rfl rfl ?_;refine pA 16 28 (mL 17 131071) HT_ rfl rfl ?_;refine done_ (bq_ HT_.out KR) ?_
     try go_wp2
     go_ret;exact⟨TE,TB⟩
   ·rw[if_neg c2] at H;have ad:=decide_eq_false c2;clear c2;obtain rfl:=Option.some.inj H;go_wp2;go_ret;exact⟨TE,TB⟩
end
section
def bG_.f (a0:ByteArray) (a1:ByteArray):Option (Bool):=if a1.toList=([]:List UInt8) then(some true) else(if a0.toList=a1.toList then(some true) else(if (wrap64 ((a0.size:Int) - (a1.size:Int))) > 0 then(if 0≤(wrap64 ((a0.size:Int) - (a1.size:Int))) then(if (wrap64 ((a0.size:Int) - (a1.size:Int)))≤(a0.size:Int) then(if (a0.extract ((wrap64 ((a0.size:Int) - (a1.size:Int))):Int).toNat a0.size).toList=a1.toList then(if 0≤(wrap64 ((wrap64 ((a0.size:Int) - (a1.size:Int))) - 1)) then(if (wrap64 ((wrap64 ((a0.size:Int) - (a1.size:Int))) - 1))<(a0.size:Int) then(some ((bt a0 (wrap64 ((wrap64 ((a0.size:Int) - (a1.size:Int))) - 1)))==46)) else(none)) else(none)) else(some false)) else(none)) else(none)) else(some false)))
theorem bG_.calls (a0:ByteArray) (a1:ByteArray) (r:Bool) (w:World) (h:bG_.f a0 a1=some r) :
  Calls Tryz.prog 66 #[.string a0,.string a1] w fun e w'=>e=.returned (.bool r)∧Drawn0 w w':=by
 have H:=h;clear h;unfold bG_.f at H;by_cases c3:a1.toList=([]:List UInt8)
 ·rw[if_pos c3] at H;have j:=beq_iff_eq.mpr c3;have l:=bne_eq_false_iff_eq.mpr c3;clear c3;obtain rfl:=Option.some.inj H;go_enter Tryz.func66,Tryz.ntmps66;go_wp2;go_ret;exact⟨TF,TN⟩
 ·rw[if_neg c3] at H;have j:=beq_eq_false_iff_ne.mpr c3;have l:=bne_iff_ne.mpr c3;by_cases c4:a0.toList=a1.toList
  ·rw[if_pos c4] at H;have m:=beq_iff_eq.mpr c4;have n:=bne_eq_false_iff_eq.mpr c4;clear c4;obtain rfl:=Option.some.inj H;go_enter Tryz.func66,Tryz.ntmps66;go_wp2;go_ret;exact⟨TF,TN⟩
  ·rw[if_neg c4] at H;have m:=beq_eq_false_iff_ne.mpr c4;have n:=bne_iff_ne.mpr c4;by_cases c5:(wrap64 ((a0.size:Int) - (a1.size:Int))) > 0
   ·rw[if_pos c5] at H;have i:=decide_eq_true c5;clear c5;obtain⟨g,hji6⟩:∃j_:Int,(wrap64 ((a0.size:Int) - (a1.size:Int)))=j_:=⟨_,rfl⟩
    replace H:(if 0≤(g) then(if (g)≤(a0.size:Int) then(if (a0.extract ((g):Int).toNat a0.size).toList=a1.toList then(if 0≤(wrap64 ((g) - 1)) then(if (wrap64 ((g) - 1))<(a0.size:Int) then(some ((bt a0 (wrap64 ((g) - 1)))==46)) else(none)) else(none)) else(some false)) else(none)) else(none))=some r:=by first|(rw[hji6] at H;exact H)|(simp only[hji6] at H ⊢;exact H)
    (try rw[hji6] at i);have hji6w:(IntKind.i64.wrap ((a0.size:Int) - (a1.size:Int)))=g:=(bA_ _).trans hji6;obtain⟨c7,H⟩:=ifn H;have y:=eq_true c7;have z:=decide_eq_true c7;clear c7;obtain⟨c8,H⟩:=ifn H;have A:=eq_true c8;have B:=decide_eq_true c8;clear c8;by_cases c9:(a0.extract ((g):Int).toNat a0.size).toList=a1.toList
    ·rw[if_pos c9] at H;have o:=beq_iff_eq.mpr c9;have p:=bne_eq_false_iff_eq.mpr c9;clear c9;obtain⟨c,hji10⟩:∃j_:Int,(wrap64 ((g) - 1))=j_:=⟨_,rfl⟩
     replace H:(if 0≤(c) then(if (c)<(a0.size:Int) then(some ((bt a0 (c))==46)) else(none)) else(none))=some r:=by first|(rw[hji10] at H;exact H)|(simp only[hji10] at H ⊢;exact H)
     have hji10w:(IntKind.i64.wrap ((g) - 1))=c:=(bA_ _).trans hji10;obtain⟨q,H⟩:=ifn H;have v:=decide_eq_true q;clear q;obtain⟨s,H⟩:=ifn H;have x:=decide_eq_true s;clear s;obtain rfl:=Option.some.inj H;have t:0≤((c):Int):=TD;have u:(c)<(a0.size:Int):=TD;have C:=cb_ a0 (c);replace t:=eq_true t;replace u:=eq_true u;go_enter Tryz.func66,Tryz.ntmps66;go_wp2;go_ret;exact⟨by first|rfl|(simp;done)|(simp only[←hji6,←hji10]<;>(first|rfl|simp))|(simp[*];done),TN⟩
    ·rw[if_neg c9] at H;have o:=beq_eq_false_iff_ne.mpr c9;have p:=bne_iff_ne.mpr c9;obtain rfl:=Option.some.inj H;go_enter Tryz.func66,Tryz.ntmps66;go_wp2;go_ret;exact⟨by first|rfl|(simp;done)|(simp only[←hji6]<;>(first|rfl|simp))|(simp[*];done),TN⟩
   ·rw[if_neg c5] at H;have i:=decide_eq_false c5;clear c5;obtain rfl:=Option.some.inj H;go_enter Tryz.func66,Tryz.ntmps66;go_wp2;go_ret;exact⟨TF,TN⟩
end
section
def bz_.l0:Nat→ByteArray→Int→List (aa_)→Int→Int→Option (Bool)
 | 0,_,_,_,_,_=>none
 | k+1,x1,x2,x9,f,c=>if c<f then(if 0≤c then(if c<(x9.length:Int) then(if ((a_ x9 c).f0).toList=x1.toList then(if ((a_ x9 c).f1)=x2 then(some true) else(bz_.l0 k x1 x2 x9 f (wrap64 (c+1)))) else(bz_.l0 k x1 x2 x9 f (wrap64 (c+1)))) else(none)) else(none)) else(some false)
def bz_.f (k:Nat) (l0:List (aa_)) (a1:ByteArray) (a2:Int):Option (Bool):=bz_.l0 k a1 a2 l0 (l0.length:Int) 0
theorem bz_.calls (k:Nat) (A0:Option Addr) (c0:Nat) (l0:List (aa_)) (a1:ByteArray) (a2:Int) (r:Bool) (w:World) (v:Kd.C ad_ w A0 l0.length l0) (x:l0.length≤c0) (h:bz_.f k l0 a1 a2=some r) :
  Calls Tryz.prog 67 #[.slice A0 l0.length c0,.string a1,.int .i64 a2] w fun e w'=>e=.returned (.bool r)∧Below w.heap.size w w':=by
 have hu47:=Tryz.underlying47;have u:=AM v;have M:=AM x;clear v x;have HB:=AM (Below.refl w.heap.size w);have H:(bz_.l0 k a1 a2 l0 (l0.length:Int) 0)=some r:=h;clear h;have H':=AM H;clear H;go_enter Tryz.func67,Tryz.ntmps67;go_wp2;go_loopg [11] k (fun kq E w'=>∃(c:Int),E=.int .i64 c∧Aside0 (bz_.l0 kq a1 a2 l0 (l0.length:Int) c=some r)∧Aside0 (kq≤k)∧Aside0 (Below w.heap.size w w'))
 case atStart=>exact⟨(0),TF,H',⟨Nat.le_refl _⟩,⟨TB⟩⟩
 case round =>
  clear H';obtain⟨c,rfl,HA,HK1,HB⟩:=hrel
  cases gk with
  | zero=>exact absurd HA.out (by simp[bz_.l0])
  | succ k1 =>
   have H:=HA.out;clear HA;simp only[bz_.l0] at H;by_cases c4:c<(l0.length:Int)
   ·rw[if_pos c4] at H;have y:=decide_eq_true c4;clear c4;obtain⟨c5,H⟩:=ifn H;have J:=decide_eq_true c5;clear c5;obtain⟨c6,H⟩:=ifn H;have K:=decide_eq_true c6;clear c6;by_cases c7:((a_ l0 c).f0).toList=a1.toList
    ·rw[if_pos c7] at H;have z:=beq_iff_eq.mpr c7;have A:=bne_eq_false_iff_eq.mpr c7;clear c7;by_cases c8:((a_ l0 c).f1)=a2
     ·rw[if_pos c8] at H;have B:=beq_iff_eq.mpr c8;have D:=bne_eq_false_iff_eq.mpr c8;clear c8;obtain rfl:=Option.some.inj H;have g:0≤(c:Int):=TD;have i:c<(l0.length:Int):=TD;obtain⟨q,l,m,n,o,p⟩:=af_ (Kd.ac_ u.out HB.out) c g i;cases l;replace g:=eq_true g;replace i:=eq_true i;go_wp2_with (first|(refine gD 8 rfl ?_;refine bE 8 #[.string (⟨#[]⟩:ByteArray),.int .i64 0,.int .i64 0,.string (⟨#[]⟩:ByteArray)] 47 ?_;intro s hg w9 hbox hb;have j:=AM (hbox);have t:=bG hg;replace HB:=BS hb;clear hb hbox hg;have F:=cz4 j));go_ret;exact⟨TE,TB⟩
     ·rw[if_neg c8] at H;have B:=beq_eq_false_iff_ne.mpr c8;have D:=bne_iff_ne.mpr c8;have H':=AM H;clear H;have g:0≤(c:Int):=TD;have i:c<(l0.length:Int):=TD;obtain⟨q,l,m,n,o,p⟩:=af_ (Kd.ac_ u.out HB.out) c g i;cases l;replace g:=eq_true g;replace i:=eq_true i;go_wp2_with (first|(refine gD 8 rfl ?_;refine bE 8 #[.string (⟨#[]⟩:ByteArray),.int .i64 0,.int .i64 0,.string (⟨#[]⟩:ByteArray)] 47 ?_;intro s hg N hbox hb;have j:=AM (hbox);have t:=bG hg;replace HB:=BS hb;clear hb hbox hg;have G:=cz4 j));go_roundg k1
      case measure=>have:=HK1.out;omega
      case rel=>exact⟨(wrap64 (c+1)),TF,H',⟨TM⟩,⟨TB⟩⟩
    ·rw[if_neg c7] at H;have z:=beq_eq_false_iff_ne.mpr c7;have A:=bne_iff_ne.mpr c7;have H':=AM H;clear H;have g:0≤(c:Int):=TD;have i:c<(l0.length:Int):=TD;obtain⟨q,l,m,n,o,p⟩:=af_ (Kd.ac_ u.out HB.out) c g i;cases l;replace g:=eq_true g;replace i:=eq_true i;go_wp2_with (first|(refine gD 8 rfl ?_;refine bE 8 #[.string (⟨#[]⟩:ByteArray),.int .i64 0,.int .i64 0,.string (⟨#[]⟩:ByteArray)] 47 ?_;intro s hg O hbox hb;have j:=AM (hbox);have t:=bG hg;replace HB:=BS hb;clear hb hbox hg;have I:=cz4 j));go_roundg k1
     case measure=>have:=HK1.out;omega
     case rel=>exact⟨(wrap64 (c+1)),TF,H',⟨TM⟩,⟨TB⟩⟩
   ·rw[if_neg c4] at H;have y:=decide_eq_false c4;clear c4;obtain rfl:=Option.some.inj H;go_wp2;go_ret;exact⟨TE,TB⟩
end
section
def bJ_.l0:Nat→ByteArray→Int→Option (ByteArray)
 | 0,_,_=>none
 | k+1,x0,x3=>if x3<(x0.size:Int) then(if 0≤x3 then(if (bt x0 x3)=46 then(if 0≤(wrap64 (x3+1)) then(if (wrap64 (x3+1))≤(x0.size:Int) then(some (x0.extract ((wrap64 (x3+1)):Int).toNat x0.size)) else(none)) else(none)) else(bJ_.l0 k x0 (wrap64 (x3+1)))) else(none)) else(some (⟨#[]⟩:ByteArray))
def bJ_.f (k:Nat) (a0:ByteArray):Option (ByteArray):=bJ_.l0 k a0 0
theorem bJ_.calls (k:Nat) (a0:ByteArray) (r:ByteArray) (w:World) (h:bJ_.f k a0=some r) :
  Calls Tryz.prog 88 #[.string a0] w fun e w'=>e=.returned (.string r)∧Drawn0 w w':=by
 have H:(bJ_.l0 k a0 0)=some r:=h;clear h;have H':=AM H;clear H;go_enter Tryz.func88,Tryz.ntmps88;go_wp2;go_loopg [3] k (fun kq v3 w'=>∃(c:Int),v3=.int .i64 c∧Aside0 (bJ_.l0 kq a0 c=some r)∧Aside0 (kq≤k)∧Drawn0 w w')
 case atStart=>exact⟨(0),TF,H',⟨Nat.le_refl _⟩,TN⟩
 case round =>
  clear H';obtain⟨c,rfl,HA,HK1,⟨m1,rfl⟩⟩:=hrel
  cases gk with
  | zero=>exact absurd HA.out (by simp[bJ_.l0])
  | succ k1 =>
   have H:=HA.out;clear HA;simp only[bJ_.l0] at H;by_cases c2:c<(a0.size:Int)
   ·rw[if_pos c2] at H;have i:=decide_eq_true c2;clear c2;obtain⟨c3,H⟩:=ifn H;have n:=decide_eq_true c3;clear c3;by_cases c5:(bt a0 c)=46
    ·rw[if_pos c5] at H;have j:=beq_iff_eq.mpr c5;have l:=bne_eq_false_iff_eq.mpr c5;clear c5;obtain⟨g,hji6⟩:∃j_:Int,(wrap64 (c+1))=j_:=⟨_,rfl⟩
     replace H:(if 0≤(g) then(if (g)≤(a0.size:Int) then(some (a0.extract ((g):Int).toNat a0.size)) else(none)) else(none))=some r:=by first|(rw[hji6] at H;exact H)|(simp only[hji6] at H ⊢;exact H)
     have hji6w:(IntKind.i64.wrap (c+1))=g:=(bA_ _).trans hji6;obtain⟨c7,H⟩:=ifn H;have o:=eq_true c7;have p:=decide_eq_true c7;clear c7;obtain⟨c8,H⟩:=ifn H;have q:=eq_true c8;have s:=decide_eq_true c8;clear c8;obtain rfl:=Option.some.inj H;have p4:0≤(c:Int):=TD;have q4:c<(a0.size:Int):=TD;have m:=cb_ a0 c;replace p4:=eq_true p4;replace q4:=eq_true q4;go_wp2;go_ret;exact⟨by first|rfl|(simp;done)|(simp only[←hji6]<;>(first|rfl|simp))|(simp[*];done),TN⟩
    ·rw[if_neg c5] at H;have j:=beq_eq_false_iff_ne.mpr c5;have l:=bne_iff_ne.mpr c5;have H':=AM H;clear H;have p4:0≤(c:Int):=TD;have q4:c<(a0.size:Int):=TD;have m:=cb_ a0 c;replace p4:=eq_true p4;replace q4:=eq_true q4;go_wp2;go_roundg k1
     case measure=>have:=HK1.out;omega
     case rel=>exact⟨(wrap64 (c+1)),TF,H',⟨TM⟩,TN⟩
   ·rw[if_neg c2] at H;have i:=decide_eq_false c2;clear c2;obtain rfl:=Option.some.inj H;go_wp2;go_ret;exact⟨TF,TN⟩
end
section
mutual
def b_.l0:Nat→ByteArray→List (aa_)→ByteArray→ByteArray→Bool→Option (ByteArray × Bool)
 | 0,_,_,_,_,_=>none
 | k+1,x0,x1,x2,x8,x9=>if x2.toList=x0.toList then(b_.j1 k x0 x1 x2 x8 x9 false) else((bG_.f x2 x0).bind fun t235=>(b_.j1 k x0 x1 x2 x8 x9 t235))
def b_.j1:Nat→ByteArray→List (aa_)→ByteArray→ByteArray→Bool→Bool→Option (ByteArray × Bool)
 | 0,_,_,_,_,_,_=>none
 | k+1,x0,x1,x2,x8,x9,i=>if i=true then((bz_.f k x1 x2 2).bind fun c=>(if c=true then(if x2.toList=([]:List UInt8) then(some (x2,true)) else((bJ_.f k x2).bind fun g=>(b_.l0 k x0 x1 g x2 true))) else(if x2.toList=([]:List UInt8) then(some (x8,x9)) else((bJ_.f k x2).bind fun h=>(b_.l0 k x0 x1 h x8 x9))))) else(some (x8,x9))
end
def b_.f (k:Nat) (a0:ByteArray) (l1:List (aa_)) (a2:ByteArray):Option (ByteArray × Bool):=b_.l0 k a0 l1 a2 (⟨#[]⟩:ByteArray) false
theorem b_.calls (k:Nat) (a0:ByteArray) (A1:Option Addr) (c1:Nat) (l1:List (aa_)) (a2:ByteArray) (r1:ByteArray) (r2:Bool) (w:World) (B:Kd.C ad_ w A1 l1.length l1) (D:l1.length≤c1) (h:b_.f k a0 l1 a2=some (r1,r2)) :
  Calls Tryz.prog 68 #[.string a0,.slice A1 l1.length c1,.string a2] w fun e w'=>e=.returned (.tuple #[.string r1,.bool r2])∧Below w.heap.size w w':=by
 have p:=AM B;have q:=AM D;clear B D;have HB:=AM (Below.refl w.heap.size w);have H:(b_.l0 k a0 l1 a2 (⟨#[]⟩:ByteArray) false)=some (r1,r2):=h;clear h;have H':=AM H;clear H;go_enter Tryz.func68,Tryz.ntmps68;go_wp2;go_loopg [2,8,9] k (fun kq v2 v8 v9 w'=>∃(c:ByteArray) (i:ByteArray) (j:Bool),v2=.string c∧v8=.string i∧v9=.bool j∧Aside0 (b_.l0 kq a0 l1 c i j=some (r1,r2))∧Aside0 (kq≤k)∧Aside0 (Below w.heap.size w w'))
 case atStart=>exact⟨(a2),((⟨#[]⟩:ByteArray)),(false),TF,TF,TF,H',⟨Nat.le_refl _⟩,⟨TB⟩⟩
 case round =>
  clear H';obtain⟨c,i,j,rfl,rfl,rfl,HA,HK1,HB⟩:=hrel
  cases gk with
  | zero=>exact absurd HA.out (by simp[b_.l0])
  | succ k1 =>
   have H:=HA.out;clear HA;simp only[b_.l0] at H;have v:=AM H;clear H
   go_upto_region 3 with (fail)
   go_cut [17] (fun F wc=>∃(kq:Nat) (g:Bool),F=.bool g∧Aside0 (b_.j1 kq a0 l1 c i j g=some (r1,r2))∧Aside0 (kq≤k1)∧Aside0 (Below w.heap.size w wc))
   case first =>
    have H:=v.out;clear v;by_cases c5:c.toList=a0.toList
    ·rw[if_pos c5] at H;have l:=beq_iff_eq.mpr c5;have o:=bne_eq_false_iff_eq.mpr c5;clear c5;(first|rw[l]|(simp only[bA_,b6_];rw[l])|rw[o]|skip);have H':=AM H;clear H;go_wp2;go_meet
     case rel=>exact⟨_,(false),TF,H',⟨by have:=HK1.out;first|omega|exact Nat.le_refl _⟩,⟨TB⟩⟩
    ·rw[if_neg c5] at H;have l:=beq_eq_false_iff_ne.mpr c5;have o:=bne_iff_ne.mpr c5;(first|rw[l]|(simp only[bA_,b6_];rw[l])|rw[o]|skip);obtain⟨s,A6,H⟩:=bnd H;have H':=AM H;clear H;go_wp2_with (first|(go_at_call 66;(with_reducible refine(bG_.calls c a0 s _ A6.out).mono ?_);rintro e w' ⟨rfl,⟨nd,rfl⟩⟩));go_meet
     case rel=>exact⟨_,(s),TF,H',⟨by have:=HK1.out;first|omega|exact Nat.le_refl _⟩,⟨TB⟩⟩
   case rest =>
    clear v;obtain⟨kq,g,rfl,HA,HJ3,HB⟩:=hcut
    cases kq with
    | zero=>exact absurd HA.out (by simp[b_.j1])
    | succ m =>
     have H:=HA.out;clear HA;simp only[b_.j1] at H;by_cases c7:g=true
     ·subst c7;replace H:=ift H;obtain⟨E,A8,H⟩:=bnd H;by_cases c9:E=true
      ·subst c9;replace H:=ift H;by_cases c10:c.toList=([]:List UInt8)
       ·rw[if_pos c10] at H;have x:=beq_iff_eq.mpr c10;have y:=bne_eq_false_iff_eq.mpr c10;clear c10;simp only[Option.some.injEq,Prod.mk.injEq] at H;obtain⟨rfl,rfl⟩:=H;go_wp2_with (first|(refine gL 20 rfl Tryz.func67 #[.slice A1 l1.length c1,.string c,.int .i64 2] rfl TA ?_;(with_reducible refine(bz_.calls m _ _ l1 c 2 true _ ?side1 ?side2 A8.out).mono ?_);(case side1=>exact CW ((Kd.ac_ p.out HB.out)));(case side2=>exact q.out);rintro e J ⟨rfl,hb⟩;refine⟨_,rfl,?_⟩;replace HB:=BS hb;clear hb));go_ret2;exact⟨by first|rfl|(simp[aw_,av_]<;>rfl)|(simp[*,aw_,av_]<;>rfl)|(simp[aw_,av_];rw[Bool.eq_iff_iff];simp),TB⟩
       ·rw[if_neg c10] at H;have x:=beq_eq_false_iff_ne.mpr c10;have y:=bne_iff_ne.mpr c10;obtain⟨t,G,H⟩:=bnd H;have H':=AM H;clear H;go_wp2_with (first|(refine gL 20 rfl Tryz.func67 #[.slice A1 l1.length c1,.string c,.int .i64 2] rfl TA ?_;(with_reducible refine(bz_.calls m _ _ l1 c 2 true _ ?side1 ?side2 A8.out).mono ?_);(case side1=>exact CW ((Kd.ac_ p.out HB.out)));(case side2=>exact q.out);rintro e K ⟨rfl,hb⟩;refine⟨_,rfl,?_⟩;replace HB:=BS hb;clear hb)|(refine gL 25 rfl Tryz.func88 #[.string c] rfl TA ?_;(with_reducible refine(bJ_.calls m c t _ G.out).mono ?_);rintro e w' ⟨rfl,⟨nd,rfl⟩⟩;refine⟨_,rfl,?_⟩));go_roundg m
        case measure=>have:=HK1.out;have:=HJ3.out;omega
        case rel=>exact⟨(t),(c),(true),TF,TF,TF,H',⟨by have:=HK1.out;have:=HJ3.out;omega⟩,⟨TB⟩⟩
      ·replace c9:=Bool.eq_false_iff.mpr c9;subst c9;replace H:=iff' H;by_cases n:c.toList=([]:List UInt8)
       ·rw[if_pos n] at H;have z:=beq_iff_eq.mpr n;have A:=bne_eq_false_iff_eq.mpr n;clear n;simp only[Option.some.injEq,Prod.mk.injEq] at H;obtain⟨rfl,rfl⟩:=H;go_wp2_with (first|(refine gL 20 rfl Tryz.func67 #[.slice A1 l1.length c1,.string c,.int .i64 2] rfl TA ?_;(with_reducible refine(bz_.calls m _ _ l1 c 2 false _ ?side1 ?side2 A8.out).mono ?_);(case side1=>exact CW ((Kd.ac_ p.out HB.out)));(case side2=>exact q.out);rintro e M ⟨rfl,hb⟩;refine⟨_,rfl,?_⟩;replace HB:=BS hb;clear hb));go_ret2;exact⟨by first|rfl|(simp[aw_,av_]<;>rfl)|(simp[*,aw_,av_]<;>rfl)|(simp[aw_,av_];rw[Bool.eq_iff_iff];simp),TB⟩
       ·rw[if_neg n] at H;have z:=beq_eq_false_iff_ne.mpr n;have A:=bne_iff_ne.mpr n;obtain⟨u,I,H⟩:=bnd H;have H':=AM H;clear H;go_wp2_with (first|(refine gL 20 rfl Tryz.func67 #[.slice A1 l1.length c1,.string c,.int .i64 2] rfl TA ?_;(with_reducible refine(bz_.calls m _ _ l1 c 2 false _ ?side1 ?side2 A8.out).mono ?_);(case side1=>exact CW ((Kd.ac_ p.out HB.out)));(case side2=>exact q.out);rintro e N ⟨rfl,hb⟩;refine⟨_,rfl,?_⟩;replace HB:=BS hb;clear hb)|(refine gL 25 rfl Tryz.func88 #[.string c] rfl TA ?_;(with_reducible refine(bJ_.calls m c u _ I.out).mono ?_);rintro e w' ⟨rfl,⟨nd,rfl⟩⟩;refine⟨_,rfl,?_⟩));go_roundg m
        case measure=>have:=HK1.out;have:=HJ3.out;omega
        case rel=>exact⟨(u),(i),(j),TF,TF,TF,H',⟨by have:=HK1.out;have:=HJ3.out;omega⟩,⟨TB⟩⟩
     ·replace c7:=Bool.eq_false_iff.mpr c7;subst c7;replace H:=iff' H;simp only[Option.some.injEq,Prod.mk.injEq] at H;obtain⟨rfl,rfl⟩:=H;go_wp2;go_ret2;exact⟨by first|rfl|(simp[aw_,av_]<;>rfl)|(simp[*,aw_,av_]<;>rfl)|(simp[aw_,av_];rw[Bool.eq_iff_iff];simp),TB⟩
end
end Go.Proofs.YtbgbbdbolldfcaaGreatDoor.Pp
