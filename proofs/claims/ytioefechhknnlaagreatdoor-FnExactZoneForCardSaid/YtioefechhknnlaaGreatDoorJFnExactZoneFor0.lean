/- The functions that the law reaches,one Lean function and its proof for each;written by wip/pp of this workplace,joined by claimit.py. -/
import Derived.Test.YtioefechhknnlaaGreatDoorProg
import Derived.Below
import Derived.Deep.Draws
import Derived.Deep.AppendLies
import Derived.Maps.AppendAt
import Derived.OwnWalk
import Derived.Laws.BytesArg
import Derived.Laws.MakeOwn
import Derived.Laws.OwnMore
import Derived.Deep.OwnRows
import Derived.Tactics
import Derived.Lib.ConvBytes
import Derived.Laws.Slices
import Derived.WalkKit
import Derived.KernelRfl
import Derived.RowKit3
import Derived.Deep.LoopGhost
import Derived.Deep.QuietTactic
import Derived.BigQuiet
import Derived.WideLaws
import Derived.Deep.DeepCutAuto
import Derived.Deep.CutBlock
import Derived.Deep.RegionHeld3
import Derived.Laws.Rows
import Derived.Lib.AppendStr
import Derived.ArgAppend
import Derived.Laws.IdiomCopy
import Derived.OrdersHeld
import Derived.Laws.BitsLemmas
import Derived.RowKit
import Derived.Test.YtioefechhknnlaaGreatDoorKFnExactZoneForW
namespace Go.Proofs.YtioefechhknnlaaGreatDoor.Pp
open Go.RowKit Go.Proofs.YtioefechhknnlaaGreatDoorW.PrintWords Go.Proofs.YtioefechhknnlaaGreatDoorW.PrintLast Go.Proofs.YtioefechhknnlaaGreatDoorW.PrintMore
attribute [local go_sem] max2_int min2_int max_two min_two max_three min_three max_four min_four   -- for this text's walks alone
set_option linter.unusedVariables false
set_option linter.unusedSimpArgs false



set_option maxHeartbeats 8000000
set_option maxRecDepth 100000
section
def errW:Option Int→Value
 | none=>.nilIface
 | some c=>.iface 0 (.int .i64 c)
theorem errW_none:errW none=.nilIface:=rfl
theorem errW_some (c:Int):errW (some c)=.iface 0 (.int .i64 c):=rfl

theorem info3:(Tryz.prog.info? 3).map (fun i=>(i.zero,i.size,i.bytes))=some (some (.int .i64 0),1,8):=by kernel_rfl
theorem info5:(Tryz.prog.info? 5).map (fun i=>(i.zero,i.size,i.bytes))=some (some (.int .u8 0),1,1):=by kernel_rfl
theorem info9:(Tryz.prog.info? 9).map (fun i=>(i.zero,i.size,i.bytes))=some (some (.string ⟨#[]⟩),1,16):=by kernel_rfl
theorem info30:(Tryz.prog.info? 30).map (fun i=>(i.zero,i.size,i.bytes))=some (some (.agg #[(.string ⟨#[]⟩),(.int .i64 0),(.slice none 0 0)]),3,48):=by kernel_rfl
theorem info100:(Tryz.prog.info? 100).map (fun i=>(i.zero,i.size,i.bytes))=some (some (.agg #[(.string ⟨#[]⟩),(.int .i64 0),(.int .i64 0),(.string ⟨#[]⟩)]),4,48):=by kernel_rfl
theorem info116:(Tryz.prog.info? 116).map (fun i=>(i.zero,i.size,i.bytes))=some (some (.agg #[(.string ⟨#[]⟩),(.string ⟨#[]⟩),(.slice none 0 0)]),3,56):=by kernel_rfl
-- the values' own types
/-! #### struct type 98 -/
structure S_LRecord where
 f0:ByteArray
 f1:Int
 f2:Int
 f3:ByteArray
def z_LRecord:S_LRecord:=⟨(⟨#[]⟩:ByteArray),(0:Int),(0:Int),(⟨#[]⟩:ByteArray)⟩
def k_LRecord:Kd S_LRecord:=Kd.iso (Kd.pair Kd.string (Kd.pair (Kd.int .i64) (Kd.pair (Kd.int .i64) Kd.string))) (fun x:S_LRecord=>(x.f0,x.f1,x.f2,x.f3))
theorem k_LRecord_open {w:World} {x:S_LRecord} {cs:List Value} (h:k_LRecord.K w x cs):cs=[.string x.f0,.int .i64 x.f1,.int .i64 x.f2,.string x.f3]:=by
 obtain⟨_,_,rfl,rfl,⟨_,_,rfl,rfl,⟨_,_,rfl,rfl,rfl⟩⟩⟩:=h;exact rfl
theorem k_LRecord_openM {w:World} {base:Nat} {ok:Nat→Prop} {x:S_LRecord} {cs:List Value} (h:k_LRecord.M w base ok x cs):cs=[.string x.f0,.int .i64 x.f1,.int .i64 x.f2,.string x.f3]:=by
 obtain⟨_,_,rfl,rfl,⟨_,_,rfl,rfl,⟨_,_,rfl,rfl,rfl⟩⟩⟩:=h;exact rfl
theorem k_LRecord_mk (w:World) (x:S_LRecord)  : k_LRecord.K w x [.string x.f0,.int .i64 x.f1,.int .i64 x.f2,.string x.f3]:=⟨[.string x.f0],[.int .i64 x.f1,.int .i64 x.f2,.string x.f3],rfl,rfl,⟨[.int .i64 x.f1],[.int .i64 x.f2,.string x.f3],rfl,rfl,⟨[.int .i64 x.f2],[.string x.f3],rfl,rfl,rfl⟩⟩⟩
theorem k_LRecord_mkM (w:World) (base:Nat) (ok:Nat→Prop) (x:S_LRecord)  : k_LRecord.M w base ok x [.string x.f0,.int .i64 x.f1,.int .i64 x.f2,.string x.f3]:=⟨[.string x.f0],[.int .i64 x.f1,.int .i64 x.f2,.string x.f3],rfl,rfl,⟨[.int .i64 x.f1],[.int .i64 x.f2,.string x.f3],rfl,rfl,⟨[.int .i64 x.f2],[.string x.f3],rfl,rfl,rfl⟩⟩⟩
theorem k_LRecord_mkF (W:World) (ok:Nat→Prop) (x:S_LRecord):Kd.FK k_LRecord W ok x [.string x.f0,.int .i64 x.f1,.int .i64 x.f2,.string x.f3]:=fun W2 _=>k_LRecord_mk W2 x
def rd_TLRecord (xs:List S_LRecord) (i:Int):S_LRecord:=xs.getD i.toNat z_LRecord
theorem at_TLRecord {w:World} {A:Option Addr} {n:Nat} {xs:List S_LRecord} (h:Kd.C k_LRecord w A n xs) (i:Int) (h0:0≤i) (h1:i<n):∃ad , A=some ad∧w.cell? (ad.add (i.toNat * 4))=some (.string (rd_TLRecord xs i).f0)∧w.cell? ⟨(ad.add (i.toNat * 4)).block,(ad.add (i.toNat * 4)).off+1,none⟩=some (.int .i64 (rd_TLRecord xs i).f1)∧w.cell? ⟨(ad.add (i.toNat * 4)).block,(ad.add (i.toNat * 4)).off+2,none⟩=some (.int .i64 (rd_TLRecord xs i).f2)∧w.cell? ⟨(ad.add (i.toNat * 4)).block,(ad.add (i.toNat * 4)).off+3,none⟩=some (.string (rd_TLRecord xs i).f3):=by
 obtain⟨ad,c,e,_,hK,f⟩:=Kd.C_get h z_LRecord i h0 h1;have hc:∀j u,c[j]? = some u→w.cell? (ad.add (i.toNat * 4+j))=some u:=f;obtain rfl:=k_LRecord_open hK;exact⟨ad,e,hc 0 _ rfl,by rw[←add_field _ _ 1 (by omega)];exact hc 1 _ rfl,by rw[←add_field _ _ 2 (by omega)];exact hc 2 _ rfl,by rw[←add_field _ _ 3 (by omega)];exact hc 3 _ rfl⟩

/-! #### struct type 100 -/
structure S_Record where
 f0:ByteArray
 f1:Int
 f2:Int
 f3:ByteArray
def z_Record:S_Record:=⟨(⟨#[]⟩:ByteArray),(0:Int),(0:Int),(⟨#[]⟩:ByteArray)⟩
def k_Record:Kd S_Record:=Kd.iso (Kd.pair Kd.string (Kd.pair (Kd.int .i64) (Kd.pair (Kd.int .i64) Kd.string))) (fun x:S_Record=>(x.f0,x.f1,x.f2,x.f3))
theorem k_Record_open {w:World} {x:S_Record} {cs:List Value} (h:k_Record.K w x cs):cs=[.string x.f0,.int .i64 x.f1,.int .i64 x.f2,.string x.f3]:=by
 obtain⟨_,_,rfl,rfl,⟨_,_,rfl,rfl,⟨_,_,rfl,rfl,rfl⟩⟩⟩:=h;exact rfl
theorem k_Record_openM {w:World} {base:Nat} {ok:Nat→Prop} {x:S_Record} {cs:List Value} (h:k_Record.M w base ok x cs):cs=[.string x.f0,.int .i64 x.f1,.int .i64 x.f2,.string x.f3]:=by
 obtain⟨_,_,rfl,rfl,⟨_,_,rfl,rfl,⟨_,_,rfl,rfl,rfl⟩⟩⟩:=h;exact rfl
theorem k_Record_mk (w:World) (x:S_Record)  : k_Record.K w x [.string x.f0,.int .i64 x.f1,.int .i64 x.f2,.string x.f3]:=⟨[.string x.f0],[.int .i64 x.f1,.int .i64 x.f2,.string x.f3],rfl,rfl,⟨[.int .i64 x.f1],[.int .i64 x.f2,.string x.f3],rfl,rfl,⟨[.int .i64 x.f2],[.string x.f3],rfl,rfl,rfl⟩⟩⟩
theorem k_Record_mkM (w:World) (base:Nat) (ok:Nat→Prop) (x:S_Record)  : k_Record.M w base ok x [.string x.f0,.int .i64 x.f1,.int .i64 x.f2,.string x.f3]:=⟨[.string x.f0],[.int .i64 x.f1,.int .i64 x.f2,.string x.f3],rfl,rfl,⟨[.int .i64 x.f1],[.int .i64 x.f2,.string x.f3],rfl,rfl,⟨[.int .i64 x.f2],[.string x.f3],rfl,rfl,rfl⟩⟩⟩
theorem k_Record_mkF (W:World) (ok:Nat→Prop) (x:S_Record):Kd.FK k_Record W ok x [.string x.f0,.int .i64 x.f1,.int .i64 x.f2,.string x.f3]:=fun W2 _=>k_Record_mk W2 x
def rd_TRecord (xs:List S_Record) (i:Int):S_Record:=xs.getD i.toNat z_Record
theorem at_TRecord {w:World} {A:Option Addr} {n:Nat} {xs:List S_Record} (h:Kd.C k_Record w A n xs) (i:Int) (h0:0≤i) (h1:i<n):∃ad , A=some ad∧w.cell? (ad.add (i.toNat * 4))=some (.string (rd_TRecord xs i).f0)∧w.cell? ⟨(ad.add (i.toNat * 4)).block,(ad.add (i.toNat * 4)).off+1,none⟩=some (.int .i64 (rd_TRecord xs i).f1)∧w.cell? ⟨(ad.add (i.toNat * 4)).block,(ad.add (i.toNat * 4)).off+2,none⟩=some (.int .i64 (rd_TRecord xs i).f2)∧w.cell? ⟨(ad.add (i.toNat * 4)).block,(ad.add (i.toNat * 4)).off+3,none⟩=some (.string (rd_TRecord xs i).f3):=by
 obtain⟨ad,c,e,_,hK,f⟩:=Kd.C_get h z_Record i h0 h1;have hc:∀j u,c[j]? = some u→w.cell? (ad.add (i.toNat * 4+j))=some u:=f;obtain rfl:=k_Record_open hK;exact⟨ad,e,hc 0 _ rfl,by rw[←add_field _ _ 1 (by omega)];exact hc 1 _ rfl,by rw[←add_field _ _ 2 (by omega)];exact hc 2 _ rfl,by rw[←add_field _ _ 3 (by omega)];exact hc 3 _ rfl⟩

def rd_L5 (xs:List (List Int)) (i:Int):(List Int):=xs.getD i.toNat ([]:List Int)
theorem at_L5 {w:World} {A:Option Addr} {n:Nat} {xs:List (List Int)} (h:Kd.C (Kd.slice 3 (Kd.int .i64)) w A n xs) (i:Int) (h0:0≤i) (h1:i<n):∃ad A0 c0,A=some ad∧w.cell? (ad.add i.toNat)=some (.slice A0 (rd_L5 xs i).length c0)∧(rd_L5 xs i).length≤c0∧(Kd.int .i64).C w A0 (rd_L5 xs i).length (rd_L5 xs i):=by
 obtain⟨ad,c,e,_,hK,f⟩:=Kd.C_get h ([]:List Int) i h0 h1;have hc:∀j u,c[j]? = some u→w.cell? (ad.add (i.toNat * 1+j))=some u:=f;obtain⟨A0,c0,rfl,l0,g0⟩:=hK;exact⟨ad,A0,c0,e,by have hq:=hc 0 _ rfl;rwa [Nat.mul_one,Nat.add_zero] at hq,l0,g0⟩

/-! #### struct type 116 -/
structure S_Gap where
 f0:ByteArray
 f1:ByteArray
 f2:(List Int)
def z_Gap:S_Gap:=⟨(⟨#[]⟩:ByteArray),(⟨#[]⟩:ByteArray),([]:List Int)⟩
def k_Gap:Kd S_Gap:=Kd.iso (Kd.pair Kd.string (Kd.pair Kd.string (Kd.slice 3 (Kd.int .i64)))) (fun x:S_Gap=>(x.f0,x.f1,x.f2))
theorem k_Gap_open {w:World} {x:S_Gap} {cs:List Value} (h:k_Gap.K w x cs):∃A2 c2,cs=[.string x.f0,.string x.f1,.slice A2 x.f2.length c2]∧x.f2.length≤c2∧(Kd.int .i64).C w A2 x.f2.length x.f2:=by
 obtain⟨_,_,rfl,rfl,⟨_,_,rfl,rfl,⟨A2,c2,rfl,l2,g2⟩⟩⟩:=h;exact⟨A2,c2,rfl,l2,g2⟩
theorem k_Gap_openM {w:World} {base:Nat} {ok:Nat→Prop} {x:S_Gap} {cs:List Value} (h:k_Gap.M w base ok x cs):∃v2,cs=[.string x.f0,.string x.f1,v2]∧(Kd.int .i64).R 3 w base ok v2 x.f2:=by
 obtain⟨_,_,rfl,rfl,⟨_,_,rfl,rfl,⟨v2,rfl,g2⟩⟩⟩:=h;exact⟨v2,rfl,g2⟩
theorem k_Gap_mk (w:World) (x:S_Gap) {A2:Option Addr} {c2:Nat} (l2:x.f2.length≤c2) (g2:(Kd.int .i64).C w A2 x.f2.length x.f2):k_Gap.K w x [.string x.f0,.string x.f1,.slice A2 x.f2.length c2]:=⟨[.string x.f0],[.string x.f1,.slice A2 x.f2.length c2],rfl,rfl,⟨[.string x.f1],[.slice A2 x.f2.length c2],rfl,rfl,⟨A2,c2,rfl,l2,g2⟩⟩⟩
theorem k_Gap_mkM (w:World) (base:Nat) (ok:Nat→Prop) (x:S_Gap) {v2:Value} (g2:(Kd.int .i64).R 3 w base ok v2 x.f2):k_Gap.M w base ok x [.string x.f0,.string x.f1,v2]:=⟨[.string x.f0],[.string x.f1,v2],rfl,rfl,⟨[.string x.f1],[v2],rfl,rfl,⟨v2,rfl,g2⟩⟩⟩
theorem k_Gap_openF {W:World} {ok:Nat→Prop} {x:S_Gap} {cs:List Value} (h:Kd.FK k_Gap W ok x cs):∃A2 c2,cs=[.string x.f0,.string x.f1,.slice A2 x.f2.length c2]∧x.f2.length≤c2∧Kd.F (Kd.int .i64) W ok A2 x.f2.length x.f2:=by
 obtain⟨A2,c2,rfl,l2,_⟩:=k_Gap_open (Kd.FK_now h);exact⟨A2,c2,rfl,l2,(fun W' hW=>by obtain⟨A2_,c2_,he,l2_,g2_⟩:=k_Gap_open (h W' hW);injection (Option.some.inj (show some (Value.slice A2 x.f2.length c2)=some (Value.slice A2_ x.f2.length c2_) from congrArg (fun l=>l[2]?) he)) with ha_ _ _;rw[ha_];exact g2_)⟩
theorem k_Gap_mkF (W:World) (ok:Nat→Prop) (x:S_Gap) {A2:Option Addr} {c2:Nat} (l2:x.f2.length≤c2) (g2:Kd.F (Kd.int .i64) W ok A2 x.f2.length x.f2):Kd.FK k_Gap W ok x [.string x.f0,.string x.f1,.slice A2 x.f2.length c2]:=fun W2 hW=>k_Gap_mk W2 x l2 (g2 W2 hW)
def rd_TGap (xs:List S_Gap) (i:Int):S_Gap:=xs.getD i.toNat z_Gap
theorem at_TGap {w:World} {A:Option Addr} {n:Nat} {xs:List S_Gap} (h:Kd.C k_Gap w A n xs) (i:Int) (h0:0≤i) (h1:i<n):∃ad A2 c2,A=some ad∧w.cell? (ad.add (i.toNat * 3))=some (.string (rd_TGap xs i).f0)∧w.cell? ⟨(ad.add (i.toNat * 3)).block,(ad.add (i.toNat * 3)).off+1,none⟩=some (.string (rd_TGap xs i).f1)∧w.cell? ⟨(ad.add (i.toNat * 3)).block,(ad.add (i.toNat * 3)).off+2,none⟩=some (.slice A2 (rd_TGap xs i).f2.length c2)∧(rd_TGap xs i).f2.length≤c2∧(Kd.int .i64).C w A2 (rd_TGap xs i).f2.length (rd_TGap xs i).f2:=by
 obtain⟨ad,c,e,_,hK,f⟩:=Kd.C_get h z_Gap i h0 h1;have hc:∀j u,c[j]? = some u→w.cell? (ad.add (i.toNat * 3+j))=some u:=f;obtain⟨A2,c2,rfl,l2,g2⟩:=k_Gap_open hK;exact⟨ad,A2,c2,e,hc 0 _ rfl,by rw[←add_field _ _ 1 (by omega)];exact hc 1 _ rfl,by rw[←add_field _ _ 2 (by omega)];exact hc 2 _ rfl,l2,g2⟩

def rd_L7 (xs:List (List S_LRecord)) (i:Int):(List S_LRecord):=xs.getD i.toNat ([]:List S_LRecord)
theorem at_L7 {w:World} {A:Option Addr} {n:Nat} {xs:List (List S_LRecord)} (h:Kd.C (Kd.slice 98 k_LRecord) w A n xs) (i:Int) (h0:0≤i) (h1:i<n):∃ad A0 c0,A=some ad∧w.cell? (ad.add i.toNat)=some (.slice A0 (rd_L7 xs i).length c0)∧(rd_L7 xs i).length≤c0∧k_LRecord.C w A0 (rd_L7 xs i).length (rd_L7 xs i):=by
 obtain⟨ad,c,e,_,hK,f⟩:=Kd.C_get h ([]:List S_LRecord) i h0 h1;have hc:∀j u,c[j]? = some u→w.cell? (ad.add (i.toNat * 1+j))=some u:=f;obtain⟨A0,c0,rfl,l0,g0⟩:=hK;exact⟨ad,A0,c0,e,by have hq:=hc 0 _ rfl;rwa [Nat.mul_one,Nat.add_zero] at hq,l0,g0⟩

/-! #### struct type 24 -/
structure S24 where
 f0:ByteArray
 f1:Int
 f2:(List S_LRecord)
def z24:S24:=⟨(⟨#[]⟩:ByteArray),(0:Int),([]:List S_LRecord)⟩
def k24:Kd S24:=Kd.iso (Kd.pair Kd.string (Kd.pair (Kd.int .i64) (Kd.slice 98 k_LRecord))) (fun x:S24=>(x.f0,x.f1,x.f2))
theorem k24_open {w:World} {x:S24} {cs:List Value} (h:k24.K w x cs):∃A2 c2,cs=[.string x.f0,.int .i64 x.f1,.slice A2 x.f2.length c2]∧x.f2.length≤c2∧k_LRecord.C w A2 x.f2.length x.f2:=by
 obtain⟨_,_,rfl,rfl,⟨_,_,rfl,rfl,⟨A2,c2,rfl,l2,g2⟩⟩⟩:=h;exact⟨A2,c2,rfl,l2,g2⟩
theorem k24_openM {w:World} {base:Nat} {ok:Nat→Prop} {x:S24} {cs:List Value} (h:k24.M w base ok x cs):∃v2,cs=[.string x.f0,.int .i64 x.f1,v2]∧k_LRecord.R 98 w base ok v2 x.f2:=by
 obtain⟨_,_,rfl,rfl,⟨_,_,rfl,rfl,⟨v2,rfl,g2⟩⟩⟩:=h;exact⟨v2,rfl,g2⟩
theorem k24_mk (w:World) (x:S24) {A2:Option Addr} {c2:Nat} (l2:x.f2.length≤c2) (g2:k_LRecord.C w A2 x.f2.length x.f2):k24.K w x [.string x.f0,.int .i64 x.f1,.slice A2 x.f2.length c2]:=⟨[.string x.f0],[.int .i64 x.f1,.slice A2 x.f2.length c2],rfl,rfl,⟨[.int .i64 x.f1],[.slice A2 x.f2.length c2],rfl,rfl,⟨A2,c2,rfl,l2,g2⟩⟩⟩
theorem k24_mkM (w:World) (base:Nat) (ok:Nat→Prop) (x:S24) {v2:Value} (g2:k_LRecord.R 98 w base ok v2 x.f2):k24.M w base ok x [.string x.f0,.int .i64 x.f1,v2]:=⟨[.string x.f0],[.int .i64 x.f1,v2],rfl,rfl,⟨[.int .i64 x.f1],[v2],rfl,rfl,⟨v2,rfl,g2⟩⟩⟩
theorem k24_openF {W:World} {ok:Nat→Prop} {x:S24} {cs:List Value} (h:Kd.FK k24 W ok x cs):∃A2 c2,cs=[.string x.f0,.int .i64 x.f1,.slice A2 x.f2.length c2]∧x.f2.length≤c2∧Kd.F k_LRecord W ok A2 x.f2.length x.f2:=by
 obtain⟨A2,c2,rfl,l2,_⟩:=k24_open (Kd.FK_now h);exact⟨A2,c2,rfl,l2,(fun W' hW=>by obtain⟨A2_,c2_,he,l2_,g2_⟩:=k24_open (h W' hW);injection (Option.some.inj (show some (Value.slice A2 x.f2.length c2)=some (Value.slice A2_ x.f2.length c2_) from congrArg (fun l=>l[2]?) he)) with ha_ _ _;rw[ha_];exact g2_)⟩
theorem k24_mkF (W:World) (ok:Nat→Prop) (x:S24) {A2:Option Addr} {c2:Nat} (l2:x.f2.length≤c2) (g2:Kd.F k_LRecord W ok A2 x.f2.length x.f2):Kd.FK k24 W ok x [.string x.f0,.int .i64 x.f1,.slice A2 x.f2.length c2]:=fun W2 hW=>k24_mk W2 x l2 (g2 W2 hW)
def rd_T24 (xs:List S24) (i:Int):S24:=xs.getD i.toNat z24
theorem at_T24 {w:World} {A:Option Addr} {n:Nat} {xs:List S24} (h:Kd.C k24 w A n xs) (i:Int) (h0:0≤i) (h1:i<n):∃ad A2 c2,A=some ad∧w.cell? (ad.add (i.toNat * 3))=some (.string (rd_T24 xs i).f0)∧w.cell? ⟨(ad.add (i.toNat * 3)).block,(ad.add (i.toNat * 3)).off+1,none⟩=some (.int .i64 (rd_T24 xs i).f1)∧w.cell? ⟨(ad.add (i.toNat * 3)).block,(ad.add (i.toNat * 3)).off+2,none⟩=some (.slice A2 (rd_T24 xs i).f2.length c2)∧(rd_T24 xs i).f2.length≤c2∧k_LRecord.C w A2 (rd_T24 xs i).f2.length (rd_T24 xs i).f2:=by
 obtain⟨ad,c,e,_,hK,f⟩:=Kd.C_get h z24 i h0 h1;have hc:∀j u,c[j]? = some u→w.cell? (ad.add (i.toNat * 3+j))=some u:=f;obtain⟨A2,c2,rfl,l2,g2⟩:=k24_open hK;exact⟨ad,A2,c2,e,hc 0 _ rfl,by rw[←add_field _ _ 1 (by omega)];exact hc 1 _ rfl,by rw[←add_field _ _ 2 (by omega)];exact hc 2 _ rfl,l2,g2⟩

def rd_L9 (xs:List (List S_Record)) (i:Int):(List S_Record):=xs.getD i.toNat ([]:List S_Record)
theorem at_L9 {w:World} {A:Option Addr} {n:Nat} {xs:List (List S_Record)} (h:Kd.C (Kd.slice 100 k_Record) w A n xs) (i:Int) (h0:0≤i) (h1:i<n):∃ad A0 c0,A=some ad∧w.cell? (ad.add i.toNat)=some (.slice A0 (rd_L9 xs i).length c0)∧(rd_L9 xs i).length≤c0∧k_Record.C w A0 (rd_L9 xs i).length (rd_L9 xs i):=by
 obtain⟨ad,c,e,_,hK,f⟩:=Kd.C_get h ([]:List S_Record) i h0 h1;have hc:∀j u,c[j]? = some u→w.cell? (ad.add (i.toNat * 1+j))=some u:=f;obtain⟨A0,c0,rfl,l0,g0⟩:=hK;exact⟨ad,A0,c0,e,by have hq:=hc 0 _ rfl;rwa [Nat.mul_one,Nat.add_zero] at hq,l0,g0⟩

/-! #### struct type 30 -/
structure S_Zone where
 f0:ByteArray
 f1:Int
 f2:(List S_Record)
def z_Zone:S_Zone:=⟨(⟨#[]⟩:ByteArray),(0:Int),([]:List S_Record)⟩
def k_Zone:Kd S_Zone:=Kd.iso (Kd.pair Kd.string (Kd.pair (Kd.int .i64) (Kd.slice 100 k_Record))) (fun x:S_Zone=>(x.f0,x.f1,x.f2))
theorem k_Zone_open {w:World} {x:S_Zone} {cs:List Value} (h:k_Zone.K w x cs):∃A2 c2,cs=[.string x.f0,.int .i64 x.f1,.slice A2 x.f2.length c2]∧x.f2.length≤c2∧k_Record.C w A2 x.f2.length x.f2:=by
 obtain⟨_,_,rfl,rfl,⟨_,_,rfl,rfl,⟨A2,c2,rfl,l2,g2⟩⟩⟩:=h;exact⟨A2,c2,rfl,l2,g2⟩
theorem k_Zone_openM {w:World} {base:Nat} {ok:Nat→Prop} {x:S_Zone} {cs:List Value} (h:k_Zone.M w base ok x cs):∃v2,cs=[.string x.f0,.int .i64 x.f1,v2]∧k_Record.R 100 w base ok v2 x.f2:=by
 obtain⟨_,_,rfl,rfl,⟨_,_,rfl,rfl,⟨v2,rfl,g2⟩⟩⟩:=h;exact⟨v2,rfl,g2⟩
theorem k_Zone_mk (w:World) (x:S_Zone) {A2:Option Addr} {c2:Nat} (l2:x.f2.length≤c2) (g2:k_Record.C w A2 x.f2.length x.f2):k_Zone.K w x [.string x.f0,.int .i64 x.f1,.slice A2 x.f2.length c2]:=⟨[.string x.f0],[.int .i64 x.f1,.slice A2 x.f2.length c2],rfl,rfl,⟨[.int .i64 x.f1],[.slice A2 x.f2.length c2],rfl,rfl,⟨A2,c2,rfl,l2,g2⟩⟩⟩
theorem k_Zone_mkM (w:World) (base:Nat) (ok:Nat→Prop) (x:S_Zone) {v2:Value} (g2:k_Record.R 100 w base ok v2 x.f2):k_Zone.M w base ok x [.string x.f0,.int .i64 x.f1,v2]:=⟨[.string x.f0],[.int .i64 x.f1,v2],rfl,rfl,⟨[.int .i64 x.f1],[v2],rfl,rfl,⟨v2,rfl,g2⟩⟩⟩
theorem k_Zone_openF {W:World} {ok:Nat→Prop} {x:S_Zone} {cs:List Value} (h:Kd.FK k_Zone W ok x cs):∃A2 c2,cs=[.string x.f0,.int .i64 x.f1,.slice A2 x.f2.length c2]∧x.f2.length≤c2∧Kd.F k_Record W ok A2 x.f2.length x.f2:=by
 obtain⟨A2,c2,rfl,l2,_⟩:=k_Zone_open (Kd.FK_now h);exact⟨A2,c2,rfl,l2,(fun W' hW=>by obtain⟨A2_,c2_,he,l2_,g2_⟩:=k_Zone_open (h W' hW);injection (Option.some.inj (show some (Value.slice A2 x.f2.length c2)=some (Value.slice A2_ x.f2.length c2_) from congrArg (fun l=>l[2]?) he)) with ha_ _ _;rw[ha_];exact g2_)⟩
theorem k_Zone_mkF (W:World) (ok:Nat→Prop) (x:S_Zone) {A2:Option Addr} {c2:Nat} (l2:x.f2.length≤c2) (g2:Kd.F k_Record W ok A2 x.f2.length x.f2):Kd.FK k_Zone W ok x [.string x.f0,.int .i64 x.f1,.slice A2 x.f2.length c2]:=fun W2 hW=>k_Zone_mk W2 x l2 (g2 W2 hW)
def rd_TZone (xs:List S_Zone) (i:Int):S_Zone:=xs.getD i.toNat z_Zone
theorem at_TZone {w:World} {A:Option Addr} {n:Nat} {xs:List S_Zone} (h:Kd.C k_Zone w A n xs) (i:Int) (h0:0≤i) (h1:i<n):∃ad A2 c2,A=some ad∧w.cell? (ad.add (i.toNat * 3))=some (.string (rd_TZone xs i).f0)∧w.cell? ⟨(ad.add (i.toNat * 3)).block,(ad.add (i.toNat * 3)).off+1,none⟩=some (.int .i64 (rd_TZone xs i).f1)∧w.cell? ⟨(ad.add (i.toNat * 3)).block,(ad.add (i.toNat * 3)).off+2,none⟩=some (.slice A2 (rd_TZone xs i).f2.length c2)∧(rd_TZone xs i).f2.length≤c2∧k_Record.C w A2 (rd_TZone xs i).f2.length (rd_TZone xs i).f2:=by
 obtain⟨ad,c,e,_,hK,f⟩:=Kd.C_get h z_Zone i h0 h1;have hc:∀j u,c[j]? = some u→w.cell? (ad.add (i.toNat * 3+j))=some u:=f;obtain⟨A2,c2,rfl,l2,g2⟩:=k_Zone_open hK;exact⟨ad,A2,c2,e,hc 0 _ rfl,by rw[←add_field _ _ 1 (by omega)];exact hc 1 _ rfl,by rw[←add_field _ _ 2 (by omega)];exact hc 2 _ rfl,l2,g2⟩

/-! #### struct type 49 -/
structure S_Diff where
 f0:Int
 f1:Int
 f2:(List S_Record)
 f3:(List S_Record)
def z_Diff:S_Diff:=⟨(0:Int),(0:Int),([]:List S_Record),([]:List S_Record)⟩
def k_Diff:Kd S_Diff:=Kd.iso (Kd.pair (Kd.int .i64) (Kd.pair (Kd.int .i64) (Kd.pair (Kd.slice 100 k_Record) (Kd.slice 100 k_Record)))) (fun x:S_Diff=>(x.f0,x.f1,x.f2,x.f3))
theorem k_Diff_open {w:World} {x:S_Diff} {cs:List Value} (h:k_Diff.K w x cs):∃A2 c2 A3 c3,cs=[.int .i64 x.f0,.int .i64 x.f1,.slice A2 x.f2.length c2,.slice A3 x.f3.length c3]∧x.f2.length≤c2∧k_Record.C w A2 x.f2.length x.f2∧x.f3.length≤c3∧k_Record.C w A3 x.f3.length x.f3:=by
 obtain⟨_,_,rfl,rfl,⟨_,_,rfl,rfl,⟨_,_,rfl,⟨A2,c2,rfl,l2,g2⟩,⟨A3,c3,rfl,l3,g3⟩⟩⟩⟩:=h;exact⟨A2,c2,A3,c3,rfl,l2,g2,l3,g3⟩
theorem k_Diff_openM {w:World} {base:Nat} {ok:Nat→Prop} {x:S_Diff} {cs:List Value} (h:k_Diff.M w base ok x cs):∃v2 v3,cs=[.int .i64 x.f0,.int .i64 x.f1,v2,v3]∧k_Record.R 100 w base ok v2 x.f2∧k_Record.R 100 w base ok v3 x.f3:=by
 obtain⟨_,_,rfl,rfl,⟨_,_,rfl,rfl,⟨_,_,rfl,⟨v2,rfl,g2⟩,⟨v3,rfl,g3⟩⟩⟩⟩:=h;exact⟨v2,v3,rfl,g2,g3⟩
theorem k_Diff_mk (w:World) (x:S_Diff) {A2:Option Addr} {c2:Nat} (l2:x.f2.length≤c2) (g2:k_Record.C w A2 x.f2.length x.f2) {A3:Option Addr} {c3:Nat} (l3:x.f3.length≤c3) (g3:k_Record.C w A3 x.f3.length x.f3):k_Diff.K w x [.int .i64 x.f0,.int .i64 x.f1,.slice A2 x.f2.length c2,.slice A3 x.f3.length c3]:=⟨[.int .i64 x.f0],[.int .i64 x.f1,.slice A2 x.f2.length c2,.slice A3 x.f3.length c3],rfl,rfl,⟨[.int .i64 x.f1],[.slice A2 x.f2.length c2,.slice A3 x.f3.length c3],rfl,rfl,⟨[.slice A2 x.f2.length c2],[.slice A3 x.f3.length c3],rfl,⟨A2,c2,rfl,l2,g2⟩,⟨A3,c3,rfl,l3,g3⟩⟩⟩⟩
theorem k_Diff_mkM (w:World) (base:Nat) (ok:Nat→Prop) (x:S_Diff) {v2:Value} (g2:k_Record.R 100 w base ok v2 x.f2) {v3:Value} (g3:k_Record.R 100 w base ok v3 x.f3):k_Diff.M w base ok x [.int .i64 x.f0,.int .i64 x.f1,v2,v3]:=⟨[.int .i64 x.f0],[.int .i64 x.f1,v2,v3],rfl,rfl,⟨[.int .i64 x.f1],[v2,v3],rfl,rfl,⟨[v2],[v3],rfl,⟨v2,rfl,g2⟩,⟨v3,rfl,g3⟩⟩⟩⟩
theorem k_Diff_openF {W:World} {ok:Nat→Prop} {x:S_Diff} {cs:List Value} (h:Kd.FK k_Diff W ok x cs):∃A2 c2 A3 c3,cs=[.int .i64 x.f0,.int .i64 x.f1,.slice A2 x.f2.length c2,.slice A3 x.f3.length c3]∧x.f2.length≤c2∧Kd.F k_Record W ok A2 x.f2.length x.f2∧x.f3.length≤c3∧Kd.F k_Record W ok A3 x.f3.length x.f3:=by
 obtain⟨A2,c2,A3,c3,rfl,l2,_,l3,_⟩:=k_Diff_open (Kd.FK_now h);exact⟨A2,c2,A3,c3,rfl,l2,(fun W' hW=>by obtain⟨A2_,c2_,A3_,c3_,he,l2_,g2_,l3_,g3_⟩:=k_Diff_open (h W' hW);injection (Option.some.inj (show some (Value.slice A2 x.f2.length c2)=some (Value.slice A2_ x.f2.length c2_) from congrArg (fun l=>l[2]?) he)) with ha_ _ _;rw[ha_];exact g2_),l3,(fun W' hW=>by obtain⟨A2_,c2_,A3_,c3_,he,l2_,g2_,l3_,g3_⟩:=k_Diff_open (h W' hW);injection (Option.some.inj (show some (Value.slice A3 x.f3.length c3)=some (Value.slice A3_ x.f3.length c3_) from congrArg (fun l=>l[3]?) he)) with ha_ _ _;rw[ha_];exact g3_)⟩
theorem k_Diff_mkF (W:World) (ok:Nat→Prop) (x:S_Diff) {A2:Option Addr} {c2:Nat} (l2:x.f2.length≤c2) (g2:Kd.F k_Record W ok A2 x.f2.length x.f2) {A3:Option Addr} {c3:Nat} (l3:x.f3.length≤c3) (g3:Kd.F k_Record W ok A3 x.f3.length x.f3):Kd.FK k_Diff W ok x [.int .i64 x.f0,.int .i64 x.f1,.slice A2 x.f2.length c2,.slice A3 x.f3.length c3]:=fun W2 hW=>k_Diff_mk W2 x l2 (g2 W2 hW) l3 (g3 W2 hW)
def rd_TDiff (xs:List S_Diff) (i:Int):S_Diff:=xs.getD i.toNat z_Diff
theorem at_TDiff {w:World} {A:Option Addr} {n:Nat} {xs:List S_Diff} (h:Kd.C k_Diff w A n xs) (i:Int) (h0:0≤i) (h1:i<n):∃ad A2 c2 A3 c3,A=some ad∧w.cell? (ad.add (i.toNat * 4))=some (.int .i64 (rd_TDiff xs i).f0)∧w.cell? ⟨(ad.add (i.toNat * 4)).block,(ad.add (i.toNat * 4)).off+1,none⟩=some (.int .i64 (rd_TDiff xs i).f1)∧w.cell? ⟨(ad.add (i.toNat * 4)).block,(ad.add (i.toNat * 4)).off+2,none⟩=some (.slice A2 (rd_TDiff xs i).f2.length c2)∧w.cell? ⟨(ad.add (i.toNat * 4)).block,(ad.add (i.toNat * 4)).off+3,none⟩=some (.slice A3 (rd_TDiff xs i).f3.length c3)∧(rd_TDiff xs i).f2.length≤c2∧k_Record.C w A2 (rd_TDiff xs i).f2.length (rd_TDiff xs i).f2∧(rd_TDiff xs i).f3.length≤c3∧k_Record.C w A3 (rd_TDiff xs i).f3.length (rd_TDiff xs i).f3:=by
 obtain⟨ad,c,e,_,hK,f⟩:=Kd.C_get h z_Diff i h0 h1;have hc:∀j u,c[j]? = some u→w.cell? (ad.add (i.toNat * 4+j))=some u:=f;obtain⟨A2,c2,A3,c3,rfl,l2,g2,l3,g3⟩:=k_Diff_open hK;exact⟨ad,A2,c2,A3,c3,e,hc 0 _ rfl,by rw[←add_field _ _ 1 (by omega)];exact hc 1 _ rfl,by rw[←add_field _ _ 2 (by omega)];exact hc 2 _ rfl,by rw[←add_field _ _ 3 (by omega)];exact hc 3 _ rfl,l2,g2,l3,g3⟩

def rd_L12 (xs:List (List S24)) (i:Int):(List S24):=xs.getD i.toNat ([]:List S24)
theorem at_L12 {w:World} {A:Option Addr} {n:Nat} {xs:List (List S24)} (h:Kd.C (Kd.slice 24 k24) w A n xs) (i:Int) (h0:0≤i) (h1:i<n):∃ad A0 c0,A=some ad∧w.cell? (ad.add i.toNat)=some (.slice A0 (rd_L12 xs i).length c0)∧(rd_L12 xs i).length≤c0∧k24.C w A0 (rd_L12 xs i).length (rd_L12 xs i):=by
 obtain⟨ad,c,e,_,hK,f⟩:=Kd.C_get h ([]:List S24) i h0 h1;have hc:∀j u,c[j]? = some u→w.cell? (ad.add (i.toNat * 1+j))=some u:=f;obtain⟨A0,c0,rfl,l0,g0⟩:=hK;exact⟨ad,A0,c0,e,by have hq:=hc 0 _ rfl;rwa [Nat.mul_one,Nat.add_zero] at hq,l0,g0⟩

/-! #### struct type 36 -/
structure S_LWorld where
 f0:(List S24)
def z_LWorld:S_LWorld:=⟨([]:List S24)⟩
def k_LWorld:Kd S_LWorld:=Kd.iso (Kd.slice 24 k24) (fun x:S_LWorld=>x.f0)
theorem k_LWorld_open {w:World} {x:S_LWorld} {cs:List Value} (h:k_LWorld.K w x cs):∃A0 c0,cs=[.slice A0 x.f0.length c0]∧x.f0.length≤c0∧k24.C w A0 x.f0.length x.f0:=by
 obtain⟨A0,c0,rfl,l0,g0⟩:=h;exact⟨A0,c0,rfl,l0,g0⟩
theorem k_LWorld_openM {w:World} {base:Nat} {ok:Nat→Prop} {x:S_LWorld} {cs:List Value} (h:k_LWorld.M w base ok x cs):∃v0,cs=[v0]∧k24.R 24 w base ok v0 x.f0:=by
 obtain⟨v0,rfl,g0⟩:=h;exact⟨v0,rfl,g0⟩
theorem k_LWorld_mk (w:World) (x:S_LWorld) {A0:Option Addr} {c0:Nat} (l0:x.f0.length≤c0) (g0:k24.C w A0 x.f0.length x.f0):k_LWorld.K w x [.slice A0 x.f0.length c0]:=⟨A0,c0,rfl,l0,g0⟩
theorem k_LWorld_mkM (w:World) (base:Nat) (ok:Nat→Prop) (x:S_LWorld) {v0:Value} (g0:k24.R 24 w base ok v0 x.f0):k_LWorld.M w base ok x [v0]:=⟨v0,rfl,g0⟩
theorem k_LWorld_openF {W:World} {ok:Nat→Prop} {x:S_LWorld} {cs:List Value} (h:Kd.FK k_LWorld W ok x cs):∃A0 c0,cs=[.slice A0 x.f0.length c0]∧x.f0.length≤c0∧Kd.F k24 W ok A0 x.f0.length x.f0:=by
 obtain⟨A0,c0,rfl,l0,_⟩:=k_LWorld_open (Kd.FK_now h);exact⟨A0,c0,rfl,l0,(fun W' hW=>by obtain⟨A0_,c0_,he,l0_,g0_⟩:=k_LWorld_open (h W' hW);injection (Option.some.inj (show some (Value.slice A0 x.f0.length c0)=some (Value.slice A0_ x.f0.length c0_) from congrArg (fun l=>l[0]?) he)) with ha_ _ _;rw[ha_];exact g0_)⟩
theorem k_LWorld_mkF (W:World) (ok:Nat→Prop) (x:S_LWorld) {A0:Option Addr} {c0:Nat} (l0:x.f0.length≤c0) (g0:Kd.F k24 W ok A0 x.f0.length x.f0):Kd.FK k_LWorld W ok x [.slice A0 x.f0.length c0]:=fun W2 hW=>k_LWorld_mk W2 x l0 (g0 W2 hW)
def rd_TLWorld (xs:List S_LWorld) (i:Int):S_LWorld:=xs.getD i.toNat z_LWorld
theorem at_TLWorld {w:World} {A:Option Addr} {n:Nat} {xs:List S_LWorld} (h:Kd.C k_LWorld w A n xs) (i:Int) (h0:0≤i) (h1:i<n):∃ad A0 c0,A=some ad∧w.cell? (ad.add i.toNat)=some (.slice A0 (rd_TLWorld xs i).f0.length c0)∧(rd_TLWorld xs i).f0.length≤c0∧k24.C w A0 (rd_TLWorld xs i).f0.length (rd_TLWorld xs i).f0:=by
 obtain⟨ad,c,e,_,hK,f⟩:=Kd.C_get h z_LWorld i h0 h1;have hc:∀j u,c[j]? = some u→w.cell? (ad.add (i.toNat * 1+j))=some u:=f;obtain⟨A0,c0,rfl,l0,g0⟩:=k_LWorld_open hK;exact⟨ad,A0,c0,e,by have hq:=hc 0 _ rfl;rwa [Nat.mul_one,Nat.add_zero] at hq,l0,g0⟩

def WF_LRecord (x:S_LRecord):Prop:=(x.f0.size≤maxLen)∧((Lit.int .i64 x.f1).wf=true)∧((Lit.int .i64 x.f2).wf=true)∧x.f3.size≤maxLen
def WF24 (x:S24):Prop:=(x.f0.size≤maxLen)∧((Lit.int .i64 x.f1).wf=true)∧x.f2.length≤maxLen∧∀x_∈x.f2,WF_LRecord x_
def WF_LWorld (x:S_LWorld):Prop:=x.f0.length≤maxLen∧∀x_∈x.f0,WF24 x_
end
section
/-! ### laws_szRecord: function 76 -/
def laws_szRecord.f (a0_0:ByteArray) (a0_1:Int) (a0_2:Int) (a0_3:ByteArray) (a1:Int):Option (Int):=if (wrap64 (a1 - (a0_0.size:Int)))<0 then(some (-1)) else(if (wrap64 ((wrap64 (a1 - (a0_0.size:Int))) - (a0_3.size:Int)))<0 then(some (-1)) else(some (wrap64 ((wrap64 (a1 - (a0_0.size:Int))) - (a0_3.size:Int)))))
theorem laws_szRecord.calls (c:ByteArray) (j:Int) (l:Int) (g:ByteArray) (a1:Int) (r:Int) (w:World) (h:laws_szRecord.f c j l g a1=some r) :
  Calls Tryz.prog 76 #[.agg #[.string c,.int .i64 j,.int .i64 l,.string g],.int .i64 a1] w fun e w'=>e=.returned (.int .i64 r)∧Below w.heap.size w w':=by
 have hu98:=Tryz.underlying98;have HB:=AM (Below.refl w.heap.size w);have H:(if (wrap64 (a1 - (c.size:Int)))<0 then(some (-1)) else(if (wrap64 ((wrap64 (a1 - (c.size:Int))) - (g.size:Int)))<0 then(some (-1)) else(some (wrap64 ((wrap64 (a1 - (c.size:Int))) - (g.size:Int))))))=some r:=h;clear h;by_cases c3:(wrap64 (a1 - (c.size:Int)))<0
 ·rw[if_pos c3] at H;have o:=decide_eq_true c3;clear c3;obtain rfl:=Option.some.inj H;go_enter Tryz.func76,Tryz.ntmps76;go_wp2_with (first|((with_reducible refine gate_dst (N:=2) rfl ?_);refine bE 2 #[.string c,.int .i64 j,.int .i64 l,.string g] 98 ?_;intro m hg w4 hbox hb;have i:=AM (hbox);have n:=bG hg;replace HB:=BS hb;clear hb hbox hg;have s:=cz4 i));go_ret;exact⟨TE,TB⟩
 ·rw[if_neg c3] at H;have o:=decide_eq_false c3;clear c3;by_cases c6:(wrap64 ((wrap64 (a1 - (c.size:Int))) - (g.size:Int)))<0
  ·rw[if_pos c6] at H;have p:=decide_eq_true c6;clear c6;obtain rfl:=Option.some.inj H;go_enter Tryz.func76,Tryz.ntmps76;go_wp2_with (first|((with_reducible refine gate_dst (N:=2) rfl ?_);refine bE 2 #[.string c,.int .i64 j,.int .i64 l,.string g] 98 ?_;intro m hg w7 hbox hb;have i:=AM (hbox);have n:=bG hg;replace HB:=BS hb;clear hb hbox hg;have t:=cz4 i));go_ret;exact⟨TE,TB⟩
  ·rw[if_neg c6] at H;have p:=decide_eq_false c6;clear c6;obtain rfl:=Option.some.inj H;go_enter Tryz.func76,Tryz.ntmps76;go_wp2_with (first|((with_reducible refine gate_dst (N:=2) rfl ?_);refine bE 2 #[.string c,.int .i64 j,.int .i64 l,.string g] 98 ?_;intro m hg w9 hbox hb;have i:=AM (hbox);have n:=bG hg;replace HB:=BS hb;clear hb hbox hg;have q:=cz4 i));go_ret;exact⟨TE,TB⟩
end
section
/-! ### laws_szRecordS: function 31 -/
def laws_szRecordS.l0:Nat→List (S_LRecord)→Int→Int→Option (Int)
 | 0,_,_,_=>none
 | k+1,x0,x1,x5=>if x5<(x0.length:Int) then(if 0≤x5 then((laws_szRecord.f ((rd_TLRecord x0 x5).f0) ((rd_TLRecord x0 x5).f1) ((rd_TLRecord x0 x5).f2) ((rd_TLRecord x0 x5).f3) x1).bind fun c=>(if c<0 then(some (-1)) else(laws_szRecordS.l0 k x0 c (wrap64 (x5+1))))) else(none)) else(some x1)
def laws_szRecordS.f (k:Nat) (l0:List (S_LRecord)) (a1:Int):Option (Int):=if (wrap64 (a1 - (l0.length:Int)))<0 then(some (-1)) else(laws_szRecordS.l0 k l0 (wrap64 (a1 - (l0.length:Int))) 0)
theorem laws_szRecordS.calls (k:Nat) (A0:Option Addr) (c0:Nat) (l0:List (S_LRecord)) (a1:Int) (r:Int) (w:World) (t:Kd.C k_LRecord w A0 l0.length l0) (u:l0.length≤c0) (h:laws_szRecordS.f k l0 a1=some r) :
  Calls Tryz.prog 31 #[.slice A0 l0.length c0,.int .i64 a1] w fun e w'=>e=.returned (.int .i64 r)∧Below w.heap.size w w':=by
 have hu98:=Tryz.underlying98;have v:=AM t;have B:=AM u;clear t u;have HB:=AM (Below.refl w.heap.size w);have H:(if (wrap64 (a1 - (l0.length:Int)))<0 then(some (-1)) else(laws_szRecordS.l0 k l0 (wrap64 (a1 - (l0.length:Int))) 0))=some r:=h;clear h;by_cases c3:(wrap64 (a1 - (l0.length:Int)))<0
 ·rw[if_pos c3] at H;have x:=decide_eq_true c3;clear c3;obtain rfl:=Option.some.inj H;go_enter Tryz.func31,Tryz.ntmps31;go_wp2;go_ret;exact⟨TE,TB⟩
 ·rw[if_neg c3] at H;have x:=decide_eq_false c3;clear c3;have H':=AM H;clear H;go_enter Tryz.func31,Tryz.ntmps31;go_wp2;go_loopg [1,5] k (fun kq v1 v5 w'=>∃(g:Int) (c:Int),v1=.int .i64 g∧v5=.int .i64 c∧Aside0 (laws_szRecordS.l0 kq l0 g c=some r)∧Aside0 (kq≤k)∧Aside0 (Below w.heap.size w w'))
  case atStart=>exact⟨(wrap64 (a1 - (l0.length:Int))),(0),TF,TF,H',⟨Nat.le_refl _⟩,⟨TB⟩⟩
  case round =>
   clear H';obtain⟨g,c,rfl,rfl,HA,HK1,HB⟩:=hrel
   cases gk with
   | zero=>exact absurd HA.out (by simp[laws_szRecordS.l0])
   | succ k1 =>
    have H:=HA.out;clear HA;simp only[laws_szRecordS.l0] at H;by_cases c4:c<(l0.length:Int)
    ·rw[if_pos c4] at H;have y:=decide_eq_true c4;clear c4;obtain⟨c5,H⟩:=ifn H;have A:=decide_eq_true c5;clear c5;obtain⟨l,A6,H⟩:=bnd H;by_cases c7:l<0
     ·rw[if_pos c7] at H;have z:=decide_eq_true c7;clear c7;obtain rfl:=Option.some.inj H;have i:0≤(c:Int):=TD;have j:c<(l0.length:Int):=TD;obtain⟨s,m,n,o,p,q⟩:=at_TLRecord (Kd.C_below v.out HB.out) c i j;cases m;replace i:=eq_true i;replace j:=eq_true j;go_wp2_with (first|((with_reducible refine gate_callee (f:=76) rfl ?_);refine goesL_ (some 23) rfl rfl Tryz.func76 KR rfl #[.agg #[.string ((rd_TLRecord l0 c).f0),.int .i64 ((rd_TLRecord l0 c).f1),.int .i64 ((rd_TLRecord l0 c).f2),.string ((rd_TLRecord l0 c).f3)],.int .i64 g] rfl TA ?_;(with_reducible refine(laws_szRecord.calls ((rd_TLRecord l0 c).f0) ((rd_TLRecord l0 c).f1) ((rd_TLRecord l0 c).f2) ((rd_TLRecord l0 c).f3) g l _ A6.out).mono ?_);rintro e w8 ⟨rfl,hb⟩;refine⟨_,rfl,?_⟩;replace HB:=BS hb;clear hb));go_ret;exact⟨TE,TB⟩
     ·rw[if_neg c7] at H;have z:=decide_eq_false c7;clear c7;have H':=AM H;clear H;have i:0≤(c:Int):=TD;have j:c<(l0.length:Int):=TD;obtain⟨s,m,n,o,p,q⟩:=at_TLRecord (Kd.C_below v.out HB.out) c i j;cases m;replace i:=eq_true i;replace j:=eq_true j;go_wp2_with (first|((with_reducible refine gate_callee (f:=76) rfl ?_);refine goesL_ (some 23) rfl rfl Tryz.func76 KR rfl #[.agg #[.string ((rd_TLRecord l0 c).f0),.int .i64 ((rd_TLRecord l0 c).f1),.int .i64 ((rd_TLRecord l0 c).f2),.string ((rd_TLRecord l0 c).f3)],.int .i64 g] rfl TA ?_;(with_reducible refine(laws_szRecord.calls ((rd_TLRecord l0 c).f0) ((rd_TLRecord l0 c).f1) ((rd_TLRecord l0 c).f2) ((rd_TLRecord l0 c).f3) g l _ A6.out).mono ?_);rintro e w9 ⟨rfl,hb⟩;refine⟨_,rfl,?_⟩;replace HB:=BS hb;clear hb));go_roundg k1
      case measure=>have:=HK1.out;omega
      case rel=>exact⟨(l),(wrap64 (c+1)),TF,TF,H',⟨TM⟩,⟨TB⟩⟩
    ·rw[if_neg c4] at H;have y:=decide_eq_false c4;clear c4;obtain rfl:=Option.some.inj H;go_wp2;go_ret;exact⟨TE,TB⟩
end
section
/-! ### laws_szZone: function 13 -/
def laws_szZone.f (k:Nat) (a0_0:ByteArray) (a0_1:Int) (l0_2:List (S_LRecord)) (a1:Int):Option (Int):=if (wrap64 (a1 - (a0_0.size:Int)))<0 then(some (-1)) else((laws_szRecordS.f k l0_2 (wrap64 (a1 - (a0_0.size:Int)))).bind fun t105=>(if t105<0 then(some (-1)) else(some t105)))
theorem laws_szZone.calls (k:Nat) (i:ByteArray) (n:Int) (j:Option Addr) (l:Nat) (c:List (S_LRecord)) (a1:Int) (r:Int) (w:World) (o:Kd.C k_LRecord w j c.length c) (p:c.length≤l) (h:laws_szZone.f k i n c a1=some r) :
  Calls Tryz.prog 13 #[.agg #[.string i,.int .i64 n,.slice j c.length l],.int .i64 a1] w fun e w'=>e=.returned (.int .i64 r)∧Below w.heap.size w w':=by
 have hu24:=Tryz.underlying24;have q:=AM o;have s:=AM p;clear o p;have HB:=AM (Below.refl w.heap.size w);have H:(if (wrap64 (a1 - (i.size:Int)))<0 then(some (-1)) else((laws_szRecordS.f k c (wrap64 (a1 - (i.size:Int)))).bind fun m=>(if m<0 then(some (-1)) else(some m))))=some r:=h;clear h;by_cases c3:(wrap64 (a1 - (i.size:Int)))<0
 ·rw[if_pos c3] at H;have v:=decide_eq_true c3;clear c3;obtain rfl:=Option.some.inj H;go_enter Tryz.func13,Tryz.ntmps13;go_wp2_with (first|((with_reducible refine gate_dst (N:=2) rfl ?_);refine bE 2 #[.string i,.int .i64 n,.slice j c.length l] 24 ?_;intro t hg w4 hbox hb;have g:=AM (hbox);have u:=bG hg;replace HB:=BS hb;clear hb hbox hg;have z:=cz3 g));go_ret;exact⟨TE,TB⟩
 ·rw[if_neg c3] at H;have v:=decide_eq_false c3;clear c3;obtain⟨m,A6,H⟩:=bnd H;by_cases c7:m<0
  ·rw[if_pos c7] at H;have x:=decide_eq_true c7;clear c7;obtain rfl:=Option.some.inj H;go_enter Tryz.func13,Tryz.ntmps13;go_wp2_with (first|((with_reducible refine gate_dst (N:=2) rfl ?_);refine bE 2 #[.string i,.int .i64 n,.slice j c.length l] 24 ?_;intro t hg w8 hbox hb;have g:=AM (hbox);have u:=bG hg;replace HB:=BS hb;clear hb hbox hg;have A:=cz3 g)|((with_reducible refine gate_callee (f:=31) rfl ?_);refine goesL_ (some 15) rfl rfl Tryz.func31 KR rfl #[.slice j c.length l,.int .i64 (wrap64 (a1 - (i.size:Int)))] rfl TA ?_;(with_reducible refine(laws_szRecordS.calls k _ _ c (wrap64 (a1 - (i.size:Int))) m _ ?side1 ?side2 A6.out).mono ?_);(case side1=>exact CW ((Kd.C_below q.out HB.out)));(case side2=>exact s.out);rintro e B ⟨rfl,hb⟩;refine⟨_,rfl,?_⟩;replace g:=KB g hb;replace HB:=BS hb;clear hb));go_ret;exact⟨TE,TB⟩
  ·rw[if_neg c7] at H;have x:=decide_eq_false c7;clear c7;obtain rfl:=Option.some.inj H;go_enter Tryz.func13,Tryz.ntmps13;go_wp2_with (first|((with_reducible refine gate_dst (N:=2) rfl ?_);refine bE 2 #[.string i,.int .i64 n,.slice j c.length l] 24 ?_;intro t hg D hbox hb;have g:=AM (hbox);have u:=bG hg;replace HB:=BS hb;clear hb hbox hg;have y:=cz3 g)|((with_reducible refine gate_callee (f:=31) rfl ?_);refine goesL_ (some 15) rfl rfl Tryz.func31 KR rfl #[.slice j c.length l,.int .i64 (wrap64 (a1 - (i.size:Int)))] rfl TA ?_;(with_reducible refine(laws_szRecordS.calls k _ _ c (wrap64 (a1 - (i.size:Int))) m _ ?side1 ?side2 A6.out).mono ?_);(case side1=>exact CW ((Kd.C_below q.out HB.out)));(case side2=>exact s.out);rintro e E ⟨rfl,hb⟩;refine⟨_,rfl,?_⟩;replace g:=KB g hb;replace HB:=BS hb;clear hb));go_ret;exact⟨TE,TB⟩
end
section
/-! ### laws_szZoneS: function 65 -/
def laws_szZoneS.l0:Nat→List (S24)→Int→Int→Option (Int)
 | 0,_,_,_=>none
 | k+1,x0,x1,x5=>if x5<(x0.length:Int) then(if 0≤x5 then((laws_szZone.f k ((rd_T24 x0 x5).f0) ((rd_T24 x0 x5).f1) ((rd_T24 x0 x5).f2) x1).bind fun t1153=>(if t1153<0 then(some (-1)) else(laws_szZoneS.l0 k x0 t1153 (wrap64 (x5+1))))) else(none)) else(some x1)
def laws_szZoneS.f (k:Nat) (l0:List (S24)) (a1:Int):Option (Int):=if (wrap64 (a1 - (l0.length:Int)))<0 then(some (-1)) else(laws_szZoneS.l0 k l0 (wrap64 (a1 - (l0.length:Int))) 0)
theorem laws_szZoneS.calls (k:Nat) (A0:Option Addr) (c0:Nat) (l0:List (S24)) (a1:Int) (r:Int) (w:World) (z:Kd.C k24 w A0 l0.length l0) (A:l0.length≤c0) (h:laws_szZoneS.f k l0 a1=some r) :
  Calls Tryz.prog 65 #[.slice A0 l0.length c0,.int .i64 a1] w fun e w'=>e=.returned (.int .i64 r)∧Below w.heap.size w w':=by
 have hu24:=Tryz.underlying24;have B:=AM z;have I:=AM A;clear z A;have HB:=AM (Below.refl w.heap.size w);have H:(if (wrap64 (a1 - (l0.length:Int)))<0 then(some (-1)) else(laws_szZoneS.l0 k l0 (wrap64 (a1 - (l0.length:Int))) 0))=some r:=h;clear h;by_cases c3:(wrap64 (a1 - (l0.length:Int)))<0
 ·rw[if_pos c3] at H;have D:=decide_eq_true c3;clear c3;obtain rfl:=Option.some.inj H;go_enter Tryz.func65,Tryz.ntmps65;go_wp2;go_ret;exact⟨TE,TB⟩
 ·rw[if_neg c3] at H;have D:=decide_eq_false c3;clear c3;have H':=AM H;clear H;go_enter Tryz.func65,Tryz.ntmps65;go_wp2;go_loopg [1,5] k (fun kq v1 v5 w'=>∃(s:Int) (c:Int),v1=.int .i64 s∧v5=.int .i64 c∧Aside0 (laws_szZoneS.l0 kq l0 s c=some r)∧Aside0 (kq≤k)∧Aside0 (Below w.heap.size w w'))
  case atStart=>exact⟨(wrap64 (a1 - (l0.length:Int))),(0),TF,TF,H',⟨Nat.le_refl _⟩,⟨TB⟩⟩
  case round =>
   clear H';obtain⟨s,c,rfl,rfl,HA,HK1,HB⟩:=hrel
   cases gk with
   | zero=>exact absurd HA.out (by simp[laws_szZoneS.l0])
   | succ k1 =>
    have H:=HA.out;clear HA;simp only[laws_szZoneS.l0] at H;by_cases c4:c<(l0.length:Int)
    ·rw[if_pos c4] at H;have E:=decide_eq_true c4;clear c4;obtain⟨c5,H⟩:=ifn H;have G:=decide_eq_true c5;clear c5;obtain⟨v,A6,H⟩:=bnd H;by_cases c7:v<0
     ·rw[if_pos c7] at H;have F:=decide_eq_true c7;clear c7;obtain rfl:=Option.some.inj H;have n:0≤(c:Int):=TD;have o:c<(l0.length:Int):=TD;obtain⟨y,t,u,x,g,i,j,l,m⟩:=at_T24 B.out c n o;cases x;replace g:=hBc HB g;replace i:=hBc HB i;replace j:=hBc HB j;have p:=AM m;have q:=AM l;clear m l;replace n:=eq_true n;replace o:=eq_true o;go_wp2_with (first|((with_reducible refine gate_callee (f:=13) rfl ?_);refine goesL_ (some 23) rfl rfl Tryz.func13 KR rfl #[.agg #[.string ((rd_T24 l0 c).f0),.int .i64 ((rd_T24 l0 c).f1),.slice t ((rd_T24 l0 c).f2).length u],.int .i64 s] rfl TA ?_;(with_reducible refine(laws_szZone.calls k1 ((rd_T24 l0 c).f0) ((rd_T24 l0 c).f1) _ _ ((rd_T24 l0 c).f2) s v _ ?side1 ?side2 A6.out).mono ?_);(case side1=>exact CW ((Kd.C_below p.out HB.out)));(case side2=>exact q.out);rintro e w8 ⟨rfl,hb⟩;refine⟨_,rfl,?_⟩;replace HB:=BS hb;clear hb));go_ret;exact⟨TE,TB⟩
     ·rw[if_neg c7] at H;have F:=decide_eq_false c7;clear c7;have H':=AM H;clear H;have n:0≤(c:Int):=TD;have o:c<(l0.length:Int):=TD;obtain⟨y,t,u,x,g,i,j,l,m⟩:=at_T24 B.out c n o;cases x;replace g:=hBc HB g;replace i:=hBc HB i;replace j:=hBc HB j;have p:=AM m;have q:=AM l;clear m l;replace n:=eq_true n;replace o:=eq_true o;go_wp2_with (first|((with_reducible refine gate_callee (f:=13) rfl ?_);refine goesL_ (some 23) rfl rfl Tryz.func13 KR rfl #[.agg #[.string ((rd_T24 l0 c).f0),.int .i64 ((rd_T24 l0 c).f1),.slice t ((rd_T24 l0 c).f2).length u],.int .i64 s] rfl TA ?_;(with_reducible refine(laws_szZone.calls k1 ((rd_T24 l0 c).f0) ((rd_T24 l0 c).f1) _ _ ((rd_T24 l0 c).f2) s v _ ?side1 ?side2 A6.out).mono ?_);(case side1=>exact CW ((Kd.C_below p.out HB.out)));(case side2=>exact q.out);rintro e w9 ⟨rfl,hb⟩;refine⟨_,rfl,?_⟩;replace HB:=BS hb;clear hb));go_roundg k1
      case measure=>have:=HK1.out;omega
      case rel=>exact⟨(v),(wrap64 (c+1)),TF,TF,H',⟨TM⟩,⟨TB⟩⟩
    ·rw[if_neg c4] at H;have E:=decide_eq_false c4;clear c4;obtain rfl:=Option.some.inj H;go_wp2;go_ret;exact⟨TE,TB⟩
end
section
/-! ### laws_szWorld: function 18 -/
def laws_szWorld.f (k:Nat) (l0_0:List (S24)) (a1:Int):Option (Int):=(laws_szZoneS.f k l0_0 a1).bind fun t1155=>(if t1155<0 then(some (-1)) else(some t1155))
theorem laws_szWorld.calls (k:Nat) (j:Option Addr) (l:Nat) (g:List (S24)) (a1:Int) (r:Int) (w:World) (m:Kd.C k24 w j g.length g) (n:g.length≤l) (h:laws_szWorld.f k g a1=some r) :
  Calls Tryz.prog 18 #[.agg #[.slice j g.length l],.int .i64 a1] w fun e w'=>e=.returned (.int .i64 r)∧Below w.heap.size w w':=by
 have hu36:=Tryz.underlying36;have o:=AM m;have p:=AM n;clear m n;have HB:=AM (Below.refl w.heap.size w);have H:((laws_szZoneS.f k g a1).bind fun i=>(if i<0 then(some (-1)) else(some i)))=some r:=h;clear h;obtain⟨i,A3,H⟩:=bnd H;by_cases c4:i<0
 ·rw[if_pos c4] at H;have t:=decide_eq_true c4;clear c4;obtain rfl:=Option.some.inj H;go_enter Tryz.func18,Tryz.ntmps18;go_wp2_with (first|((with_reducible refine gate_dst (N:=2) rfl ?_);refine bE 2 #[.slice j g.length l] 36 ?_;intro q hg w5 hbox hb;have c:=AM (hbox);have s:=bG hg;replace HB:=BS hb;clear hb hbox hg;have u:=cz1 c)|((with_reducible refine gate_callee (f:=65) rfl ?_);refine goesL_ (some 8) rfl rfl Tryz.func65 KR rfl #[.slice j g.length l,.int .i64 a1] rfl TA ?_;(with_reducible refine(laws_szZoneS.calls k _ _ g a1 i _ ?side1 ?side2 A3.out).mono ?_);(case side1=>exact CW ((Kd.C_below o.out HB.out)));(case side2=>exact p.out);rintro e w7 ⟨rfl,hb⟩;refine⟨_,rfl,?_⟩;replace c:=KB c hb;replace HB:=BS hb;clear hb));go_ret;exact⟨TE,TB⟩
 ·rw[if_neg c4] at H;have t:=decide_eq_false c4;clear c4;obtain rfl:=Option.some.inj H;go_enter Tryz.func18,Tryz.ntmps18;go_wp2_with (first|((with_reducible refine gate_dst (N:=2) rfl ?_);refine bE 2 #[.slice j g.length l] 36 ?_;intro q hg w8 hbox hb;have c:=AM (hbox);have s:=bG hg;replace HB:=BS hb;clear hb hbox hg;have v:=cz1 c)|((with_reducible refine gate_callee (f:=65) rfl ?_);refine goesL_ (some 8) rfl rfl Tryz.func65 KR rfl #[.slice j g.length l,.int .i64 a1] rfl TA ?_;(with_reducible refine(laws_szZoneS.calls k _ _ g a1 i _ ?side1 ?side2 A3.out).mono ?_);(case side1=>exact CW ((Kd.C_below o.out HB.out)));(case side2=>exact p.out);rintro e x ⟨rfl,hb⟩;refine⟨_,rfl,?_⟩;replace c:=KB c hb;replace HB:=BS hb;clear hb));go_ret;exact⟨TE,TB⟩
end
section
/-! ### laws_toRecord: function 79 -/
def laws_toRecord.f (a0_0:ByteArray) (a0_1:Int) (a0_2:Int) (a0_3:ByteArray):Option (ByteArray × Int × Int × ByteArray):=some (a0_0,a0_1,a0_2,a0_3)
theorem laws_toRecord.calls (j:ByteArray) (l:Int) (m:Int) (n:ByteArray) (r1:ByteArray) (r2:Int) (r3:Int) (r4:ByteArray) (w:World) (h:laws_toRecord.f j l m n=some (r1,r2,r3,r4)) :
  Calls Tryz.prog 79 #[.agg #[.string j,.int .i64 l,.int .i64 m,.string n]] w fun e w'=>e=.returned (.agg #[.string r1,.int .i64 r2,.int .i64 r3,.string r4])∧Below w.heap.size w w':=by
 have hu98:=Tryz.underlying98;have hu100:=Tryz.underlying100;have HB:=AM (Below.refl w.heap.size w);have H:(some (j,l,m,n))=some (r1,r2,r3,r4):=h;clear h;simp only[Option.some.injEq,Prod.mk.injEq] at H;obtain⟨rfl,rfl,rfl,rfl⟩:=H;go_enter Tryz.func79,Tryz.ntmps79;go_wp2_with (first|((with_reducible refine gate_dst (N:=1) rfl ?_);refine bE 1 #[.string j,.int .i64 l,.int .i64 m,.string n] 98 ?_;intro x hg w2 hbox hb;have c:=AM (hbox);have y:=bG hg;replace HB:=BS hb;clear hb hbox hg)|((with_reducible refine gate_dst (N:=2) rfl ?_);refine bE 2 #[.string (⟨#[]⟩:ByteArray),.int .i64 0,.int .i64 0,.string (⟨#[]⟩:ByteArray)] 100 ?_;intro s hg w3 hbox hb;have i:=AM (hbox);have z:=bG hg;replace HB:=BS hb;have o:=bN c hg;have t:=bM c hg;replace c:=KB c hb;clear hb hbox hg)|((with_reducible refine gate_dst (N:=3) rfl ?_);refine bE 3 #[.string (⟨#[]⟩:ByteArray),.int .i64 0,.int .i64 0,.string (⟨#[]⟩:ByteArray)] 100 ?_;intro A hg w4 hbox hb;have u:=AM (hbox);have B:=bG hg;replace HB:=BS hb;have p:=bN c hg;have v:=bM c hg;replace c:=KB c hb;have g:=bN i hg;have q:=bM i hg;replace i:=KB i hb;clear hb hbox hg;obtain⟨D,E⟩:=nn o;obtain⟨F,G⟩:=nn p;have I:=cz4 c;obtain⟨J,K⟩:=nn q;have M:=cz4 u;have C:=cz4 i));refine bodyPost_ret (results_cell_row rfl _ _ s 100 #[.string j,.int .i64 l,.int .i64 m,.string n] (0,0) _ rfl (by(with_reducible repeat (first|refine blk_drewN ?_ _|refine blk_drew ?_|refine blk_alloc ?_ _));refine blk_put (cs:=#[.string j,.int .i64 l,.int .i64 m,.string (⟨#[]⟩:ByteArray)]) ?_ 3 _ rfl;(with_reducible repeat (first|refine blk_drewN ?_ _|refine blk_drew ?_|refine blk_alloc ?_ _));refine blk_put (cs:=#[.string j,.int .i64 l,.int .i64 0,.string (⟨#[]⟩:ByteArray)]) ?_ 2 _ rfl;(with_reducible repeat (first|refine blk_drewN ?_ _|refine blk_drew ?_|refine blk_alloc ?_ _));refine blk_put (cs:=#[.string j,.int .i64 0,.int .i64 0,.string (⟨#[]⟩:ByteArray)]) ?_ 1 _ rfl;(with_reducible repeat (first|refine blk_drewN ?_ _|refine blk_drew ?_|refine blk_alloc ?_ _));refine blk_put (cs:=#[.string (⟨#[]⟩:ByteArray),.int .i64 0,.int .i64 0,.string (⟨#[]⟩:ByteArray)]) ?_ 0 _ rfl;(with_reducible repeat (first|refine blk_drewN ?_ _|refine blk_drew ?_|refine blk_alloc ?_ _));refine blk_far ?_ g.out _;(with_reducible repeat (first|refine blk_drewN ?_ _|refine blk_drew ?_|refine blk_alloc ?_ _));refine blk_far ?_ g.out _;(with_reducible repeat (first|refine blk_drewN ?_ _|refine blk_drew ?_|refine blk_alloc ?_ _));refine blk_far ?_ g.out _;(with_reducible repeat (first|refine blk_drewN ?_ _|refine blk_drew ?_|refine blk_alloc ?_ _));refine blk_far ?_ g.out _;(with_reducible repeat (first|refine blk_drewN ?_ _|refine blk_drew ?_|refine blk_alloc ?_ _));exact i.out) Tryz.underlying100 rfl KR) rfl ?_;exact⟨TE,TB⟩
end
section
/-! ### laws_toRecordS: function 33 -/
def laws_toRecordS.l0:Nat→List (S_LRecord)→List (S_Record)→Int→Option ((List (S_Record)))
 | 0,_,_,_=>none
 | k+1,x0,x3,x4=>if x4<(x0.length:Int) then(if 0≤x4 then((laws_toRecord.f ((rd_TLRecord x0 x4).f0) ((rd_TLRecord x0 x4).f1) ((rd_TLRecord x0 x4).f2) ((rd_TLRecord x0 x4).f3)).bind fun bt113=>(if x4<(x3.length:Int) then(laws_toRecordS.l0 k x0 (x3.set (x4:Int).toNat (⟨bt113.1,bt113.2.1,bt113.2.2.1,bt113.2.2.2⟩:S_Record)) (wrap64 (x4+1))) else(none))) else(none)) else(some x3)
def laws_toRecordS.f (k:Nat) (l0:List (S_LRecord)):Option ((List (S_Record))):=if 0≤(l0.length:Int) then(if ((l0.length:Int):Int).toNat≤5864062014805 then(laws_toRecordS.l0 k l0 (List.replicate ((l0.length:Int):Int).toNat z_Record) 0) else(none)) else(none)
theorem laws_toRecordS.calls (k:Nat) (A0:Option Addr) (c0:Nat) (l0:List (S_LRecord)) (r:List (S_Record)) (w:World) (X:Kd.C k_LRecord w A0 l0.length l0) (Y:l0.length≤c0) (h:laws_toRecordS.f k l0=some r) :
  Calls Tryz.prog 33 #[.slice A0 l0.length c0] w fun e w'=>∃v0_:Value,e=.returned (v0_)∧Kd.R k_Record 100 w' w.heap.size (fun _=>True) v0_ r∧Below w.heap.size w w':=by
 have hu98:=Tryz.underlying98;have hu100:=Tryz.underlying100;have ak:=AM X;have au:=AM Y;clear X Y;have HB:=AM (Below.refl w.heap.size w);have H:(if 0≤(l0.length:Int) then(if ((l0.length:Int):Int).toNat≤5864062014805 then(laws_toRecordS.l0 k l0 (List.replicate ((l0.length:Int):Int).toNat z_Record) 0) else(none)) else(none))=some r:=h;clear h;obtain⟨c2,H⟩:=ifn H;have am:=eq_true c2;have an:=decide_eq_true c2;clear c2;obtain⟨c3,H⟩:=ifn H;have ao:=eq_true c3;have ap:=decide_eq_true c3;clear c3;obtain⟨I,l⟩:∃y_:List (S_Record),y_=(List.replicate ((l0.length:Int):Int).toNat z_Record):=⟨_,rfl⟩
 replace H:(laws_toRecordS.l0 k l0 I 0)=some r:=by first|(rw[l];with_reducible exact H)|(have H2_:=(Option.bind_some _ _).symm.trans H;rw[l];with_reducible exact H2_)|(have H2_:=(Option.bind_some _ _).symm.trans H;with_reducible exact H2_)|with_reducible exact H|(rw[l];exact H)|exact H
 have Ny109:=AM l;clear l;have H':=AM H;clear H;go_enter Tryz.func33,Tryz.ntmps33;go_wp2_with (first|((with_reducible refine gate_dst (N:=7) rfl ?_);refine Kd.R_make k_Record _ 100 rfl (N:=7) rfl 28 _ _ rfl (l0.length:Int) rfl rfl Tryz.underlying28 (.agg #[(.string ⟨#[]⟩),(.int .i64 0),(.int .i64 0),(.string ⟨#[]⟩)]) 48 info100 rfl (by decide) (by omega) z_Record (ok:=fun _=>True) (okp:=fun _=>True) (k_Record_mkM _ _ _ z_Record ) (fun _ hk=>hk) trivial TD (Nat.le_trans (Nat.mul_le_mul_right _ (TD:(l0.length:Int).toNat≤5864062014805)) (by omega)) (Below.refl _ _) (Nat.le_refl _) ?_;intro Z w4 y hb hg_ hnew_;clear hg_ hnew_;(first|rw[←Ny109.out] at y|(simp only[Int.reduceToNat] at y;rw[←Ny109.out] at y));have O:=RL y;replace HB:=BS hb;clear hb y));go_loopg [4] k (fun kq v4 w'=>∃(g:List (S_Record)) (c:Int),v4=.int .i64 c∧Aside0 (laws_toRecordS.l0 kq l0 g c=some r)∧Aside0 (kq≤k)∧Aside0 (Kd.R k_Record 100 w' w.heap.size (fun _=>True) Z g)∧Aside0 (Below w.heap.size w w'))
 case atStart=>exact⟨(I),(0),TF,H',⟨Nat.le_refl _⟩,RW O,⟨TB⟩⟩
 case round =>
  clear H';obtain⟨g,c,rfl,HA,HK1,i,HB⟩:=hrel
  cases gk with
  | zero=>exact absurd HA.out (by simp[laws_toRecordS.l0])
  | succ k1 =>
   have H:=HA.out;clear HA;simp only[laws_toRecordS.l0] at H;by_cases c6:c<(l0.length:Int)
   ·rw[if_pos c6] at H;have aa:=decide_eq_true c6;clear c6;obtain⟨c7,H⟩:=ifn H;have aq:=decide_eq_true c7;clear c7;obtain⟨⟨o,q,s,u⟩,A8,H⟩:=bnd H
    try dsimp only at H
    obtain⟨c9,H⟩:=ifn H;have ar:=decide_eq_true c9;clear c9;obtain⟨z,m⟩:∃y_:List (S_Record),y_=(g.set (c:Int).toNat (⟨o,q,s,u⟩:S_Record)):=⟨_,rfl⟩
    replace H:(laws_toRecordS.l0 k1 l0 z (wrap64 (c+1)))=some r:=by first|(rw[m];with_reducible exact H)|(have H2_:=(Option.bind_some _ _).symm.trans H;rw[m];with_reducible exact H2_)|(have H2_:=(Option.bind_some _ _).symm.trans H;with_reducible exact H2_)|with_reducible exact H|(rw[m];exact H)|exact H
    have Ny117:=AM m;clear m;have H':=AM H;clear H;have A:0≤(c:Int):=TD;have B:c<(l0.length:Int):=TD;obtain⟨al,ab,ac,ad,ae,af⟩:=at_TLRecord (Kd.C_below ak.out HB.out) c A B;cases ab;replace A:=eq_true A;replace B:=eq_true B;go_wp2_with (first|((with_reducible refine gate_callee (f:=79) rfl ?_);refine goesL_ (some 20) rfl rfl Tryz.func79 KR rfl #[.agg #[.string ((rd_TLRecord l0 c).f0),.int .i64 ((rd_TLRecord l0 c).f1),.int .i64 ((rd_TLRecord l0 c).f2),.string ((rd_TLRecord l0 c).f3)]] rfl TA ?_;(with_reducible refine(laws_toRecord.calls ((rd_TLRecord l0 c).f0) ((rd_TLRecord l0 c).f1) ((rd_TLRecord l0 c).f2) ((rd_TLRecord l0 c).f3) o q s u _ A8.out).mono ?_);rintro e n ⟨rfl,hb⟩;refine⟨_,rfl,?_⟩;replace i:=RB i hb;replace HB:=BS hb;clear hb;have U:0≤(c:Int):=TD;have V:(c:Int)<((g.length:Int):Int):=TD;obtain⟨go10,J,eo10,K,gl10,cl10,M⟩:=Kd.R_form i.out (by omega);(first|cases eo10|(injection eo10 with ea_ en_ ec_;(first|subst ea_|(injection ea_ with ea_;subst ea_));subst ec_;clear en_));have x:=AM K;have GG10:=AM M;clear K gl10 M;obtain⟨ce10,hcl10,hM10,hcc10,hfr10⟩:=Kd.R_elem i.out z_Record (c:Int) U V;obtain rfl:=k_Record_openM hM10;have ag:n.cell? ⟨go10,(c:Int).toNat * 4,none⟩=some (.string ((rd_TRecord g c).f0)):=hcc10 0 _ rfl;have ah:n.cell? ⟨go10,(c:Int).toNat * 4+1,none⟩=some (.int .i64 ((rd_TRecord g c).f1)):=hcc10 1 _ rfl;have ai:n.cell? ⟨go10,(c:Int).toNat * 4+2,none⟩=some (.int .i64 ((rd_TRecord g c).f2)):=hcc10 2 _ rfl;have aj:n.cell? ⟨go10,(c:Int).toNat * 4+3,none⟩=some (.string ((rd_TRecord g c).f3)):=hcc10 3 _ rfl;have hf10_0:n.frozen? ⟨go10,(c:Int).toNat * 4,none⟩=false:=hfr10 0;have hf10_1:n.frozen? ⟨go10,(c:Int).toNat * 4+1,none⟩=false:=hfr10 1;have hf10_2:n.frozen? ⟨go10,(c:Int).toNat * 4+2,none⟩=false:=hfr10 2;have hf10_3:n.frozen? ⟨go10,(c:Int).toNat * 4+3,none⟩=false:=hfr10 3;clear hcl10 hcc10 hfr10 hM10;replace U:=eq_true U;replace V:=eq_true V;have HX12:=AM (show Kd.R k_Record 100 n w.heap.size (fun _=>True) (.slice (some ⟨go10,0,none⟩) g.length J) g from(RW i).out);obtain⟨ce12,hcl12,hM12,hcc12,hfr12⟩:=Kd.R_elem HX12.out z_Record (c:Int) TD (by have h_:(c:Int)<((g.length:Int):Int):=TD;first|exact h_|(have e_:=(Kd.R_reads' i.out).1;omega)|simpa using h_);obtain rfl:=k_Record_openM hM12;have HP12:=Kd.R_seg HX12.out (c:Int) TD (by have h_:(c:Int)<((g.length:Int):Int):=TD;first|exact h_|(have e_:=(Kd.R_reads' i.out).1;omega)|simpa using h_) (seg:=[.string o,.int .i64 q,.int .i64 s,.string u]) (j:=0) hcl12 hcc12 (show 4≤4 from by decide) (x':=(⟨o,q,s,u⟩:S_Record)) (k_Record_mkM _ _ _ (⟨o,q,s,u⟩:S_Record) ) (fun _ hk=>hk);have D:=hcc12 0 _ rfl;(try simp only[show(k_Record).sz=4 from rfl,Nat.mul_one,Nat.add_zero] at D);have hf12_0:=hfr12 0;(try simp only[show(k_Record).sz=4 from rfl,Nat.mul_one,Nat.add_zero] at hf12_0);have E:=hcc12 1 _ rfl;(try simp only[show(k_Record).sz=4 from rfl,Nat.mul_one,Nat.add_zero] at E);have hf12_1:=hfr12 1;(try simp only[show(k_Record).sz=4 from rfl,Nat.mul_one,Nat.add_zero] at hf12_1);have F:=hcc12 2 _ rfl;(try simp only[show(k_Record).sz=4 from rfl,Nat.mul_one,Nat.add_zero] at F);have hf12_2:=hfr12 2;(try simp only[show(k_Record).sz=4 from rfl,Nat.mul_one,Nat.add_zero] at hf12_2);have G:=hcc12 3 _ rfl;(try simp only[show(k_Record).sz=4 from rfl,Nat.mul_one,Nat.add_zero] at G);have hf12_3:=hfr12 3;(try simp only[show(k_Record).sz=4 from rfl,Nat.mul_one,Nat.add_zero] at hf12_3);clear hcl12 hcc12 hfr12 hM12)|((with_reducible refine gate_store (t:=100) (p:=21) rfl ?_);refine store_event (t:=100) (p:=21) (v:=?vo_w13) (w1:=((((n.setCell ⟨go10,(c:Int).toNat * 4,none⟩ (.string o)).setCell ⟨go10,(c:Int).toNat * 4+1,none⟩ (.int .i64 q)).setCell ⟨go10,(c:Int).toNat * 4+2,none⟩ (.int .i64 s)).setCell ⟨go10,(c:Int).toNat * 4+3,none⟩ (.string u))) ?hg ?ho ?hn ?hr ?_;(case ho=>rfl);(case hg=>rfl);(case hn=>rfl);(case hr=>first|(go_simp;done)|(go_simp;rfl));intro W hw;have hg:n.grownBy W (some go10):=(by rw[hw];exact HP12.2);have hp_:Kd.R k_Record 100 W w.heap.size (fun _=>True) (.slice (some ⟨go10,0,none⟩) g.length J) z:=(by rw[hw,Ny117.out];exact HP12.1);clear HP12;replace i:=AM (hp_);replace HB:=AM ((by rw[hw];exact below_set (below_set (below_set (below_set (HB.out) x.out) x.out) x.out) x.out:Below w.heap.size w W));clear hg hw hp_));go_roundg k1
    case measure=>have:=HK1.out;omega
    case rel=>exact⟨(z),(wrap64 (c+1)),TF,H',⟨TM⟩,RW i,⟨TB⟩⟩
   ·rw[if_neg c6] at H;have aa:=decide_eq_false c6;clear c6;obtain rfl:=Option.some.inj H;go_wp2;go_ret;exact⟨_,TE,(RW i).out,TB⟩
end
section
/-! ### laws_toZone: function 15 -/
def laws_toZone.f (k:Nat) (a0_0:ByteArray) (a0_1:Int) (l0_2:List (S_LRecord)):Option (ByteArray × Int × (List (S_Record))):=(laws_toRecordS.f k l0_2).bind fun t121=>(some (a0_0,a0_1,t121))
theorem laws_toZone.calls (k:Nat) (i:ByteArray) (l:Int) (v:Option Addr) (x:Nat) (j:List (S_LRecord)) (r1:ByteArray) (r2:Int) (r3:List (S_Record)) (w:World) (y:Kd.C k_LRecord w v j.length j) (z:j.length≤x) (h:laws_toZone.f k i l j=some (r1,r2,r3)) :
  Calls Tryz.prog 15 #[.agg #[.string i,.int .i64 l,.slice v j.length x]] w fun e w'=>∃v2_:Value,e=.returned (.agg #[.string r1,.int .i64 r2,v2_])∧Kd.R k_Record 100 w' w.heap.size (fun _=>True) v2_ r3∧Below w.heap.size w w':=by
 have hu24:=Tryz.underlying24;have hu30:=Tryz.underlying30;have E:=AM y;have F:=AM z;clear y z;have HB:=AM (Below.refl w.heap.size w);have H:((laws_toRecordS.f k j).bind fun n=>(some (i,l,n)))=some (r1,r2,r3):=h;clear h;obtain⟨n,A2,H⟩:=bnd H;simp only[Option.some.injEq,Prod.mk.injEq] at H;obtain⟨rfl,rfl,rfl⟩:=H;go_enter Tryz.func15,Tryz.ntmps15;go_wp2_with (first|((with_reducible refine gate_dst (N:=1) rfl ?_);refine bE 1 #[.string i,.int .i64 l,.slice v j.length x] 24 ?_;intro M hg w3 hbox hb;have c:=AM (hbox);have O:=bG hg;replace HB:=BS hb;clear hb hbox hg)|((with_reducible refine gate_dst (N:=2) rfl ?_);refine bE 2 #[.string (⟨#[]⟩:ByteArray),.int .i64 0,.slice none 0 0] 30 ?_;intro o hg w4 hbox hb;have g:=AM (hbox);have U:=bG hg;replace HB:=BS hb;have q:=bN c hg;have G:=bM c hg;replace c:=KB c hb;clear hb hbox hg)|((with_reducible refine gate_dst (N:=3) rfl ?_);refine bE 3 #[.string (⟨#[]⟩:ByteArray),.int .i64 0,.slice none 0 0] 30 ?_;intro I hg w5 hbox hb;have m:=AM (hbox);have V:=bG hg;replace HB:=BS hb;have s:=bN c hg;have J:=bM c hg;replace c:=KB c hb;have t:=bN g hg;have u:=bM g hg;replace g:=KB g hb;clear hb hbox hg;obtain⟨Z,aa⟩:=nn q;obtain⟨ab,ac⟩:=nn s;have ad:=cz3 c;obtain⟨ae,af⟩:=nn u;have W:=cz3 m)|((with_reducible refine gate_callee (f:=33) rfl ?_);refine goesL_ (some 12) rfl rfl Tryz.func33 KR rfl #[.slice v j.length x] rfl TA ?_;(with_reducible refine(laws_toRecordS.calls k _ _ j n _ ?side1 ?side2 A2.out).mono ?_);(case side1=>exact Kd.C_below E.out TB);(case side2=>exact F.out);rintro e ah ⟨ag,rfl,K,hb⟩;refine⟨_,rfl,?_⟩;have A:=RL K;replace c:=KF c hb;replace g:=KF g hb;replace m:=KP m #[.string i,.int .i64 l,.slice none 0 0] hb;replace HB:=BS hb;clear hb;(try clear K);obtain⟨B,D,eo12⟩:=Kd.R_slice A.out;subst eo12;have X:=cz3 m;have Y:=cz3 g));refine bodyPost_ret (results_cell_row rfl _ _ o 30 #[.string i,.int .i64 l,.slice B n.length D] (0,0) _ rfl (by(with_reducible repeat (first|refine blk_drewN ?_ _|refine blk_drew ?_|refine blk_alloc ?_ _));refine blk_put (cs:=#[.string i,.int .i64 l,.slice none 0 0]) ?_ 2 _ rfl;(with_reducible repeat (first|refine blk_drewN ?_ _|refine blk_drew ?_|refine blk_alloc ?_ _));refine blk_put (cs:=#[.string i,.int .i64 0,.slice none 0 0]) ?_ 1 _ rfl;(with_reducible repeat (first|refine blk_drewN ?_ _|refine blk_drew ?_|refine blk_alloc ?_ _));refine blk_put (cs:=#[.string (⟨#[]⟩:ByteArray),.int .i64 0,.slice none 0 0]) ?_ 0 _ rfl;(with_reducible repeat (first|refine blk_drewN ?_ _|refine blk_drew ?_|refine blk_alloc ?_ _));refine blk_far ?_ t.out _;(with_reducible repeat (first|refine blk_drewN ?_ _|refine blk_drew ?_|refine blk_alloc ?_ _));exact g.out) Tryz.underlying30 rfl KR) rfl ?_;exact⟨_,TE,by(with_reducible repeat (first|apply Kd.R_alloc|apply Kd.R_drewN|apply Kd.R_drew));exact Kd.R_mono (Kd.R_far (p:=⟨o,2,none⟩) (Kd.R_far (p:=⟨o,1,none⟩) (Kd.R_far (p:=⟨o,0,none⟩) (Kd.R_far (p:=⟨I,2,none⟩) (Kd.R_types (Kd.R_types A.out m.out (by decide)) g.out (by decide)) (fun _ hk=>hk.1.2) (.slice B n.length D)) (fun _ hk=>hk.2) (.string i)) (fun _ hk=>hk.2) (.int .i64 l)) (fun _ hk=>hk.2) (.slice B n.length D)) (fun _ hk=>trivial),TB⟩
end
section
/-! ### laws_toZoneS: function 68 -/
def laws_toZoneS.l0:Nat→List (S24)→List (S_Zone)→Int→Option ((List (S_Zone)))
 | 0,_,_,_=>none
 | k+1,x0,x3,x4=>if x4<(x0.length:Int) then(if 0≤x4 then((laws_toZone.f k ((rd_T24 x0 x4).f0) ((rd_T24 x0 x4).f1) ((rd_T24 x0 x4).f2)).bind fun bt1160=>(if x4<(x3.length:Int) then(laws_toZoneS.l0 k x0 (x3.set (x4:Int).toNat (⟨bt1160.1,bt1160.2.1,bt1160.2.2⟩:S_Zone)) (wrap64 (x4+1))) else(none))) else(none)) else(some x3)
def laws_toZoneS.f (k:Nat) (l0:List (S24)):Option ((List (S_Zone))):=if 0≤(l0.length:Int) then(if ((l0.length:Int):Int).toNat≤5864062014805 then(laws_toZoneS.l0 k l0 (List.replicate ((l0.length:Int):Int).toNat z_Zone) 0) else(none)) else(none)
theorem laws_toZoneS.calls (k:Nat) (A0:Option Addr) (c0:Nat) (l0:List (S24)) (r:List (S_Zone)) (w:World) (aj:Kd.C k24 w A0 l0.length l0) (ak:l0.length≤c0) (h:laws_toZoneS.f k l0=some r) :
  Calls Tryz.prog 68 #[.slice A0 l0.length c0] w fun e w'=>∃v0_:Value,e=.returned (v0_)∧Kd.S k_Zone 30 w' w.heap.size (fun _=>True) v0_ r∧Below w.heap.size w w':=by
 have hu24:=Tryz.underlying24;have hu30:=Tryz.underlying30;have aq:=AM aj;have aA:=AM ak;clear aj ak;have HB:=AM (Below.refl w.heap.size w);have H:(if 0≤(l0.length:Int) then(if ((l0.length:Int):Int).toNat≤5864062014805 then(laws_toZoneS.l0 k l0 (List.replicate ((l0.length:Int):Int).toNat z_Zone) 0) else(none)) else(none))=some r:=h;clear h;obtain⟨c2,H⟩:=ifn H;have au:=eq_true c2;have av:=decide_eq_true c2;clear c2;obtain⟨c3,H⟩:=ifn H;have aw:=eq_true c3;have ax:=decide_eq_true c3;clear c3;obtain⟨M,m⟩:∃y_:List (S_Zone),y_=(List.replicate ((l0.length:Int):Int).toNat z_Zone):=⟨_,rfl⟩
 replace H:(laws_toZoneS.l0 k l0 M 0)=some r:=by first|(rw[m];with_reducible exact H)|(have H2_:=(Option.bind_some _ _).symm.trans H;rw[m];with_reducible exact H2_)|(have H2_:=(Option.bind_some _ _).symm.trans H;with_reducible exact H2_)|with_reducible exact H|(rw[m];exact H)|exact H
 have Ny1156:=AM m;clear m;have H':=AM H;clear H;go_enter Tryz.func68,Tryz.ntmps68;go_wp2_with (first|((with_reducible refine gate_dst (N:=7) rfl ?_);refine Kd.S_make k_Zone _ 30 rfl (N:=7) rfl 39 _ _ rfl (l0.length:Int) rfl rfl Tryz.underlying39 (.agg #[(.string ⟨#[]⟩),(.int .i64 0),(.slice none 0 0)]) 48 info30 rfl (by decide) (by omega) z_Zone (ok:=fun _=>True) (okp:=fun _=>True) (k_Zone_mkM _ _ _ z_Zone (Kd.R_nil _ _ _ _ _)) (fun _ hk=>hk) trivial TD (Nat.le_trans (Nat.mul_le_mul_right _ (TD:(l0.length:Int).toNat≤5864062014805)) (by omega)) (Below.refl _ _) (Nat.le_refl _) ?_;intro ad w4 O hb hg_ hnew_;clear hg_ hnew_;(first|rw[←Ny1156.out] at O|(simp only[Int.reduceToNat] at O;rw[←Ny1156.out] at O));have W:=AM (Kd.S_lower O (below_size TB));replace HB:=BS hb;clear hb O));go_loopg [4] k (fun kq v4 w'=>∃(i:List (S_Zone)) (c:Int),v4=.int .i64 c∧Aside0 (laws_toZoneS.l0 kq l0 i c=some r)∧Aside0 (kq≤k)∧Aside0 (Kd.S k_Zone 30 w' w.heap.size (fun _=>True) ad i)∧Aside0 (Below w.heap.size w w'))
 case atStart=>exact⟨(M),(0),TF,H',⟨Nat.le_refl _⟩,⟨by(with_reducible repeat (first|apply Kd.S_alloc|apply Kd.S_drewN|apply Kd.S_drew));exact W.out⟩,⟨TB⟩⟩
 case round =>
  clear H';obtain⟨i,c,rfl,HA,HK1,g,HB⟩:=hrel
  cases gk with
  | zero=>exact absurd HA.out (by simp[laws_toZoneS.l0])
  | succ k1 =>
   have H:=HA.out;clear HA;simp only[laws_toZoneS.l0] at H;by_cases c6:c<(l0.length:Int)
   ·rw[if_pos c6] at H;have al:=decide_eq_true c6;clear c6;obtain⟨c7,H⟩:=ifn H;have ay:=decide_eq_true c7;clear c7;obtain⟨⟨o,q,l⟩,A8,H⟩:=bnd H
    try dsimp only at H
    obtain⟨c9,H⟩:=ifn H;have az:=decide_eq_true c9;clear c9;obtain⟨D,n⟩:∃y_:List (S_Zone),y_=(i.set (c:Int).toNat (⟨o,q,l⟩:S_Zone)):=⟨_,rfl⟩
    replace H:(laws_toZoneS.l0 k1 l0 D (wrap64 (c+1)))=some r:=by first|(rw[n];with_reducible exact H)|(have H2_:=(Option.bind_some _ _).symm.trans H;rw[n];with_reducible exact H2_)|(have H2_:=(Option.bind_some _ _).symm.trans H;with_reducible exact H2_)|with_reducible exact H|(rw[n];exact H)|exact H
    have Ny1165:=AM n;clear n;have H':=AM H;clear H;have E:0≤(c:Int):=TD;have F:c<(l0.length:Int):=TD;obtain⟨am,R,U,ae,u,x,y,z,A⟩:=at_T24 aq.out c E F;cases ae;replace u:=hBc HB u;replace x:=hBc HB x;replace y:=hBc HB y;have J:=AM A;have K:=AM z;clear A z;replace E:=eq_true E;replace F:=eq_true F;go_wp2_with (first|((with_reducible refine gate_callee (f:=15) rfl ?_);refine goesL_ (some 20) rfl rfl Tryz.func15 KR rfl #[.agg #[.string ((rd_T24 l0 c).f0),.int .i64 ((rd_T24 l0 c).f1),.slice R ((rd_T24 l0 c).f2).length U]] rfl TA ?_;(with_reducible refine(laws_toZone.calls k1 ((rd_T24 l0 c).f0) ((rd_T24 l0 c).f1) _ _ ((rd_T24 l0 c).f2) o q l _ ?side1 ?side2 A8.out).mono ?_);(case side1=>exact CW ((Kd.C_below J.out HB.out)));(case side2=>exact K.out);rintro e B ⟨ar,rfl,af,hb⟩;refine⟨_,rfl,?_⟩;replace g:=AM (Kd.S_elder' (by(with_reducible repeat (first|apply Kd.S_alloc|apply Kd.S_drewN|apply Kd.S_drew));exact g.out) (Kd.R_base af) hb);have s:=RL af;replace HB:=BS hb;clear hb;(try clear af);have ag:0≤(c:Int):=TD;have ah:(c:Int)<((i.length:Int):Int):=TD;obtain⟨go10,aa,eo10,ab,gl10,cl10,ac⟩:=Kd.S_form g.out (by omega);(first|cases eo10|(injection eo10 with ea_ en_ ec_;(first|subst ea_|(injection ea_ with ea_;subst ea_));subst ec_;clear en_));have V:=AM ab;have GG10:=AM ac;clear ab gl10 ac;obtain⟨_,ce10,hcl10,hM10,hcc10,hfr10,_,_⟩:=Kd.S_elem g.out z_Zone (c:Int) ag ah;obtain⟨ve10_2,rfl,ge10_2⟩:=k_Zone_openM hM10;have an:B.cell? ⟨go10,(c:Int).toNat * 3,none⟩=some (.string ((rd_TZone i c).f0)):=hcc10 0 _ rfl;have ao:B.cell? ⟨go10,(c:Int).toNat * 3+1,none⟩=some (.int .i64 ((rd_TZone i c).f1)):=hcc10 1 _ rfl;have ap:B.cell? ⟨go10,(c:Int).toNat * 3+2,none⟩=some (ve10_2):=hcc10 2 _ rfl;have hf10_0:B.frozen? ⟨go10,(c:Int).toNat * 3,none⟩=false:=hfr10 0;have hf10_1:B.frozen? ⟨go10,(c:Int).toNat * 3+1,none⟩=false:=hfr10 1;have hf10_2:B.frozen? ⟨go10,(c:Int).toNat * 3+2,none⟩=false:=hfr10 2;clear hcl10 hcc10 hfr10 hM10;replace ag:=eq_true ag;replace ah:=eq_true ah;obtain⟨G,I,eo14⟩:=Kd.R_slice s.out;subst eo14;have n_:=AM (Kd.S_mono (ok':=(fun k_=>some k_≠(.slice G l.length I:Value).ownBlock)) g.out (fun k_ hk=>hk.2));clear g;have g:=n_;clear n_;have HX12:=AM (show Kd.S k_Zone 30 B w.heap.size (fun k_=>((fun _=>True)) k_∧¬((fun k_=>some k_=(.slice G l.length I:Value).ownBlock)) k_) (.slice (some ⟨go10,0,none⟩) i.length aa) i from(by(with_reducible repeat (first|apply Kd.S_alloc|apply Kd.S_drewN|apply Kd.S_drew));exact Kd.S_mono g.out (fun k_ hk=>⟨trivial,fun e_=>hk e_⟩)));obtain⟨oki12,ce12,hcl12,hM12,hcc12,hfr12,hoki12,hH12⟩:=Kd.S_elem HX12.out z_Zone (c:Int) TD (by have h_:(c:Int)<((i.length:Int):Int):=TD;first|exact h_|(have e_:=(Kd.S_reads' g.out).1;omega)|simpa using h_);obtain⟨ve12_2,rfl,ge12_2⟩:=k_Zone_openM hM12;have HP12:=Kd.S_seg hH12 TD (by have h_:(c:Int)<((i.length:Int):Int):=TD;first|exact h_|(have e_:=(Kd.S_reads' g.out).1;omega)|simpa using h_) (seg:=[.string o,.int .i64 q,.slice G l.length I]) (j:=0) (show 3≤3 from by decide) (x':=(⟨o,q,l⟩:S_Zone)) (k_Zone_mkM _ _ _ (⟨o,q,l⟩:S_Zone) (Kd.R_mono (Kd.R_tight rfl (Kd.R_mono (ok':=fun k_=>((fun _=>True)) k_∧k_≠go10) (Kd.R_apart' (s.out) (Kd.S_typed g.out) (by decide)) (fun k_ hk=>⟨trivial,fun e_=>(hk.2) (by rw[e_];rfl)⟩))) (fun _ h_=>Or.inr (h_)))) (fun _ hk=>hk) (fun k_ hk_=>((Kd.R_mono (ok':=fun k_=>((fun _=>True)) k_∧k_≠go10) (Kd.R_apart' (s.out) (Kd.S_typed g.out) (by decide)) (fun k_ hk=>⟨trivial,fun e_=>(hk.2) (by rw[e_];rfl)⟩))).1 k_ hk_.symm);have X:=hcc12 0 _ rfl;(try simp only[show(k_Zone).sz=3 from rfl,Nat.mul_one,Nat.add_zero] at X);have hf12_0:=hfr12 0;(try simp only[show(k_Zone).sz=3 from rfl,Nat.mul_one,Nat.add_zero] at hf12_0);have Y:=hcc12 1 _ rfl;(try simp only[show(k_Zone).sz=3 from rfl,Nat.mul_one,Nat.add_zero] at Y);have hf12_1:=hfr12 1;(try simp only[show(k_Zone).sz=3 from rfl,Nat.mul_one,Nat.add_zero] at hf12_1);have Z:=hcc12 2 _ rfl;(try simp only[show(k_Zone).sz=3 from rfl,Nat.mul_one,Nat.add_zero] at Z);have hf12_2:=hfr12 2;(try simp only[show(k_Zone).sz=3 from rfl,Nat.mul_one,Nat.add_zero] at hf12_2);clear hcl12 hcc12 hfr12 hM12 hoki12 hH12)|((with_reducible refine gate_store (t:=30) (p:=21) rfl ?_);refine store_event (t:=30) (p:=21) (v:=?vo_w13) (w1:=(((B.setCell ⟨go10,(c:Int).toNat * 3,none⟩ (.string o)).setCell ⟨go10,(c:Int).toNat * 3+1,none⟩ (.int .i64 q)).setCell ⟨go10,(c:Int).toNat * 3+2,none⟩ (.slice G l.length I))) ?hg ?ho ?hn ?hr ?_;(case ho=>rfl);(case hg=>rfl);(case hn=>rfl);(case hr=>first|(go_simp;done)|(go_simp;rfl));intro ai hw;have hg:B.grownBy ai (some go10):=(by rw[hw];exact HP12.2);have hp_:Kd.S k_Zone 30 ai w.heap.size (fun _=>True) (.slice (some ⟨go10,0,none⟩) i.length aa) D:=(by rw[hw,Ny1165.out];exact HP12.1);clear HP12;have n0_:=AM (hp_);have n1_:=AM ((by rw[hw];exact below_set (below_set (below_set (HB.out) V.out) V.out) V.out:Below w.heap.size w ai));clear g HB s;have g:=n0_;have HB:=n1_;clear n0_ n1_ hg hw hp_));go_roundg k1
    case measure=>have:=HK1.out;omega
    case rel=>exact⟨(D),(wrap64 (c+1)),TF,H',⟨TM⟩,⟨by(with_reducible repeat (first|apply Kd.S_alloc|apply Kd.S_drewN|apply Kd.S_drew));exact g.out⟩,⟨TB⟩⟩
   ·rw[if_neg c6] at H;have al:=decide_eq_false c6;clear c6;obtain rfl:=Option.some.inj H;go_wp2;go_ret;exact⟨_,TE,by(with_reducible repeat (first|apply Kd.S_alloc|apply Kd.S_drewN|apply Kd.S_drew));exact g.out,TB⟩
end
section
/-! ### laws_toWorld: function 20 -/
def laws_toWorld.f (k:Nat) (l0_0:List (S24)):Option ((List (S_Zone))):=(laws_toZoneS.f k l0_0).bind fun t1169=>(some t1169)
theorem laws_toWorld.calls (k:Nat) (s:Option Addr) (t:Nat) (i:List (S24)) (r:List (S_Zone)) (w:World) (x:Kd.C k24 w s i.length i) (y:i.length≤t) (h:laws_toWorld.f k i=some r) :
  Calls Tryz.prog 20 #[.agg #[.slice s i.length t]] w fun e w'=>∃v0_:Value,e=.returned (.agg #[v0_])∧Kd.S k_Zone 30 w' w.heap.size (fun _=>True) v0_ r∧Below w.heap.size w w':=by
 have hu36:=Tryz.underlying36;have hu41:=Tryz.underlying41;have F:=AM x;have G:=AM y;clear x y;have HB:=AM (Below.refl w.heap.size w);have H:((laws_toZoneS.f k i).bind fun j=>(some j))=some r:=h;clear h;obtain⟨j,A2,H⟩:=bnd H;obtain rfl:=Option.some.inj H;go_enter Tryz.func20,Tryz.ntmps20;go_wp2_with (first|((with_reducible refine gate_dst (N:=1) rfl ?_);refine bE 1 #[.slice s i.length t] 36 ?_;intro J hg w3 hbox hb;have c:=AM (hbox);have K:=bG hg;replace HB:=BS hb;clear hb hbox hg)|((with_reducible refine gate_dst (N:=2) rfl ?_);refine bE 2 #[.slice none 0 0] 41 ?_;intro u hg w4 hbox hb;have g:=AM (hbox);have M:=bG hg;replace HB:=BS hb;have m:=bN c hg;have B:=bM c hg;replace c:=KB c hb;clear hb hbox hg)|((with_reducible refine gate_dst (N:=3) rfl ?_);refine bE 3 #[.slice none 0 0] 41 ?_;intro D hg w5 hbox hb;have l:=AM (hbox);have O:=bG hg;replace HB:=BS hb;have n:=bN c hg;have E:=bM c hg;replace c:=KB c hb;have o:=bN g hg;have q:=bM g hg;replace g:=KB g hb;clear hb hbox hg;obtain⟨Y,Z⟩:=nn m;obtain⟨aa,ab⟩:=nn n;have ac:=cz1 c)|((with_reducible refine gate_callee (f:=68) rfl ?_);refine goesL_ (some 6) rfl rfl Tryz.func68 KR rfl #[.slice s i.length t] rfl TA ?_;(with_reducible refine(laws_toZoneS.calls k _ _ i j _ ?side1 ?side2 A2.out).mono ?_);(case side1=>exact CW ((Kd.C_below F.out HB.out)));(case side2=>exact G.out);rintro e w9 ⟨R,rfl,I,hb⟩;refine⟨_,rfl,?_⟩;have v:=AM (Kd.S_lower I (below_size TB));replace c:=KB c hb;replace g:=KB g hb;replace l:=KB l hb;replace HB:=BS hb;clear hb;(try clear I);obtain⟨z,A,eo10⟩:=Kd.S_slice v.out;subst eo10;obtain⟨U,V⟩:=nn q;have W:=cz1 l;have X:=cz1 g));refine bodyPost_ret (results_cell_row rfl _ _ u 41 #[.slice z j.length A] (0,0) _ rfl (by(with_reducible repeat (first|refine blk_drewN ?_ _|refine blk_drew ?_|refine blk_alloc ?_ _));refine blk_put (cs:=#[.slice none 0 0]) ?_ 0 _ rfl;(with_reducible repeat (first|refine blk_drewN ?_ _|refine blk_drew ?_|refine blk_alloc ?_ _));refine blk_far ?_ o.out _;(with_reducible repeat (first|refine blk_drewN ?_ _|refine blk_drew ?_|refine blk_alloc ?_ _));exact g.out) Tryz.underlying41 rfl KR) rfl ?_;exact⟨_,TE,by(with_reducible repeat (first|apply Kd.S_alloc|apply Kd.S_drewN|apply Kd.S_drew));exact Kd.S_mono (Kd.S_far (p:=⟨u,0,none⟩) (Kd.S_far (p:=⟨D,0,none⟩) (Kd.S_types (Kd.S_types v.out l.out (by decide)) g.out (by decide)) (fun _ hk=>hk.1.2) (.slice z j.length A)) (fun _ hk=>hk.2) (.slice z j.length A)) (fun _ hk=>trivial),TB⟩
end
section
/-! ### laws_eqRecord: function 86 -/
def laws_eqRecord.f (a0_0:ByteArray) (a0_1:Int) (a0_2:Int) (a0_3:ByteArray) (a1_0:ByteArray) (a1_1:Int) (a1_2:Int) (a1_3:ByteArray):Option (Bool):=if a0_0.toList=a1_0.toList then(if a0_1=a1_1 then(if a0_2=a1_2 then(if a0_3.toList=a1_3.toList then(some true) else(some false)) else(some false)) else(some false)) else(some false)
theorem laws_eqRecord.calls (l:ByteArray) (m:Int) (n:Int) (o:ByteArray) (p:ByteArray) (q:Int) (s:Int) (t:ByteArray) (r:Bool) (w:World) (h:laws_eqRecord.f l m n o p q s t=some r) :
  Calls Tryz.prog 86 #[.agg #[.string l,.int .i64 m,.int .i64 n,.string o],.agg #[.string p,.int .i64 q,.int .i64 s,.string t]] w fun e w'=>e=.returned (.bool r)∧Below w.heap.size w w':=by
 have hu100:=Tryz.underlying100;have HB:=AM (Below.refl w.heap.size w);have H:(if l.toList=p.toList then(if m=q then(if n=s then(if o.toList=t.toList then(some true) else(some false)) else(some false)) else(some false)) else(some false))=some r:=h;clear h;by_cases c3:l.toList=p.toList
 ·rw[if_pos c3] at H;have z:=beq_iff_eq.mpr c3;have A:=bne_eq_false_iff_eq.mpr c3;clear c3;by_cases c4:m=q
  ·rw[if_pos c4] at H;have B:=beq_iff_eq.mpr c4;have C:=bne_eq_false_iff_eq.mpr c4;clear c4;by_cases c5:n=s
   ·rw[if_pos c5] at H;have D:=beq_iff_eq.mpr c5;have E:=bne_eq_false_iff_eq.mpr c5;clear c5;by_cases c6:o.toList=t.toList
    ·rw[if_pos c6] at H;have F:=beq_iff_eq.mpr c6;have G:=bne_eq_false_iff_eq.mpr c6;clear c6;obtain rfl:=Option.some.inj H;go_enter Tryz.func86,Tryz.ntmps86;go_wp2_with (first|((with_reducible refine gate_dst (N:=2) rfl ?_);refine bE 2 #[.string l,.int .i64 m,.int .i64 n,.string o] 100 ?_;intro u hg w7 hbox hb;have c:=AM (hbox);have v:=bG hg;replace HB:=BS hb;clear hb hbox hg)|((with_reducible refine gate_dst (N:=3) rfl ?_);refine bE 3 #[.string p,.int .i64 q,.int .i64 s,.string t] 100 ?_;intro x hg w8 hbox hb;have i:=AM (hbox);have y:=bG hg;replace HB:=BS hb;have g:=bN c hg;have j:=bM c hg;replace c:=KB c hb;clear hb hbox hg;obtain⟨ag,ah⟩:=nn g;have I:=cz4 c;have J:=cz4 i));go_ret;exact⟨TE,TB⟩
    ·rw[if_neg c6] at H;have F:=beq_eq_false_iff_ne.mpr c6;have G:=bne_iff_ne.mpr c6;obtain rfl:=Option.some.inj H;go_enter Tryz.func86,Tryz.ntmps86;go_wp2_with (first|((with_reducible refine gate_dst (N:=2) rfl ?_);refine bE 2 #[.string l,.int .i64 m,.int .i64 n,.string o] 100 ?_;intro u hg ai hbox hb;have c:=AM (hbox);have v:=bG hg;replace HB:=BS hb;clear hb hbox hg)|((with_reducible refine gate_dst (N:=3) rfl ?_);refine bE 3 #[.string p,.int .i64 q,.int .i64 s,.string t] 100 ?_;intro x hg aj hbox hb;have i:=AM (hbox);have y:=bG hg;replace HB:=BS hb;have g:=bN c hg;have j:=bM c hg;replace c:=KB c hb;clear hb hbox hg;obtain⟨K,M⟩:=nn g;have O:=cz4 c;have R:=cz4 i));go_ret;exact⟨TE,TB⟩
   ·rw[if_neg c5] at H;have D:=beq_eq_false_iff_ne.mpr c5;have E:=bne_iff_ne.mpr c5;obtain rfl:=Option.some.inj H;go_enter Tryz.func86,Tryz.ntmps86;go_wp2_with (first|((with_reducible refine gate_dst (N:=2) rfl ?_);refine bE 2 #[.string l,.int .i64 m,.int .i64 n,.string o] 100 ?_;intro u hg ak hbox hb;have c:=AM (hbox);have v:=bG hg;replace HB:=BS hb;clear hb hbox hg)|((with_reducible refine gate_dst (N:=3) rfl ?_);refine bE 3 #[.string p,.int .i64 q,.int .i64 s,.string t] 100 ?_;intro x hg al hbox hb;have i:=AM (hbox);have y:=bG hg;replace HB:=BS hb;have g:=bN c hg;have j:=bM c hg;replace c:=KB c hb;clear hb hbox hg;obtain⟨U,V⟩:=nn g;have W:=cz4 c;have X:=cz4 i));go_ret;exact⟨TE,TB⟩
  ·rw[if_neg c4] at H;have B:=beq_eq_false_iff_ne.mpr c4;have C:=bne_iff_ne.mpr c4;obtain rfl:=Option.some.inj H;go_enter Tryz.func86,Tryz.ntmps86;go_wp2_with (first|((with_reducible refine gate_dst (N:=2) rfl ?_);refine bE 2 #[.string l,.int .i64 m,.int .i64 n,.string o] 100 ?_;intro u hg am hbox hb;have c:=AM (hbox);have v:=bG hg;replace HB:=BS hb;clear hb hbox hg)|((with_reducible refine gate_dst (N:=3) rfl ?_);refine bE 3 #[.string p,.int .i64 q,.int .i64 s,.string t] 100 ?_;intro x hg an hbox hb;have i:=AM (hbox);have y:=bG hg;replace HB:=BS hb;have g:=bN c hg;have j:=bM c hg;replace c:=KB c hb;clear hb hbox hg;obtain⟨Y,Z⟩:=nn g;have aa:=cz4 c;have ab:=cz4 i));go_ret;exact⟨TE,TB⟩
 ·rw[if_neg c3] at H;have z:=beq_eq_false_iff_ne.mpr c3;have A:=bne_iff_ne.mpr c3;obtain rfl:=Option.some.inj H;go_enter Tryz.func86,Tryz.ntmps86;go_wp2_with (first|((with_reducible refine gate_dst (N:=2) rfl ?_);refine bE 2 #[.string l,.int .i64 m,.int .i64 n,.string o] 100 ?_;intro u hg ao hbox hb;have c:=AM (hbox);have v:=bG hg;replace HB:=BS hb;clear hb hbox hg)|((with_reducible refine gate_dst (N:=3) rfl ?_);refine bE 3 #[.string p,.int .i64 q,.int .i64 s,.string t] 100 ?_;intro x hg ap hbox hb;have i:=AM (hbox);have y:=bG hg;replace HB:=BS hb;have g:=bN c hg;have j:=bM c hg;replace c:=KB c hb;clear hb hbox hg;obtain⟨ac,ad⟩:=nn g;have ae:=cz4 c;have af:=cz4 i));go_ret;exact⟨TE,TB⟩
end
section
/-! ### laws_eqRecordS: function 35 -/
def laws_eqRecordS.l0:Nat→List (S_Record)→List (S_Record)→Int→Option (Bool)
 | 0,_,_,_=>none
 | k+1,x0,x1,x5=>if x5<(x0.length:Int) then(if 0≤x5 then(if x5<(x1.length:Int) then((laws_eqRecord.f ((rd_TRecord x0 x5).f0) ((rd_TRecord x0 x5).f1) ((rd_TRecord x0 x5).f2) ((rd_TRecord x0 x5).f3) ((rd_TRecord x1 x5).f0) ((rd_TRecord x1 x5).f1) ((rd_TRecord x1 x5).f2) ((rd_TRecord x1 x5).f3)).bind fun c=>(if c=true then(laws_eqRecordS.l0 k x0 x1 (wrap64 (x5+1))) else(some false))) else(none)) else(none)) else(some true)
def laws_eqRecordS.f (k:Nat) (l0:List (S_Record)) (l1:List (S_Record)):Option (Bool):=if (l0.length:Int)=(l1.length:Int) then(laws_eqRecordS.l0 k l0 l1 0) else(some false)
def laws_eqRecordS.T6:Bool × List (List Nat × List Nat):=(true,[([],[]),([],[]),([0,1],[0,1]),([2],[2]),([],[]),([],[]),([4,5],[4,5]),([6],[6]),([3,7],[3,7]),([8],[8])])
def laws_eqRecordS.B6:List Nat:=[0,0,3,7,0,0,48,112,255,511]
theorem laws_eqRecordS.tab6:rtab .any (opsOf Tryz.f35 6)=laws_eqRecordS.T6:=by kernel_rfl
theorem laws_eqRecordS.bits6:waitsOk laws_eqRecordS.T6.2 laws_eqRecordS.B6=true:=by kernel_rfl
theorem laws_eqRecordS.calls (k:Nat) (A0:Option Addr) (c0:Nat) (l0:List (S_Record)) (A1:Option Addr) (c1:Nat) (l1:List (S_Record)) (r:Bool) (w:World) (R:Kd.C k_Record w A0 l0.length l0) (U:l0.length≤c0) (V:Kd.C k_Record w A1 l1.length l1) (W:l1.length≤c1) (h:laws_eqRecordS.f k l0 l1=some r) :
  Calls Tryz.prog 35 #[.slice A0 l0.length c0,.slice A1 l1.length c1] w fun e w'=>e=.returned (.bool r)∧Below w.heap.size w w':=by
 have hu100:=Tryz.underlying100;have X:=AM R;have ag:=AM U;clear R U;have Y:=AM V;have ah:=AM W;clear V W;have HB:=AM (Below.refl w.heap.size w);have H:(if (l0.length:Int)=(l1.length:Int) then(laws_eqRecordS.l0 k l0 l1 0) else(some false))=some r:=h;clear h;by_cases c3:(l0.length:Int)=(l1.length:Int)
 ·rw[if_pos c3] at H;have Z:=beq_iff_eq.mpr c3;have aa:=bne_eq_false_iff_eq.mpr c3
  have ab:(l0.length==l1.length)=true:=by first|simpa using c3|(simp at c3 ⊢;omega)
  clear c3;have H':=AM H;clear H;go_enter Tryz.func35,Tryz.ntmps35;go_wp2;go_loopg [5] k (fun kq v5 w'=>∃(c:Int),v5=.int .i64 c∧Aside0 (laws_eqRecordS.l0 kq l0 l1 c=some r)∧Aside0 (kq≤k)∧Aside0 (Below w.heap.size w w'))
  case atStart=>exact⟨(0),TF,H',⟨Nat.le_refl _⟩,⟨TB⟩⟩
  case round =>
   clear H';obtain⟨c,rfl,HA,HK1,HB⟩:=hrel
   cases gk with
   | zero=>exact absurd HA.out (by simp[laws_eqRecordS.l0])
   | succ k1 =>
    have H:=HA.out;clear HA;simp only[laws_eqRecordS.l0] at H;by_cases c4:c<(l0.length:Int)
    ·rw[if_pos c4] at H;have ac:=decide_eq_true c4;clear c4;obtain⟨c5,H⟩:=ifn H;have ae:=decide_eq_true c5;clear c5;obtain⟨c6,H⟩:=ifn H;have af:=decide_eq_true c6;clear c6;obtain⟨ad,A7,H⟩:=bnd H;by_cases c8:ad=true
     ·subst c8;replace H:=ift H;have H':=AM H;clear H
      try go_wp2
      replace HB:=AM (below_drew1 HB.out);have F:0≤(c:Int):=TD;have G:c<(l0.length:Int):=TD;obtain⟨g,M,l,m,o,p⟩:=at_TRecord X.out c F G;have q:=p;have s:=o;have t:=m;have u:=l;cases M;replace l:=hBc HB l;replace m:=hBc HB m;replace o:=hBc HB o;replace p:=hBc HB p;replace F:=eq_true F;replace G:=eq_true G;have I:0≤(c:Int):=TD;have J:c<(l1.length:Int):=TD;obtain⟨j,O,v,x,y,z⟩:=at_TRecord Y.out c I J;have A:=z;have B:=y;have D:=x;have E:=v;cases O;replace v:=hBc HB v;replace x:=hBc HB x;replace y:=hBc HB y;replace z:=hBc HB z;replace I:=eq_true I;replace J:=eq_true J;refine start_ (n:=10) (S:=fun w'=>w'.cell? (g.add ((c).toNat * 4))=some (.string ((rd_TRecord l0 c).f0))∧w'.cell? ⟨(g.add ((c).toNat * 4)).block,(g.add ((c).toNat * 4)).off+1,none⟩=some (.int .i64 ((rd_TRecord l0 c).f1))∧w'.cell? ⟨(g.add ((c).toNat * 4)).block,(g.add ((c).toNat * 4)).off+2,none⟩=some (.int .i64 ((rd_TRecord l0 c).f2))∧w'.cell? ⟨(g.add ((c).toNat * 4)).block,(g.add ((c).toNat * 4)).off+3,none⟩=some (.string ((rd_TRecord l0 c).f3))∧w'.cell? (j.add ((c).toNat * 4))=some (.string ((rd_TRecord l1 c).f0))∧w'.cell? ⟨(j.add ((c).toNat * 4)).block,(j.add ((c).toNat * 4)).off+1,none⟩=some (.int .i64 ((rd_TRecord l1 c).f1))∧w'.cell? ⟨(j.add ((c).toNat * 4)).block,(j.add ((c).toNat * 4)).off+2,none⟩=some (.int .i64 ((rd_TRecord l1 c).f2))∧w'.cell? ⟨(j.add ((c).toNat * 4)).block,(j.add ((c).toNat * 4)).off+3,none⟩=some (.string ((rd_TRecord l1 c).f3))) (ds:=[]) #[false,false,false,false,false,false,false,false,false,false] KR rfl rfl ⟨((HB.out.cell (World.block_lt_of_cell? w _ u)).trans u),((HB.out.cell (World.block_lt_of_cell? w _ t)).trans t),((HB.out.cell (World.block_lt_of_cell? w _ s)).trans s),((HB.out.cell (World.block_lt_of_cell? w _ q)).trans q),((HB.out.cell (World.block_lt_of_cell? w _ E)).trans E),((HB.out.cell (World.block_lt_of_cell? w _ D)).trans D),((HB.out.cell (World.block_lt_of_cell? w _ B)).trans B),((HB.out.cell (World.block_lt_of_cell? w _ A)).trans A)⟩ (fun hHeld=>?_);refine with_tabW laws_eqRecordS.tab6 laws_eqRecordS.bits6 (fun HT_ HW_=>?_);generalize wr.drew=w9 at HB l m o p v x y z hHeld ⊢;refine pA 0 17 (mL 10 1) HT_ rfl rfl ?_;refine pA 1 18 (mL 10 3) HT_ rfl rfl ?_;refine pA 2 19 (mL 10 7) HT_ rfl rfl ?_;refine pA 4 21 (mL 10 23) HT_ rfl rfl ?_;refine pA 5 22 (mL 10 55) HT_ rfl rfl ?_;refine pA 6 23 (mL 10 119) HT_ rfl rfl ?_;refine tA 3 20 (mL 10 127) HT_ HW_ hHeld rfl rfl (by rintro w' ⟨s0,s1,s2,s3,s4,s5,s6,s7⟩;go_simp;with_reducible rfl) ?_;refine tA 7 24 (mL 10 255) HT_ HW_ hHeld rfl rfl (by rintro w' ⟨s0,s1,s2,s3,s4,s5,s6,s7⟩;go_simp;with_reducible rfl) ?_;refine one_ (i:=8) (N:=some 25) (mL 10 511) rfl rfl (one_of HT_.out KR) (by decide) (fun K hK=>?_);refine goes_ Tryz.func86 KR rfl #[.agg #[.string ((rd_TRecord l0 c).f0),.int .i64 ((rd_TRecord l0 c).f1),.int .i64 ((rd_TRecord l0 c).f2),.string ((rd_TRecord l0 c).f3)],.agg #[.string ((rd_TRecord l1 c).f0),.int .i64 ((rd_TRecord l1 c).f1),.int .i64 ((rd_TRecord l1 c).f2),.string ((rd_TRecord l1 c).f3)]] (by rfl) rfl rfl TA ?_
      with_reducible refine(laws_eqRecord.calls ((rd_TRecord l0 c).f0) ((rd_TRecord l0 c).f1) ((rd_TRecord l0 c).f2) ((rd_TRecord l0 c).f3) ((rd_TRecord l1 c).f0) ((rd_TRecord l1 c).f1) ((rd_TRecord l1 c).f2) ((rd_TRecord l1 c).f3) true _ A7.out).mono ?_
      rintro e ai ⟨rfl,hb⟩;refine⟨_,rfl,?_⟩;replace HB:=BS hb;(try clear hb);(try clear hb2);(try clear hk);(try clear hi);refine hK.out _ _ ⟨((HB.out.cell (World.block_lt_of_cell? w _ u)).trans u),((HB.out.cell (World.block_lt_of_cell? w _ t)).trans t),((HB.out.cell (World.block_lt_of_cell? w _ s)).trans s),((HB.out.cell (World.block_lt_of_cell? w _ q)).trans q),((HB.out.cell (World.block_lt_of_cell? w _ E)).trans E),((HB.out.cell (World.block_lt_of_cell? w _ D)).trans D),((HB.out.cell (World.block_lt_of_cell? w _ B)).trans B),((HB.out.cell (World.block_lt_of_cell? w _ A)).trans A)⟩ (fun hHeld=>?_);clear hK K;refine nA ?_;refine pA 9 26 (mL 10 1023) HT_ rfl rfl ?_;refine done_ (done_of HT_.out KR) ?_
      try go_wp2
      go_roundg k1
      case measure=>have:=HK1.out;omega
      case rel=>exact⟨(wrap64 (c+1)),TF,H',⟨TM⟩,⟨TB⟩⟩
     ·replace c8:=Bool.eq_false_iff.mpr c8;subst c8;replace H:=iff' H;obtain rfl:=Option.some.inj H
      try go_wp2
      replace HB:=AM (below_drew1 HB.out);have F:0≤(c:Int):=TD;have G:c<(l0.length:Int):=TD;obtain⟨g,M,l,m,o,p⟩:=at_TRecord X.out c F G;have q:=p;have s:=o;have t:=m;have u:=l;cases M;replace l:=hBc HB l;replace m:=hBc HB m;replace o:=hBc HB o;replace p:=hBc HB p;replace F:=eq_true F;replace G:=eq_true G;have I:0≤(c:Int):=TD;have J:c<(l1.length:Int):=TD;obtain⟨j,O,v,x,y,z⟩:=at_TRecord Y.out c I J;have A:=z;have B:=y;have D:=x;have E:=v;cases O;replace v:=hBc HB v;replace x:=hBc HB x;replace y:=hBc HB y;replace z:=hBc HB z;replace I:=eq_true I;replace J:=eq_true J;refine start_ (n:=10) (S:=fun w'=>w'.cell? (g.add ((c).toNat * 4))=some (.string ((rd_TRecord l0 c).f0))∧w'.cell? ⟨(g.add ((c).toNat * 4)).block,(g.add ((c).toNat * 4)).off+1,none⟩=some (.int .i64 ((rd_TRecord l0 c).f1))∧w'.cell? ⟨(g.add ((c).toNat * 4)).block,(g.add ((c).toNat * 4)).off+2,none⟩=some (.int .i64 ((rd_TRecord l0 c).f2))∧w'.cell? ⟨(g.add ((c).toNat * 4)).block,(g.add ((c).toNat * 4)).off+3,none⟩=some (.string ((rd_TRecord l0 c).f3))∧w'.cell? (j.add ((c).toNat * 4))=some (.string ((rd_TRecord l1 c).f0))∧w'.cell? ⟨(j.add ((c).toNat * 4)).block,(j.add ((c).toNat * 4)).off+1,none⟩=some (.int .i64 ((rd_TRecord l1 c).f1))∧w'.cell? ⟨(j.add ((c).toNat * 4)).block,(j.add ((c).toNat * 4)).off+2,none⟩=some (.int .i64 ((rd_TRecord l1 c).f2))∧w'.cell? ⟨(j.add ((c).toNat * 4)).block,(j.add ((c).toNat * 4)).off+3,none⟩=some (.string ((rd_TRecord l1 c).f3))) (ds:=[]) #[false,false,false,false,false,false,false,false,false,false] KR rfl rfl ⟨((HB.out.cell (World.block_lt_of_cell? w _ u)).trans u),((HB.out.cell (World.block_lt_of_cell? w _ t)).trans t),((HB.out.cell (World.block_lt_of_cell? w _ s)).trans s),((HB.out.cell (World.block_lt_of_cell? w _ q)).trans q),((HB.out.cell (World.block_lt_of_cell? w _ E)).trans E),((HB.out.cell (World.block_lt_of_cell? w _ D)).trans D),((HB.out.cell (World.block_lt_of_cell? w _ B)).trans B),((HB.out.cell (World.block_lt_of_cell? w _ A)).trans A)⟩ (fun hHeld=>?_);refine with_tabW laws_eqRecordS.tab6 laws_eqRecordS.bits6 (fun HT_ HW_=>?_);generalize wr.drew=aj at HB l m o p v x y z hHeld ⊢;refine pA 0 17 (mL 10 1) HT_ rfl rfl ?_;refine pA 1 18 (mL 10 3) HT_ rfl rfl ?_;refine pA 2 19 (mL 10 7) HT_ rfl rfl ?_;refine pA 4 21 (mL 10 23) HT_ rfl rfl ?_;refine pA 5 22 (mL 10 55) HT_ rfl rfl ?_;refine pA 6 23 (mL 10 119) HT_ rfl rfl ?_;refine tA 3 20 (mL 10 127) HT_ HW_ hHeld rfl rfl (by rintro w' ⟨s0,s1,s2,s3,s4,s5,s6,s7⟩;go_simp;with_reducible rfl) ?_;refine tA 7 24 (mL 10 255) HT_ HW_ hHeld rfl rfl (by rintro w' ⟨s0,s1,s2,s3,s4,s5,s6,s7⟩;go_simp;with_reducible rfl) ?_;refine one_ (i:=8) (N:=some 25) (mL 10 511) rfl rfl (one_of HT_.out KR) (by decide) (fun K hK=>?_);refine goes_ Tryz.func86 KR rfl #[.agg #[.string ((rd_TRecord l0 c).f0),.int .i64 ((rd_TRecord l0 c).f1),.int .i64 ((rd_TRecord l0 c).f2),.string ((rd_TRecord l0 c).f3)],.agg #[.string ((rd_TRecord l1 c).f0),.int .i64 ((rd_TRecord l1 c).f1),.int .i64 ((rd_TRecord l1 c).f2),.string ((rd_TRecord l1 c).f3)]] (by rfl) rfl rfl TA ?_
      with_reducible refine(laws_eqRecord.calls ((rd_TRecord l0 c).f0) ((rd_TRecord l0 c).f1) ((rd_TRecord l0 c).f2) ((rd_TRecord l0 c).f3) ((rd_TRecord l1 c).f0) ((rd_TRecord l1 c).f1) ((rd_TRecord l1 c).f2) ((rd_TRecord l1 c).f3) false _ A7.out).mono ?_
      rintro e ak ⟨rfl,hb⟩;refine⟨_,rfl,?_⟩;replace HB:=BS hb;(try clear hb);(try clear hb2);(try clear hk);(try clear hi);refine hK.out _ _ ⟨((HB.out.cell (World.block_lt_of_cell? w _ u)).trans u),((HB.out.cell (World.block_lt_of_cell? w _ t)).trans t),((HB.out.cell (World.block_lt_of_cell? w _ s)).trans s),((HB.out.cell (World.block_lt_of_cell? w _ q)).trans q),((HB.out.cell (World.block_lt_of_cell? w _ E)).trans E),((HB.out.cell (World.block_lt_of_cell? w _ D)).trans D),((HB.out.cell (World.block_lt_of_cell? w _ B)).trans B),((HB.out.cell (World.block_lt_of_cell? w _ A)).trans A)⟩ (fun hHeld=>?_);clear hK K;refine nA ?_;refine pA 9 26 (mL 10 1023) HT_ rfl rfl ?_;refine done_ (done_of HT_.out KR) ?_
      try go_wp2
      go_ret;exact⟨TE,TB⟩
    ·rw[if_neg c4] at H;have ac:=decide_eq_false c4;clear c4;obtain rfl:=Option.some.inj H;go_wp2;go_ret;exact⟨TE,TB⟩
 ·rw[if_neg c3] at H;have Z:=beq_eq_false_iff_ne.mpr c3;have aa:=bne_iff_ne.mpr c3
  have ab:(l0.length==l1.length)=false:=by first|simpa using c3|(simp at c3 ⊢;omega)
  obtain rfl:=Option.some.inj H;go_enter Tryz.func35,Tryz.ntmps35;go_wp2;go_ret;exact⟨TE,TB⟩
end
section
/-! ### laws_eqZone: function 17 -/
def laws_eqZone.f (k:Nat) (a0_0:ByteArray) (a0_1:Int) (l0_2:List (S_Record)) (a1_0:ByteArray) (a1_1:Int) (l1_2:List (S_Record)):Option (Bool):=if a0_0.toList=a1_0.toList then(if a0_1=a1_1 then((laws_eqRecordS.f k l0_2 l1_2).bind fun t654=>(if t654=true then(some true) else(some false))) else(some false)) else(some false)
theorem laws_eqZone.calls (k:Nat) (n:ByteArray) (o:Int) (p:Option Addr) (q:Nat) (j:List (S_Record)) (s:ByteArray) (t:Int) (u:Option Addr) (v:Nat) (l:List (S_Record)) (r:Bool) (w:World) (B:Kd.C k_Record w p j.length j) (D:j.length≤q) (E:Kd.C k_Record w u l.length l) (F:l.length≤v) (h:laws_eqZone.f k n o j s t l=some r) :
  Calls Tryz.prog 17 #[.agg #[.string n,.int .i64 o,.slice p j.length q],.agg #[.string s,.int .i64 t,.slice u l.length v]] w fun e w'=>e=.returned (.bool r)∧Below w.heap.size w w':=by
 have hu30:=Tryz.underlying30;have G:=AM B;have I:=AM D;clear B D;have J:=AM E;have K:=AM F;clear E F;have HB:=AM (Below.refl w.heap.size w);have H:(if n.toList=s.toList then(if o=t then((laws_eqRecordS.f k j l).bind fun M=>(if M=true then(some true) else(some false))) else(some false)) else(some false))=some r:=h;clear h;by_cases c3:n.toList=s.toList
 ·rw[if_pos c3] at H;have O:=beq_iff_eq.mpr c3;have R:=bne_eq_false_iff_eq.mpr c3;clear c3;by_cases c4:o=t
  ·rw[if_pos c4] at H;have U:=beq_iff_eq.mpr c4;have V:=bne_eq_false_iff_eq.mpr c4;clear c4;obtain⟨M,A5,H⟩:=bnd H;by_cases c6:M=true
   ·subst c6;replace H:=ift H;obtain rfl:=Option.some.inj H;go_enter Tryz.func17,Tryz.ntmps17;go_wp2_with (first|((with_reducible refine gate_dst (N:=2) rfl ?_);refine bE 2 #[.string n,.int .i64 o,.slice p j.length q] 30 ?_;intro x hg w7 hbox hb;have c:=AM (hbox);have y:=bG hg;replace HB:=BS hb;clear hb hbox hg)|((with_reducible refine gate_dst (N:=3) rfl ?_);refine bE 3 #[.string s,.int .i64 t,.slice u l.length v] 30 ?_;intro z hg w8 hbox hb;have i:=AM (hbox);have A:=bG hg;replace HB:=BS hb;have g:=bN c hg;have m:=bM c hg;replace c:=KB c hb;clear hb hbox hg;obtain⟨ak,al⟩:=nn g;have W:=cz3 c;have X:=cz3 i)|((with_reducible refine gate_callee (f:=35) rfl ?_);refine goesL_ (some 19) rfl rfl Tryz.func35 KR rfl #[.slice p j.length q,.slice u l.length v] rfl TA ?_;(with_reducible refine(laws_eqRecordS.calls k _ _ j _ _ l true _ ?side1 ?side2 ?side3 ?side4 A5.out).mono ?_);(case side1=>exact CW ((Kd.C_below G.out HB.out)));(case side2=>exact I.out);(case side3=>exact CW ((Kd.C_below J.out HB.out)));(case side4=>exact K.out);rintro e am ⟨rfl,hb⟩;refine⟨_,rfl,?_⟩;replace c:=KB c hb;replace i:=KB i hb;replace HB:=BS hb;clear hb));go_ret;exact⟨TE,TB⟩
   ·replace c6:=Bool.eq_false_iff.mpr c6;subst c6;replace H:=iff' H;obtain rfl:=Option.some.inj H;go_enter Tryz.func17,Tryz.ntmps17;go_wp2_with (first|((with_reducible refine gate_dst (N:=2) rfl ?_);refine bE 2 #[.string n,.int .i64 o,.slice p j.length q] 30 ?_;intro x hg an hbox hb;have c:=AM (hbox);have y:=bG hg;replace HB:=BS hb;clear hb hbox hg)|((with_reducible refine gate_dst (N:=3) rfl ?_);refine bE 3 #[.string s,.int .i64 t,.slice u l.length v] 30 ?_;intro z hg ao hbox hb;have i:=AM (hbox);have A:=bG hg;replace HB:=BS hb;have g:=bN c hg;have m:=bM c hg;replace c:=KB c hb;clear hb hbox hg;obtain⟨Y,Z⟩:=nn g;have aa:=cz3 c;have ab:=cz3 i)|((with_reducible refine gate_callee (f:=35) rfl ?_);refine goesL_ (some 19) rfl rfl Tryz.func35 KR rfl #[.slice p j.length q,.slice u l.length v] rfl TA ?_;(with_reducible refine(laws_eqRecordS.calls k _ _ j _ _ l false _ ?side1 ?side2 ?side3 ?side4 A5.out).mono ?_);(case side1=>exact CW ((Kd.C_below G.out HB.out)));(case side2=>exact I.out);(case side3=>exact CW ((Kd.C_below J.out HB.out)));(case side4=>exact K.out);rintro e ap ⟨rfl,hb⟩;refine⟨_,rfl,?_⟩;replace c:=KB c hb;replace i:=KB i hb;replace HB:=BS hb;clear hb));go_ret;exact⟨TE,TB⟩
  ·rw[if_neg c4] at H;have U:=beq_eq_false_iff_ne.mpr c4;have V:=bne_iff_ne.mpr c4;obtain rfl:=Option.some.inj H;go_enter Tryz.func17,Tryz.ntmps17;go_wp2_with (first|((with_reducible refine gate_dst (N:=2) rfl ?_);refine bE 2 #[.string n,.int .i64 o,.slice p j.length q] 30 ?_;intro x hg aq hbox hb;have c:=AM (hbox);have y:=bG hg;replace HB:=BS hb;clear hb hbox hg)|((with_reducible refine gate_dst (N:=3) rfl ?_);refine bE 3 #[.string s,.int .i64 t,.slice u l.length v] 30 ?_;intro z hg ar hbox hb;have i:=AM (hbox);have A:=bG hg;replace HB:=BS hb;have g:=bN c hg;have m:=bM c hg;replace c:=KB c hb;clear hb hbox hg;obtain⟨ac,ad⟩:=nn g;have ae:=cz3 c;have af:=cz3 i));go_ret;exact⟨TE,TB⟩
 ·rw[if_neg c3] at H;have O:=beq_eq_false_iff_ne.mpr c3;have R:=bne_iff_ne.mpr c3;obtain rfl:=Option.some.inj H;go_enter Tryz.func17,Tryz.ntmps17;go_wp2_with (first|((with_reducible refine gate_dst (N:=2) rfl ?_);refine bE 2 #[.string n,.int .i64 o,.slice p j.length q] 30 ?_;intro x hg au hbox hb;have c:=AM (hbox);have y:=bG hg;replace HB:=BS hb;clear hb hbox hg)|((with_reducible refine gate_dst (N:=3) rfl ?_);refine bE 3 #[.string s,.int .i64 t,.slice u l.length v] 30 ?_;intro z hg av hbox hb;have i:=AM (hbox);have A:=bG hg;replace HB:=BS hb;have g:=bN c hg;have m:=bM c hg;replace c:=KB c hb;clear hb hbox hg;obtain⟨ag,ah⟩:=nn g;have ai:=cz3 c;have aj:=cz3 i));go_ret;exact⟨TE,TB⟩
end
section
/-! ### laws_eqZoneS: function 71 -/
def laws_eqZoneS.l0:Nat→List (S_Zone)→List (S_Zone)→Int→Option (Bool)
 | 0,_,_,_=>none
 | k+1,x0,x1,x5=>if x5<(x0.length:Int) then(if 0≤x5 then(if x5<(x1.length:Int) then((laws_eqZone.f k ((rd_TZone x0 x5).f0) ((rd_TZone x0 x5).f1) ((rd_TZone x0 x5).f2) ((rd_TZone x1 x5).f0) ((rd_TZone x1 x5).f1) ((rd_TZone x1 x5).f2)).bind fun c=>(if c=true then(laws_eqZoneS.l0 k x0 x1 (wrap64 (x5+1))) else(some false))) else(none)) else(none)) else(some true)
def laws_eqZoneS.f (k:Nat) (l0:List (S_Zone)) (l1:List (S_Zone)):Option (Bool):=if (l0.length:Int)=(l1.length:Int) then(laws_eqZoneS.l0 k l0 l1 0) else(some false)
def laws_eqZoneS.T6:Bool × List (List Nat × List Nat):=(true,[([],[]),([],[]),([0,1],[0,1]),([2],[2]),([],[]),([],[]),([4,5],[4,5]),([6],[6]),([3,7],[3,7]),([8],[8])])
def laws_eqZoneS.B6:List Nat:=[0,0,3,7,0,0,48,112,255,511]
theorem laws_eqZoneS.tab6:rtab .any (opsOf Tryz.f71 6)=laws_eqZoneS.T6:=by kernel_rfl
theorem laws_eqZoneS.bits6:waitsOk laws_eqZoneS.T6.2 laws_eqZoneS.B6=true:=by kernel_rfl
theorem laws_eqZoneS.calls (k:Nat) (A0:Option Addr) (c0:Nat) (l0:List (S_Zone)) (A1:Option Addr) (c1:Nat) (l1:List (S_Zone)) (r:Bool) (w:World) (ac:Kd.C k_Zone w A0 l0.length l0) (ad:l0.length≤c0) (ae:Kd.C k_Zone w A1 l1.length l1) (af:l1.length≤c1) (h:laws_eqZoneS.f k l0 l1=some r) :
  Calls Tryz.prog 71 #[.slice A0 l0.length c0,.slice A1 l1.length c1] w fun e w'=>e=.returned (.bool r)∧Below w.heap.size w w':=by
 have hu30:=Tryz.underlying30;have ag:=AM ac;have ao:=AM ad;clear ac ad;have ah:=AM ae;have ap:=AM af;clear ae af;have HB:=AM (Below.refl w.heap.size w);have H:(if (l0.length:Int)=(l1.length:Int) then(laws_eqZoneS.l0 k l0 l1 0) else(some false))=some r:=h;clear h;by_cases c3:(l0.length:Int)=(l1.length:Int)
 ·rw[if_pos c3] at H;have ai:=beq_iff_eq.mpr c3;have aj:=bne_eq_false_iff_eq.mpr c3
  have ak:(l0.length==l1.length)=true:=by first|simpa using c3|(simp at c3 ⊢;omega)
  clear c3;have H':=AM H;clear H;go_enter Tryz.func71,Tryz.ntmps71;go_wp2;go_loopg [5] k (fun kq v5 w'=>∃(c:Int),v5=.int .i64 c∧Aside0 (laws_eqZoneS.l0 kq l0 l1 c=some r)∧Aside0 (kq≤k)∧Aside0 (Below w.heap.size w w'))
  case atStart=>exact⟨(0),TF,H',⟨Nat.le_refl _⟩,⟨TB⟩⟩
  case round =>
   clear H';obtain⟨c,rfl,HA,HK1,HB⟩:=hrel
   cases gk with
   | zero=>exact absurd HA.out (by simp[laws_eqZoneS.l0])
   | succ k1 =>
    have H:=HA.out;clear HA;simp only[laws_eqZoneS.l0] at H;by_cases c4:c<(l0.length:Int)
    ·rw[if_pos c4] at H;have al:=decide_eq_true c4;clear c4;obtain⟨c5,H⟩:=ifn H;have am:=decide_eq_true c5;clear c5;obtain⟨c6,H⟩:=ifn H;have an:=decide_eq_true c6;clear c6;obtain⟨ab,A7,H⟩:=bnd H;by_cases c8:ab=true
     ·subst c8;replace H:=ift H;have H':=AM H;clear H
      try go_wp2
      replace HB:=AM (below_drew1 HB.out);have R:0≤(c:Int):=TD;have U:c<(l0.length:Int):=TD;obtain⟨y,I,J,Z,g,j,l,A,B⟩:=at_TZone ag.out c R U;have m:=l;have o:=j;have p:=g;cases Z;replace g:=hBc HB g;replace j:=hBc HB j;replace l:=hBc HB l;have D:=AM B;have X:=AM A;clear B A;replace R:=eq_true R;replace U:=eq_true U;have V:0≤(c:Int):=TD;have W:c<(l1.length:Int):=TD;obtain⟨z,M,O,aa,q,s,t,E,F⟩:=at_TZone ah.out c V W;have u:=t;have v:=s;have x:=q;cases aa;replace q:=hBc HB q;replace s:=hBc HB s;replace t:=hBc HB t;have G:=AM F;have Y:=AM E;clear F E;replace V:=eq_true V;replace W:=eq_true W;refine start_ (n:=10) (S:=fun w'=>w'.cell? (y.add ((c).toNat * 3))=some (.string ((rd_TZone l0 c).f0))∧w'.cell? ⟨(y.add ((c).toNat * 3)).block,(y.add ((c).toNat * 3)).off+1,none⟩=some (.int .i64 ((rd_TZone l0 c).f1))∧w'.cell? ⟨(y.add ((c).toNat * 3)).block,(y.add ((c).toNat * 3)).off+2,none⟩=some (.slice I ((rd_TZone l0 c).f2).length J)∧w'.cell? (z.add ((c).toNat * 3))=some (.string ((rd_TZone l1 c).f0))∧w'.cell? ⟨(z.add ((c).toNat * 3)).block,(z.add ((c).toNat * 3)).off+1,none⟩=some (.int .i64 ((rd_TZone l1 c).f1))∧w'.cell? ⟨(z.add ((c).toNat * 3)).block,(z.add ((c).toNat * 3)).off+2,none⟩=some (.slice M ((rd_TZone l1 c).f2).length O)) (ds:=[]) #[false,false,false,false,false,false,false,false,false,false] KR rfl rfl ⟨((HB.out.cell (World.block_lt_of_cell? w _ p)).trans p),((HB.out.cell (World.block_lt_of_cell? w _ o)).trans o),((HB.out.cell (World.block_lt_of_cell? w _ m)).trans m),((HB.out.cell (World.block_lt_of_cell? w _ x)).trans x),((HB.out.cell (World.block_lt_of_cell? w _ v)).trans v),((HB.out.cell (World.block_lt_of_cell? w _ u)).trans u)⟩ (fun hHeld=>?_);refine with_tabW laws_eqZoneS.tab6 laws_eqZoneS.bits6 (fun HT_ HW_=>?_);generalize wr.drew=w9 at HB D G g j l q s t hHeld ⊢;refine pA 0 17 (mL 10 1) HT_ rfl rfl ?_;refine pA 1 18 (mL 10 3) HT_ rfl rfl ?_;refine pA 2 19 (mL 10 7) HT_ rfl rfl ?_;refine pA 4 21 (mL 10 23) HT_ rfl rfl ?_;refine pA 5 22 (mL 10 55) HT_ rfl rfl ?_;refine pA 6 23 (mL 10 119) HT_ rfl rfl ?_;refine tA 3 20 (mL 10 127) HT_ HW_ hHeld rfl rfl (by rintro w' ⟨s0,s1,s2,s3,s4,s5⟩;go_simp;with_reducible rfl) ?_;refine tA 7 24 (mL 10 255) HT_ HW_ hHeld rfl rfl (by rintro w' ⟨s0,s1,s2,s3,s4,s5⟩;go_simp;with_reducible rfl) ?_;refine one_ (i:=8) (N:=some 25) (mL 10 511) rfl rfl (one_of HT_.out KR) (by decide) (fun K hK=>?_);refine goes_ Tryz.func17 KR rfl #[.agg #[.string ((rd_TZone l0 c).f0),.int .i64 ((rd_TZone l0 c).f1),.slice I ((rd_TZone l0 c).f2).length J],.agg #[.string ((rd_TZone l1 c).f0),.int .i64 ((rd_TZone l1 c).f1),.slice M ((rd_TZone l1 c).f2).length O]] (by rfl) rfl rfl TA ?_
      with_reducible refine(laws_eqZone.calls k1 ((rd_TZone l0 c).f0) ((rd_TZone l0 c).f1) _ _ ((rd_TZone l0 c).f2) ((rd_TZone l1 c).f0) ((rd_TZone l1 c).f1) _ _ ((rd_TZone l1 c).f2) true _ ?side1 ?side2 ?side3 ?side4 A7.out).mono ?_
      (case side1=>exact CW ((Kd.C_below D.out HB.out)));(case side2=>exact X.out);(case side3=>exact CW ((Kd.C_below G.out HB.out)));(case side4=>exact Y.out);rintro e aq ⟨rfl,hb⟩;refine⟨_,rfl,?_⟩;replace HB:=BS hb;(try clear hb);(try clear hb2);(try clear hk);(try clear hi);refine hK.out _ _ ⟨((HB.out.cell (World.block_lt_of_cell? w _ p)).trans p),((HB.out.cell (World.block_lt_of_cell? w _ o)).trans o),((HB.out.cell (World.block_lt_of_cell? w _ m)).trans m),((HB.out.cell (World.block_lt_of_cell? w _ x)).trans x),((HB.out.cell (World.block_lt_of_cell? w _ v)).trans v),((HB.out.cell (World.block_lt_of_cell? w _ u)).trans u)⟩ (fun hHeld=>?_);clear hK K;refine nA ?_;refine pA 9 26 (mL 10 1023) HT_ rfl rfl ?_;refine done_ (done_of HT_.out KR) ?_
      try go_wp2
      go_roundg k1
      case measure=>have:=HK1.out;omega
      case rel=>exact⟨(wrap64 (c+1)),TF,H',⟨TM⟩,⟨TB⟩⟩
     ·replace c8:=Bool.eq_false_iff.mpr c8;subst c8;replace H:=iff' H;obtain rfl:=Option.some.inj H
      try go_wp2
      replace HB:=AM (below_drew1 HB.out);have R:0≤(c:Int):=TD;have U:c<(l0.length:Int):=TD;obtain⟨y,I,J,Z,g,j,l,A,B⟩:=at_TZone ag.out c R U;have m:=l;have o:=j;have p:=g;cases Z;replace g:=hBc HB g;replace j:=hBc HB j;replace l:=hBc HB l;have D:=AM B;have X:=AM A;clear B A;replace R:=eq_true R;replace U:=eq_true U;have V:0≤(c:Int):=TD;have W:c<(l1.length:Int):=TD;obtain⟨z,M,O,aa,q,s,t,E,F⟩:=at_TZone ah.out c V W;have u:=t;have v:=s;have x:=q;cases aa;replace q:=hBc HB q;replace s:=hBc HB s;replace t:=hBc HB t;have G:=AM F;have Y:=AM E;clear F E;replace V:=eq_true V;replace W:=eq_true W;refine start_ (n:=10) (S:=fun w'=>w'.cell? (y.add ((c).toNat * 3))=some (.string ((rd_TZone l0 c).f0))∧w'.cell? ⟨(y.add ((c).toNat * 3)).block,(y.add ((c).toNat * 3)).off+1,none⟩=some (.int .i64 ((rd_TZone l0 c).f1))∧w'.cell? ⟨(y.add ((c).toNat * 3)).block,(y.add ((c).toNat * 3)).off+2,none⟩=some (.slice I ((rd_TZone l0 c).f2).length J)∧w'.cell? (z.add ((c).toNat * 3))=some (.string ((rd_TZone l1 c).f0))∧w'.cell? ⟨(z.add ((c).toNat * 3)).block,(z.add ((c).toNat * 3)).off+1,none⟩=some (.int .i64 ((rd_TZone l1 c).f1))∧w'.cell? ⟨(z.add ((c).toNat * 3)).block,(z.add ((c).toNat * 3)).off+2,none⟩=some (.slice M ((rd_TZone l1 c).f2).length O)) (ds:=[]) #[false,false,false,false,false,false,false,false,false,false] KR rfl rfl ⟨((HB.out.cell (World.block_lt_of_cell? w _ p)).trans p),((HB.out.cell (World.block_lt_of_cell? w _ o)).trans o),((HB.out.cell (World.block_lt_of_cell? w _ m)).trans m),((HB.out.cell (World.block_lt_of_cell? w _ x)).trans x),((HB.out.cell (World.block_lt_of_cell? w _ v)).trans v),((HB.out.cell (World.block_lt_of_cell? w _ u)).trans u)⟩ (fun hHeld=>?_);refine with_tabW laws_eqZoneS.tab6 laws_eqZoneS.bits6 (fun HT_ HW_=>?_);generalize wr.drew=ar at HB D G g j l q s t hHeld ⊢;refine pA 0 17 (mL 10 1) HT_ rfl rfl ?_;refine pA 1 18 (mL 10 3) HT_ rfl rfl ?_;refine pA 2 19 (mL 10 7) HT_ rfl rfl ?_;refine pA 4 21 (mL 10 23) HT_ rfl rfl ?_;refine pA 5 22 (mL 10 55) HT_ rfl rfl ?_;refine pA 6 23 (mL 10 119) HT_ rfl rfl ?_;refine tA 3 20 (mL 10 127) HT_ HW_ hHeld rfl rfl (by rintro w' ⟨s0,s1,s2,s3,s4,s5⟩;go_simp;with_reducible rfl) ?_;refine tA 7 24 (mL 10 255) HT_ HW_ hHeld rfl rfl (by rintro w' ⟨s0,s1,s2,s3,s4,s5⟩;go_simp;with_reducible rfl) ?_;refine one_ (i:=8) (N:=some 25) (mL 10 511) rfl rfl (one_of HT_.out KR) (by decide) (fun K hK=>?_);refine goes_ Tryz.func17 KR rfl #[.agg #[.string ((rd_TZone l0 c).f0),.int .i64 ((rd_TZone l0 c).f1),.slice I ((rd_TZone l0 c).f2).length J],.agg #[.string ((rd_TZone l1 c).f0),.int .i64 ((rd_TZone l1 c).f1),.slice M ((rd_TZone l1 c).f2).length O]] (by rfl) rfl rfl TA ?_
      with_reducible refine(laws_eqZone.calls k1 ((rd_TZone l0 c).f0) ((rd_TZone l0 c).f1) _ _ ((rd_TZone l0 c).f2) ((rd_TZone l1 c).f0) ((rd_TZone l1 c).f1) _ _ ((rd_TZone l1 c).f2) false _ ?side1 ?side2 ?side3 ?side4 A7.out).mono ?_
      (case side1=>exact CW ((Kd.C_below D.out HB.out)));(case side2=>exact X.out);(case side3=>exact CW ((Kd.C_below G.out HB.out)));(case side4=>exact Y.out);rintro e au ⟨rfl,hb⟩;refine⟨_,rfl,?_⟩;replace HB:=BS hb;(try clear hb);(try clear hb2);(try clear hk);(try clear hi);refine hK.out _ _ ⟨((HB.out.cell (World.block_lt_of_cell? w _ p)).trans p),((HB.out.cell (World.block_lt_of_cell? w _ o)).trans o),((HB.out.cell (World.block_lt_of_cell? w _ m)).trans m),((HB.out.cell (World.block_lt_of_cell? w _ x)).trans x),((HB.out.cell (World.block_lt_of_cell? w _ v)).trans v),((HB.out.cell (World.block_lt_of_cell? w _ u)).trans u)⟩ (fun hHeld=>?_);clear hK K;refine nA ?_;refine pA 9 26 (mL 10 1023) HT_ rfl rfl ?_;refine done_ (done_of HT_.out KR) ?_
      try go_wp2
      go_ret;exact⟨TE,TB⟩
    ·rw[if_neg c4] at H;have al:=decide_eq_false c4;clear c4;obtain rfl:=Option.some.inj H;go_wp2;go_ret;exact⟨TE,TB⟩
 ·rw[if_neg c3] at H;have ai:=beq_eq_false_iff_ne.mpr c3;have aj:=bne_iff_ne.mpr c3
  have ak:(l0.length==l1.length)=false:=by first|simpa using c3|(simp at c3 ⊢;omega)
  obtain rfl:=Option.some.inj H;go_enter Tryz.func71,Tryz.ntmps71;go_wp2;go_ret;exact⟨TE,TB⟩
end
section
/-! ### laws_eqWorld: function 22 -/
def laws_eqWorld.f (k:Nat) (l0_0:List (S_Zone)) (l1_0:List (S_Zone)):Option (Bool):=(laws_eqZoneS.f k l0_0 l1_0).bind fun t1193=>(if t1193=true then(some true) else(some false))
theorem laws_eqWorld.calls (k:Nat) (m:Option Addr) (n:Nat) (j:List (S_Zone)) (o:Option Addr) (p:Nat) (l:List (S_Zone)) (r:Bool) (w:World) (t:Kd.C k_Zone w m j.length j) (u:j.length≤n) (v:Kd.C k_Zone w o l.length l) (x:l.length≤p) (h:laws_eqWorld.f k j l=some r) :
  Calls Tryz.prog 22 #[.agg #[.slice m j.length n],.agg #[.slice o l.length p]] w fun e w'=>e=.returned (.bool r)∧Below w.heap.size w w':=by
 have hu41:=Tryz.underlying41;have y:=AM t;have z:=AM u;clear t u;have A:=AM v;have B:=AM x;clear v x;have HB:=AM (Below.refl w.heap.size w);have H:((laws_eqZoneS.f k j l).bind fun s=>(if s=true then(some true) else(some false)))=some r:=h;clear h;obtain⟨s,A3,H⟩:=bnd H;by_cases c4:s=true
 ·subst c4;replace H:=ift H;obtain rfl:=Option.some.inj H;go_enter Tryz.func22,Tryz.ntmps22;go_wp2_with (first|((with_reducible refine gate_dst (N:=2) rfl ?_);refine bE 2 #[.slice m j.length n] 41 ?_;intro D hg w5 hbox hb;have c:=AM (hbox);have E:=bG hg;replace HB:=BS hb;clear hb hbox hg)|((with_reducible refine gate_dst (N:=3) rfl ?_);refine bE 3 #[.slice o l.length p] 41 ?_;intro F hg w6 hbox hb;have g:=AM (hbox);have G:=bG hg;replace HB:=BS hb;have i:=bN c hg;have q:=bM c hg;replace c:=KB c hb;clear hb hbox hg;obtain⟨O,R⟩:=nn i;have U:=cz1 c;have V:=cz1 g)|((with_reducible refine gate_callee (f:=71) rfl ?_);refine goesL_ (some 9) rfl rfl Tryz.func71 KR rfl #[.slice m j.length n,.slice o l.length p] rfl TA ?_;(with_reducible refine(laws_eqZoneS.calls k _ _ j _ _ l true _ ?side1 ?side2 ?side3 ?side4 A3.out).mono ?_);(case side1=>exact CW ((Kd.C_below y.out HB.out)));(case side2=>exact z.out);(case side3=>exact CW ((Kd.C_below A.out HB.out)));(case side4=>exact B.out);rintro e W ⟨rfl,hb⟩;refine⟨_,rfl,?_⟩;replace c:=KB c hb;replace g:=KB g hb;replace HB:=BS hb;clear hb));go_ret;exact⟨TE,TB⟩
 ·replace c4:=Bool.eq_false_iff.mpr c4;subst c4;replace H:=iff' H;obtain rfl:=Option.some.inj H;go_enter Tryz.func22,Tryz.ntmps22;go_wp2_with (first|((with_reducible refine gate_dst (N:=2) rfl ?_);refine bE 2 #[.slice m j.length n] 41 ?_;intro D hg X hbox hb;have c:=AM (hbox);have E:=bG hg;replace HB:=BS hb;clear hb hbox hg)|((with_reducible refine gate_dst (N:=3) rfl ?_);refine bE 3 #[.slice o l.length p] 41 ?_;intro F hg Y hbox hb;have g:=AM (hbox);have G:=bG hg;replace HB:=BS hb;have i:=bN c hg;have q:=bM c hg;replace c:=KB c hb;clear hb hbox hg;obtain⟨I,J⟩:=nn i;have K:=cz1 c;have M:=cz1 g)|((with_reducible refine gate_callee (f:=71) rfl ?_);refine goesL_ (some 9) rfl rfl Tryz.func71 KR rfl #[.slice m j.length n,.slice o l.length p] rfl TA ?_;(with_reducible refine(laws_eqZoneS.calls k _ _ j _ _ l false _ ?side1 ?side2 ?side3 ?side4 A3.out).mono ?_);(case side1=>exact CW ((Kd.C_below y.out HB.out)));(case side2=>exact z.out);(case side3=>exact CW ((Kd.C_below A.out HB.out)));(case side4=>exact B.out);rintro e Z ⟨rfl,hb⟩;refine⟨_,rfl,?_⟩;replace c:=KB c hb;replace g:=KB g hb;replace HB:=BS hb;clear hb));go_ret;exact⟨TE,TB⟩
end
section
/-! ### spec_l1Split: function 149 -/
def spec_l1Split.l0:Nat→ByteArray→Int→List ByteArray→Int→Int→Option (List ByteArray)
 | 0,_,_,_,_,_=>none
 | k+1,x0,x1,x5,x6,x7=>if x7<(x0.size:Int) then(if 0≤x7 then(if (bt x0 x7)=x1 then(if 0≤x6 then(if x6≤x7 then(if x7≤(x0.size:Int) then(if x5.length<8796093022208 then(spec_l1Split.l0 k x0 x1 (x5++[x0.extract (x6:Int).toNat (x7:Int).toNat]) (wrap64 (x7+1)) (wrap64 (x7+1))) else(none)) else(none)) else(none)) else(none)) else(spec_l1Split.l0 k x0 x1 x5 x6 (wrap64 (x7+1)))) else(none)) else(if 0≤x6 then(if x6≤(x0.size:Int) then(if x5.length<8796093022208 then(some (x5++[x0.extract (x6:Int).toNat x0.size])) else(none)) else(none)) else(none))
def spec_l1Split.f (k:Nat) (a0:ByteArray) (a1:Int):Option (List ByteArray):=spec_l1Split.l0 k a0 a1 ([]:List ByteArray) 0 0
theorem spec_l1Split.calls (k:Nat) (a0:ByteArray) (a1:Int) (r:List ByteArray) (w:World) (h:spec_l1Split.f k a0 a1=some r) :
  Calls Tryz.prog 149 #[.string a0,.int .u8 a1] w fun e w'=>∃v0_:Value,e=.returned (v0_)∧Kd.R Kd.string 9 w' w.heap.size (fun _=>True) v0_ r∧Below w.heap.size w w':=by
 have HB:=AM (Below.refl w.heap.size w);have H:(spec_l1Split.l0 k a0 a1 ([]:List ByteArray) 0 0)=some r:=h;clear h;have H':=AM H;clear H;go_enter Tryz.func149,Tryz.ntmps149;go_wp2;go_loopg [5,6,7] k (fun kq v5 v6 v7 w'=>∃(i:List ByteArray) (g:Int) (c:Int),v6=.int .i64 g∧v7=.int .i64 c∧Aside0 (spec_l1Split.l0 kq a0 a1 i g c=some r)∧Aside0 (kq≤k)∧Aside0 (Kd.R Kd.string 9 w' w.heap.size (fun _=>True) v5 i)∧Aside0 (Below w.heap.size w w'))
 case atStart=>exact⟨(([]:List ByteArray)),(0),(0),TF,TF,H',⟨Nat.le_refl _⟩,⟨TZ⟩,⟨TB⟩⟩
 case round =>
  clear H';obtain⟨i,g,c,rfl,rfl,HA,HK1,m,HB⟩:=hrel
  cases gk with
  | zero=>exact absurd HA.out (by simp[spec_l1Split.l0])
  | succ k1 =>
   have H:=HA.out;clear HA;simp only[spec_l1Split.l0] at H;by_cases c3:c<(a0.size:Int)
   ·rw[if_pos c3] at H;have t:=decide_eq_true c3;clear c3;obtain⟨c4,H⟩:=ifn H;have E:=decide_eq_true c4;clear c4;by_cases c6:(bt a0 c)=a1
    ·rw[if_pos c6] at H;have u:=beq_iff_eq.mpr c6;have v:=bne_eq_false_iff_eq.mpr c6;clear c6;obtain⟨c7,H⟩:=ifn H;have F:=eq_true c7;have G:=decide_eq_true c7;clear c7;obtain⟨c8,H⟩:=ifn H;have I:=eq_true c8;have J:=decide_eq_true c8;clear c8;obtain⟨c9,H⟩:=ifn H;have K:=eq_true c9;have M:=decide_eq_true c9;clear c9;obtain⟨c10,H⟩:=ifn H;have LMc10:=AM c10;clear c10;obtain⟨n,j⟩:∃y_:List ByteArray,y_=(i++[a0.extract (g:Int).toNat (c:Int).toNat]):=⟨_,rfl⟩
     replace H:(spec_l1Split.l0 k1 a0 a1 n (wrap64 (c+1)) (wrap64 (c+1)))=some r:=by first|(rw[j];with_reducible exact H)|(have H2_:=(Option.bind_some _ _).symm.trans H;rw[j];with_reducible exact H2_)|(have H2_:=(Option.bind_some _ _).symm.trans H;with_reducible exact H2_)|with_reducible exact H|(rw[j];exact H)|exact H
     have Ny124:=AM j;clear j;have H':=AM H;clear H;have p5:0≤(c:Int):=TD;have q5:c<(a0.size:Int):=TD;have z:=bt_at a0 c;replace p5:=eq_true p5;replace q5:=eq_true q5;go_wp2_with (first|((with_reducible refine gate_builtin (b:=.append) (xs:=#[.tmp 19,.tmp 24]) rfl ?_);at_builtin;refine Kd.R_append Kd.string (w0:=w) w.heap.size rfl (.tmp 19) (.tmp 24) 104 9 (.string ⟨#[]⟩) 16 rfl Tryz.underlying104 info9 rfl (by decide) (by omega) u5 i (a0.extract (g:Int).toNat (c:Int).toNat) [.string (a0.extract (g:Int).toNat (c:Int).toNat)] (fun _=>True) (fun _=>False) rfl rfl ?aP (fun _ hk=>hk.elim) ?aF ?aO ?aB ?aS ?aL ?_;(case aP=>exact rfl);(case aB=>exact TB);(case aF=>exact(fun _ _=>trivial));(case aO=>exact(RW m).out);(case aS=>exact(below_size TB));(case aL=>have:=LMc10.out;omega);intro N U ho hb hg hat;rw[←Ny124.out] at ho;have n0_:=AM (hb);have n1_:=AM (ho);clear HB m;have HB:=n0_;have o:=n1_;clear n0_ n1_ ho hb hg hat));go_roundg k1
     case measure=>have:=HK1.out;omega
     case rel=>exact⟨(n),(wrap64 (c+1)),(wrap64 (c+1)),TF,TF,H',⟨TM⟩,RW o,⟨TB⟩⟩
    ·rw[if_neg c6] at H;have u:=beq_eq_false_iff_ne.mpr c6;have v:=bne_iff_ne.mpr c6;have H':=AM H;clear H;have p5:0≤(c:Int):=TD;have q5:c<(a0.size:Int):=TD;have z:=bt_at a0 c;replace p5:=eq_true p5;replace q5:=eq_true q5;go_wp2;go_roundg k1
     case measure=>have:=HK1.out;omega
     case rel=>exact⟨(i),(g),(wrap64 (c+1)),TF,TF,H',⟨TM⟩,RW m,⟨TB⟩⟩
   ·rw[if_neg c3] at H;have t:=decide_eq_false c3;clear c3;obtain⟨p,H⟩:=ifn H;have A:=eq_true p;have B:=decide_eq_true p;clear p;obtain⟨q,H⟩:=ifn H;have C:=eq_true q;have D:=decide_eq_true q;clear q;obtain⟨x,H⟩:=ifn H;have LMc14:=AM x;clear x;obtain⟨y,l⟩:∃y_:List ByteArray,y_=(i++[a0.extract (g:Int).toNat a0.size]):=⟨_,rfl⟩
    replace H:(some y)=some r:=by first|(rw[l];with_reducible exact H)|(have H2_:=(Option.bind_some _ _).symm.trans H;rw[l];with_reducible exact H2_)|(have H2_:=(Option.bind_some _ _).symm.trans H;with_reducible exact H2_)|with_reducible exact H|(rw[l];exact H)|exact H
    have Ny127:=AM l;clear l;obtain rfl:=Option.some.inj H;go_wp2_with (first|((with_reducible refine gate_builtin (b:=.append) (xs:=#[.tmp 28,.tmp 32]) rfl ?_);at_builtin;refine Kd.R_append Kd.string (w0:=w) w.heap.size rfl (.tmp 28) (.tmp 32) 104 9 (.string ⟨#[]⟩) 16 rfl Tryz.underlying104 info9 rfl (by decide) (by omega) u5 i (a0.extract (g:Int).toNat a0.size) [.string (a0.extract (g:Int).toNat a0.size)] (fun _=>True) (fun _=>False) rfl rfl ?aP (fun _ hk=>hk.elim) ?aF ?aO ?aB ?aS ?aL ?_;(case aP=>exact rfl);(case aB=>exact TB);(case aF=>exact(fun _ _=>trivial));(case aO=>exact(RW m).out);(case aS=>exact(below_size TB));(case aL=>have:=LMc14.out;omega);intro O V ho hb hg hat;rw[←Ny127.out] at ho;have n0_:=AM (hb);have n1_:=AM (ho);clear HB m;have HB:=n0_;have s:=n1_;clear n0_ n1_ ho hb hg hat));go_ret;exact⟨_,TE,(RW s).out,TB⟩
end
section
/-! ### spec_l1In: function 66 -/
def spec_l1In.f (a0:Int) (a1:Int) (a2:Int):Option (Bool):=if a0≥a1 then(some (decide (a0≤a2))) else(some false)
theorem spec_l1In.calls (a0:Int) (a1:Int) (a2:Int) (r:Bool) (w:World) (h:spec_l1In.f a0 a1 a2=some r) :
  Calls Tryz.prog 66 #[.int .i64 a0,.int .i64 a1,.int .i64 a2] w fun e w'=>e=.returned (.bool r)∧Drawn0 w w':=by
 have H:(if a0≥a1 then(some (decide (a0≤a2))) else(some false))=some r:=h;clear h;by_cases c4:a0≥a1
 ·rw[if_pos c4] at H;have c:=decide_eq_true c4;clear c4;obtain rfl:=Option.some.inj H;go_enter Tryz.func66,Tryz.ntmps66;go_wp2;go_ret;exact⟨TF,TN⟩
 ·rw[if_neg c4] at H;have c:=decide_eq_false c4;clear c4;obtain rfl:=Option.some.inj H;go_enter Tryz.func66,Tryz.ntmps66;go_wp2;go_ret;exact⟨TF,TN⟩
end
section
/-! ### spec_l1Label: function 150 -/
def spec_l1Label.l0:Nat→ByteArray→Int→Option (Bool)
 | 0,_,_=>none
 | k+1,x0,x3=>if x3<(x0.size:Int) then(if 0≤x3 then(if (bt x0 x3)≥97 then(if (bt x0 x3)≤122 then(spec_l1Label.l0 k x0 (wrap64 (x3+1))) else(if (bt x0 x3)≥48 then(if (bt x0 x3)≤57 then(spec_l1Label.l0 k x0 (wrap64 (x3+1))) else(if (bt x0 x3)=45 then(spec_l1Label.l0 k x0 (wrap64 (x3+1))) else(if ((bt x0 x3)=95) then(spec_l1Label.l0 k x0 (wrap64 (x3+1))) else(some false)))) else(if (bt x0 x3)=45 then(spec_l1Label.l0 k x0 (wrap64 (x3+1))) else(if ((bt x0 x3)=95) then(spec_l1Label.l0 k x0 (wrap64 (x3+1))) else(some false))))) else(if (bt x0 x3)≥48 then(if (bt x0 x3)≤57 then(spec_l1Label.l0 k x0 (wrap64 (x3+1))) else(if (bt x0 x3)=45 then(spec_l1Label.l0 k x0 (wrap64 (x3+1))) else(if ((bt x0 x3)=95) then(spec_l1Label.l0 k x0 (wrap64 (x3+1))) else(some false)))) else(if (bt x0 x3)=45 then(spec_l1Label.l0 k x0 (wrap64 (x3+1))) else(if ((bt x0 x3)=95) then(spec_l1Label.l0 k x0 (wrap64 (x3+1))) else(some false))))) else(none)) else((spec_l1In.f (x0.size:Int) 1 20).bind fun c=>(some c))
def spec_l1Label.f (k:Nat) (a0:ByteArray):Option (Bool):=if a0.toList=([42]:List UInt8) then(some true) else(spec_l1Label.l0 k a0 0)
theorem spec_l1Label.calls (k:Nat) (a0:ByteArray) (r:Bool) (w:World) (h:spec_l1Label.f k a0=some r) :
  Calls Tryz.prog 150 #[.string a0] w fun e w'=>e=.returned (.bool r)∧Drawn0 w w':=by
 have H:(if a0.toList=([42]:List UInt8) then(some true) else(spec_l1Label.l0 k a0 0))=some r:=h;clear h;by_cases c2:a0.toList=([42]:List UInt8)
 ·rw[if_pos c2] at H;have O:=beq_iff_eq.mpr c2;have R:=bne_eq_false_iff_eq.mpr c2;clear c2;obtain rfl:=Option.some.inj H;go_enter Tryz.func150,Tryz.ntmps150;go_wp2;go_ret;exact⟨TF,TN⟩
 ·rw[if_neg c2] at H;have O:=beq_eq_false_iff_ne.mpr c2;have R:=bne_iff_ne.mpr c2;have H':=AM H;clear H;go_enter Tryz.func150,Tryz.ntmps150;go_wp2;go_loopg [3] k (fun kq v3 w'=>∃(c:Int),v3=.int .i64 c∧Aside0 (spec_l1Label.l0 kq a0 c=some r)∧Aside0 (kq≤k)∧Drawn0 w w')
  case atStart=>exact⟨(0),TF,H',⟨Nat.le_refl _⟩,TN⟩
  case round =>
   clear H';obtain⟨c,rfl,HA,HK1,⟨m1,rfl⟩⟩:=hrel
   cases gk with
   | zero=>exact absurd HA.out (by simp[spec_l1Label.l0])
   | succ k1 =>
    have H:=HA.out;clear HA;simp only[spec_l1Label.l0] at H;by_cases c3:c<(a0.size:Int)
    ·rw[if_pos c3] at H;have U:=decide_eq_true c3;clear c3;obtain⟨c4,H⟩:=ifn H;have ab:=decide_eq_true c4;clear c4;by_cases c6:(bt a0 c)≥97
     ·rw[if_pos c6] at H;have V:=decide_eq_true c6;clear c6;by_cases c7:(bt a0 c)≤122
      ·rw[if_pos c7] at H;have W:=decide_eq_true c7;clear c7;have H':=AM H;clear H;have p5:0≤(c:Int):=TD;have q5:c<(a0.size:Int):=TD;have g:=bt_at a0 c;replace p5:=eq_true p5;replace q5:=eq_true q5;go_wp2;go_roundg k1
       case measure=>have:=HK1.out;omega
       case rel=>exact⟨(wrap64 (c+1)),TF,H',⟨TM⟩,TN⟩
      ·rw[if_neg c7] at H;have W:=decide_eq_false c7;clear c7;by_cases c8:(bt a0 c)≥48
       ·rw[if_pos c8] at H;have X:=decide_eq_true c8;clear c8;by_cases c9:(bt a0 c)≤57
        ·rw[if_pos c9] at H;have Y:=decide_eq_true c9;clear c9;have H':=AM H;clear H;have p5:0≤(c:Int):=TD;have q5:c<(a0.size:Int):=TD;have g:=bt_at a0 c;replace p5:=eq_true p5;replace q5:=eq_true q5;go_wp2;go_roundg k1
         case measure=>have:=HK1.out;omega
         case rel=>exact⟨(wrap64 (c+1)),TF,H',⟨TM⟩,TN⟩
        ·rw[if_neg c9] at H;have Y:=decide_eq_false c9;clear c9;by_cases c10:(bt a0 c)=45
         ·rw[if_pos c10] at H;have t:=beq_iff_eq.mpr c10;have u:=bne_eq_false_iff_eq.mpr c10;clear c10;have H':=AM H;clear H;have p5:0≤(c:Int):=TD;have q5:c<(a0.size:Int):=TD;have g:=bt_at a0 c;replace p5:=eq_true p5;replace q5:=eq_true q5;go_wp2;go_roundg k1
          case measure=>have:=HK1.out;omega
          case rel=>exact⟨(wrap64 (c+1)),TF,H',⟨TM⟩,TN⟩
         ·rw[if_neg c10] at H;have t:=beq_eq_false_iff_ne.mpr c10;have u:=bne_iff_ne.mpr c10;by_cases i:((bt a0 c)=95)
          ·rw[if_pos i] at H;have v:=beq_iff_eq.mpr i;have x:=bne_eq_false_iff_eq.mpr i;clear i;have H':=AM H;clear H;have p5:0≤(c:Int):=TD;have q5:c<(a0.size:Int):=TD;have g:=bt_at a0 c;replace p5:=eq_true p5;replace q5:=eq_true q5;go_wp2;go_roundg k1
           case measure=>have:=HK1.out;omega
           case rel=>exact⟨(wrap64 (c+1)),TF,H',⟨TM⟩,TN⟩
          ·rw[if_neg i] at H;have v:=beq_eq_false_iff_ne.mpr i;have x:=bne_iff_ne.mpr i;obtain rfl:=Option.some.inj H;have p5:0≤(c:Int):=TD;have q5:c<(a0.size:Int):=TD;have g:=bt_at a0 c;replace p5:=eq_true p5;replace q5:=eq_true q5;go_wp2;go_ret;exact⟨TF,TN⟩
       ·rw[if_neg c8] at H;have X:=decide_eq_false c8;clear c8;by_cases j:(bt a0 c)=45
        ·rw[if_pos j] at H;have y:=beq_iff_eq.mpr j;have z:=bne_eq_false_iff_eq.mpr j;clear j;have H':=AM H;clear H;have p5:0≤(c:Int):=TD;have q5:c<(a0.size:Int):=TD;have g:=bt_at a0 c;replace p5:=eq_true p5;replace q5:=eq_true q5;go_wp2;go_roundg k1
         case measure=>have:=HK1.out;omega
         case rel=>exact⟨(wrap64 (c+1)),TF,H',⟨TM⟩,TN⟩
        ·rw[if_neg j] at H;have y:=beq_eq_false_iff_ne.mpr j;have z:=bne_iff_ne.mpr j;by_cases l:((bt a0 c)=95)
         ·rw[if_pos l] at H;have A:=beq_iff_eq.mpr l;have B:=bne_eq_false_iff_eq.mpr l;clear l;have H':=AM H;clear H;have p5:0≤(c:Int):=TD;have q5:c<(a0.size:Int):=TD;have g:=bt_at a0 c;replace p5:=eq_true p5;replace q5:=eq_true q5;go_wp2;go_roundg k1
          case measure=>have:=HK1.out;omega
          case rel=>exact⟨(wrap64 (c+1)),TF,H',⟨TM⟩,TN⟩
         ·rw[if_neg l] at H;have A:=beq_eq_false_iff_ne.mpr l;have B:=bne_iff_ne.mpr l;obtain rfl:=Option.some.inj H;have p5:0≤(c:Int):=TD;have q5:c<(a0.size:Int):=TD;have g:=bt_at a0 c;replace p5:=eq_true p5;replace q5:=eq_true q5;go_wp2;go_ret;exact⟨TF,TN⟩
     ·rw[if_neg c6] at H;have V:=decide_eq_false c6;clear c6;by_cases q:(bt a0 c)≥48
      ·rw[if_pos q] at H;have C:=decide_eq_true q;clear q;by_cases s:(bt a0 c)≤57
       ·rw[if_pos s] at H;have D:=decide_eq_true s;clear s;have H':=AM H;clear H;have p5:0≤(c:Int):=TD;have q5:c<(a0.size:Int):=TD;have g:=bt_at a0 c;replace p5:=eq_true p5;replace q5:=eq_true q5;go_wp2;go_roundg k1
        case measure=>have:=HK1.out;omega
        case rel=>exact⟨(wrap64 (c+1)),TF,H',⟨TM⟩,TN⟩
       ·rw[if_neg s] at H;have D:=decide_eq_false s;clear s;by_cases m:(bt a0 c)=45
        ·rw[if_pos m] at H;have E:=beq_iff_eq.mpr m;have F:=bne_eq_false_iff_eq.mpr m;clear m;have H':=AM H;clear H;have p5:0≤(c:Int):=TD;have q5:c<(a0.size:Int):=TD;have g:=bt_at a0 c;replace p5:=eq_true p5;replace q5:=eq_true q5;go_wp2;go_roundg k1
         case measure=>have:=HK1.out;omega
         case rel=>exact⟨(wrap64 (c+1)),TF,H',⟨TM⟩,TN⟩
        ·rw[if_neg m] at H;have E:=beq_eq_false_iff_ne.mpr m;have F:=bne_iff_ne.mpr m;by_cases n:((bt a0 c)=95)
         ·rw[if_pos n] at H;have G:=beq_iff_eq.mpr n;have I:=bne_eq_false_iff_eq.mpr n;clear n;have H':=AM H;clear H;have p5:0≤(c:Int):=TD;have q5:c<(a0.size:Int):=TD;have g:=bt_at a0 c;replace p5:=eq_true p5;replace q5:=eq_true q5;go_wp2;go_roundg k1
          case measure=>have:=HK1.out;omega
          case rel=>exact⟨(wrap64 (c+1)),TF,H',⟨TM⟩,TN⟩
         ·rw[if_neg n] at H;have G:=beq_eq_false_iff_ne.mpr n;have I:=bne_iff_ne.mpr n;obtain rfl:=Option.some.inj H;have p5:0≤(c:Int):=TD;have q5:c<(a0.size:Int):=TD;have g:=bt_at a0 c;replace p5:=eq_true p5;replace q5:=eq_true q5;go_wp2;go_ret;exact⟨TF,TN⟩
      ·rw[if_neg q] at H;have C:=decide_eq_false q;clear q;by_cases o:(bt a0 c)=45
       ·rw[if_pos o] at H;have J:=beq_iff_eq.mpr o;have K:=bne_eq_false_iff_eq.mpr o;clear o;have H':=AM H;clear H;have p5:0≤(c:Int):=TD;have q5:c<(a0.size:Int):=TD;have g:=bt_at a0 c;replace p5:=eq_true p5;replace q5:=eq_true q5;go_wp2;go_roundg k1
        case measure=>have:=HK1.out;omega
        case rel=>exact⟨(wrap64 (c+1)),TF,H',⟨TM⟩,TN⟩
       ·rw[if_neg o] at H;have J:=beq_eq_false_iff_ne.mpr o;have K:=bne_iff_ne.mpr o;by_cases p:((bt a0 c)=95)
        ·rw[if_pos p] at H;have M:=beq_iff_eq.mpr p;have N:=bne_eq_false_iff_eq.mpr p;clear p;have H':=AM H;clear H;have p5:0≤(c:Int):=TD;have q5:c<(a0.size:Int):=TD;have g:=bt_at a0 c;replace p5:=eq_true p5;replace q5:=eq_true q5;go_wp2;go_roundg k1
         case measure=>have:=HK1.out;omega
         case rel=>exact⟨(wrap64 (c+1)),TF,H',⟨TM⟩,TN⟩
        ·rw[if_neg p] at H;have M:=beq_eq_false_iff_ne.mpr p;have N:=bne_iff_ne.mpr p;obtain rfl:=Option.some.inj H;have p5:0≤(c:Int):=TD;have q5:c<(a0.size:Int):=TD;have g:=bt_at a0 c;replace p5:=eq_true p5;replace q5:=eq_true q5;go_wp2;go_ret;exact⟨TF,TN⟩
    ·rw[if_neg c3] at H;have U:=decide_eq_false c3;clear c3;obtain⟨Z,aa,H⟩:=bnd H;obtain rfl:=Option.some.inj H;go_wp2_with (first|((with_reducible refine gate_callee (f:=66) rfl ?_);refine goesL_ (some 41) rfl rfl Tryz.func66 KR rfl #[.int .i64 (a0.size:Int),.int .i64 1,.int .i64 20] rfl TA ?_;(with_reducible refine(spec_l1In.calls (a0.size:Int) 1 20 Z _ aa.out).mono ?_);rintro e w' ⟨rfl,⟨nd,rfl⟩⟩;refine⟨_,rfl,?_⟩));go_ret;exact⟨TF,TN⟩
end
section
/-! ### spec_l1Labels: function 108 -/
def spec_l1Labels.l0:Nat→ByteArray→List ByteArray→List ByteArray→Int→Int→Option (List ByteArray × Bool)
 | 0,_,_,_,_,_=>none
 | k+1,x0,x4,g,h,c=>if c<h then(if 0≤c then(if c<(g.length:Int) then((spec_l1Label.f k (rdOf ByteArray.empty g c)).bind fun i=>(if i=true then(spec_l1Labels.l0 k x0 x4 g h (wrap64 (c+1))) else(some (([]:List ByteArray),false)))) else(none)) else(none)) else(if (x0.size:Int)≤60 then(some (x4,decide ((x4.length:Int)≤8))) else(some (x4,false)))
def spec_l1Labels.f (k:Nat) (a0:ByteArray):Option (List ByteArray × Bool):=if a0.toList=([]:List UInt8) then(some (([]:List ByteArray),true)) else((spec_l1Split.f k a0 46).bind fun t131=>(spec_l1Labels.l0 k a0 t131 t131 (t131.length:Int) 0))
theorem spec_l1Labels.calls (k:Nat) (a0:ByteArray) (r1:List ByteArray) (r2:Bool) (w:World) (h:spec_l1Labels.f k a0=some (r1,r2)) :
  Calls Tryz.prog 108 #[.string a0] w fun e w'=>∃v0_:Value,e=.returned (.tuple #[v0_,.bool r2])∧Kd.R Kd.string 9 w' w.heap.size (fun _=>True) v0_ r1∧Below w.heap.size w w':=by
 have HB:=AM (Below.refl w.heap.size w);have H:(if a0.toList=([]:List UInt8) then(some (([]:List ByteArray),true)) else((spec_l1Split.f k a0 46).bind fun g=>(spec_l1Labels.l0 k a0 g g (g.length:Int) 0)))=some (r1,r2):=h;clear h;by_cases c2:a0.toList=([]:List UInt8)
 ·rw[if_pos c2] at H;have v:=beq_iff_eq.mpr c2;have x:=bne_eq_false_iff_eq.mpr c2;clear c2;simp only[Option.some.injEq,Prod.mk.injEq] at H;obtain⟨rfl,rfl⟩:=H;go_enter Tryz.func108,Tryz.ntmps108;go_wp2;go_ret2;exact⟨_,by first|rfl|(simp[errW_none,errW_some]<;>rfl)|(simp[*,errW_none,errW_some]<;>rfl)|(simp[errW_none,errW_some];rw[Bool.eq_iff_iff];simp),TZ,TB⟩
 ·rw[if_neg c2] at H;have v:=beq_eq_false_iff_ne.mpr c2;have x:=bne_iff_ne.mpr c2;obtain⟨g,A3,H⟩:=bnd H;have H':=AM H;clear H;go_enter Tryz.func108,Tryz.ntmps108;go_wp2_with (first|((with_reducible refine gate_callee (f:=149) rfl ?_);refine goesL_ (some 10) rfl rfl Tryz.func149 KR rfl #[.string a0,.int .u8 46] rfl TA ?_;(with_reducible refine(spec_l1Split.calls k a0 46 g _ A3.out).mono ?_);rintro e w4 ⟨E,rfl,y,hb⟩;refine⟨_,rfl,?_⟩;have l:=RL y;replace HB:=BS hb;clear hb;(try clear y);obtain⟨z,A,eo5⟩:=Kd.R_slice l.out;subst eo5));go_loopg [13] k (fun kq D w'=>∃(c:Int),D=.int .i64 c∧Aside0 (spec_l1Labels.l0 kq a0 g g (g.length:Int) c=some (r1,r2))∧Aside0 (kq≤k)∧Aside0 (Kd.R Kd.string 9 w' w.heap.size (fun _=>True) (.slice z g.length A) g)∧Aside0 (Kd.R Kd.string 9 w' w.heap.size (fun _=>True) (.slice z g.length A) g)∧Aside0 (Below w.heap.size w w'))
  case atStart=>exact⟨(0),TF,H',⟨Nat.le_refl _⟩,RW l,RW l,⟨TB⟩⟩
  case round =>
   clear H';obtain⟨c,rfl,HA,HK1,o,m,HB⟩:=hrel
   cases gk with
   | zero=>exact absurd HA.out (by simp[spec_l1Labels.l0])
   | succ k1 =>
    have H:=HA.out;clear HA;simp only[spec_l1Labels.l0] at H;by_cases c6:c<(g.length:Int)
    ·rw[if_pos c6] at H;have B:=decide_eq_true c6;clear c6;obtain⟨c7,H⟩:=ifn H;have F:=decide_eq_true c7;clear c7;obtain⟨c8,H⟩:=ifn H;have G:=decide_eq_true c8;clear c8;obtain⟨C,A9,H⟩:=bnd H;by_cases c10:C=true
     ·subst c10;replace H:=ift H;have H':=AM H;clear H;have i:0≤(c:Int):=TD;have j:c<(g.length:Int):=TD;obtain⟨s,p,q⟩:=Kd.at_string (Kd.R_reads' m.out).2.2 c i j;cases p;replace i:=eq_true i;replace j:=eq_true j;go_wp2_with (first|((with_reducible refine gate_callee (f:=150) rfl ?_);refine goesL_ (some 18) rfl rfl Tryz.func150 KR rfl #[.string (rdOf ByteArray.empty g c)] rfl TA ?_;(with_reducible refine(spec_l1Label.calls k1 (rdOf ByteArray.empty g c) true _ A9.out).mono ?_);rintro e w' ⟨rfl,⟨nd,rfl⟩⟩;refine⟨_,rfl,?_⟩));go_roundg k1
      case measure=>have:=HK1.out;omega
      case rel=>exact⟨(wrap64 (c+1)),TF,H',⟨TM⟩,RW o,RW m,⟨TB⟩⟩
     ·replace c10:=Bool.eq_false_iff.mpr c10;subst c10;replace H:=iff' H;simp only[Option.some.injEq,Prod.mk.injEq] at H;obtain⟨rfl,rfl⟩:=H;have i:0≤(c:Int):=TD;have j:c<(g.length:Int):=TD;obtain⟨s,p,q⟩:=Kd.at_string (Kd.R_reads' m.out).2.2 c i j;cases p;replace i:=eq_true i;replace j:=eq_true j;go_wp2_with (first|((with_reducible refine gate_callee (f:=150) rfl ?_);refine goesL_ (some 18) rfl rfl Tryz.func150 KR rfl #[.string (rdOf ByteArray.empty g c)] rfl TA ?_;(with_reducible refine(spec_l1Label.calls k1 (rdOf ByteArray.empty g c) false _ A9.out).mono ?_);rintro e w' ⟨rfl,⟨nd,rfl⟩⟩;refine⟨_,rfl,?_⟩));go_ret2;exact⟨_,by first|rfl|(simp[errW_none,errW_some]<;>rfl)|(simp[*,errW_none,errW_some]<;>rfl)|(simp[errW_none,errW_some];rw[Bool.eq_iff_iff];simp),TZ,TB⟩
    ·rw[if_neg c6] at H;have B:=decide_eq_false c6;clear c6;by_cases n:(a0.size:Int)≤60
     ·rw[if_pos n] at H;have t:=decide_eq_true n;have u:decide (a0.size≤60)=true:=decide_eq_true (by omega);clear n;simp only[Option.some.injEq,Prod.mk.injEq] at H;obtain⟨rfl,rfl⟩:=H;go_wp2;go_ret2;exact⟨_,by first|rfl|(simp[errW_none,errW_some]<;>rfl)|(simp[*,errW_none,errW_some]<;>rfl)|(simp[errW_none,errW_some];rw[Bool.eq_iff_iff];simp),(RW o).out,TB⟩
     ·rw[if_neg n] at H;have t:=decide_eq_false n;have u:decide (a0.size≤60)=false:=decide_eq_false (by omega);clear n;simp only[Option.some.injEq,Prod.mk.injEq] at H;obtain⟨rfl,rfl⟩:=H;go_wp2;go_ret2;exact⟨_,by first|rfl|(simp[errW_none,errW_some]<;>rfl)|(simp[*,errW_none,errW_some]<;>rfl)|(simp[errW_none,errW_some];rw[Bool.eq_iff_iff];simp),(RW o).out,TB⟩
end
section
/-! ### spec_GoodName: function 58 -/
def spec_GoodName.f (k:Nat) (a0:ByteArray):Option (Bool):=(spec_l1Labels.f k a0).bind fun bt187=>(some bt187.2)
theorem spec_GoodName.calls (k:Nat) (a0:ByteArray) (r:Bool) (w:World) (h:spec_GoodName.f k a0=some r) :
  Calls Tryz.prog 58 #[.string a0] w fun e w'=>e=.returned (.bool r)∧Below w.heap.size w w':=by
 have HB:=AM (Below.refl w.heap.size w);have H:((spec_l1Labels.f k a0).bind fun bt187=>(some bt187.2))=some r:=h;clear h;obtain⟨⟨c,g⟩,A2,H⟩:=bnd H
 try dsimp only at H
 obtain rfl:=Option.some.inj H;go_enter Tryz.func58,Tryz.ntmps58;go_wp2_with (first|((with_reducible refine gate_callee (f:=108) rfl ?_);refine goesL_ (some 7) rfl rfl Tryz.func108 KR rfl #[.string a0] rfl TA ?_;(with_reducible refine(spec_l1Labels.calls k a0 c g _ A2.out).mono ?_);rintro e w3 ⟨l,rfl,i,hb⟩;refine⟨_,rfl,?_⟩;have j:=RL i;replace HB:=BS hb;clear hb;(try clear i)));go_ret;exact⟨TE,TB⟩
end
section
/-! ### spec_l1Below: function 59 -/
def spec_l1Below.f (a0:ByteArray) (a1:ByteArray):Option (Bool):=if a1.toList=([]:List UInt8) then(some true) else(if a0.toList=a1.toList then(some true) else(if (wrap64 ((a0.size:Int) - (a1.size:Int))) > 0 then(if 0≤(wrap64 ((a0.size:Int) - (a1.size:Int))) then(if (wrap64 ((a0.size:Int) - (a1.size:Int)))≤(a0.size:Int) then(if (a0.extract ((wrap64 ((a0.size:Int) - (a1.size:Int))):Int).toNat a0.size).toList=a1.toList then(if 0≤(wrap64 ((wrap64 ((a0.size:Int) - (a1.size:Int))) - 1)) then(if (wrap64 ((wrap64 ((a0.size:Int) - (a1.size:Int))) - 1))<(a0.size:Int) then(some ((bt a0 (wrap64 ((wrap64 ((a0.size:Int) - (a1.size:Int))) - 1)))==46)) else(none)) else(none)) else(some false)) else(none)) else(none)) else(some false)))
theorem spec_l1Below.calls (a0:ByteArray) (a1:ByteArray) (r:Bool) (w:World) (h:spec_l1Below.f a0 a1=some r) :
  Calls Tryz.prog 59 #[.string a0,.string a1] w fun e w'=>e=.returned (.bool r)∧Drawn0 w w':=by
 have H:(if a1.toList=([]:List UInt8) then(some true) else(if a0.toList=a1.toList then(some true) else(if (wrap64 ((a0.size:Int) - (a1.size:Int))) > 0 then(if 0≤(wrap64 ((a0.size:Int) - (a1.size:Int))) then(if (wrap64 ((a0.size:Int) - (a1.size:Int)))≤(a0.size:Int) then(if (a0.extract ((wrap64 ((a0.size:Int) - (a1.size:Int))):Int).toNat a0.size).toList=a1.toList then(if 0≤(wrap64 ((wrap64 ((a0.size:Int) - (a1.size:Int))) - 1)) then(if (wrap64 ((wrap64 ((a0.size:Int) - (a1.size:Int))) - 1))<(a0.size:Int) then(some ((bt a0 (wrap64 ((wrap64 ((a0.size:Int) - (a1.size:Int))) - 1)))==46)) else(none)) else(none)) else(some false)) else(none)) else(none)) else(some false))))=some r:=h;clear h;by_cases c3:a1.toList=([]:List UInt8)
 ·rw[if_pos c3] at H;have j:=beq_iff_eq.mpr c3;have l:=bne_eq_false_iff_eq.mpr c3;clear c3;obtain rfl:=Option.some.inj H;go_enter Tryz.func59,Tryz.ntmps59;go_wp2;go_ret;exact⟨TF,TN⟩
 ·rw[if_neg c3] at H;have j:=beq_eq_false_iff_ne.mpr c3;have l:=bne_iff_ne.mpr c3;by_cases c4:a0.toList=a1.toList
  ·rw[if_pos c4] at H;have m:=beq_iff_eq.mpr c4;have n:=bne_eq_false_iff_eq.mpr c4;clear c4;obtain rfl:=Option.some.inj H;go_enter Tryz.func59,Tryz.ntmps59;go_wp2;go_ret;exact⟨TF,TN⟩
  ·rw[if_neg c4] at H;have m:=beq_eq_false_iff_ne.mpr c4;have n:=bne_iff_ne.mpr c4;by_cases c5:(wrap64 ((a0.size:Int) - (a1.size:Int))) > 0
   ·rw[if_pos c5] at H;have i:=decide_eq_true c5;clear c5;obtain⟨g,hji6⟩:∃j_:Int,(wrap64 ((a0.size:Int) - (a1.size:Int)))=j_:=⟨_,rfl⟩
    replace H:(if 0≤(g) then(if (g)≤(a0.size:Int) then(if (a0.extract ((g):Int).toNat a0.size).toList=a1.toList then(if 0≤(wrap64 ((g) - 1)) then(if (wrap64 ((g) - 1))<(a0.size:Int) then(some ((bt a0 (wrap64 ((g) - 1)))==46)) else(none)) else(none)) else(some false)) else(none)) else(none))=some r:=by first|(rw[hji6] at H;exact H)|(simp only[hji6] at H ⊢;exact H)
    (try rw[hji6] at i);have hji6w:(IntKind.i64.wrap ((a0.size:Int) - (a1.size:Int)))=g:=(i64_w _).trans hji6;obtain⟨c7,H⟩:=ifn H;have y:=eq_true c7;have z:=decide_eq_true c7;clear c7;obtain⟨c8,H⟩:=ifn H;have A:=eq_true c8;have B:=decide_eq_true c8;clear c8;by_cases c9:(a0.extract ((g):Int).toNat a0.size).toList=a1.toList
    ·rw[if_pos c9] at H;have o:=beq_iff_eq.mpr c9;have p:=bne_eq_false_iff_eq.mpr c9;clear c9;obtain⟨c,hji10⟩:∃j_:Int,(wrap64 ((g) - 1))=j_:=⟨_,rfl⟩
     replace H:(if 0≤(c) then(if (c)<(a0.size:Int) then(some ((bt a0 (c))==46)) else(none)) else(none))=some r:=by first|(rw[hji10] at H;exact H)|(simp only[hji10] at H ⊢;exact H)
     have hji10w:(IntKind.i64.wrap ((g) - 1))=c:=(i64_w _).trans hji10;obtain⟨q,H⟩:=ifn H;have v:=decide_eq_true q;clear q;obtain⟨s,H⟩:=ifn H;have x:=decide_eq_true s;clear s;obtain rfl:=Option.some.inj H;have t:0≤((c):Int):=TD;have u:(c)<(a0.size:Int):=TD;have C:=bt_at a0 (c);replace t:=eq_true t;replace u:=eq_true u;go_enter Tryz.func59,Tryz.ntmps59;go_wp2;go_ret;exact⟨by first|rfl|(simp;done)|(simp only[←hji6,←hji10]<;>(first|rfl|simp))|(simp[*];done),TN⟩
    ·rw[if_neg c9] at H;have o:=beq_eq_false_iff_ne.mpr c9;have p:=bne_iff_ne.mpr c9;obtain rfl:=Option.some.inj H;go_enter Tryz.func59,Tryz.ntmps59;go_wp2;go_ret;exact⟨by first|rfl|(simp;done)|(simp only[←hji6]<;>(first|rfl|simp))|(simp[*];done),TN⟩
   ·rw[if_neg c5] at H;have i:=decide_eq_false c5;clear c5;obtain rfl:=Option.some.inj H;go_enter Tryz.func59,Tryz.ntmps59;go_wp2;go_ret;exact⟨TF,TN⟩
end
section
/-! ### spec_l1Compare: function 67 -/
mutual
def spec_l1Compare.l0:Nat→List ByteArray→List ByteArray→Int→Option (Int)
 | 0,_,_,_=>none
 | k+1,x5,x7,x9=>if x9≤(x5.length:Int) then(spec_l1Compare.j1 k x5 x7 x9 (decide (x9≤(x7.length:Int)))) else(spec_l1Compare.j1 k x5 x7 x9 false)
def spec_l1Compare.j1:Nat→List ByteArray→List ByteArray→Int→Bool→Option (Int)
 | 0,_,_,_,_=>none
 | k+1,x5,x7,x9,c=>if c=true then(if 0≤(wrap64 ((x5.length:Int) - x9)) then(if (wrap64 ((x5.length:Int) - x9))<(x5.length:Int) then(if 0≤(wrap64 ((x7.length:Int) - x9)) then(if (wrap64 ((x7.length:Int) - x9))<(x7.length:Int) then(if (Op.bytesLess ((rdOf ByteArray.empty x5 (wrap64 ((x5.length:Int) - x9))).toList) ((rdOf ByteArray.empty x7 (wrap64 ((x7.length:Int) - x9))).toList))=true then(some (-1)) else(if (rdOf ByteArray.empty x5 (wrap64 ((x5.length:Int) - x9))).toList=(rdOf ByteArray.empty x7 (wrap64 ((x7.length:Int) - x9))).toList then(spec_l1Compare.l0 k x5 x7 (wrap64 (x9+1))) else(some 1))) else(none)) else(none)) else(none)) else(none)) else(if (x5.length:Int)<(x7.length:Int) then(some (-1)) else(if (x5.length:Int) > (x7.length:Int) then(some 1) else(some 0)))
end
def spec_l1Compare.f (k:Nat) (a0:ByteArray) (a1:ByteArray):Option (Int):=(spec_l1Labels.f k a0).bind fun bt196=>((spec_l1Labels.f k a1).bind fun bt200=>(spec_l1Compare.l0 k bt196.1 bt200.1 1))
theorem spec_l1Compare.calls (k:Nat) (a0:ByteArray) (a1:ByteArray) (r:Int) (w:World) (h:spec_l1Compare.f k a0 a1=some r) :
  Calls Tryz.prog 67 #[.string a0,.string a1] w fun e w'=>e=.returned (.int .i64 r)∧Below w.heap.size w w':=by
 have HB:=AM (Below.refl w.heap.size w);have H:((spec_l1Labels.f k a0).bind fun bt196=>((spec_l1Labels.f k a1).bind fun bt200=>(spec_l1Compare.l0 k bt196.1 bt200.1 1)))=some r:=h;clear h;obtain⟨⟨g,ac⟩,A3,H⟩:=bnd H
 try dsimp only at H
 obtain⟨⟨c,ad⟩,A4,H⟩:=bnd H
 try dsimp only at H
 have H':=AM H;clear H;go_enter Tryz.func67,Tryz.ntmps67;go_wp2_with (first|((with_reducible refine gate_callee (f:=108) rfl ?_);refine goesL_ (some 14) rfl rfl Tryz.func108 KR rfl #[.string a0] rfl TA ?_;(with_reducible refine(spec_l1Labels.calls k a0 g ac _ A3.out).mono ?_);rintro e w5 ⟨E,rfl,G,hb⟩;refine⟨_,rfl,?_⟩;have t:=RL G;replace HB:=BS hb;clear hb;(try clear G))|((with_reducible refine gate_callee (f:=108) rfl ?_);refine goesL_ (some 19) rfl rfl Tryz.func108 KR rfl #[.string a1] rfl TA ?_;(with_reducible refine(spec_l1Labels.calls k a1 c ad _ A4.out).mono ?_);rintro e w6 ⟨F,rfl,G,hb⟩;refine⟨_,rfl,?_⟩;have N:=RL (NW G t);replace t:=EL t G hb;replace HB:=BS hb;clear hb;(try clear G)));go_loopg [9] k (fun kq v9 w'=>∃(l:Int),v9=.int .i64 l∧Aside0 (spec_l1Compare.l0 kq g c l=some r)∧Aside0 (kq≤k)∧Aside0 (Kd.R Kd.string 9 w' w.heap.size (fun k_=>some k_≠(F:Value).ownBlock) E g)∧Aside0 (Kd.R Kd.string 9 w' w.heap.size (fun k_=>some k_≠(E:Value).ownBlock) F c)∧Aside0 (Below w.heap.size w w'))
 case atStart=>exact⟨(1),TF,H',⟨Nat.le_refl _⟩,MO t,MO N,⟨TB⟩⟩
 case round =>
  clear H';obtain⟨l,rfl,HA,HK1,m,n,HB⟩:=hrel
  cases gk with
  | zero=>exact absurd HA.out (by simp[spec_l1Compare.l0])
  | succ k1 =>
   have H:=HA.out;clear HA;simp only[spec_l1Compare.l0] at H;have O:=AM H;clear H
   go_upto_region 4 with (fail)
   go_cut [31] (fun ai wc=>∃(kq:Nat) (u:Bool),ai=.bool u∧Aside0 (spec_l1Compare.j1 kq g c l u=some r)∧Aside0 (kq≤k1)∧Aside0 (Kd.R Kd.string 9 wc w.heap.size (fun k_=>some k_≠(F:Value).ownBlock) E g)∧Aside0 (Kd.R Kd.string 9 wc w.heap.size (fun k_=>some k_≠(E:Value).ownBlock) F c)∧Aside0 (Below w.heap.size w wc))
   case first =>
    have H:=O.out;clear O;by_cases c8:l≤(g.length:Int)
    ·rw[if_pos c8] at H;have v:=decide_eq_true c8;clear c8;(first|rw[v]|(simp only[i64_w,i32_w];rw[v])|skip);have H':=AM H;clear H;obtain⟨aR,aS,eo9⟩:=Kd.R_slice m.out;subst eo9;obtain⟨an,ao,eo10⟩:=Kd.R_slice n.out;subst eo10;go_wp2;go_meet
     case rel=>exact⟨_,(decide (l≤(c.length:Int))),TF,H',⟨by have:=HK1.out;first|omega|exact Nat.le_refl _⟩,RW m,RW n,⟨TB⟩⟩
    ·rw[if_neg c8] at H;have v:=decide_eq_false c8;clear c8;(first|rw[v]|(simp only[i64_w,i32_w];rw[v])|skip);have H':=AM H;clear H;obtain⟨ap,aq,eo11⟩:=Kd.R_slice m.out;subst eo11;go_wp2;go_meet
     case rel=>exact⟨_,(false),TF,H',⟨by have:=HK1.out;first|omega|exact Nat.le_refl _⟩,RW m,RW n,⟨TB⟩⟩
   case rest =>
    clear O;obtain⟨kq,u,rfl,HA,HJ6,m,n,HB⟩:=hcut
    cases kq with
    | zero=>exact absurd HA.out (by simp[spec_l1Compare.j1])
    | succ U =>
     have H:=HA.out;clear HA;simp only[spec_l1Compare.j1] at H;by_cases M:u=true
     ·subst M;replace H:=ift H;obtain⟨i,hji13⟩:∃j_:Int,(wrap64 ((g.length:Int) - l))=j_:=⟨_,rfl⟩
      replace H:(if 0≤(i) then(if (i)<(g.length:Int) then(if 0≤(wrap64 ((c.length:Int) - l)) then(if (wrap64 ((c.length:Int) - l))<(c.length:Int) then(if (Op.bytesLess ((rdOf ByteArray.empty g (i)).toList) ((rdOf ByteArray.empty c (wrap64 ((c.length:Int) - l))).toList))=true then(some (-1)) else(if (rdOf ByteArray.empty g (i)).toList=(rdOf ByteArray.empty c (wrap64 ((c.length:Int) - l))).toList then(spec_l1Compare.l0 U g c (wrap64 (l+1))) else(some 1))) else(none)) else(none)) else(none)) else(none))=some r:=by first|(rw[hji13] at H;exact H)|(simp only[hji13] at H ⊢;exact H)
      have hji13w:(IntKind.i64.wrap ((g.length:Int) - l))=i:=(i64_w _).trans hji13;obtain⟨ae,H⟩:=ifn H;have aj:=decide_eq_true ae;clear ae;obtain⟨af,H⟩:=ifn H;have ak:=decide_eq_true af;clear af;obtain⟨j,hji16⟩:∃j_:Int,(wrap64 ((c.length:Int) - l))=j_:=⟨_,rfl⟩
      replace H:(if 0≤(j) then(if (j)<(c.length:Int) then(if (Op.bytesLess ((rdOf ByteArray.empty g (i)).toList) ((rdOf ByteArray.empty c (j)).toList))=true then(some (-1)) else(if (rdOf ByteArray.empty g (i)).toList=(rdOf ByteArray.empty c (j)).toList then(spec_l1Compare.l0 U g c (wrap64 (l+1))) else(some 1))) else(none)) else(none))=some r:=by first|(rw[hji16] at H;exact H)|(simp only[hji16] at H ⊢;exact H)
      have hji16w:(IntKind.i64.wrap ((c.length:Int) - l))=j:=(i64_w _).trans hji16;obtain⟨ag,H⟩:=ifn H;have al:=decide_eq_true ag;clear ag;obtain⟨ah,H⟩:=ifn H;have am:=decide_eq_true ah;clear ah;by_cases I:(Op.bytesLess ((rdOf ByteArray.empty g (i)).toList) ((rdOf ByteArray.empty c (j)).toList))=true
      ·rw[if_pos I] at H;have V:(Op.bytesLess ((rdOf ByteArray.empty g (i)).toList) ((rdOf ByteArray.empty c (j)).toList))=true:=I;clear I;obtain rfl:=Option.some.inj H;obtain⟨ar,au,eo20⟩:=Kd.R_slice m.out;subst eo20;have o:0≤((i):Int):=TD;have p:(i)<(g.length:Int):=TD;obtain⟨J,x,y⟩:=Kd.at_string (Kd.R_reads' m.out).2.2 (i) o p;cases x;replace o:=eq_true o;replace p:=eq_true p;obtain⟨av,aw,eo21⟩:=Kd.R_slice n.out;subst eo21;have q:0≤((j):Int):=TD;have s:(j)<(c.length:Int):=TD;obtain⟨K,z,A⟩:=Kd.at_string (Kd.R_reads' n.out).2.2 (j) q s;cases z;replace q:=eq_true q;replace s:=eq_true s;go_wp2;go_ret;exact⟨by first|rfl|(simp[errW_none,errW_some]<;>rfl)|(simp only[←hji13,←hji16];first|rfl|(simp[errW_none,errW_some]<;>rfl))|(simp[*,errW_none,errW_some]<;>rfl),TB⟩
      ·rw[if_neg I] at H
       have V:(Op.bytesLess ((rdOf ByteArray.empty g (i)).toList) ((rdOf ByteArray.empty c (j)).toList))=false:=by simpa using I
       clear I;by_cases D:(rdOf ByteArray.empty g (i)).toList=(rdOf ByteArray.empty c (j)).toList
       ·rw[if_pos D] at H;have W:=beq_iff_eq.mpr D;have X:=bne_eq_false_iff_eq.mpr D;clear D;have H':=AM H;clear H;obtain⟨ax,ay,eo23⟩:=Kd.R_slice m.out;subst eo23;have o:0≤((i):Int):=TD;have p:(i)<(g.length:Int):=TD;obtain⟨J,x,y⟩:=Kd.at_string (Kd.R_reads' m.out).2.2 (i) o p;cases x;replace o:=eq_true o;replace p:=eq_true p;obtain⟨az,aA,eo24⟩:=Kd.R_slice n.out;subst eo24;have q:0≤((j):Int):=TD;have s:(j)<(c.length:Int):=TD;obtain⟨K,z,A⟩:=Kd.at_string (Kd.R_reads' n.out).2.2 (j) q s;cases z;replace q:=eq_true q;replace s:=eq_true s;go_wp2;go_roundg U
        case measure=>have:=HK1.out;have:=HJ6.out;omega
        case rel=>exact⟨(wrap64 (l+1)),TF,H',⟨by have:=HK1.out;have:=HJ6.out;omega⟩,RW m,RW n,⟨TB⟩⟩
       ·rw[if_neg D] at H;have W:=beq_eq_false_iff_ne.mpr D;have X:=bne_iff_ne.mpr D;obtain rfl:=Option.some.inj H;obtain⟨aB,aC,eo25⟩:=Kd.R_slice m.out;subst eo25;have o:0≤((i):Int):=TD;have p:(i)<(g.length:Int):=TD;obtain⟨J,x,y⟩:=Kd.at_string (Kd.R_reads' m.out).2.2 (i) o p;cases x;replace o:=eq_true o;replace p:=eq_true p;obtain⟨aD,aE,eo26⟩:=Kd.R_slice n.out;subst eo26;have q:0≤((j):Int):=TD;have s:(j)<(c.length:Int):=TD;obtain⟨K,z,A⟩:=Kd.at_string (Kd.R_reads' n.out).2.2 (j) q s;cases z;replace q:=eq_true q;replace s:=eq_true s;go_wp2;go_ret;exact⟨by first|rfl|(simp[errW_none,errW_some]<;>rfl)|(simp only[←hji13,←hji16];first|rfl|(simp[errW_none,errW_some]<;>rfl))|(simp[*,errW_none,errW_some]<;>rfl),TB⟩
     ·replace M:=Bool.eq_false_iff.mpr M;subst M;replace H:=iff' H;by_cases B:(g.length:Int)<(c.length:Int)
      ·rw[if_pos B] at H;have Y:=decide_eq_true B;have Z:decide (g.length<c.length)=true:=decide_eq_true (Int.ofNat_lt.mp B);clear B;obtain rfl:=Option.some.inj H;obtain⟨aF,aG,eo28⟩:=Kd.R_slice m.out;subst eo28;obtain⟨aH,aI,eo29⟩:=Kd.R_slice n.out;subst eo29;go_wp2;go_ret;exact⟨TE,TB⟩
      ·rw[if_neg B] at H;have Y:=decide_eq_false B;have Z:decide (g.length<c.length)=false:=decide_eq_false (fun h=>B (Int.ofNat_lt.mpr h));clear B;by_cases C:(g.length:Int) > (c.length:Int)
       ·rw[if_pos C] at H;have aa:=decide_eq_true C;have ab:decide (c.length<g.length)=true:=decide_eq_true (Int.ofNat_lt.mp C);clear C;obtain rfl:=Option.some.inj H;obtain⟨aJ,aK,eo31⟩:=Kd.R_slice m.out;subst eo31;obtain⟨aL,aM,eo32⟩:=Kd.R_slice n.out;subst eo32;go_wp2;go_ret;exact⟨TE,TB⟩
       ·rw[if_neg C] at H;have aa:=decide_eq_false C;have ab:decide (c.length<g.length)=false:=decide_eq_false (fun h=>C (Int.ofNat_lt.mpr h));clear C;obtain rfl:=Option.some.inj H;obtain⟨aN,aO,eo33⟩:=Kd.R_slice m.out;subst eo33;obtain⟨aP,aQ,eo34⟩:=Kd.R_slice n.out;subst eo34;go_wp2;go_ret;exact⟨TE,TB⟩
end
section
/-! ### spec_l6Apex: function 145 -/
def spec_l6Apex.l0:Nat→Bool→List ByteArray→Int→Int→Option (Bool)
 | 0,_,_,_,_=>none
 | k+1,x4,f,g,c=>if c<g then(if 0≤c then(if c<(f.length:Int) then(if x4=true then(spec_l6Apex.l0 k ((rdOf ByteArray.empty f c).toList != ([42]:List UInt8)) f g (wrap64 (c+1))) else(spec_l6Apex.l0 k false f g (wrap64 (c+1)))) else(none)) else(none)) else(some x4)
def spec_l6Apex.f (k:Nat) (a0:ByteArray):Option (Bool):=(spec_l1Labels.f k a0).bind fun bt136=>(spec_l6Apex.l0 k bt136.2 bt136.1 (bt136.1.length:Int) 0)
theorem spec_l6Apex.calls (k:Nat) (a0:ByteArray) (r:Bool) (w:World) (h:spec_l6Apex.f k a0=some r) :
  Calls Tryz.prog 145 #[.string a0] w fun e w'=>e=.returned (.bool r)∧Below w.heap.size w w':=by
 have HB:=AM (Below.refl w.heap.size w);have H:((spec_l1Labels.f k a0).bind fun bt136=>(spec_l6Apex.l0 k bt136.2 bt136.1 (bt136.1.length:Int) 0))=some r:=h;clear h;obtain⟨⟨g,q⟩,A2,H⟩:=bnd H
 try dsimp only at H
 have H':=AM H;clear H;go_enter Tryz.func145,Tryz.ntmps145;go_wp2_with (first|((with_reducible refine gate_callee (f:=108) rfl ?_);refine goesL_ (some 9) rfl rfl Tryz.func108 KR rfl #[.string a0] rfl TA ?_;(with_reducible refine(spec_l1Labels.calls k a0 g q _ A2.out).mono ?_);rintro e w3 ⟨z,rfl,t,hb⟩;refine⟨_,rfl,?_⟩;have n:=RL t;replace HB:=BS hb;clear hb;(try clear t);obtain⟨v,x,eo4⟩:=Kd.R_slice n.out;subst eo4));go_loopg [4,14] k (fun kq v4 y w'=>∃(m:Bool) (c:Int),v4=.bool m∧y=.int .i64 c∧Aside0 (spec_l6Apex.l0 kq m g (g.length:Int) c=some r)∧Aside0 (kq≤k)∧Aside0 (Kd.R Kd.string 9 w' w.heap.size (fun _=>True) (.slice v g.length x) g)∧Aside0 (Below w.heap.size w w'))
 case atStart=>exact⟨(q),(0),TF,TF,H',⟨Nat.le_refl _⟩,RW n,⟨TB⟩⟩
 case round =>
  clear H';obtain⟨m,c,rfl,rfl,HA,HK1,l,HB⟩:=hrel
  cases gk with
  | zero=>exact absurd HA.out (by simp[spec_l6Apex.l0])
  | succ k1 =>
   have H:=HA.out;clear HA;simp only[spec_l6Apex.l0] at H;by_cases c5:c<(g.length:Int)
   ·rw[if_pos c5] at H;have u:=decide_eq_true c5;clear c5;obtain⟨c6,H⟩:=ifn H;have A:=decide_eq_true c6;clear c6;obtain⟨c7,H⟩:=ifn H;have B:=decide_eq_true c7;clear c7;by_cases c8:m=true
    ·subst c8;replace H:=ift H;have H':=AM H;clear H;have i:0≤(c:Int):=TD;have j:c<(g.length:Int):=TD;obtain⟨s,o,p⟩:=Kd.at_string (Kd.R_reads' l.out).2.2 c i j;cases o;replace i:=eq_true i;replace j:=eq_true j;go_wp2;go_roundg k1
     case measure=>have:=HK1.out;omega
     case rel=>exact⟨(((rdOf ByteArray.empty g c).toList != ([42]:List UInt8))),(wrap64 (c+1)),TF,TF,H',⟨TM⟩,RW l,⟨TB⟩⟩
    ·replace c8:=Bool.eq_false_iff.mpr c8;subst c8;replace H:=iff' H;have H':=AM H;clear H;have i:0≤(c:Int):=TD;have j:c<(g.length:Int):=TD;obtain⟨s,o,p⟩:=Kd.at_string (Kd.R_reads' l.out).2.2 c i j;cases o;replace i:=eq_true i;replace j:=eq_true j;go_wp2;go_roundg k1
     case measure=>have:=HK1.out;omega
     case rel=>exact⟨(false),(wrap64 (c+1)),TF,TF,H',⟨TM⟩,RW l,⟨TB⟩⟩
   ·rw[if_neg c5] at H;have u:=decide_eq_false c5;clear c5;obtain rfl:=Option.some.inj H;go_wp2;go_ret;exact⟨TE,TB⟩
end
section
/-! ### spec_l1Int: function 190 -/
mutual
def spec_l1Int.j0:Nat→ByteArray→Bool→Option (Int)
 | 0,_,_=>none
 | k+1,x0,x18=>if x18=true then(some (-1)) else(spec_l1Int.l0 k x0 0 0)
def spec_l1Int.l0:Nat→ByteArray→Int→Int→Option (Int)
 | 0,_,_,_=>none
 | k+1,x0,x3,x4=>if x4<(x0.size:Int) then(if 0≤x4 then(if (bt x0 x4)<48 then(some (-1)) else(if (bt x0 x4) > 57 then(some (-1)) else(spec_l1Int.l0 k x0 (wrap64 ((wrap64 (10 * x3))+(((bt x0 x4) - 48) % 256))) (wrap64 (x4+1))))) else(none)) else(some x3)
end
def spec_l1Int.f (k:Nat) (a0:ByteArray):Option (Int):=(spec_l1In.f (a0.size:Int) 1 10).bind fun t141=>(if t141=true then(if 0<(a0.size:Int) then(if (bt a0 0)=48 then(spec_l1Int.j0 k a0 (decide ((a0.size:Int) > 1))) else(spec_l1Int.j0 k a0 false)) else(none)) else(spec_l1Int.j0 k a0 true))
theorem spec_l1Int.calls (k:Nat) (a0:ByteArray) (r:Int) (w:World) (h:spec_l1Int.f k a0=some r) :
  Calls Tryz.prog 190 #[.string a0] w fun e w'=>e=.returned (.int .i64 r)∧Drawn0 w w':=by
 have H:((spec_l1In.f (a0.size:Int) 1 10).bind fun o=>(if o=true then(if 0<(a0.size:Int) then(if (bt a0 0)=48 then(spec_l1Int.j0 k a0 (decide ((a0.size:Int) > 1))) else(spec_l1Int.j0 k a0 false)) else(none)) else(spec_l1Int.j0 k a0 true)))=some r:=h;clear h;have u:=AM H;clear H;go_enter Tryz.func190,Tryz.ntmps190
 go_upto_region 1 with (fail)
 go_cut [18] (fun G wc=>∃(kq:Nat) (g:Bool),G=.bool g∧Aside0 (spec_l1Int.j0 kq a0 g=some r)∧Aside0 (kq≤k)∧Drawn0 w wc)
 case first =>
  have H:=u.out;clear u;obtain⟨o,A3,H⟩:=bnd H;by_cases c4:o=true
  ·subst c4;replace H:=ift H;obtain⟨c5,H⟩:=ifn H;have s:=decide_eq_true c5;have y:decide (0<a0.size)=true:=decide_eq_true (by omega);clear c5;(first|rw[s]|(simp only[i64_w,i32_w];rw[s])|rw[y]|skip);by_cases c7:(bt a0 0)=48
   ·rw[if_pos c7] at H;have z:=beq_iff_eq.mpr c7;have A:=bne_eq_false_iff_eq.mpr c7;clear c7;have H':=AM H;clear H;go_wp2_with (first|((with_reducible refine gate_callee (f:=66) rfl ?_);refine goesL_ (some 7) rfl rfl Tryz.func66 KR rfl #[.int .i64 (a0.size:Int),.int .i64 1,.int .i64 10] rfl TA ?_;(with_reducible refine(spec_l1In.calls (a0.size:Int) 1 10 true _ A3.out).mono ?_);rintro e w' ⟨rfl,⟨nd,rfl⟩⟩;refine⟨_,rfl,?_⟩;have p6:0≤(0:Int):=(by omega);have q6:0<a0.size:=(by have:(0:Int)<(a0.size:Int):=TD;omega);have I:∀h:0<a0.size,((a0[0]'h).toNat:Int)=bt a0 0:=bt_at a0 0;clear p6;have qi6:(0<(a0.size:Int))=True:=eq_true TD;replace q6:=eq_true q6));go_meet
    case rel=>exact⟨_,(decide ((a0.size:Int) > 1)),TF,H',⟨by first|omega|exact Nat.le_refl _⟩,TN⟩
   ·rw[if_neg c7] at H;have z:=beq_eq_false_iff_ne.mpr c7;have A:=bne_iff_ne.mpr c7;have H':=AM H;clear H;go_wp2_with (first|((with_reducible refine gate_callee (f:=66) rfl ?_);refine goesL_ (some 7) rfl rfl Tryz.func66 KR rfl #[.int .i64 (a0.size:Int),.int .i64 1,.int .i64 10] rfl TA ?_;(with_reducible refine(spec_l1In.calls (a0.size:Int) 1 10 true _ A3.out).mono ?_);rintro e w' ⟨rfl,⟨nd,rfl⟩⟩;refine⟨_,rfl,?_⟩;have p6:0≤(0:Int):=(by omega);have q6:0<a0.size:=(by have:(0:Int)<(a0.size:Int):=TD;omega);have I:∀h:0<a0.size,((a0[0]'h).toNat:Int)=bt a0 0:=bt_at a0 0;clear p6;have qi6:(0<(a0.size:Int))=True:=eq_true TD;replace q6:=eq_true q6));go_meet
    case rel=>exact⟨_,(false),TF,H',⟨by first|omega|exact Nat.le_refl _⟩,TN⟩
  ·replace c4:=Bool.eq_false_iff.mpr c4;subst c4;replace H:=iff' H;have H':=AM H;clear H;go_wp2_with (first|((with_reducible refine gate_callee (f:=66) rfl ?_);refine goesL_ (some 7) rfl rfl Tryz.func66 KR rfl #[.int .i64 (a0.size:Int),.int .i64 1,.int .i64 10] rfl TA ?_;(with_reducible refine(spec_l1In.calls (a0.size:Int) 1 10 false _ A3.out).mono ?_);rintro e w' ⟨rfl,⟨nd,rfl⟩⟩;refine⟨_,rfl,?_⟩));go_meet
   case rel=>exact⟨_,(true),TF,H',⟨by first|omega|exact Nat.le_refl _⟩,TN⟩
 case rest =>
  clear u;obtain⟨kq,g,rfl,HA,HJ1,⟨mc1,rfl⟩⟩:=hcut
  cases kq with
  | zero=>exact absurd HA.out (by simp[spec_l1Int.j0])
  | succ B =>
   have H:=HA.out;clear HA;simp only[spec_l1Int.j0] at H;by_cases c8:g=true
   ·subst c8;replace H:=ift H;obtain rfl:=Option.some.inj H;go_wp2;go_ret;exact⟨TF,TN⟩
   ·replace c8:=Bool.eq_false_iff.mpr c8;subst c8;replace H:=iff' H;have H':=AM H;clear H;go_wp2;go_loopg [3,4] B (fun kq v3 v4 w'=>∃(l:Int) (c:Int),v3=.int .i64 l∧v4=.int .i64 c∧Aside0 (spec_l1Int.l0 kq a0 l c=some r)∧Aside0 (kq≤B)∧Drawn0 w w')
    case atStart=>exact⟨(0),(0),TF,TF,H',⟨Nat.le_refl _⟩,TN⟩
    case round =>
     clear H';obtain⟨l,c,rfl,rfl,HA,HK2,⟨m2,rfl⟩⟩:=hrel
     cases gk with
     | zero=>exact absurd HA.out (by simp[spec_l1Int.l0])
     | succ k2 =>
      have H:=HA.out;clear HA;simp only[spec_l1Int.l0] at H;by_cases c9:c<(a0.size:Int)
      ·rw[if_pos c9] at H;have C:=decide_eq_true c9;clear c9;obtain⟨c10,H⟩:=ifn H;have J:=decide_eq_true c10;clear c10;by_cases m:(bt a0 c)<48
       ·rw[if_pos m] at H;have v:=decide_eq_true m;clear m;obtain rfl:=Option.some.inj H;have i:0≤(c:Int):=TD;have j:c<(a0.size:Int):=TD;have t:=bt_at a0 c;replace i:=eq_true i;replace j:=eq_true j;go_wp2;go_ret;exact⟨TF,TN⟩
       ·rw[if_neg m] at H;have v:=decide_eq_false m;clear m;by_cases n:(bt a0 c) > 57
        ·rw[if_pos n] at H;have x:=decide_eq_true n;clear n;obtain rfl:=Option.some.inj H;have i:0≤(c:Int):=TD;have j:c<(a0.size:Int):=TD;have t:=bt_at a0 c;replace i:=eq_true i;replace j:=eq_true j;have p:0≤(c:Int):=TD;have q:c<(a0.size:Int):=TD;have D:=bt_at a0 c;replace p:=eq_true p;replace q:=eq_true q;go_wp2;go_ret;exact⟨TF,TN⟩
        ·rw[if_neg n] at H;have x:=decide_eq_false n;clear n;have H':=AM H;clear H;have i:0≤(c:Int):=TD;have j:c<(a0.size:Int):=TD;have t:=bt_at a0 c;replace i:=eq_true i;replace j:=eq_true j;have p:0≤(c:Int):=TD;have q:c<(a0.size:Int):=TD;have D:=bt_at a0 c;replace p:=eq_true p;replace q:=eq_true q;have E:0≤(c:Int):=TD;have F:c<(a0.size:Int):=TD;have K:=bt_at a0 c;replace E:=eq_true E;replace F:=eq_true F;go_wp2;go_roundg k2
         case measure=>have:=HJ1.out;have:=HK2.out;omega
         case rel=>exact⟨(wrap64 ((wrap64 (10 * l))+(((bt a0 c) - 48) % 256))),(wrap64 (c+1)),TF,TF,H',⟨by have:=HJ1.out;have:=HK2.out;omega⟩,TN⟩
      ·rw[if_neg c9] at H;have C:=decide_eq_false c9;clear c9;obtain rfl:=Option.some.inj H;go_wp2;go_ret;exact⟨TF,TN⟩
end
section
/-! ### spec_l3Number: function 191 -/
def spec_l3Number.l0:Nat→Int→List Int→Int→Option (ByteArray)
 | 0,_,_,_=>none
 | k+1,x0,x5,x6=>if x6≥0 then(if 0≤x6 then(if x6<(x5.length:Int) then(spec_l3Number.l0 k (x0 / 256) (x5.set (x6:Int).toNat ((x0) % 256)) (wrap64 (x6 - 1))) else(none)) else(none)) else(some (strOfNums x5))
def spec_l3Number.f (k:Nat) (a0:Int) (a1:Int):Option (ByteArray):=if 0≤a1 then(if (a1:Int).toNat≤281474976710656 then(spec_l3Number.l0 k a0 (List.replicate (a1:Int).toNat 0) (wrap64 (a1 - 1))) else(none)) else(none)
theorem spec_l3Number.calls (k:Nat) (a0:Int) (a1:Int) (r:ByteArray) (w:World) (h:spec_l3Number.f k a0 a1=some r) :
  Calls Tryz.prog 191 #[.int .i64 a0,.int .i64 a1] w fun e w'=>e=.returned (.string r)∧Below w.heap.size w w':=by
 have HB:=AM (Below.refl w.heap.size w);have H:(if 0≤a1 then(if (a1:Int).toNat≤281474976710656 then(spec_l3Number.l0 k a0 (List.replicate (a1:Int).toNat 0) (wrap64 (a1 - 1))) else(none)) else(none))=some r:=h;clear h;obtain⟨c3,H⟩:=ifn H;have G:=eq_true c3;have I:=decide_eq_true c3;clear c3;obtain⟨c4,H⟩:=ifn H;have J:=eq_true c4;have K:=decide_eq_true c4;clear c4;obtain⟨q,i⟩:∃y_:List Int,y_=(List.replicate (a1:Int).toNat 0):=⟨_,rfl⟩
 replace H:(spec_l3Number.l0 k a0 q (wrap64 (a1 - 1)))=some r:=by first|(rw[i];with_reducible exact H)|(have H2_:=(Option.bind_some _ _).symm.trans H;rw[i];with_reducible exact H2_)|(have H2_:=(Option.bind_some _ _).symm.trans H;with_reducible exact H2_)|with_reducible exact H|(rw[i];exact H)|exact H
 have Ny142:=AM i;clear i;have H':=AM H;clear H;go_enter Tryz.func191,Tryz.ntmps191;go_wp2_with (first|((with_reducible refine gate_dst (N:=8) rfl ?_);refine Kd.R_make (Kd.int .u8) _ 5 rfl (N:=8) rfl 141 _ _ rfl a1 rfl rfl Tryz.underlying141 (.int .u8 0) 1 info5 rfl (by decide) (by omega) 0 (ok:=fun _=>True) (okp:=fun _=>True) rfl (fun _ hk=>hk) trivial TD (Nat.le_trans (Nat.mul_le_mul_right _ (TD:a1.toNat≤281474976710656)) (by omega)) (Below.refl _ _) (Nat.le_refl _) ?_;intro B w5 n hb hg_ hnew_;clear hg_ hnew_;(first|rw[←Ny142.out] at n|(simp only[Int.reduceToNat] at n;rw[←Ny142.out] at n));have x:=RL n;replace HB:=BS hb;clear hb n));go_loopg [0,6] k (fun kq v0 v6 w'=>∃(g:Int) (l:List Int) (c:Int),v0=.int .i64 g∧v6=.int .i64 c∧Aside0 (spec_l3Number.l0 kq g l c=some r)∧Aside0 (kq≤k)∧Aside0 (Kd.R (Kd.int .u8) 5 w' w.heap.size (fun _=>True) B l)∧Aside0 (Below w.heap.size w w'))
 case atStart=>exact⟨(a0),(q),(wrap64 (a1 - 1)),TF,TF,H',⟨Nat.le_refl _⟩,RW x,⟨TB⟩⟩
 case round =>
  clear H';obtain⟨g,l,c,rfl,rfl,HA,HK1,m,HB⟩:=hrel
  cases gk with
  | zero=>exact absurd HA.out (by simp[spec_l3Number.l0])
  | succ k1 =>
   have H:=HA.out;clear HA;simp only[spec_l3Number.l0] at H;by_cases c7:c≥0
   ·rw[if_pos c7] at H;have C:=decide_eq_true c7;clear c7;obtain⟨c8,H⟩:=ifn H;have M:=decide_eq_true c8;clear c8;obtain⟨c9,H⟩:=ifn H;have O:=decide_eq_true c9;clear c9;obtain⟨o,j⟩:∃y_:List Int,y_=(l.set (c:Int).toNat ((g) % 256)):=⟨_,rfl⟩
    replace H:(spec_l3Number.l0 k1 (g / 256) o (wrap64 (c - 1)))=some r:=by first|(rw[j];with_reducible exact H)|(have H2_:=(Option.bind_some _ _).symm.trans H;rw[j];with_reducible exact H2_)|(have H2_:=(Option.bind_some _ _).symm.trans H;with_reducible exact H2_)|with_reducible exact H|(rw[j];exact H)|exact H
    have Ny145:=AM j;clear j;have H':=AM H;clear H;have y:0≤(c:Int):=TD;have z:(c:Int)<((l.length:Int):Int):=TD;obtain⟨go10,D,eo10,s,gl10,cl10,u⟩:=Kd.R_form m.out (by omega);(first|cases eo10|(injection eo10 with ea_ en_ ec_;(first|subst ea_|(injection ea_ with ea_;subst ea_));subst ec_;clear en_));have E:=AM s;have GG10:=AM u;clear s gl10 u;obtain⟨F,hf10_0⟩:=Kd.R_celln 0 m.out (c:Int) y z;replace y:=eq_true y;replace z:=eq_true z;have HP11:=Kd.R_putg m.out (c:Int) ((g) % 256);go_wp2_with (first|((with_reducible refine gate_store (t:=5) (p:=19) rfl ?_);refine store_event (t:=5) (p:=19) (v:=?vo_w12) (w1:=(wr.setCell ⟨go10,(c:Int).toNat,none⟩ (.int .u8 ((g) % 256)))) ?hg ?ho ?hn ?hr ?_;(case ho=>rfl);(case hg=>rfl);(case hn=>rfl);(case hr=>first|(go_simp;done)|(go_simp;rfl));intro A hw;have hg:wr.grownBy A (some go10):=(by rw[hw];exact HP11.2);have hp_:Kd.R (Kd.int .u8) 5 A w.heap.size (fun _=>True) (.slice (some ⟨go10,0,none⟩) l.length D) o:=(by rw[hw,Ny145.out];exact HP11.1);clear HP11;replace m:=AM (hp_);replace HB:=AM ((by rw[hw];exact below_set (HB.out) E.out:Below w.heap.size w A));clear hg hw hp_));go_roundg k1
    case measure=>have:=HK1.out;omega
    case rel=>exact⟨(g / 256),(o),(wrap64 (c - 1)),TF,TF,H',⟨TM⟩,RW m,⟨TB⟩⟩
   ·rw[if_neg c7] at H;have C:=decide_eq_false c7;clear c7;obtain rfl:=Option.some.inj H;have hcv13:=own_string (P:=Tryz.prog) Tryz.underlying141 Tryz.underlying5 Tryz.underlying9 (Kd.own_of_R m.out);go_wp2;go_ret;exact⟨TE,TB⟩
end
section
/-! ### spec_l3Target: function 192 -/
def spec_l3Target.l0:Nat→ByteArray→Bool→List ByteArray→Int→Int→Option (Bool)
 | 0,_,_,_,_,_=>none
 | k+1,x0,x4,f,g,c=>if c<g then(if 0≤c then(if c<(f.length:Int) then(if x4=true then(spec_l3Target.l0 k x0 ((rdOf ByteArray.empty f c).toList != ([42]:List UInt8)) f g (wrap64 (c+1))) else(spec_l3Target.l0 k x0 false f g (wrap64 (c+1)))) else(none)) else(none)) else(if x4=true then(some (x0.toList != ([]:List UInt8))) else(some false))
def spec_l3Target.f (k:Nat) (a0:ByteArray):Option (Bool):=(spec_l1Labels.f k a0).bind fun bt146=>(spec_l3Target.l0 k a0 bt146.2 bt146.1 (bt146.1.length:Int) 0)
theorem spec_l3Target.calls (k:Nat) (a0:ByteArray) (r:Bool) (w:World) (h:spec_l3Target.f k a0=some r) :
  Calls Tryz.prog 192 #[.string a0] w fun e w'=>e=.returned (.bool r)∧Below w.heap.size w w':=by
 have HB:=AM (Below.refl w.heap.size w);have H:((spec_l1Labels.f k a0).bind fun bt146=>(spec_l3Target.l0 k a0 bt146.2 bt146.1 (bt146.1.length:Int) 0))=some r:=h;clear h;obtain⟨⟨g,q⟩,A2,H⟩:=bnd H
 try dsimp only at H
 have H':=AM H;clear H;go_enter Tryz.func192,Tryz.ntmps192;go_wp2_with (first|((with_reducible refine gate_callee (f:=108) rfl ?_);refine goesL_ (some 9) rfl rfl Tryz.func108 KR rfl #[.string a0] rfl TA ?_;(with_reducible refine(spec_l1Labels.calls k a0 g q _ A2.out).mono ?_);rintro e w3 ⟨z,rfl,t,hb⟩;refine⟨_,rfl,?_⟩;have n:=RL t;replace HB:=BS hb;clear hb;(try clear t);obtain⟨v,x,eo4⟩:=Kd.R_slice n.out;subst eo4));go_loopg [4,14] k (fun kq v4 y w'=>∃(m:Bool) (c:Int),v4=.bool m∧y=.int .i64 c∧Aside0 (spec_l3Target.l0 kq a0 m g (g.length:Int) c=some r)∧Aside0 (kq≤k)∧Aside0 (Kd.R Kd.string 9 w' w.heap.size (fun _=>True) (.slice v g.length x) g)∧Aside0 (Below w.heap.size w w'))
 case atStart=>exact⟨(q),(0),TF,TF,H',⟨Nat.le_refl _⟩,RW n,⟨TB⟩⟩
 case round =>
  clear H';obtain⟨m,c,rfl,rfl,HA,HK1,l,HB⟩:=hrel
  cases gk with
  | zero=>exact absurd HA.out (by simp[spec_l3Target.l0])
  | succ k1 =>
   have H:=HA.out;clear HA;simp only[spec_l3Target.l0] at H;by_cases c5:c<(g.length:Int)
   ·rw[if_pos c5] at H;have u:=decide_eq_true c5;clear c5;obtain⟨c6,H⟩:=ifn H;have A:=decide_eq_true c6;clear c6;obtain⟨c7,H⟩:=ifn H;have B:=decide_eq_true c7;clear c7;by_cases c8:m=true
    ·subst c8;replace H:=ift H;have H':=AM H;clear H;have i:0≤(c:Int):=TD;have j:c<(g.length:Int):=TD;obtain⟨s,o,p⟩:=Kd.at_string (Kd.R_reads' l.out).2.2 c i j;cases o;replace i:=eq_true i;replace j:=eq_true j;go_wp2;go_roundg k1
     case measure=>have:=HK1.out;omega
     case rel=>exact⟨(((rdOf ByteArray.empty g c).toList != ([42]:List UInt8))),(wrap64 (c+1)),TF,TF,H',⟨TM⟩,RW l,⟨TB⟩⟩
    ·replace c8:=Bool.eq_false_iff.mpr c8;subst c8;replace H:=iff' H;have H':=AM H;clear H;have i:0≤(c:Int):=TD;have j:c<(g.length:Int):=TD;obtain⟨s,o,p⟩:=Kd.at_string (Kd.R_reads' l.out).2.2 c i j;cases o;replace i:=eq_true i;replace j:=eq_true j;go_wp2;go_roundg k1
     case measure=>have:=HK1.out;omega
     case rel=>exact⟨(false),(wrap64 (c+1)),TF,TF,H',⟨TM⟩,RW l,⟨TB⟩⟩
   ·rw[if_neg c5] at H;have u:=decide_eq_false c5;clear c5;by_cases c9:m=true
    ·subst c9;replace H:=ift H;obtain rfl:=Option.some.inj H;go_wp2;go_ret;exact⟨by first|rfl|(simp[errW_none,errW_some]<;>rfl)|(simp[*,errW_none,errW_some]<;>rfl)|(simp[errW_none,errW_some];rw[Bool.eq_iff_iff];simp),TB⟩
    ·replace c9:=Bool.eq_false_iff.mpr c9;subst c9;replace H:=iff' H;obtain rfl:=Option.some.inj H;go_wp2;go_ret;exact⟨by first|rfl|(simp[errW_none,errW_some]<;>rfl)|(simp[*,errW_none,errW_some]<;>rfl)|(simp[errW_none,errW_some];rw[Bool.eq_iff_iff];simp),TB⟩
end
section
/-! ### spec_l2Bytes: function 193 -/
def spec_l2Bytes.l0:Nat→ByteArray→List ByteArray→Int→Int→Option (ByteArray)
 | 0,_,_,_,_=>none
 | k+1,x5,f,h,c=>if c<h then(if 0≤c then(if c<(f.length:Int) then((some (([(((rdOf ByteArray.empty f c).size:Int)) % 256]:List Int):List Int)).bind fun g=>(if (strOfNums g).size+(rdOf ByteArray.empty f c).size≤9223372036854775807 then(if x5.size+((strOfNums g)++(rdOf ByteArray.empty f c)).size≤9223372036854775807 then(spec_l2Bytes.l0 k (x5++((strOfNums g)++(rdOf ByteArray.empty f c))) f h (wrap64 (c+1))) else(none)) else(none))) else(none)) else(none)) else(if x5.size+1≤9223372036854775807 then(some (x5++(⟨#[0]⟩:ByteArray))) else(none))
def spec_l2Bytes.f (k:Nat) (a0:ByteArray):Option (ByteArray):=(spec_l1Labels.f k a0).bind fun bt151=>(spec_l2Bytes.l0 k (⟨#[]⟩:ByteArray) bt151.1 (bt151.1.length:Int) 0)
theorem spec_l2Bytes.calls (k:Nat) (a0:ByteArray) (r:ByteArray) (w:World) (h:spec_l2Bytes.f k a0=some r) :
  Calls Tryz.prog 193 #[.string a0] w fun e w'=>e=.returned (.string r)∧Below w.heap.size w w':=by
 have HB:=AM (Below.refl w.heap.size w);have H:((spec_l1Labels.f k a0).bind fun bt151=>(spec_l2Bytes.l0 k (⟨#[]⟩:ByteArray) bt151.1 (bt151.1.length:Int) 0))=some r:=h;clear h;obtain⟨⟨g,u⟩,A2,H⟩:=bnd H
 try dsimp only at H
 have H':=AM H;clear H;go_enter Tryz.func193,Tryz.ntmps193;go_wp2_with (first|((with_reducible refine gate_callee (f:=108) rfl ?_);refine goesL_ (some 10) rfl rfl Tryz.func108 KR rfl #[.string a0] rfl TA ?_;(with_reducible refine(spec_l1Labels.calls k a0 g u _ A2.out).mono ?_);rintro e w3 ⟨I,rfl,v,hb⟩;refine⟨_,rfl,?_⟩;have o:=RL v;replace HB:=BS hb;clear hb;(try clear v);obtain⟨A,B,eo4⟩:=Kd.R_slice o.out;subst eo4));go_loopg [5,15] k (fun kq v5 C w'=>∃(i:ByteArray) (c:Int),v5=.string i∧C=.int .i64 c∧Aside0 (spec_l2Bytes.l0 kq i g (g.length:Int) c=some r)∧Aside0 (kq≤k)∧Aside0 (Kd.R Kd.string 9 w' w.heap.size (fun _=>True) (.slice A g.length B) g)∧Aside0 (Below w.heap.size w w'))
 case atStart=>exact⟨((⟨#[]⟩:ByteArray)),(0),TF,TF,H',⟨Nat.le_refl _⟩,RW o,⟨TB⟩⟩
 case round =>
  clear H';obtain⟨i,c,rfl,rfl,HA,HK1,m,HB⟩:=hrel
  cases gk with
  | zero=>exact absurd HA.out (by simp[spec_l2Bytes.l0])
  | succ k1 =>
   have H:=HA.out;clear HA;simp only[spec_l2Bytes.l0] at H;by_cases c5:c<(g.length:Int)
   ·rw[if_pos c5] at H;have x:=decide_eq_true c5;clear c5;obtain⟨c6,H⟩:=ifn H;have J:=decide_eq_true c6;clear c6;obtain⟨c7,H⟩:=ifn H;have K:=decide_eq_true c7;clear c7;obtain⟨l,j⟩:∃y_:List Int,y_=(([(((rdOf ByteArray.empty g c).size:Int)) % 256]:List Int)):=⟨_,rfl⟩
    replace H:(if (strOfNums l).size+(rdOf ByteArray.empty g c).size≤9223372036854775807 then(if i.size+((strOfNums l)++(rdOf ByteArray.empty g c)).size≤9223372036854775807 then(spec_l2Bytes.l0 k1 (i++((strOfNums l)++(rdOf ByteArray.empty g c))) g (g.length:Int) (wrap64 (c+1))) else(none)) else(none))=some r:=by first|(rw[j];with_reducible exact H)|(have H2_:=(Option.bind_some _ _).symm.trans H;rw[j];with_reducible exact H2_)|(have H2_:=(Option.bind_some _ _).symm.trans H;with_reducible exact H2_)|with_reducible exact H|(rw[j];exact H)|exact H
    have Ny156:=AM j;clear j;obtain⟨c8,H⟩:=ifn H;have O:=eq_true c8;have U:=decide_eq_true c8
    try have V:(9223372036854775807<(strOfNums l).size+(rdOf ByteArray.empty g c).size)=False:=eq_false (Nat.not_lt.2 c8)
    obtain⟨c9,H⟩:=ifn H;have W:=eq_true c9;have X:=decide_eq_true c9
    try have Y:(9223372036854775807<i.size+((strOfNums l)++(rdOf ByteArray.empty g c)).size)=False:=eq_false (Nat.not_lt.2 c9)
    have H':=AM H;clear H;have p:0≤(c:Int):=TD;have q:c<(g.length:Int):=TD;obtain⟨D,y,z⟩:=Kd.at_string (Kd.R_reads' m.out).2.2 c p q;cases y;replace p:=eq_true p;replace q:=eq_true q;go_wp2_with (first|((with_reducible refine gate_dst (N:=23) rfl ?_);refine Kd.R_lit (Kd.int .u8) _ 5 ?hg (N:=23) ?hd (xs:=([(((rdOf ByteArray.empty g c).size:Int)) % 256]:List Int)) (inner:=[.int .u8 ((((rdOf ByteArray.empty g c).size:Int)) % 256)]) (ok:=fun _=>True) (okp:=fun _=>True) ?hr ?hp (fun _ hk=>hk) trivial (Below.refl _ _) (Nat.le_refl _) (by simp) ?_;(case hd=>rfl);(case hg=>rfl);(case hr=>first|(go_simp;done)|(go_simp;rfl));(case hp=>exact(Reps.one (show Kd.M (Kd.int .u8) _ _ _ ((((rdOf ByteArray.empty g c).size:Int)) % 256) [.int .u8 ((((rdOf ByteArray.empty g c).size:Int)) % 256)] from rfl) (Reps.none _ _)));intro Z aa n hb hg_ hnew_;clear hg_ hnew_;(first|rw[←Ny156.out] at n|(simp only[Int.reduceToNat] at n;rw[←Ny156.out] at n));replace m:=RB m hb;have s:=RL n;replace HB:=BS hb;clear hb n;have hcv12:=own_string (P:=Tryz.prog) Tryz.underlying141 Tryz.underlying5 Tryz.underlying9 (Kd.own_of_R s.out)));go_roundg k1
    case measure=>have:=HK1.out;omega
    case rel=>exact⟨(i++((strOfNums l)++(rdOf ByteArray.empty g c))),(wrap64 (c+1)),TF,TF,H',⟨TM⟩,RW m,⟨TB⟩⟩
   ·rw[if_neg c5] at H;have x:=decide_eq_false c5;clear c5;obtain⟨t,H⟩:=ifn H;have E:=eq_true t;have F:=decide_eq_true t
    try have G:(9223372036854775807<i.size+1)=False:=eq_false (Nat.not_lt.2 t)
    obtain rfl:=Option.some.inj H;go_wp2;go_ret;exact⟨TE,TB⟩
end
section
/-! ### spec_l3Bytes: function 162 -/
mutual
def spec_l3Bytes.l0:Nat→ByteArray→List ByteArray→List ByteArray→Int→Int→Option (ByteArray × Bool)
 | 0,_,_,_,_,_=>none
 | k+1,x6,x7,i,j,c=>if c<j then(if 0≤c then(if c<(i.length:Int) then((spec_l1Int.f k (rdOf ByteArray.empty i c)).bind fun g=>((spec_l1In.f g 0 255).bind fun l=>(if l=true then((spec_l3Number.f k g 1).bind fun h=>(if x6.size+h.size≤9223372036854775807 then(spec_l3Bytes.l0 k (x6++h) x7 i j (wrap64 (c+1))) else(none))) else(some ((⟨#[]⟩:ByteArray),false))))) else(none)) else(none)) else(some (x6,((x7.length:Int)==4)))
def spec_l3Bytes.j1:Nat→ByteArray→Int→Bool→Option (ByteArray × Bool)
 | 0,_,_,_=>none
 | k+1,x1,h,q=>if q=true then((spec_l3Target.f k x1).bind fun i=>(if i=true then((spec_l2Bytes.f k x1).bind fun j=>(some (j,true))) else(some ((⟨#[]⟩:ByteArray),false)))) else(if h=6 then((spec_l1Int.f k x1).bind fun g=>((spec_l3Number.f k g 4).bind fun l=>((spec_l1In.f g 0 4294967295).bind fun m=>(some (l,m))))) else(if h=15 then((spec_l1Split.f k x1 32).bind fun c=>(if (c.length:Int)=2 then(if 0<(c.length:Int) then((spec_l1Int.f k (rdOf ByteArray.empty c 0)).bind fun n=>((spec_l1In.f n 0 65535).bind fun o=>(if o=true then(if 1<(c.length:Int) then((spec_l3Target.f k (rdOf ByteArray.empty c 1)).bind fun p=>(spec_l3Bytes.j2 k c (!p))) else(none)) else(spec_l3Bytes.j2 k c true)))) else(none)) else(spec_l3Bytes.j2 k c true))) else(if h=16 then(spec_l3Bytes.l1 k x1 0) else(some ((⟨#[]⟩:ByteArray),false)))))
def spec_l3Bytes.j2:Nat→List ByteArray→Bool→Option (ByteArray × Bool)
 | 0,_,_=>none
 | k+1,c,j=>if j=true then(some ((⟨#[]⟩:ByteArray),false)) else(if 0<(c.length:Int) then((spec_l1Int.f k (rdOf ByteArray.empty c 0)).bind fun i=>((spec_l3Number.f k i 2).bind fun g=>(if 1<(c.length:Int) then((spec_l2Bytes.f k (rdOf ByteArray.empty c 1)).bind fun h=>(if g.size+h.size≤9223372036854775807 then(some (g++h,true)) else(none))) else(none)))) else(none))
def spec_l3Bytes.l1:Nat→ByteArray→Int→Option (ByteArray × Bool)
 | 0,_,_=>none
 | k+1,x1,c=>if c<(x1.size:Int) then(if 0≤c then(if (bt x1 c)<32 then(some ((⟨#[]⟩:ByteArray),false)) else(if (bt x1 c) > 126 then(some ((⟨#[]⟩:ByteArray),false)) else(spec_l3Bytes.l1 k x1 (wrap64 (c+1))))) else(none)) else((some (([((x1.size:Int)) % 256]:List Int):List Int)).bind fun f=>(if (strOfNums f).size+x1.size≤9223372036854775807 then(some ((strOfNums f)++x1,decide ((x1.size:Int)≤30))) else(none)))
end
def spec_l3Bytes.f (k:Nat) (a0:Int) (a1:ByteArray):Option (ByteArray × Bool):=if a0=1 then((spec_l1Split.f k a1 46).bind fun t159=>(spec_l3Bytes.l0 k (⟨#[]⟩:ByteArray) t159 t159 (t159.length:Int) 0)) else(if a0=2 then(spec_l3Bytes.j1 k a1 a0 (a0==2)) else(spec_l3Bytes.j1 k a1 a0 (a0==5)))
def spec_l3Bytes.T26:Bool × List (List Nat × List Nat):=(true,[([],[]),([0],[0]),([1],[1]),([2],[2]),([3,3],[3]),([],[]),([5],[5]),([6],[6]),([7,4],[7]),([4,8],[4,8]),([9,8,0,1,2,3,4,5,6,7,8,9],[9]),([10,0,1,2,3,4,5,6,7,8,9,10],[])])
def spec_l3Bytes.B26:List Nat:=[0,1,3,7,15,0,32,96,255,511,1023,2047]
theorem spec_l3Bytes.tab26:rtab .any (opsOf Tryz.f162 26)=spec_l3Bytes.T26:=by kernel_rfl
theorem spec_l3Bytes.bits26:waitsOk spec_l3Bytes.T26.2 spec_l3Bytes.B26=true:=by kernel_rfl
theorem spec_l3Bytes.calls (k:Nat) (a0:Int) (a1:ByteArray) (r1:ByteArray) (r2:Bool) (w:World) (h:spec_l3Bytes.f k a0 a1=some (r1,r2)) :
  Calls Tryz.prog 162 #[.int .i64 a0,.string a1] w fun e w'=>e=.returned (.tuple #[.string r1,.bool r2])∧Below w.heap.size w w':=by
 have HB:=AM (Below.refl w.heap.size w);have H:(if a0=1 then((spec_l1Split.f k a1 46).bind fun l=>(spec_l3Bytes.l0 k (⟨#[]⟩:ByteArray) l l (l.length:Int) 0)) else(if a0=2 then(spec_l3Bytes.j1 k a1 a0 (a0==2)) else(spec_l3Bytes.j1 k a1 a0 (a0==5))))=some (r1,r2):=h;clear h;by_cases c3:a0=1
 ·rw[if_pos c3] at H;have a6:=beq_iff_eq.mpr c3;have a7:=bne_eq_false_iff_eq.mpr c3;clear c3;obtain⟨l,A4,H⟩:=bnd H;have H':=AM H;clear H;go_enter Tryz.func162,Tryz.ntmps162;go_wp2_with (first|((with_reducible refine gate_callee (f:=149) rfl ?_);refine goesL_ (some 18) rfl rfl Tryz.func149 KR rfl #[.string a1,.int .u8 46] rfl TA ?_;(with_reducible refine(spec_l1Split.calls k a1 46 l _ A4.out).mono ?_);rintro e w5 ⟨b9,rfl,aj,hb⟩;refine⟨_,rfl,?_⟩;have X:=RL aj;replace HB:=BS hb;clear hb;(try clear aj);obtain⟨a8,a9,eo6⟩:=Kd.R_slice X.out;subst eo6));go_loopg [6,21] k (fun kq v6 bz w'=>∃(I:ByteArray) (j:Int),v6=.string I∧bz=.int .i64 j∧Aside0 (spec_l3Bytes.l0 kq I l l (l.length:Int) j=some (r1,r2))∧Aside0 (kq≤k)∧Aside0 (Kd.R Kd.string 9 w' w.heap.size (fun _=>True) (.slice a8 l.length a9) l)∧Aside0 (Kd.R Kd.string 9 w' w.heap.size (fun _=>True) (.slice a8 l.length a9) l)∧Aside0 (Below w.heap.size w w'))
  case atStart=>exact⟨((⟨#[]⟩:ByteArray)),(0),TF,TF,H',⟨Nat.le_refl _⟩,RW X,RW X,⟨TB⟩⟩
  case round =>
   clear H';obtain⟨I,j,rfl,rfl,HA,HK1,ak,y,HB⟩:=hrel
   cases gk with
   | zero=>exact absurd HA.out (by simp[spec_l3Bytes.l0])
   | succ k1 =>
    have H:=HA.out;clear HA;simp only[spec_l3Bytes.l0] at H;by_cases c7:j<(l.length:Int)
    ·rw[if_pos c7] at H;have ba:=decide_eq_true c7;clear c7;obtain⟨c8,H⟩:=ifn H;have ca:=decide_eq_true c8;clear c8;obtain⟨c9,H⟩:=ifn H;have cb:=decide_eq_true c9;clear c9;obtain⟨u,bb,H⟩:=bnd H;obtain⟨bd,be,H⟩:=bnd H;by_cases aF:bd=true
     ·subst aF;replace H:=ift H;obtain⟨al,bA,H⟩:=bnd H;obtain⟨aO,H⟩:=ifn H;have bB:=eq_true aO;have bC:=decide_eq_true aO
      try have bD:(9223372036854775807<I.size+al.size)=False:=eq_false (Nat.not_lt.2 aO)
      have H':=AM H;clear H;have z:0≤(j:Int):=TD;have A:j<(l.length:Int):=TD;obtain⟨aP,am,an⟩:=Kd.at_string (Kd.R_reads' y.out).2.2 j z A;cases am;replace z:=eq_true z;replace A:=eq_true A;go_wp2_with (first|((with_reducible refine gate_callee (f:=190) rfl ?_);refine goesL_ (some 26) rfl rfl Tryz.func190 KR rfl #[.string (rdOf ByteArray.empty l j)] rfl TA ?_;(with_reducible refine(spec_l1Int.calls k1 (rdOf ByteArray.empty l j) u _ bb.out).mono ?_);rintro e w' ⟨rfl,⟨nd,rfl⟩⟩;refine⟨_,rfl,?_⟩)|((with_reducible refine gate_callee (f:=66) rfl ?_);refine goesL_ (some 28) rfl rfl Tryz.func66 KR rfl #[.int .i64 u,.int .i64 0,.int .i64 255] rfl TA ?_;(with_reducible refine(spec_l1In.calls u 0 255 true _ be.out).mono ?_);rintro e w' ⟨rfl,⟨nd,rfl⟩⟩;refine⟨_,rfl,?_⟩)|((with_reducible refine gate_callee (f:=191) rfl ?_);refine goesL_ (some 32) rfl rfl Tryz.func191 KR rfl #[.int .i64 u,.int .i64 1] rfl TA ?_;(with_reducible refine(spec_l3Number.calls k1 u 1 al _ bA.out).mono ?_);rintro e cl ⟨rfl,hb⟩;refine⟨_,rfl,?_⟩;replace ak:=RB ak hb;replace y:=RB y hb;replace HB:=BS hb;clear hb));go_roundg k1
      case measure=>have:=HK1.out;omega
      case rel=>exact⟨(I++al),(wrap64 (j+1)),TF,TF,H',⟨TM⟩,RW ak,RW y,⟨TB⟩⟩
     ·replace aF:=Bool.eq_false_iff.mpr aF;subst aF;replace H:=iff' H;simp only[Option.some.injEq,Prod.mk.injEq] at H;obtain⟨rfl,rfl⟩:=H;have z:0≤(j:Int):=TD;have A:j<(l.length:Int):=TD;obtain⟨aP,am,an⟩:=Kd.at_string (Kd.R_reads' y.out).2.2 j z A;cases am;replace z:=eq_true z;replace A:=eq_true A;go_wp2_with (first|((with_reducible refine gate_callee (f:=190) rfl ?_);refine goesL_ (some 26) rfl rfl Tryz.func190 KR rfl #[.string (rdOf ByteArray.empty l j)] rfl TA ?_;(with_reducible refine(spec_l1Int.calls k1 (rdOf ByteArray.empty l j) u _ bb.out).mono ?_);rintro e w' ⟨rfl,⟨nd,rfl⟩⟩;refine⟨_,rfl,?_⟩)|((with_reducible refine gate_callee (f:=66) rfl ?_);refine goesL_ (some 28) rfl rfl Tryz.func66 KR rfl #[.int .i64 u,.int .i64 0,.int .i64 255] rfl TA ?_;(with_reducible refine(spec_l1In.calls u 0 255 false _ be.out).mono ?_);rintro e w' ⟨rfl,⟨nd,rfl⟩⟩;refine⟨_,rfl,?_⟩));go_ret2;exact⟨TE,TB⟩
    ·rw[if_neg c7] at H;have ba:=decide_eq_false c7;clear c7;simp only[Option.some.injEq,Prod.mk.injEq] at H;obtain⟨rfl,rfl⟩:=H;go_wp2;go_ret2;exact⟨TE,TB⟩
 ·rw[if_neg c3] at H;have a6:=beq_eq_false_iff_ne.mpr c3;have a7:=bne_iff_ne.mpr c3;have ao:=AM H;clear H;go_enter Tryz.func162,Tryz.ntmps162
  go_upto_if 39 with (fail)
  go_cut [39] (fun bF wc=>∃(kq:Nat) (v:Bool),bF=.bool v∧Aside0 (spec_l3Bytes.j1 kq a1 a0 v=some (r1,r2))∧Aside0 (kq≤k)∧Aside0 (Below w.heap.size w wc))
  case first =>
   have H:=ao.out;clear ao;by_cases Y:a0=2
   ·rw[if_pos Y] at H;have B:=beq_iff_eq.mpr Y;have Z:=bne_eq_false_iff_eq.mpr Y;clear Y;(first|rw[B]|(simp only[i64_w,i32_w];rw[B])|rw[Z]|skip);have H':=AM H;clear H;go_wp2;go_meet
    case rel=>exact⟨_,((a0==2)),TF,H',⟨by first|omega|exact Nat.le_refl _⟩,⟨TB⟩⟩
   ·rw[if_neg Y] at H;have B:=beq_eq_false_iff_ne.mpr Y;have Z:=bne_iff_ne.mpr Y;(first|rw[B]|(simp only[i64_w,i32_w];rw[B])|rw[Z]|skip);have H':=AM H;clear H;go_wp2;go_meet
    case rel=>exact⟨_,((a0==5)),TF,H',⟨by first|omega|exact Nat.le_refl _⟩,⟨TB⟩⟩
  case rest =>
   clear ao;obtain⟨kq,v,rfl,HA,HJ15,HB⟩:=hcut
   cases kq with
   | zero=>exact absurd HA.out (by simp[spec_l3Bytes.j1])
   | succ p =>
    have H:=HA.out;clear HA;simp only[spec_l3Bytes.j1] at H;by_cases aG:v=true
    ·subst aG;replace H:=ift H;obtain⟨bf,bg,H⟩:=bnd H;by_cases aH:bf=true
     ·subst aH;replace H:=ift H;obtain⟨bh,bH,H⟩:=bnd H;simp only[Option.some.injEq,Prod.mk.injEq] at H;obtain⟨rfl,rfl⟩:=H;go_wp2_with (first|((with_reducible refine gate_callee (f:=192) rfl ?_);refine goesL_ (some 43) rfl rfl Tryz.func192 KR rfl #[.string a1] rfl TA ?_;(with_reducible refine(spec_l3Target.calls p a1 true _ bg.out).mono ?_);rintro e cm ⟨rfl,hb⟩;refine⟨_,rfl,?_⟩;replace HB:=BS hb;clear hb)|((with_reducible refine gate_callee (f:=193) rfl ?_);refine goesL_ (some 46) rfl rfl Tryz.func193 KR rfl #[.string a1] rfl TA ?_;(with_reducible refine(spec_l2Bytes.calls p a1 bh _ bH.out).mono ?_);rintro e cn ⟨rfl,hb⟩;refine⟨_,rfl,?_⟩;replace HB:=BS hb;clear hb));go_ret2;exact⟨TE,TB⟩
     ·replace aH:=Bool.eq_false_iff.mpr aH;subst aH;replace H:=iff' H;simp only[Option.some.injEq,Prod.mk.injEq] at H;obtain⟨rfl,rfl⟩:=H;go_wp2_with (first|((with_reducible refine gate_callee (f:=192) rfl ?_);refine goesL_ (some 43) rfl rfl Tryz.func192 KR rfl #[.string a1] rfl TA ?_;(with_reducible refine(spec_l3Target.calls p a1 false _ bg.out).mono ?_);rintro e co ⟨rfl,hb⟩;refine⟨_,rfl,?_⟩;replace HB:=BS hb;clear hb));go_ret2;exact⟨TE,TB⟩
    ·replace aG:=Bool.eq_false_iff.mpr aG;subst aG;replace H:=iff' H;by_cases aa:a0=6
     ·rw[if_pos aa] at H;have aQ:=beq_iff_eq.mpr aa;have aR:=bne_eq_false_iff_eq.mpr aa;clear aa;obtain⟨J,bI,H⟩:=bnd H;obtain⟨bi,bJ,H⟩:=bnd H;obtain⟨bj,bK,H⟩:=bnd H;simp only[Option.some.injEq,Prod.mk.injEq] at H;obtain⟨rfl,rfl⟩:=H;go_wp2_with (first|((with_reducible refine gate_callee (f:=190) rfl ?_);refine goesL_ (some 50) rfl rfl Tryz.func190 KR rfl #[.string a1] rfl TA ?_;(with_reducible refine(spec_l1Int.calls p a1 J _ bI.out).mono ?_);rintro e w' ⟨rfl,⟨nd,rfl⟩⟩;refine⟨_,rfl,?_⟩)|((with_reducible refine gate_callee (f:=191) rfl ?_);refine goesL_ (some 52) rfl rfl Tryz.func191 KR rfl #[.int .i64 J,.int .i64 4] rfl TA ?_;(with_reducible refine(spec_l3Number.calls p J 4 bi _ bJ.out).mono ?_);rintro e cp ⟨rfl,hb⟩;refine⟨_,rfl,?_⟩;replace HB:=BS hb;clear hb)|((with_reducible refine gate_callee (f:=66) rfl ?_);refine goesL_ (some 54) rfl rfl Tryz.func66 KR rfl #[.int .i64 J,.int .i64 0,.int .i64 4294967295] rfl TA ?_;(with_reducible refine(spec_l1In.calls J 0 4294967295 bj _ bK.out).mono ?_);rintro e w' ⟨rfl,⟨nd,rfl⟩⟩;refine⟨_,rfl,?_⟩));go_ret2;exact⟨TE,TB⟩
     ·rw[if_neg aa] at H;have aQ:=beq_eq_false_iff_ne.mpr aa;have aR:=bne_iff_ne.mpr aa;by_cases ab:a0=15
      ·rw[if_pos ab] at H;have aS:=beq_iff_eq.mpr ab;have aT:=bne_eq_false_iff_eq.mpr ab;clear ab;obtain⟨g,bL,H⟩:=bnd H;have ap:=AM H;clear H
       go_upto_region 24 with (first|((with_reducible refine gate_callee (f:=149) rfl ?_);refine goesL_ (some 58) rfl rfl Tryz.func149 KR rfl #[.string a1,.int .u8 32] rfl TA ?_;(with_reducible refine(spec_l1Split.calls p a1 32 g _ bL.out).mono ?_);rintro e cq ⟨bk,rfl,aj,hb⟩;refine⟨_,rfl,?_⟩;have m:=RL aj;replace HB:=BS hb;clear hb;(try clear aj)))
       (try simp only[Act.put,List.setIfInBounds_toArray,List.set_cons_zero,List.set_cons_succ]);go_cut [76] (fun bO wc=>∃(kq:Nat) (x:Bool),bO=.bool x∧Aside0 (spec_l3Bytes.j2 kq g x=some (r1,r2))∧Aside0 (kq≤p)∧Aside0 (Kd.R Kd.string 9 wc w.heap.size (fun _=>True) bk g)∧Aside0 (Below w.heap.size w wc))
       case first =>
        have H:=ap.out;clear ap;by_cases ac:(g.length:Int)=2
        ·rw[if_pos ac] at H;have C:=beq_iff_eq.mpr ac;have ad:=bne_eq_false_iff_eq.mpr ac;clear ac;(first|rw[C]|(simp only[i64_w,i32_w];rw[C])|rw[ad]|skip);obtain⟨bl,H⟩:=ifn H;have bP:=decide_eq_true bl;have bQ:decide (0<g.length)=true:=decide_eq_true (by omega);clear bl;obtain⟨af,bm,H⟩:=bnd H;obtain⟨bn,bo,H⟩:=bnd H;by_cases aI:bn=true
         ·subst aI;replace H:=ift H;obtain⟨bp,H⟩:=ifn H;have bR:=decide_eq_true bp;have bS:decide (1<g.length)=true:=decide_eq_true (by omega);clear bp;obtain⟨aK,bT,H⟩:=bnd H;have H':=AM H;clear H;obtain⟨cc,cd,eo41⟩:=Kd.R_slice m.out;subst eo41;have D:0≤(0:Int):=(by omega);have E:0<(g.length:Int):=TD;obtain⟨aq,ar,q⟩:=Kd.at_string (Kd.R_reads' m.out).2.2 0 D E;cases ar;have qi174:(0<g.length)=True:=eq_true (by omega);(try rw[show((0:Int)).toNat=0 from rfl] at q);(try rw[Addr.add_zero'] at q);replace D:=eq_true D;replace E:=eq_true E;go_wp2_with (first|(go_at_call 190;(with_reducible refine(spec_l1Int.calls p (rdOf ByteArray.empty g 0) af _ bm.out).mono ?_);rintro e w' ⟨rfl,⟨nd,rfl⟩⟩)|(go_at_call 66;(with_reducible refine(spec_l1In.calls af 0 65535 true _ bo.out).mono ?_);rintro e w' ⟨rfl,⟨nd,rfl⟩⟩;have au:0≤(1:Int):=(by omega);have av:1<(g.length:Int):=TD;obtain⟨aU,bq,O⟩:=Kd.at_string (Kd.R_reads' m.out).2.2 1 au av;obtain rfl:aq=aU:=(by injection bq);(try simp only[show(1:Int).toNat=1 from rfl,Nat.reduceMul,Nat.reduceEqDiff,Go.Addr.add,↓reduceIte] at O);have qi177:(1<g.length)=True:=eq_true (by omega);(try rw[show((1:Int)).toNat=1 from rfl] at O);replace au:=eq_true au;replace av:=eq_true av)|(go_at_call 192;(with_reducible refine(spec_l3Target.calls p (rdOf ByteArray.empty g 1) aK _ bT.out).mono ?_);rintro e cr ⟨rfl,hb⟩;replace m:=RB m hb;replace HB:=BS hb;clear hb));go_meet
          case rel=>exact⟨_,(!aK),TF,H',⟨by have:=HJ15.out;first|omega|exact Nat.le_refl _⟩,RW m,⟨TB⟩⟩
         ·replace aI:=Bool.eq_false_iff.mpr aI;subst aI;replace H:=iff' H;have H':=AM H;clear H;obtain⟨ce,cf,eo43⟩:=Kd.R_slice m.out;subst eo43;have D:0≤(0:Int):=(by omega);have E:0<(g.length:Int):=TD;obtain⟨aq,ar,q⟩:=Kd.at_string (Kd.R_reads' m.out).2.2 0 D E;cases ar;have qi174:(0<g.length)=True:=eq_true (by omega);(try rw[show((0:Int)).toNat=0 from rfl] at q);(try rw[Addr.add_zero'] at q);replace D:=eq_true D;replace E:=eq_true E;go_wp2_with (first|(go_at_call 190;(with_reducible refine(spec_l1Int.calls p (rdOf ByteArray.empty g 0) af _ bm.out).mono ?_);rintro e w' ⟨rfl,⟨nd,rfl⟩⟩)|(go_at_call 66;(with_reducible refine(spec_l1In.calls af 0 65535 false _ bo.out).mono ?_);rintro e w' ⟨rfl,⟨nd,rfl⟩⟩));go_meet
          case rel=>exact⟨_,(true),TF,H',⟨by have:=HJ15.out;first|omega|exact Nat.le_refl _⟩,RW m,⟨TB⟩⟩
        ·rw[if_neg ac] at H;have C:=beq_eq_false_iff_ne.mpr ac;have ad:=bne_iff_ne.mpr ac;(first|rw[C]|(simp only[i64_w,i32_w];rw[C])|rw[ad]|skip);have H':=AM H;clear H;obtain⟨cg,ch,eo44⟩:=Kd.R_slice m.out;subst eo44;go_wp2;go_meet
         case rel=>exact⟨_,(true),TF,H',⟨by have:=HJ15.out;first|omega|exact Nat.le_refl _⟩,RW m,⟨TB⟩⟩
       case rest =>
        clear ap;obtain⟨kq,x,rfl,HA,HJ31,o,HB⟩:=hcut
        cases kq with
        | zero=>exact absurd HA.out (by simp[spec_l3Bytes.j2])
        | succ aw =>
         have H:=HA.out;clear HA;simp only[spec_l3Bytes.j2] at H;by_cases aJ:x=true
         ·subst aJ;replace H:=ift H;simp only[Option.some.injEq,Prod.mk.injEq] at H;obtain⟨rfl,rfl⟩:=H;go_wp2;go_ret2;exact⟨TE,TB⟩
         ·replace aJ:=Bool.eq_false_iff.mpr aJ;subst aJ;replace H:=iff' H;obtain⟨br,H⟩:=ifn H;have bU:=decide_eq_true br;have bV:decide (0<g.length)=true:=decide_eq_true (by omega);clear br;obtain⟨ax,bW,H⟩:=bnd H;obtain⟨aL,bX,H⟩:=bnd H;obtain⟨bs,H⟩:=ifn H;have bY:=decide_eq_true bs;have bZ:decide (1<g.length)=true:=decide_eq_true (by omega);clear bs;obtain⟨aM,b0,H⟩:=bnd H;obtain⟨aV,H⟩:=ifn H;have b1:=eq_true aV;have b2:=decide_eq_true aV
          try have b3:(9223372036854775807<aL.size+aM.size)=False:=eq_false (Nat.not_lt.2 aV)
          simp only[Option.some.injEq,Prod.mk.injEq] at H;obtain⟨rfl,rfl⟩:=H
          try go_wp2
          replace o:=AM (Kd.R_drew o.out);replace HB:=AM (below_drew1 HB.out);obtain⟨ci,cj,eo53⟩:=Kd.R_slice o.out;(first|subst eo53|(injection eo53 with f1_ f2_ f3_;have f4_:=f1_.symm;have f5_:=f3_.symm;clear f1_ f2_ f3_;subst f4_;subst f5_));have ay:0≤(0:Int):=(by omega);have az:0<(g.length:Int):=TD;obtain⟨G,bu,s⟩:=Kd.at_string (Kd.R_reads' o.out).2.2 0 ay az;cases bu;have qi179:(0<g.length)=True:=eq_true (by omega);(try rw[show((0:Int)).toNat=0 from rfl] at s);(try rw[Addr.add_zero'] at s);replace ay:=eq_true ay;replace az:=eq_true az;have aA:0≤(1:Int):=(by omega);have aB:1<(g.length:Int):=TD;obtain⟨aW,bv,t⟩:=Kd.at_string (Kd.R_reads' o.out).2.2 1 aA aB;obtain rfl:G=aW:=(by injection bv);(try simp only[show(1:Int).toNat=1 from rfl,Nat.reduceMul,Nat.reduceEqDiff,Go.Addr.add,↓reduceIte] at t);have qi182:(1<g.length)=True:=eq_true (by omega);(try rw[show((1:Int)).toNat=1 from rfl] at t);replace aA:=eq_true aA;replace aB:=eq_true aB;refine start_ (n:=12) (S:=fun w'=>w'.cell? G=some (.string (rdOf ByteArray.empty g 0))∧w'.cell? ⟨G.block,G.off+1,none⟩=some (.string (rdOf ByteArray.empty g 1))) (ds:=[]) #[false,false,false,false,false,false,false,false,false,false,false,false] KR rfl rfl ⟨s,t⟩ (fun hHeld=>?_);refine with_tabW spec_l3Bytes.tab26 spec_l3Bytes.bits26 (fun HT_ HW_=>?_);generalize wc.drew=cs at o HB s t hHeld ⊢;refine pA 0 77 (mL 12 1) HT_ rfl rfl ?_;refine pA 1 78 (mL 12 3) HT_ rfl rfl ?_;refine pA 5 82 (mL 12 35) HT_ rfl rfl ?_;refine pA 6 83 (mL 12 99) HT_ rfl rfl ?_;refine tA 2 79 (mL 12 103) HT_ HW_ hHeld rfl rfl (by rintro w' ⟨s0,s1⟩;go_simp;with_reducible rfl) ?_;refine tA 7 84 (mL 12 231) HT_ HW_ hHeld rfl rfl (by rintro w' ⟨s0,s1⟩;go_simp;with_reducible rfl) ?_;refine one_ (i:=3) (N:=some 80) (mL 12 239) rfl rfl (one_of HT_.out KR) (by decide) (fun K hK=>?_);refine goes_ Tryz.func190 KR rfl #[.string (rdOf ByteArray.empty g 0)] (by rfl) rfl rfl TA ?_
          with_reducible refine(spec_l1Int.calls aw (rdOf ByteArray.empty g 0) ax _ bW.out).mono ?_
          rintro e w' ⟨rfl,⟨nd,rfl⟩⟩;refine⟨_,rfl,?_⟩;refine hK.out _ _ ⟨hHeld.1,hHeld.2⟩ (fun hHeld=>?_);clear hK K;refine nA ?_;refine one_ (i:=4) (N:=some 81) (mL 12 255) rfl rfl (one_of HT_.out KR) (by decide) (fun K hK=>?_);refine goes_ Tryz.func191 KR rfl #[.int .i64 ax,.int .i64 2] (by rfl) rfl rfl TA ?_
          with_reducible refine(spec_l3Number.calls aw ax 2 aL _ bX.out).mono ?_
          rintro e ct ⟨rfl,hb⟩;have HS0_:=(hb.cell (World.block_lt_of_cell? _ _ (hHeld.1))).trans (hHeld.1);have HS1_:=(hb.cell (World.block_lt_of_cell? _ _ (hHeld.2))).trans (hHeld.2);refine⟨_,rfl,?_⟩;replace o:=RB o hb;replace HB:=BS hb;(try clear hb);(try clear hb2);(try clear hk);(try clear hi);refine hK.out _ _ ⟨HS0_,HS1_⟩ (fun hHeld=>?_);clear hK K;refine nA ?_;refine one_ (i:=8) (N:=some 85) (mL 12 511) rfl rfl (one_of HT_.out KR) (by decide) (fun K hK=>?_);refine goes_ Tryz.func193 KR rfl #[.string (rdOf ByteArray.empty g 1)] (by rfl) rfl rfl TA ?_
          with_reducible refine(spec_l2Bytes.calls aw (rdOf ByteArray.empty g 1) aM _ b0.out).mono ?_
          rintro e cu ⟨rfl,hb⟩;have HS0_:=(hb.cell (World.block_lt_of_cell? _ _ (hHeld.1))).trans (hHeld.1);have HS1_:=(hb.cell (World.block_lt_of_cell? _ _ (hHeld.2))).trans (hHeld.2);refine⟨_,rfl,?_⟩;replace o:=RB o hb;replace HB:=BS hb;(try clear hb);(try clear hb2);(try clear hk);(try clear hi);refine hK.out _ _ ⟨HS0_,HS1_⟩ (fun hHeld=>?_);clear hK K;refine nA ?_;refine pA 9 86 (mL 12 1023) HT_ rfl rfl ?_;refine pA 10 4 (mL 12 2047) HT_ rfl rfl ?_;refine pA 11 5 (mL 12 4095) HT_ rfl rfl ?_;refine done_ (done_of HT_.out KR) ?_
          try go_wp2
          go_ret2;exact⟨TE,TB⟩
      ·rw[if_neg ab] at H;have aS:=beq_eq_false_iff_ne.mpr ab;have aT:=bne_iff_ne.mpr ab;by_cases ae:a0=16
       ·rw[if_pos ae] at H;have aX:=beq_iff_eq.mpr ae;have aY:=bne_eq_false_iff_eq.mpr ae;clear ae;have H':=AM H;clear H;go_wp2;go_loopg [13] p (fun kq b4 w'=>∃(c:Int),b4=.int .i64 c∧Aside0 (spec_l3Bytes.l1 kq a1 c=some (r1,r2))∧Aside0 (kq≤p)∧Aside0 (Below w.heap.size w w'))
        case atStart=>exact⟨(0),TF,H',⟨Nat.le_refl _⟩,⟨TB⟩⟩
        case round =>
         clear H';obtain⟨c,rfl,HA,HK2,HB⟩:=hrel
         cases gk with
         | zero=>exact absurd HA.out (by simp[spec_l3Bytes.l1])
         | succ k2 =>
          have H:=HA.out;clear HA;simp only[spec_l3Bytes.l1] at H;by_cases ag:c<(a1.size:Int)
          ·rw[if_pos ag] at H;have aZ:=decide_eq_true ag;clear ag;obtain⟨bw,H⟩:=ifn H;have b5:=decide_eq_true bw;clear bw;by_cases ah:(bt a1 c)<32
           ·rw[if_pos ah] at H;have a2:=decide_eq_true ah;clear ah;simp only[Option.some.injEq,Prod.mk.injEq] at H;obtain⟨rfl,rfl⟩:=H;have U:0≤(c:Int):=TD;have V:c<(a1.size:Int):=TD;have aN:=bt_at a1 c;replace U:=eq_true U;replace V:=eq_true V;go_wp2;go_ret2;exact⟨TE,TB⟩
           ·rw[if_neg ah] at H;have a2:=decide_eq_false ah;clear ah;by_cases ai:(bt a1 c) > 126
            ·rw[if_pos ai] at H;have a3:=decide_eq_true ai;clear ai;simp only[Option.some.injEq,Prod.mk.injEq] at H;obtain⟨rfl,rfl⟩:=H;have U:0≤(c:Int):=TD;have V:c<(a1.size:Int):=TD;have aN:=bt_at a1 c;replace U:=eq_true U;replace V:=eq_true V;have aC:0≤(c:Int):=TD;have aD:c<(a1.size:Int):=TD;have bx:=bt_at a1 c;replace aC:=eq_true aC;replace aD:=eq_true aD;go_wp2;go_ret2;exact⟨TE,TB⟩
            ·rw[if_neg ai] at H;have a3:=decide_eq_false ai;clear ai;have H':=AM H;clear H;have U:0≤(c:Int):=TD;have V:c<(a1.size:Int):=TD;have aN:=bt_at a1 c;replace U:=eq_true U;replace V:=eq_true V;have aC:0≤(c:Int):=TD;have aD:c<(a1.size:Int):=TD;have bx:=bt_at a1 c;replace aC:=eq_true aC;replace aD:=eq_true aD;go_wp2;go_roundg k2
             case measure=>have:=HJ15.out;have:=HK2.out;omega
             case rel=>exact⟨(wrap64 (c+1)),TF,H',⟨by have:=HJ15.out;have:=HK2.out;omega⟩,⟨TB⟩⟩
          ·rw[if_neg ag] at H;have aZ:=decide_eq_false ag;clear ag;obtain⟨aE,F⟩:∃y_:List Int,y_=(([((a1.size:Int)) % 256]:List Int)):=⟨_,rfl⟩
           replace H:(if (strOfNums aE).size+a1.size≤9223372036854775807 then(some ((strOfNums aE)++a1,decide ((a1.size:Int)≤30))) else(none))=some (r1,r2):=by first|(rw[F];with_reducible exact H)|(have H2_:=(Option.bind_some _ _).symm.trans H;rw[F];with_reducible exact H2_)|(have H2_:=(Option.bind_some _ _).symm.trans H;with_reducible exact H2_)|with_reducible exact H|(rw[F];exact H)|exact H
           have Ny184:=AM F;clear F;obtain⟨a4,H⟩:=ifn H;have b6:=eq_true a4;have b7:=decide_eq_true a4
           try have b8:(9223372036854775807<(strOfNums aE).size+a1.size)=False:=eq_false (Nat.not_lt.2 a4)
           simp only[Option.some.injEq,Prod.mk.injEq] at H;obtain⟨rfl,rfl⟩:=H;go_wp2_with (first|((with_reducible refine gate_dst (N:=108) rfl ?_);refine Kd.R_lit (Kd.int .u8) _ 5 ?hg (N:=108) ?hd (xs:=([((a1.size:Int)) % 256]:List Int)) (inner:=[.int .u8 (((a1.size:Int)) % 256)]) (ok:=fun _=>True) (okp:=fun _=>True) ?hr ?hp (fun _ hk=>hk) trivial (Below.refl _ _) (Nat.le_refl _) (by simp) ?_;(case hd=>rfl);(case hg=>rfl);(case hr=>first|(go_simp;done)|(go_simp;rfl));(case hp=>exact(Reps.one (show Kd.M (Kd.int .u8) _ _ _ (((a1.size:Int)) % 256) [.int .u8 (((a1.size:Int)) % 256)] from rfl) (Reps.none _ _)));intro ck w64 W hb hg_ hnew_;clear hg_ hnew_;(first|rw[←Ny184.out] at W|(simp only[Int.reduceToNat] at W;rw[←Ny184.out] at W));have a5:=RL W;replace HB:=BS hb;clear hb W;have hcv66:=own_string (P:=Tryz.prog) Tryz.underlying141 Tryz.underlying5 Tryz.underlying9 (Kd.own_of_R a5.out)));go_ret2;exact⟨TE,TB⟩
       ·rw[if_neg ae] at H;have aX:=beq_eq_false_iff_ne.mpr ae;have aY:=bne_iff_ne.mpr ae;simp only[Option.some.injEq,Prod.mk.injEq] at H;obtain⟨rfl,rfl⟩:=H;go_wp2;go_ret2;exact⟨TE,TB⟩
end
section
/-! ### spec_GoodRecord: function 125 -/
def spec_GoodRecord.f (k:Nat) (a0_0:ByteArray) (a0_1:Int) (a0_2:Int) (a0_3:ByteArray):Option (Bool):=(spec_l3Bytes.f k a0_1 a0_3).bind fun bt192=>(if bt192.2=true then((spec_GoodName.f k a0_0).bind fun t194=>(if t194=true then((spec_l1In.f a0_2 0 100000).bind fun t195=>(some t195)) else(some false))) else(some false))
theorem spec_GoodRecord.calls (k:Nat) (j:ByteArray) (g:Int) (l:Int) (i:ByteArray) (r:Bool) (w:World) (h:spec_GoodRecord.f k j g l i=some r) :
  Calls Tryz.prog 125 #[.agg #[.string j,.int .i64 g,.int .i64 l,.string i]] w fun e w'=>e=.returned (.bool r)∧Below w.heap.size w w':=by
 have hu100:=Tryz.underlying100;have HB:=AM (Below.refl w.heap.size w);have H:((spec_l3Bytes.f k g i).bind fun bt192=>(if bt192.2=true then((spec_GoodName.f k j).bind fun m=>(if m=true then((spec_l1In.f l 0 100000).bind fun n=>(some n)) else(some false))) else(some false)))=some r:=h;clear h;obtain⟨⟨o,s⟩,A2,H⟩:=bnd H
 try dsimp only at H
 by_cases c3:s=true
 ·subst c3;replace H:=ift H;obtain⟨m,A4,H⟩:=bnd H;by_cases c5:m=true
  ·subst c5;replace H:=ift H;obtain⟨n,A6,H⟩:=bnd H;obtain rfl:=Option.some.inj H;go_enter Tryz.func125,Tryz.ntmps125;go_wp2_with (first|((with_reducible refine gate_dst (N:=1) rfl ?_);refine bE 1 #[.string j,.int .i64 g,.int .i64 l,.string i] 100 ?_;intro p hg w7 hbox hb;have c:=AM (hbox);have q:=bG hg;replace HB:=BS hb;clear hb hbox hg;have z:=cz4 c)|((with_reducible refine gate_callee (f:=162) rfl ?_);refine goesL_ (some 10) rfl rfl Tryz.func162 KR rfl #[.int .i64 g,.string i] rfl TA ?_;(with_reducible refine(spec_l3Bytes.calls k g i o true _ A2.out).mono ?_);rintro e w9 ⟨rfl,hb⟩;refine⟨_,rfl,?_⟩;replace c:=KB c hb;replace HB:=BS hb;clear hb;have t:=cz4 c)|(go_at_call 58;(with_reducible refine(spec_GoodName.calls k j true _ A4.out).mono ?_);rintro e A ⟨rfl,hb⟩;replace c:=KB c hb;replace HB:=BS hb;clear hb;have u:=cz4 c)|(go_at_call 66;(with_reducible refine(spec_l1In.calls l 0 100000 n _ A6.out).mono ?_);rintro e w' ⟨rfl,⟨nd,rfl⟩⟩));go_ret;exact⟨TE,TB⟩
  ·replace c5:=Bool.eq_false_iff.mpr c5;subst c5;replace H:=iff' H;obtain rfl:=Option.some.inj H;go_enter Tryz.func125,Tryz.ntmps125;go_wp2_with (first|((with_reducible refine gate_dst (N:=1) rfl ?_);refine bE 1 #[.string j,.int .i64 g,.int .i64 l,.string i] 100 ?_;intro p hg B hbox hb;have c:=AM (hbox);have q:=bG hg;replace HB:=BS hb;clear hb hbox hg;have v:=cz4 c)|((with_reducible refine gate_callee (f:=162) rfl ?_);refine goesL_ (some 10) rfl rfl Tryz.func162 KR rfl #[.int .i64 g,.string i] rfl TA ?_;(with_reducible refine(spec_l3Bytes.calls k g i o true _ A2.out).mono ?_);rintro e C ⟨rfl,hb⟩;refine⟨_,rfl,?_⟩;replace c:=KB c hb;replace HB:=BS hb;clear hb;have x:=cz4 c)|(go_at_call 58;(with_reducible refine(spec_GoodName.calls k j false _ A4.out).mono ?_);rintro e D ⟨rfl,hb⟩;replace c:=KB c hb;replace HB:=BS hb;clear hb));go_ret;exact⟨TE,TB⟩
 ·replace c3:=Bool.eq_false_iff.mpr c3;subst c3;replace H:=iff' H;obtain rfl:=Option.some.inj H;go_enter Tryz.func125,Tryz.ntmps125;go_wp2_with (first|((with_reducible refine gate_dst (N:=1) rfl ?_);refine bE 1 #[.string j,.int .i64 g,.int .i64 l,.string i] 100 ?_;intro p hg E hbox hb;have c:=AM (hbox);have q:=bG hg;replace HB:=BS hb;clear hb hbox hg;have y:=cz4 c)|((with_reducible refine gate_callee (f:=162) rfl ?_);refine goesL_ (some 10) rfl rfl Tryz.func162 KR rfl #[.int .i64 g,.string i] rfl TA ?_;(with_reducible refine(spec_l3Bytes.calls k g i o false _ A2.out).mono ?_);rintro e F ⟨rfl,hb⟩;refine⟨_,rfl,?_⟩;replace c:=KB c hb;replace HB:=BS hb;clear hb));go_ret;exact⟨TE,TB⟩
end
section
/-! ### spec_l3Less: function 198 -/
def spec_l3Less.f (a0:Bool):Option (Int):=if a0=true then(some (-1)) else(some 1)
theorem spec_l3Less.calls (a0:Bool) (r:Int) (w:World) (h:spec_l3Less.f a0=some r) :
  Calls Tryz.prog 198 #[.bool a0] w fun e w'=>e=.returned (.int .i64 r)∧Drawn0 w w':=by
 have H:(if a0=true then(some (-1)) else(some 1))=some r:=h;clear h;by_cases c2:a0=true
 ·subst c2;replace H:=ift H;obtain rfl:=Option.some.inj H;go_enter Tryz.func198,Tryz.ntmps198;go_wp2;go_ret;exact⟨TF,TN⟩
 ·replace c2:=Bool.eq_false_iff.mpr c2;subst c2;replace H:=iff' H;obtain rfl:=Option.some.inj H;go_enter Tryz.func198,Tryz.ntmps198;go_wp2;go_ret;exact⟨TF,TN⟩
end
section
/-! ### spec_l3Compare: function 174 -/
def spec_l3Compare.f (k:Nat) (l:ByteArray) (c:Int) (h:Int) (m:ByteArray) (n:ByteArray) (g:Int) (i:Int) (o:ByteArray):Option (Int):=(spec_l1Compare.f k l n).bind fun j=>(if j=0 then((spec_l3Bytes.f k c m).bind fun bt209=>((spec_l3Bytes.f k g o).bind fun bt211=>(if c=g then(if bt209.1.toList=bt211.1.toList then(if h=i then(some 0) else((spec_l3Less.f (decide (h<i))).bind fun p=>(some p))) else((spec_l3Less.f (Op.bytesLess bt209.1.toList bt211.1.toList)).bind fun q=>(some q))) else((spec_l3Less.f (decide (c<g))).bind fun s=>(some s))))) else(some j))
theorem spec_l3Compare.calls (k:Nat) (m:ByteArray) (j:Int) (s:Int) (o:ByteArray) (n:ByteArray) (l:Int) (t:Int) (p:ByteArray) (r:Int) (w:World) (h:spec_l3Compare.f k m j s o n l t p=some r) :
  Calls Tryz.prog 174 #[.agg #[.string m,.int .i64 j,.int .i64 s,.string o],.agg #[.string n,.int .i64 l,.int .i64 t,.string p]] w fun e w'=>e=.returned (.int .i64 r)∧Below w.heap.size w w':=by
 have hu100:=Tryz.underlying100;have HB:=AM (Below.refl w.heap.size w);have H:((spec_l1Compare.f k m n).bind fun u=>(if u=0 then((spec_l3Bytes.f k j o).bind fun bt209=>((spec_l3Bytes.f k l p).bind fun bt211=>(if j=l then(if bt209.1.toList=bt211.1.toList then(if s=t then(some 0) else((spec_l3Less.f (decide (s<t))).bind fun E=>(some E))) else((spec_l3Less.f (Op.bytesLess bt209.1.toList bt211.1.toList)).bind fun F=>(some F))) else((spec_l3Less.f (decide (j<l))).bind fun G=>(some G))))) else(some u)))=some r:=h;clear h;obtain⟨u,A3,H⟩:=bnd H;by_cases c4:u=0
 ·rw[if_pos c4] at H;have I:=beq_iff_eq.mpr c4;have J:=bne_eq_false_iff_eq.mpr c4;clear c4;obtain⟨⟨v,C⟩,A5,H⟩:=bnd H
  try dsimp only at H
  obtain⟨⟨x,D⟩,A6,H⟩:=bnd H
  try dsimp only at H
  by_cases c7:j=l
  ·rw[if_pos c7] at H;have K:=beq_iff_eq.mpr c7;have M:=bne_eq_false_iff_eq.mpr c7;clear c7;by_cases c8:v.toList=x.toList
   ·rw[if_pos c8] at H;have O:=beq_iff_eq.mpr c8;have R:=bne_eq_false_iff_eq.mpr c8;clear c8;by_cases c9:s=t
    ·rw[if_pos c9] at H;have U:=beq_iff_eq.mpr c9;have V:=bne_eq_false_iff_eq.mpr c9;clear c9;obtain rfl:=Option.some.inj H;go_enter Tryz.func174,Tryz.ntmps174;go_wp2_with (first|((with_reducible refine gate_dst (N:=2) rfl ?_);refine bE 2 #[.string m,.int .i64 j,.int .i64 s,.string o] 100 ?_;intro y hg aL hbox hb;have c:=AM (hbox);have z:=bG hg;replace HB:=BS hb;clear hb hbox hg)|((with_reducible refine gate_dst (N:=3) rfl ?_);refine bE 3 #[.string n,.int .i64 l,.int .i64 t,.string p] 100 ?_;intro A hg aM hbox hb;have g:=AM (hbox);have B:=bG hg;replace HB:=BS hb;have i:=bN c hg;have q:=bM c hg;replace c:=KB c hb;clear hb hbox hg;obtain⟨W,X⟩:=nn i;have Y:=cz4 c;have Z:=cz4 g)|((with_reducible refine gate_callee (f:=67) rfl ?_);refine goesL_ (some 14) rfl rfl Tryz.func67 KR rfl #[.string m,.string n] rfl TA ?_;(with_reducible refine(spec_l1Compare.calls k m n u _ A3.out).mono ?_);rintro e aN ⟨rfl,hb⟩;refine⟨_,rfl,?_⟩;replace c:=KB c hb;replace g:=KB g hb;replace HB:=BS hb;clear hb;have aa:=cz4 c)|((with_reducible refine gate_callee (f:=162) rfl ?_);refine goesL_ (some 23) rfl rfl Tryz.func162 KR rfl #[.int .i64 j,.string o] rfl TA ?_;(with_reducible refine(spec_l3Bytes.calls k j o v C _ A5.out).mono ?_);rintro e aO ⟨rfl,hb⟩;refine⟨_,rfl,?_⟩;replace c:=KB c hb;replace g:=KB g hb;replace HB:=BS hb;clear hb;have ab:=cz4 g)|((with_reducible refine gate_callee (f:=162) rfl ?_);refine goesL_ (some 31) rfl rfl Tryz.func162 KR rfl #[.int .i64 l,.string p] rfl TA ?_;(with_reducible refine(spec_l3Bytes.calls k l p x D _ A6.out).mono ?_);rintro e aP ⟨rfl,hb⟩;refine⟨_,rfl,?_⟩;replace c:=KB c hb;replace g:=KB g hb;replace HB:=BS hb;clear hb;have ac:=cz4 c;have ad:=cz4 g));go_ret;exact⟨TE,TB⟩
    ·rw[if_neg c9] at H;have U:=beq_eq_false_iff_ne.mpr c9;have V:=bne_iff_ne.mpr c9;obtain⟨E,ae,H⟩:=bnd H;obtain rfl:=Option.some.inj H;go_enter Tryz.func174,Tryz.ntmps174;go_wp2_with (first|((with_reducible refine gate_dst (N:=2) rfl ?_);refine bE 2 #[.string m,.int .i64 j,.int .i64 s,.string o] 100 ?_;intro y hg aQ hbox hb;have c:=AM (hbox);have z:=bG hg;replace HB:=BS hb;clear hb hbox hg)|((with_reducible refine gate_dst (N:=3) rfl ?_);refine bE 3 #[.string n,.int .i64 l,.int .i64 t,.string p] 100 ?_;intro A hg aR hbox hb;have g:=AM (hbox);have B:=bG hg;replace HB:=BS hb;have i:=bN c hg;have q:=bM c hg;replace c:=KB c hb;clear hb hbox hg;obtain⟨af,ag⟩:=nn i;have ah:=cz4 c;have ai:=cz4 g)|((with_reducible refine gate_callee (f:=67) rfl ?_);refine goesL_ (some 14) rfl rfl Tryz.func67 KR rfl #[.string m,.string n] rfl TA ?_;(with_reducible refine(spec_l1Compare.calls k m n u _ A3.out).mono ?_);rintro e aS ⟨rfl,hb⟩;refine⟨_,rfl,?_⟩;replace c:=KB c hb;replace g:=KB g hb;replace HB:=BS hb;clear hb;have aj:=cz4 c)|((with_reducible refine gate_callee (f:=162) rfl ?_);refine goesL_ (some 23) rfl rfl Tryz.func162 KR rfl #[.int .i64 j,.string o] rfl TA ?_;(with_reducible refine(spec_l3Bytes.calls k j o v C _ A5.out).mono ?_);rintro e aT ⟨rfl,hb⟩;refine⟨_,rfl,?_⟩;replace c:=KB c hb;replace g:=KB g hb;replace HB:=BS hb;clear hb;have ak:=cz4 g)|((with_reducible refine gate_callee (f:=162) rfl ?_);refine goesL_ (some 31) rfl rfl Tryz.func162 KR rfl #[.int .i64 l,.string p] rfl TA ?_;(with_reducible refine(spec_l3Bytes.calls k l p x D _ A6.out).mono ?_);rintro e aU ⟨rfl,hb⟩;refine⟨_,rfl,?_⟩;replace c:=KB c hb;replace g:=KB g hb;replace HB:=BS hb;clear hb;have al:=cz4 c;have am:=cz4 g)|((with_reducible refine gate_callee (f:=198) rfl ?_);refine goesL_ (some 65) rfl rfl Tryz.func198 KR rfl #[.bool (decide (s<t))] rfl TA ?_;(with_reducible refine(spec_l3Less.calls (decide (s<t)) E _ ae.out).mono ?_);rintro e w' ⟨rfl,⟨nd,rfl⟩⟩;refine⟨_,rfl,?_⟩));go_ret;exact⟨TE,TB⟩
   ·rw[if_neg c8] at H;have O:=beq_eq_false_iff_ne.mpr c8;have R:=bne_iff_ne.mpr c8;obtain⟨F,an,H⟩:=bnd H;obtain rfl:=Option.some.inj H;go_enter Tryz.func174,Tryz.ntmps174;go_wp2_with (first|((with_reducible refine gate_dst (N:=2) rfl ?_);refine bE 2 #[.string m,.int .i64 j,.int .i64 s,.string o] 100 ?_;intro y hg aV hbox hb;have c:=AM (hbox);have z:=bG hg;replace HB:=BS hb;clear hb hbox hg)|((with_reducible refine gate_dst (N:=3) rfl ?_);refine bE 3 #[.string n,.int .i64 l,.int .i64 t,.string p] 100 ?_;intro A hg aW hbox hb;have g:=AM (hbox);have B:=bG hg;replace HB:=BS hb;have i:=bN c hg;have q:=bM c hg;replace c:=KB c hb;clear hb hbox hg;obtain⟨ao,ap⟩:=nn i;have aq:=cz4 c;have ar:=cz4 g)|((with_reducible refine gate_callee (f:=67) rfl ?_);refine goesL_ (some 14) rfl rfl Tryz.func67 KR rfl #[.string m,.string n] rfl TA ?_;(with_reducible refine(spec_l1Compare.calls k m n u _ A3.out).mono ?_);rintro e aX ⟨rfl,hb⟩;refine⟨_,rfl,?_⟩;replace c:=KB c hb;replace g:=KB g hb;replace HB:=BS hb;clear hb;have au:=cz4 c)|((with_reducible refine gate_callee (f:=162) rfl ?_);refine goesL_ (some 23) rfl rfl Tryz.func162 KR rfl #[.int .i64 j,.string o] rfl TA ?_;(with_reducible refine(spec_l3Bytes.calls k j o v C _ A5.out).mono ?_);rintro e aY ⟨rfl,hb⟩;refine⟨_,rfl,?_⟩;replace c:=KB c hb;replace g:=KB g hb;replace HB:=BS hb;clear hb;have av:=cz4 g)|((with_reducible refine gate_callee (f:=162) rfl ?_);refine goesL_ (some 31) rfl rfl Tryz.func162 KR rfl #[.int .i64 l,.string p] rfl TA ?_;(with_reducible refine(spec_l3Bytes.calls k l p x D _ A6.out).mono ?_);rintro e aZ ⟨rfl,hb⟩;refine⟨_,rfl,?_⟩;replace c:=KB c hb;replace g:=KB g hb;replace HB:=BS hb;clear hb;have aw:=cz4 c;have ax:=cz4 g)|((with_reducible refine gate_callee (f:=198) rfl ?_);refine goesL_ (some 53) rfl rfl Tryz.func198 KR rfl #[.bool (Op.bytesLess v.toList x.toList)] rfl TA ?_;(with_reducible refine(spec_l3Less.calls (Op.bytesLess v.toList x.toList) F _ an.out).mono ?_);rintro e w' ⟨rfl,⟨nd,rfl⟩⟩;refine⟨_,rfl,?_⟩));go_ret;exact⟨TE,TB⟩
  ·rw[if_neg c7] at H;have K:=beq_eq_false_iff_ne.mpr c7;have M:=bne_iff_ne.mpr c7;obtain⟨G,ay,H⟩:=bnd H;obtain rfl:=Option.some.inj H;go_enter Tryz.func174,Tryz.ntmps174;go_wp2_with (first|((with_reducible refine gate_dst (N:=2) rfl ?_);refine bE 2 #[.string m,.int .i64 j,.int .i64 s,.string o] 100 ?_;intro y hg a0 hbox hb;have c:=AM (hbox);have z:=bG hg;replace HB:=BS hb;clear hb hbox hg)|((with_reducible refine gate_dst (N:=3) rfl ?_);refine bE 3 #[.string n,.int .i64 l,.int .i64 t,.string p] 100 ?_;intro A hg a1 hbox hb;have g:=AM (hbox);have B:=bG hg;replace HB:=BS hb;have i:=bN c hg;have q:=bM c hg;replace c:=KB c hb;clear hb hbox hg;obtain⟨az,aA⟩:=nn i;have aB:=cz4 c;have aC:=cz4 g)|((with_reducible refine gate_callee (f:=67) rfl ?_);refine goesL_ (some 14) rfl rfl Tryz.func67 KR rfl #[.string m,.string n] rfl TA ?_;(with_reducible refine(spec_l1Compare.calls k m n u _ A3.out).mono ?_);rintro e a2 ⟨rfl,hb⟩;refine⟨_,rfl,?_⟩;replace c:=KB c hb;replace g:=KB g hb;replace HB:=BS hb;clear hb;have aD:=cz4 c)|((with_reducible refine gate_callee (f:=162) rfl ?_);refine goesL_ (some 23) rfl rfl Tryz.func162 KR rfl #[.int .i64 j,.string o] rfl TA ?_;(with_reducible refine(spec_l3Bytes.calls k j o v C _ A5.out).mono ?_);rintro e a3 ⟨rfl,hb⟩;refine⟨_,rfl,?_⟩;replace c:=KB c hb;replace g:=KB g hb;replace HB:=BS hb;clear hb;have aE:=cz4 g)|((with_reducible refine gate_callee (f:=162) rfl ?_);refine goesL_ (some 31) rfl rfl Tryz.func162 KR rfl #[.int .i64 l,.string p] rfl TA ?_;(with_reducible refine(spec_l3Bytes.calls k l p x D _ A6.out).mono ?_);rintro e a4 ⟨rfl,hb⟩;refine⟨_,rfl,?_⟩;replace c:=KB c hb;replace g:=KB g hb;replace HB:=BS hb;clear hb;have aF:=cz4 c;have aG:=cz4 g)|((with_reducible refine gate_callee (f:=198) rfl ?_);refine goesL_ (some 45) rfl rfl Tryz.func198 KR rfl #[.bool (decide (j<l))] rfl TA ?_;(with_reducible refine(spec_l3Less.calls (decide (j<l)) G _ ay.out).mono ?_);rintro e w' ⟨rfl,⟨nd,rfl⟩⟩;refine⟨_,rfl,?_⟩));go_ret;exact⟨TE,TB⟩
 ·rw[if_neg c4] at H;have I:=beq_eq_false_iff_ne.mpr c4;have J:=bne_iff_ne.mpr c4;obtain rfl:=Option.some.inj H;go_enter Tryz.func174,Tryz.ntmps174;go_wp2_with (first|((with_reducible refine gate_dst (N:=2) rfl ?_);refine bE 2 #[.string m,.int .i64 j,.int .i64 s,.string o] 100 ?_;intro y hg a5 hbox hb;have c:=AM (hbox);have z:=bG hg;replace HB:=BS hb;clear hb hbox hg)|((with_reducible refine gate_dst (N:=3) rfl ?_);refine bE 3 #[.string n,.int .i64 l,.int .i64 t,.string p] 100 ?_;intro A hg a6 hbox hb;have g:=AM (hbox);have B:=bG hg;replace HB:=BS hb;have i:=bN c hg;have q:=bM c hg;replace c:=KB c hb;clear hb hbox hg;obtain⟨aH,aI⟩:=nn i;have aJ:=cz4 c;have aK:=cz4 g)|((with_reducible refine gate_callee (f:=67) rfl ?_);refine goesL_ (some 14) rfl rfl Tryz.func67 KR rfl #[.string m,.string n] rfl TA ?_;(with_reducible refine(spec_l1Compare.calls k m n u _ A3.out).mono ?_);rintro e a7 ⟨rfl,hb⟩;refine⟨_,rfl,?_⟩;replace c:=KB c hb;replace g:=KB g hb;replace HB:=BS hb;clear hb));go_ret;exact⟨TE,TB⟩
end
end Go.Proofs.YtioefechhknnlaaGreatDoor.Pp
