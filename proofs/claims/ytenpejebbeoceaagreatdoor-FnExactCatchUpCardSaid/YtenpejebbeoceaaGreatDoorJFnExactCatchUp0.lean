/- The functions that the law reaches,one Lean function and its proof for each;written by wip/pp of this workplace,joined by claimit.py. -/
import Derived.Test.YtenpejebbeoceaaGreatDoorProg
import Derived.Below
import Derived.Deep.Draws
import Derived.Deep.AppendLies
import Derived.Maps.AppendAt
import Derived.OwnWalk
import Derived.Laws.BytesArg
import Derived.Laws.MakeOwn
import Derived.Laws.OwnMore
import Derived.Deep.OwnRows
import Derived.Tactics
import Derived.Lib.ConvBytes
import Derived.Laws.Slices
import Derived.WalkKit
import Derived.KernelRfl
import Derived.RowKit3
import Derived.Deep.LoopGhost
import Derived.Deep.QuietTactic
import Derived.BigQuiet
import Derived.WideLaws
import Derived.Deep.DeepCutAuto
import Derived.Deep.CutBlock
import Derived.Deep.RegionHeld3
import Derived.Laws.Rows
import Derived.Lib.AppendStr
import Derived.ArgAppend
import Derived.Laws.IdiomCopy
import Derived.OrdersHeld
import Derived.Laws.BitsLemmas
import Derived.RowKit
import Derived.Test.YtenpejebbeoceaaGreatDoorKFnExactCatchUpW
import Derived.Laws.CopyRow
import Derived.Lib.Overlaps
import Derived.Lib.AppendZerosOnto
import Derived.Laws.Externs
import Derived.Shelf.Spec.SlicesInsert
namespace Go.Proofs.YtenpejebbeoceaaGreatDoor.Pp
open Go.RowKit Go.Proofs.YtenpejebbeoceaaGreatDoorW.PrintWords Go.Proofs.YtenpejebbeoceaaGreatDoorW.PrintLast Go.Proofs.YtenpejebbeoceaaGreatDoorW.PrintMore
attribute [local go_sem] max2_int min2_int max_two min_two max_three min_three max_four min_four
set_option linter.unusedVariables false
set_option linter.unusedSimpArgs false
set_option maxHeartbeats 8000000
set_option maxRecDepth 100000
section
def errW:Option Int→Value
 | none=>.nilIface
 | some c=>.iface 0 (.int .i64 c)
theorem av_:errW none=.nilIface:=rfl
theorem au_ (c:Int):errW (some c)=.iface 0 (.int .i64 c):=rfl
theorem info5:(Tryz.prog.info? 5).map (fun i=>(i.zero,i.size,i.bytes))=some (some (.int .u8 0),1,1):=by kernel_rfl
theorem info9:(Tryz.prog.info? 9).map (fun i=>(i.zero,i.size,i.bytes))=some (some (.string ⟨#[]⟩),1,16):=by kernel_rfl
theorem info52:(Tryz.prog.info? 52).map (fun i=>(i.zero,i.size,i.bytes))=some (some (.agg #[(.int .i64 0),(.int .i64 0),(.slice none 0 0),(.slice none 0 0)]),4,64):=by kernel_rfl
theorem info71:(Tryz.prog.info? 71).map (fun i=>(i.zero,i.size,i.bytes))=some (some (.agg #[(.string ⟨#[]⟩),(.int .i64 0),(.int .i64 0),(.string ⟨#[]⟩)]),4,48):=by kernel_rfl
structure a5_ where
 f0:ByteArray
 f1:Int
 f2:Int
 f3:ByteArray
def z_LRecord:a5_:=⟨(⟨#[]⟩:ByteArray),(0:Int),(0:Int),(⟨#[]⟩:ByteArray)⟩
def cv_:Kd a5_:=Kd.iso (Kd.pair Kd.string (Kd.pair (Kd.int .i64) (Kd.pair (Kd.int .i64) Kd.string))) (fun x:a5_=>(x.f0,x.f1,x.f2,x.f3))
theorem k_LRecord_open {w:World} {x:a5_} {cs:List Value} (h:cv_.K w x cs):cs=[.string x.f0,.int .i64 x.f1,.int .i64 x.f2,.string x.f3]:=by
 obtain⟨_,_,rfl,rfl,⟨_,_,rfl,rfl,⟨_,_,rfl,rfl,rfl⟩⟩⟩:=h;exact rfl
def bG_ (xs:List a5_) (i:Int):a5_:=xs.getD i.toNat z_LRecord
theorem at_TLRecord {w:World} {A:Option Addr} {n:Nat} {xs:List a5_} (h:Kd.C cv_ w A n xs) (i:Int) (h0:0≤i) (h1:i<n):∃ad , A=some ad∧w.cell? (ad.add (i.toNat * 4))=some (.string (bG_ xs i).f0)∧w.cell? ⟨(ad.add (i.toNat * 4)).block,(ad.add (i.toNat * 4)).off+1,none⟩=some (.int .i64 (bG_ xs i).f1)∧w.cell? ⟨(ad.add (i.toNat * 4)).block,(ad.add (i.toNat * 4)).off+2,none⟩=some (.int .i64 (bG_ xs i).f2)∧w.cell? ⟨(ad.add (i.toNat * 4)).block,(ad.add (i.toNat * 4)).off+3,none⟩=some (.string (bG_ xs i).f3):=by
 obtain⟨ad,c,e,_,hK,f⟩:=Kd.C_get h z_LRecord i h0 h1;have hc:∀j u,c[j]? = some u→w.cell? (ad.add (i.toNat * 4+j))=some u:=f;obtain rfl:=k_LRecord_open hK;exact⟨ad,e,hc 0 _ rfl,by rw[←cw_ _ _ 1 (by omega)];exact hc 1 _ rfl,by rw[←cw_ _ _ 2 (by omega)];exact hc 2 _ rfl,by rw[←cw_ _ _ 3 (by omega)];exact hc 3 _ rfl⟩
def rd_L3 (xs:List (List a5_)) (i:Int):(List a5_):=xs.getD i.toNat ([]:List a5_)
structure ca_ where
 f0:Int
 f1:Int
 f2:(List a5_)
 f3:(List a5_)
def z_LDiff:ca_:=⟨(0:Int),(0:Int),([]:List a5_),([]:List a5_)⟩
def k_LDiff:Kd ca_:=Kd.iso (Kd.pair (Kd.int .i64) (Kd.pair (Kd.int .i64) (Kd.pair (Kd.slice 64 cv_) (Kd.slice 64 cv_)))) (fun x:ca_=>(x.f0,x.f1,x.f2,x.f3))
theorem k_LDiff_open {w:World} {x:ca_} {cs:List Value} (h:k_LDiff.K w x cs):∃A2 c2 A3 c3,cs=[.int .i64 x.f0,.int .i64 x.f1,.slice A2 x.f2.length c2,.slice A3 x.f3.length c3]∧x.f2.length≤c2∧cv_.C w A2 x.f2.length x.f2∧x.f3.length≤c3∧cv_.C w A3 x.f3.length x.f3:=by
 obtain⟨_,_,rfl,rfl,⟨_,_,rfl,rfl,⟨_,_,rfl,⟨A2,c2,rfl,l2,g2⟩,⟨A3,c3,rfl,l3,g3⟩⟩⟩⟩:=h;exact⟨A2,c2,A3,c3,rfl,l2,g2,l3,g3⟩
def bF_ (xs:List ca_) (i:Int):ca_:=xs.getD i.toNat z_LDiff
theorem at_TLDiff {w:World} {A:Option Addr} {n:Nat} {xs:List ca_} (h:Kd.C k_LDiff w A n xs) (i:Int) (h0:0≤i) (h1:i<n):∃ad A2 c2 A3 c3,A=some ad∧w.cell? (ad.add (i.toNat * 4))=some (.int .i64 (bF_ xs i).f0)∧w.cell? ⟨(ad.add (i.toNat * 4)).block,(ad.add (i.toNat * 4)).off+1,none⟩=some (.int .i64 (bF_ xs i).f1)∧w.cell? ⟨(ad.add (i.toNat * 4)).block,(ad.add (i.toNat * 4)).off+2,none⟩=some (.slice A2 (bF_ xs i).f2.length c2)∧w.cell? ⟨(ad.add (i.toNat * 4)).block,(ad.add (i.toNat * 4)).off+3,none⟩=some (.slice A3 (bF_ xs i).f3.length c3)∧(bF_ xs i).f2.length≤c2∧cv_.C w A2 (bF_ xs i).f2.length (bF_ xs i).f2∧(bF_ xs i).f3.length≤c3∧cv_.C w A3 (bF_ xs i).f3.length (bF_ xs i).f3:=by
 obtain⟨ad,c,e,_,hK,f⟩:=Kd.C_get h z_LDiff i h0 h1;have hc:∀j u,c[j]? = some u→w.cell? (ad.add (i.toNat * 4+j))=some u:=f;obtain⟨A2,c2,A3,c3,rfl,l2,g2,l3,g3⟩:=k_LDiff_open hK;exact⟨ad,A2,c2,A3,c3,e,hc 0 _ rfl,by rw[←cw_ _ _ 1 (by omega)];exact hc 1 _ rfl,by rw[←cw_ _ _ 2 (by omega)];exact hc 2 _ rfl,by rw[←cw_ _ _ 3 (by omega)];exact hc 3 _ rfl,l2,g2,l3,g3⟩
structure aa_ where
 f0:ByteArray
 f1:Int
 f2:Int
 f3:ByteArray
def cM_:aa_:=⟨(⟨#[]⟩:ByteArray),(0:Int),(0:Int),(⟨#[]⟩:ByteArray)⟩
def af_:Kd aa_:=Kd.iso (Kd.pair Kd.string (Kd.pair (Kd.int .i64) (Kd.pair (Kd.int .i64) Kd.string))) (fun x:aa_=>(x.f0,x.f1,x.f2,x.f3))
theorem k_Record_open {w:World} {x:aa_} {cs:List Value} (h:af_.K w x cs):cs=[.string x.f0,.int .i64 x.f1,.int .i64 x.f2,.string x.f3]:=by
 obtain⟨_,_,rfl,rfl,⟨_,_,rfl,rfl,⟨_,_,rfl,rfl,rfl⟩⟩⟩:=h;exact rfl
theorem cG_ {w:World} {base:Nat} {ok:Nat→Prop} {x:aa_} {cs:List Value} (h:af_.M w base ok x cs):cs=[.string x.f0,.int .i64 x.f1,.int .i64 x.f2,.string x.f3]:=by
 obtain⟨_,_,rfl,rfl,⟨_,_,rfl,rfl,⟨_,_,rfl,rfl,rfl⟩⟩⟩:=h;exact rfl
theorem k_Record_mk (w:World) (x:aa_)  : af_.K w x [.string x.f0,.int .i64 x.f1,.int .i64 x.f2,.string x.f3]:=⟨[.string x.f0],[.int .i64 x.f1,.int .i64 x.f2,.string x.f3],rfl,rfl,⟨[.int .i64 x.f1],[.int .i64 x.f2,.string x.f3],rfl,rfl,⟨[.int .i64 x.f2],[.string x.f3],rfl,rfl,rfl⟩⟩⟩
theorem ct_ (w:World) (base:Nat) (ok:Nat→Prop) (x:aa_)  : af_.M w base ok x [.string x.f0,.int .i64 x.f1,.int .i64 x.f2,.string x.f3]:=⟨[.string x.f0],[.int .i64 x.f1,.int .i64 x.f2,.string x.f3],rfl,rfl,⟨[.int .i64 x.f1],[.int .i64 x.f2,.string x.f3],rfl,rfl,⟨[.int .i64 x.f2],[.string x.f3],rfl,rfl,rfl⟩⟩⟩
def a_ (xs:List aa_) (i:Int):aa_:=xs.getD i.toNat cM_
theorem aw_ {w:World} {A:Option Addr} {n:Nat} {xs:List aa_} (h:Kd.C af_ w A n xs) (i:Int) (h0:0≤i) (h1:i<n):∃ad , A=some ad∧w.cell? (ad.add (i.toNat * 4))=some (.string (a_ xs i).f0)∧w.cell? ⟨(ad.add (i.toNat * 4)).block,(ad.add (i.toNat * 4)).off+1,none⟩=some (.int .i64 (a_ xs i).f1)∧w.cell? ⟨(ad.add (i.toNat * 4)).block,(ad.add (i.toNat * 4)).off+2,none⟩=some (.int .i64 (a_ xs i).f2)∧w.cell? ⟨(ad.add (i.toNat * 4)).block,(ad.add (i.toNat * 4)).off+3,none⟩=some (.string (a_ xs i).f3):=by
 obtain⟨ad,c,e,_,hK,f⟩:=Kd.C_get h cM_ i h0 h1;have hc:∀j u,c[j]? = some u→w.cell? (ad.add (i.toNat * 4+j))=some u:=f;obtain rfl:=k_Record_open hK;exact⟨ad,e,hc 0 _ rfl,by rw[←cw_ _ _ 1 (by omega)];exact hc 1 _ rfl,by rw[←cw_ _ _ 2 (by omega)];exact hc 2 _ rfl,by rw[←cw_ _ _ 3 (by omega)];exact hc 3 _ rfl⟩
def rd_L6 (xs:List (List aa_)) (i:Int):(List aa_):=xs.getD i.toNat ([]:List aa_)
structure ah_ where
 f0:Int
 f1:Int
 f2:(List aa_)
 f3:(List aa_)
def z_Diff:ah_:=⟨(0:Int),(0:Int),([]:List aa_),([]:List aa_)⟩
def pairA {α β:Type} (a:Kd α) (b:Kd β):Kd (α × β) where
 sz:=a.sz+b.sz
 E:=a.E++b.E
 K:=fun w x cs=>∃c0 c1,cs=c0++c1∧a.K w x.1 c0∧b.K w x.2 c1
 M:=fun w base ok x cs=>∃c0 c1,cs=c0++c1∧∃g:Nat→Prop,a.M w base (fun k=>ok k∧g k) x.1 c0∧b.M w base (fun k=>ok k∧¬g k) x.2 c1
 K_len:=(Kd.pair a b).K_len
 K_one:=(Kd.pair a b).K_one
 K_below:=(Kd.pair a b).K_below
 K_of_M:=by
  rintro w base ok x cs ⟨c0,c1,rfl,g,h0,h1⟩
  exact⟨c0,c1,rfl,a.K_of_M h0,b.K_of_M h1⟩
 M_mono:=by
  rintro w base ok ok' x cs hok ⟨c0,c1,rfl,g,h0,h1⟩
  exact⟨c0,c1,rfl,g,a.M_mono (fun k hk=>⟨hok k hk.1,hk.2⟩) h0,b.M_mono (fun k hk=>⟨hok k hk.1,hk.2⟩) h1⟩
 M_bound:=by
  rintro w base ok x cs ⟨c0,c1,rfl,g,h0,h1⟩
  refine⟨c0,c1,rfl,g,a.M_mono ?_ (a.M_bound h0),b.M_mono ?_ (b.M_bound h1)⟩
  · rintro k ⟨h2,h3,h4,q,hq,hc⟩
    exact⟨⟨h2.1,h3,h4,q,List.mem_append_left _ hq,hc⟩,h2.2⟩
  · rintro k ⟨h2,h3,h4,q,hq,hc⟩
    exact⟨⟨h2.1,h3,h4,q,List.mem_append_right _ hq,hc⟩,h2.2⟩
 M_move:=by
  rintro w w1 base ok x cs hm ⟨c0,c1,rfl,g,h0,h1⟩
  exact⟨c0,c1,rfl,g,a.M_move (fun k hk=>hm k hk.1) h0,b.M_move (fun k hk=>hm k hk.1) h1⟩
 M_lower:=by
  rintro w base base' ok x cs hb ⟨c0,c1,rfl,g,h0,h1⟩
  exact⟨c0,c1,rfl,g,a.M_lower hb h0,b.M_lower hb h1⟩
def a8_:Kd ah_:=Kd.iso (Kd.pair (Kd.int .i64) (Kd.pair (Kd.int .i64) (pairA (Kd.slice 71 af_) (Kd.slice 71 af_)))) (fun x:ah_=>(x.f0,x.f1,x.f2,x.f3))
theorem k_Diff_open {w:World} {x:ah_} {cs:List Value} (h:a8_.K w x cs):∃A2 c2 A3 c3,cs=[.int .i64 x.f0,.int .i64 x.f1,.slice A2 x.f2.length c2,.slice A3 x.f3.length c3]∧x.f2.length≤c2∧af_.C w A2 x.f2.length x.f2∧x.f3.length≤c3∧af_.C w A3 x.f3.length x.f3:=by
 obtain⟨_,_,rfl,rfl,⟨_,_,rfl,rfl,⟨_,_,rfl,⟨A2,c2,rfl,l2,g2⟩,⟨A3,c3,rfl,l3,g3⟩⟩⟩⟩:=h;exact⟨A2,c2,A3,c3,rfl,l2,g2,l3,g3⟩
theorem k_Diff_openA {w:World} {base:Nat} {ok:Nat→Prop} {x:ah_} {cs:List Value} (h:a8_.M w base ok x cs):∃v2 v3,∃g:Nat→Prop,cs=[.int .i64 x.f0,.int .i64 x.f1,v2,v3]∧af_.R 71 w base (fun k=>ok k∧g k) v2 x.f2∧af_.R 71 w base (fun k=>ok k∧¬g k) v3 x.f3:=by
 obtain⟨_,_,rfl,rfl,⟨_,_,rfl,rfl,⟨_,_,rfl,g,⟨v2,rfl,g2⟩,⟨v3,rfl,g3⟩⟩⟩⟩:=h;exact⟨v2,v3,g,rfl,g2,g3⟩
theorem k_Diff_openM {w:World} {base:Nat} {ok:Nat→Prop} {x:ah_} {cs:List Value} (h:a8_.M w base ok x cs):∃v2 v3,cs=[.int .i64 x.f0,.int .i64 x.f1,v2,v3]∧af_.R 71 w base ok v2 x.f2∧af_.R 71 w base ok v3 x.f3:=by
 obtain⟨v2,v3,g,e,h2,h3⟩:=k_Diff_openA h;exact⟨v2,v3,e,Kd.aM_ h2 (fun _ hk=>hk.1),Kd.aM_ h3 (fun _ hk=>hk.1)⟩
theorem k_Diff_mkA (w:World) (base:Nat) (ok:Nat→Prop) (x:ah_) (g:Nat→Prop) {v2:Value} (g2:af_.R 71 w base (fun k=>ok k∧g k) v2 x.f2) {v3:Value} (g3:af_.R 71 w base (fun k=>ok k∧¬g k) v3 x.f3):a8_.M w base ok x [.int .i64 x.f0,.int .i64 x.f1,v2,v3]:=⟨[.int .i64 x.f0],[.int .i64 x.f1,v2,v3],rfl,rfl,⟨[.int .i64 x.f1],[v2,v3],rfl,rfl,⟨[v2],[v3],rfl,g,⟨v2,rfl,g2⟩,⟨v3,rfl,g3⟩⟩⟩⟩
theorem k_Diff_mkM (w:World) (base:Nat) (ok:Nat→Prop) (x:ah_) {v2:Value} (g2:af_.R 71 w base ok v2 x.f2) {v3:Value} (g3:af_.R 71 w base ok v3 x.f3) (hne:∀k,v2.ownBlock=some k→v3.ownBlock≠some k):a8_.M w base ok x [.int .i64 x.f0,.int .i64 x.f1,v2,v3]:=k_Diff_mkA w base ok x (fun k=>some k=v2.ownBlock) (Kd.aM_ (Kd.R_tight rfl g2) (fun k hk=>⟨g2.1 k hk.symm,hk⟩)) (Kd.aM_ (Kd.R_tight rfl g3) (fun k hk=>⟨g3.1 k hk.symm,fun h=>hne k h.symm hk.symm⟩))
theorem k_Diff_two1 {w w1:World} {base:Nat} {ok g:Nat→Prop} {x':ah_} {v2 v3:Value} (h2:af_.R 71 w1 base (fun k=>(ok k∧g k)∨w.heap.size≤k) v2 x'.f2) (h3:af_.R 71 w base (fun k=>ok k∧¬g k) v3 x'.f3) (hk:Kept w w1 (fun k=>ok k∧g k)):a8_.M w1 base (fun k=>ok k∨w.heap.size≤k) x' [.int .i64 x'.f0,.int .i64 x'.f1,v2,v3] :=
 k_Diff_mkA _ _ _ _ (fun k=>g k∨w.heap.size≤k) (Kd.aM_ h2 (fun k h=>h.elim (fun h=>⟨.inl h.1,.inl h.2⟩) (fun h=>⟨.inr h,.inr h⟩))) (Kd.aM_ (Kd.R_keptB h3 hk (fun k h h'=>h.2 h'.2)) (fun k h=>⟨.inl h.1.1,fun h'=>h'.elim h.1.2 (fun h''=>Nat.not_lt.2 h'' h.2.2)⟩))
theorem k_Diff_two2 {w w1:World} {base:Nat} {ok g:Nat→Prop} {x':ah_} {v2 v3:Value} (h2:af_.R 71 w base (fun k=>ok k∧g k) v2 x'.f2) (h3:af_.R 71 w1 base (fun k=>(ok k∧¬g k)∨w.heap.size≤k) v3 x'.f3) (hk:Kept w w1 (fun k=>ok k∧¬g k)):a8_.M w1 base (fun k=>ok k∨w.heap.size≤k) x' [.int .i64 x'.f0,.int .i64 x'.f1,v2,v3] :=
 k_Diff_mkA _ _ _ _ (fun k=>g k∧k<w.heap.size) (Kd.aM_ (Kd.R_keptB h2 hk (fun k h h'=>h'.2 h.2)) (fun k h=>⟨.inl h.1.1,h.1.2,h.2.2⟩)) (Kd.aM_ h3 (fun k h=>h.elim (fun h=>⟨.inl h.1,fun h'=>h.2 h'.1⟩) (fun h=>⟨.inr h,fun h'=>Nat.not_lt.2 h h'.2⟩)))
def ad_ (xs:List ah_) (i:Int):ah_:=xs.getD i.toNat z_Diff
theorem cC_ {w:World} {A:Option Addr} {n:Nat} {xs:List ah_} (h:Kd.C a8_ w A n xs) (i:Int) (h0:0≤i) (h1:i<n):∃ad A2 c2 A3 c3,A=some ad∧w.cell? (ad.add (i.toNat * 4))=some (.int .i64 (ad_ xs i).f0)∧w.cell? ⟨(ad.add (i.toNat * 4)).block,(ad.add (i.toNat * 4)).off+1,none⟩=some (.int .i64 (ad_ xs i).f1)∧w.cell? ⟨(ad.add (i.toNat * 4)).block,(ad.add (i.toNat * 4)).off+2,none⟩=some (.slice A2 (ad_ xs i).f2.length c2)∧w.cell? ⟨(ad.add (i.toNat * 4)).block,(ad.add (i.toNat * 4)).off+3,none⟩=some (.slice A3 (ad_ xs i).f3.length c3)∧(ad_ xs i).f2.length≤c2∧af_.C w A2 (ad_ xs i).f2.length (ad_ xs i).f2∧(ad_ xs i).f3.length≤c3∧af_.C w A3 (ad_ xs i).f3.length (ad_ xs i).f3:=by
 obtain⟨ad,c,e,_,hK,f⟩:=Kd.C_get h z_Diff i h0 h1;have hc:∀j u,c[j]? = some u→w.cell? (ad.add (i.toNat * 4+j))=some u:=f;obtain⟨A2,c2,A3,c3,rfl,l2,g2,l3,g3⟩:=k_Diff_open hK;exact⟨ad,A2,c2,A3,c3,e,hc 0 _ rfl,by rw[←cw_ _ _ 1 (by omega)];exact hc 1 _ rfl,by rw[←cw_ _ _ 2 (by omega)];exact hc 2 _ rfl,by rw[←cw_ _ _ 3 (by omega)];exact hc 3 _ rfl,l2,g2,l3,g3⟩
structure S24 where
 f0:ByteArray
 f1:Int
 f2:(List a5_)
def z24:S24:=⟨(⟨#[]⟩:ByteArray),(0:Int),([]:List a5_)⟩
def k24:Kd S24:=Kd.iso (Kd.pair Kd.string (Kd.pair (Kd.int .i64) (Kd.slice 64 cv_))) (fun x:S24=>(x.f0,x.f1,x.f2))
theorem k24_open {w:World} {x:S24} {cs:List Value} (h:k24.K w x cs):∃A2 c2,cs=[.string x.f0,.int .i64 x.f1,.slice A2 x.f2.length c2]∧x.f2.length≤c2∧cv_.C w A2 x.f2.length x.f2:=by
 obtain⟨_,_,rfl,rfl,⟨_,_,rfl,rfl,⟨A2,c2,rfl,l2,g2⟩⟩⟩:=h;exact⟨A2,c2,rfl,l2,g2⟩
def rd_T24 (xs:List S24) (i:Int):S24:=xs.getD i.toNat z24
def rd_L10 (xs:List (List ca_)) (i:Int):(List ca_):=xs.getD i.toNat ([]:List ca_)
structure S_LJournal where
 f0:ByteArray
 f1:Int
 f2:(List ca_)
def z_LJournal:S_LJournal:=⟨(⟨#[]⟩:ByteArray),(0:Int),([]:List ca_)⟩
def k_LJournal:Kd S_LJournal:=Kd.iso (Kd.pair Kd.string (Kd.pair (Kd.int .i64) (Kd.slice 67 k_LDiff))) (fun x:S_LJournal=>(x.f0,x.f1,x.f2))
theorem k_LJournal_open {w:World} {x:S_LJournal} {cs:List Value} (h:k_LJournal.K w x cs):∃A2 c2,cs=[.string x.f0,.int .i64 x.f1,.slice A2 x.f2.length c2]∧x.f2.length≤c2∧k_LDiff.C w A2 x.f2.length x.f2:=by
 obtain⟨_,_,rfl,rfl,⟨_,_,rfl,rfl,⟨A2,c2,rfl,l2,g2⟩⟩⟩:=h;exact⟨A2,c2,rfl,l2,g2⟩
def rd_TLJournal (xs:List S_LJournal) (i:Int):S_LJournal:=xs.getD i.toNat z_LJournal
def WF_LRecord (x:a5_):Prop:=(x.f0.size≤maxLen)∧((Lit.int .i64 x.f1).wf=true)∧((Lit.int .i64 x.f2).wf=true)∧x.f3.size≤maxLen
def WF_LDiff (x:ca_):Prop:=((Lit.int .i64 x.f0).wf=true)∧((Lit.int .i64 x.f1).wf=true)∧(x.f2.length≤maxLen∧∀x_∈x.f2,WF_LRecord x_)∧x.f3.length≤maxLen∧∀x_∈x.f3,WF_LRecord x_
def WF24 (x:S24):Prop:=(x.f0.size≤maxLen)∧((Lit.int .i64 x.f1).wf=true)∧x.f2.length≤maxLen∧∀x_∈x.f2,WF_LRecord x_
def WF_LJournal (x:S_LJournal):Prop:=(x.f0.size≤maxLen)∧((Lit.int .i64 x.f1).wf=true)∧x.f2.length≤maxLen∧∀x_∈x.f2,WF_LDiff x_
end
section
def laws_szRecord.f (a0_0:ByteArray) (a0_1:Int) (a0_2:Int) (a0_3:ByteArray) (a1:Int):Option (Int):=if (wrap64 (a1 - (a0_0.size:Int)))<0 then(some (-1)) else(if (wrap64 ((wrap64 (a1 - (a0_0.size:Int))) - (a0_3.size:Int)))<0 then(some (-1)) else(some (wrap64 ((wrap64 (a1 - (a0_0.size:Int))) - (a0_3.size:Int)))))
theorem laws_szRecord.calls (c:ByteArray) (j:Int) (l:Int) (i:ByteArray) (a1:Int) (r:Int) (w:World) (h:laws_szRecord.f c j l i a1=some r) :
  Calls Tryz.prog 33 #[.agg #[.string c,.int .i64 j,.int .i64 l,.string i],.int .i64 a1] w fun e w'=>e=.returned (.int .i64 r)∧Below w.heap.size w w':=by
 have hu64:=Tryz.underlying64;have HB:=BZ w;have H:=h;clear h;unfold laws_szRecord.f at H;by_cases c3:(wrap64 (a1 - (c.size:Int)))<0
 ·rw[if_pos c3] at H;have n:=decide_eq_true c3;clear c3;obtain rfl:=Option.some.inj H;go_enter Tryz.func33,Tryz.ntmps33;go_wp2_with (first|(refine gD 2 rfl ?_;refine bE 2 #[.string c,.int .i64 j,.int .i64 l,.string i] 64 ?_;intro m hg w4 hbox hb;have g:=AM (hbox);replace HB:=BS hb;clear hb hbox hg;have q:=cz4 g));go_ret;exact⟨TE,TB⟩
 ·rw[if_neg c3] at H;have n:=decide_eq_false c3;clear c3;by_cases c6:(wrap64 ((wrap64 (a1 - (c.size:Int))) - (i.size:Int)))<0
  ·rw[if_pos c6] at H;have o:=decide_eq_true c6;clear c6;obtain rfl:=Option.some.inj H;go_enter Tryz.func33,Tryz.ntmps33;go_wp2_with (first|(refine gD 2 rfl ?_;refine bE 2 #[.string c,.int .i64 j,.int .i64 l,.string i] 64 ?_;intro m hg w7 hbox hb;have g:=AM (hbox);replace HB:=BS hb;clear hb hbox hg;have s:=cz4 g));go_ret;exact⟨TE,TB⟩
  ·rw[if_neg c6] at H;have o:=decide_eq_false c6;clear c6;obtain rfl:=Option.some.inj H;go_enter Tryz.func33,Tryz.ntmps33;go_wp2_with (first|(refine gD 2 rfl ?_;refine bE 2 #[.string c,.int .i64 j,.int .i64 l,.string i] 64 ?_;intro m hg w9 hbox hb;have g:=AM (hbox);replace HB:=BS hb;clear hb hbox hg;have p:=cz4 g));go_ret;exact⟨TE,TB⟩
end
section
def bp_.l0:Nat→List (a5_)→Int→Int→Option (Int)
 | 0,_,_,_=>none
 | k+1,x0,x1,x5=>if x5<(x0.length:Int) then(if 0≤x5 then((laws_szRecord.f ((bG_ x0 x5).f0) ((bG_ x0 x5).f1) ((bG_ x0 x5).f2) ((bG_ x0 x5).f3) x1).bind fun c=>(if c<0 then(some (-1)) else(bp_.l0 k x0 c (wrap64 (x5+1))))) else(none)) else(some x1)
def bp_.f (k:Nat) (l0:List (a5_)) (a1:Int):Option (Int):=if (wrap64 (a1 - (l0.length:Int)))<0 then(some (-1)) else(bp_.l0 k l0 (wrap64 (a1 - (l0.length:Int))) 0)
theorem bp_.calls (k:Nat) (A0:Option Addr) (c0:Nat) (l0:List (a5_)) (a1:Int) (r:Int) (w:World) (t:Kd.C cv_ w A0 l0.length l0) (u:l0.length≤c0) (h:bp_.f k l0 a1=some r) :
  Calls Tryz.prog 15 #[.slice A0 l0.length c0,.int .i64 a1] w fun e w'=>e=.returned (.int .i64 r)∧Below w.heap.size w w':=by
 have hu64:=Tryz.underlying64;have v:=AM t;have B:=AM u;clear t u;have HB:=BZ w;have H:=h;clear h;unfold bp_.f at H;by_cases c3:(wrap64 (a1 - (l0.length:Int)))<0
 ·rw[if_pos c3] at H;have x:=decide_eq_true c3;clear c3;obtain rfl:=Option.some.inj H;go_enter Tryz.func15,Tryz.ntmps15;go_wp2;go_ret;exact⟨TE,TB⟩
 ·rw[if_neg c3] at H;have x:=decide_eq_false c3;clear c3;have H':=AM H;clear H;go_enter Tryz.func15,Tryz.ntmps15;go_wp2;go_loopg [1,5] k (fun kq v1 v5 w'=>∃(j:Int) (c:Int),v1=.int .i64 j∧v5=.int .i64 c∧Aside0 (bp_.l0 kq l0 j c=some r)∧Aside0 (kq≤k)∧Aside0 (Below w.heap.size w w'))
  case atStart=>exact⟨(wrap64 (a1 - (l0.length:Int))),(0),TF,TF,H',NL,⟨TB⟩⟩
  case round =>
   clear H';obtain⟨j,c,rfl,rfl,HA,HK1,HB⟩:=hrel
   cases gk with
   | zero=>exact absurd HA.out (by simp[bp_.l0])
   | succ k1 =>
    have H:=HA.out;clear HA;simp only[bp_.l0] at H;by_cases c4:c<(l0.length:Int)
    ·rw[if_pos c4] at H;have y:=decide_eq_true c4;clear c4;obtain⟨A,H⟩:=dn H;obtain⟨q,A6,H⟩:=bnd H;by_cases c7:q<0
     ·rw[if_pos c7] at H;have z:=decide_eq_true c7;clear c7;obtain rfl:=Option.some.inj H;have g:0≤(c:Int):=TD;have i:c<(l0.length:Int):=TD;obtain⟨s,l,m,n,o,p⟩:=at_TLRecord (Kd.ae_ v.out HB.out) c g i;cases l;replace g:=eq_true g;replace i:=eq_true i;go_wp2_with (first|(refine gL 23 rfl Tryz.func33 #[.agg #[.string ((bG_ l0 c).f0),.int .i64 ((bG_ l0 c).f1),.int .i64 ((bG_ l0 c).f2),.string ((bG_ l0 c).f3)],.int .i64 j] rfl TA ?_;(with_reducible refine(laws_szRecord.calls _ _ _ _ _ _ _ A6.out).mono ?_);rintro e w8 ⟨rfl,hb⟩;refine⟨_,rfl,?_⟩;replace HB:=BS hb;clear hb));go_ret;exact⟨TE,TB⟩
     ·rw[if_neg c7] at H;have z:=decide_eq_false c7;clear c7;have H':=AM H;clear H;have g:0≤(c:Int):=TD;have i:c<(l0.length:Int):=TD;obtain⟨s,l,m,n,o,p⟩:=at_TLRecord (Kd.ae_ v.out HB.out) c g i;cases l;replace g:=eq_true g;replace i:=eq_true i;go_wp2_with (first|(refine gL 23 rfl Tryz.func33 #[.agg #[.string ((bG_ l0 c).f0),.int .i64 ((bG_ l0 c).f1),.int .i64 ((bG_ l0 c).f2),.string ((bG_ l0 c).f3)],.int .i64 j] rfl TA ?_;(with_reducible refine(laws_szRecord.calls _ _ _ _ _ _ _ A6.out).mono ?_);rintro e w9 ⟨rfl,hb⟩;refine⟨_,rfl,?_⟩;replace HB:=BS hb;clear hb));go_roundg k1
      case measure=>exact TM
      case rel=>exact⟨(q),(wrap64 (c+1)),TF,TF,H',⟨TM⟩,⟨TB⟩⟩
    ·rw[if_neg c4] at H;have y:=decide_eq_false c4;clear c4;obtain rfl:=Option.some.inj H;go_wp2;go_ret;exact⟨TE,TB⟩
end
section
def laws_szZone.f (k:Nat) (a0_0:ByteArray) (a0_1:Int) (l0_2:List (a5_)) (a1:Int):Option (Int):=if (wrap64 (a1 - (a0_0.size:Int)))<0 then(some (-1)) else((bp_.f k l0_2 (wrap64 (a1 - (a0_0.size:Int)))).bind fun t105=>(if t105<0 then(some (-1)) else(some t105)))
theorem laws_szZone.calls (k:Nat) (i:ByteArray) (m:Int) (j:Option Addr) (l:Nat) (g:List (a5_)) (a1:Int) (r:Int) (w:World) (n:Kd.C cv_ w j g.length g) (o:g.length≤l) (h:laws_szZone.f k i m g a1=some r) :
  Calls Tryz.prog 4 #[.agg #[.string i,.int .i64 m,.slice j g.length l],.int .i64 a1] w fun e w'=>e=.returned (.int .i64 r)∧Below w.heap.size w w':=by
 have hu24:=Tryz.underlying24;have p:=AM n;have q:=AM o;clear n o;have HB:=BZ w;have H:=h;clear h;unfold laws_szZone.f at H;by_cases c3:(wrap64 (a1 - (i.size:Int)))<0
 ·rw[if_pos c3] at H;have t:=decide_eq_true c3;clear c3;obtain rfl:=Option.some.inj H;go_enter Tryz.func4,Tryz.ntmps4;go_wp2_with (first|(refine gD 2 rfl ?_;refine bE 2 #[.string i,.int .i64 m,.slice j g.length l] 24 ?_;intro s hg w4 hbox hb;have c:=AM (hbox);replace HB:=BS hb;clear hb hbox hg;have y:=cz3 c));go_ret;exact⟨TE,TB⟩
 ·rw[if_neg c3] at H;have t:=decide_eq_false c3;clear c3;obtain⟨u,A6,H⟩:=bnd H;by_cases c7:u<0
  ·rw[if_pos c7] at H;have v:=decide_eq_true c7;clear c7;obtain rfl:=Option.some.inj H;go_enter Tryz.func4,Tryz.ntmps4;go_wp2_with (first|(refine gD 2 rfl ?_;refine bE 2 #[.string i,.int .i64 m,.slice j g.length l] 24 ?_;intro s hg w8 hbox hb;have c:=AM (hbox);replace HB:=BS hb;clear hb hbox hg;have z:=cz3 c)|(refine gL 15 rfl Tryz.func15 #[.slice j g.length l,.int .i64 (wrap64 (a1 - (i.size:Int)))] rfl TA ?_;(with_reducible refine(bp_.calls _ _ _ _ _ _ _ ?side1 ?side2 A6.out).mono ?_);(case side1=>exact CW ((Kd.ae_ p.out HB.out)));(case side2=>exact q.out);rintro e A ⟨rfl,hb⟩;refine⟨_,rfl,?_⟩;replace c:=KB c hb;replace HB:=BS hb;clear hb));go_ret;exact⟨TE,TB⟩
  ·rw[if_neg c7] at H;have v:=decide_eq_false c7;clear c7;obtain rfl:=Option.some.inj H;go_enter Tryz.func4,Tryz.ntmps4;go_wp2_with (first|(refine gD 2 rfl ?_;refine bE 2 #[.string i,.int .i64 m,.slice j g.length l] 24 ?_;intro s hg B hbox hb;have c:=AM (hbox);replace HB:=BS hb;clear hb hbox hg;have x:=cz3 c)|(refine gL 15 rfl Tryz.func15 #[.slice j g.length l,.int .i64 (wrap64 (a1 - (i.size:Int)))] rfl TA ?_;(with_reducible refine(bp_.calls _ _ _ _ _ _ _ ?side1 ?side2 A6.out).mono ?_);(case side1=>exact CW ((Kd.ae_ p.out HB.out)));(case side2=>exact q.out);rintro e D ⟨rfl,hb⟩;refine⟨_,rfl,?_⟩;replace c:=KB c hb;replace HB:=BS hb;clear hb));go_ret;exact⟨TE,TB⟩
end
section
def laws_szDiff.f (k:Nat) (a0_0:Int) (a0_1:Int) (l0_2:List (a5_)) (l0_3:List (a5_)) (a1:Int):Option (Int):=(bp_.f k l0_2 a1).bind fun t107=>(if t107<0 then(some (-1)) else((bp_.f k l0_3 t107).bind fun t108=>(if t108<0 then(some (-1)) else(some t108))))
theorem laws_szDiff.calls (k:Nat) (o:Int) (p:Int) (j:Option Addr) (l:Nat) (g:List (a5_)) (m:Option Addr) (n:Nat) (i:List (a5_)) (a1:Int) (r:Int) (w:World) (t:Kd.C cv_ w j g.length g) (u:g.length≤l) (v:Kd.C cv_ w m i.length i) (x:i.length≤n) (h:laws_szDiff.f k o p g i a1=some r) :
  Calls Tryz.prog 34 #[.agg #[.int .i64 o,.int .i64 p,.slice j g.length l,.slice m i.length n],.int .i64 a1] w fun e w'=>e=.returned (.int .i64 r)∧Below w.heap.size w w':=by
 have hu67:=Tryz.underlying67;have q:=AM t;have s:=AM u;clear t u;have y:=AM v;have z:=AM x;clear v x;have HB:=BZ w;have H:=h;clear h;unfold laws_szDiff.f at H;obtain⟨A,A3,H⟩:=bnd H;by_cases c4:A<0
 ·rw[if_pos c4] at H;have D:=decide_eq_true c4;clear c4;obtain rfl:=Option.some.inj H;go_enter Tryz.func34,Tryz.ntmps34;go_wp2_with (first|(refine gD 2 rfl ?_;refine bE 2 #[.int .i64 o,.int .i64 p,.slice j g.length l,.slice m i.length n] 67 ?_;intro B hg w5 hbox hb;have c:=AM (hbox);replace HB:=BS hb;clear hb hbox hg;have M:=cz4 c)|(refine gL 8 rfl Tryz.func15 #[.slice j g.length l,.int .i64 a1] rfl TA ?_;(with_reducible refine(bp_.calls _ _ _ _ _ _ _ ?side1 ?side2 A3.out).mono ?_);(case side1=>exact CW ((Kd.ae_ q.out HB.out)));(case side2=>exact s.out);rintro e w7 ⟨rfl,hb⟩;refine⟨_,rfl,?_⟩;replace c:=KB c hb;replace HB:=BS hb;clear hb));go_ret;exact⟨TE,TB⟩
 ·rw[if_neg c4] at H;have D:=decide_eq_false c4;clear c4;obtain⟨E,A8,H⟩:=bnd H;by_cases c9:E<0
  ·rw[if_pos c9] at H;have F:=decide_eq_true c9;clear c9;obtain rfl:=Option.some.inj H;go_enter Tryz.func34,Tryz.ntmps34;go_wp2_with (first|(refine gD 2 rfl ?_;refine bE 2 #[.int .i64 o,.int .i64 p,.slice j g.length l,.slice m i.length n] 67 ?_;intro B hg N hbox hb;have c:=AM (hbox);replace HB:=BS hb;clear hb hbox hg;have G:=cz4 c)|(refine gL 8 rfl Tryz.func15 #[.slice j g.length l,.int .i64 a1] rfl TA ?_;(with_reducible refine(bp_.calls _ _ _ _ _ _ _ ?side1 ?side2 A3.out).mono ?_);(case side1=>exact CW ((Kd.ae_ q.out HB.out)));(case side2=>exact s.out);rintro e O ⟨rfl,hb⟩;refine⟨_,rfl,?_⟩;replace c:=KB c hb;replace HB:=BS hb;clear hb;have I:=cz4 c)|(refine gL 14 rfl Tryz.func15 #[.slice m i.length n,.int .i64 A] rfl TA ?_;(with_reducible refine(bp_.calls _ _ _ _ _ _ _ ?side1 ?side2 A8.out).mono ?_);(case side1=>exact CW ((Kd.ae_ y.out HB.out)));(case side2=>exact z.out);rintro e R ⟨rfl,hb⟩;refine⟨_,rfl,?_⟩;replace c:=KB c hb;replace HB:=BS hb;clear hb));go_ret;exact⟨TE,TB⟩
  ·rw[if_neg c9] at H;have F:=decide_eq_false c9;clear c9;obtain rfl:=Option.some.inj H;go_enter Tryz.func34,Tryz.ntmps34;go_wp2_with (first|(refine gD 2 rfl ?_;refine bE 2 #[.int .i64 o,.int .i64 p,.slice j g.length l,.slice m i.length n] 67 ?_;intro B hg U hbox hb;have c:=AM (hbox);replace HB:=BS hb;clear hb hbox hg;have J:=cz4 c)|(refine gL 8 rfl Tryz.func15 #[.slice j g.length l,.int .i64 a1] rfl TA ?_;(with_reducible refine(bp_.calls _ _ _ _ _ _ _ ?side1 ?side2 A3.out).mono ?_);(case side1=>exact CW ((Kd.ae_ q.out HB.out)));(case side2=>exact s.out);rintro e V ⟨rfl,hb⟩;refine⟨_,rfl,?_⟩;replace c:=KB c hb;replace HB:=BS hb;clear hb;have K:=cz4 c)|(refine gL 14 rfl Tryz.func15 #[.slice m i.length n,.int .i64 A] rfl TA ?_;(with_reducible refine(bp_.calls _ _ _ _ _ _ _ ?side1 ?side2 A8.out).mono ?_);(case side1=>exact CW ((Kd.ae_ y.out HB.out)));(case side2=>exact z.out);rintro e W ⟨rfl,hb⟩;refine⟨_,rfl,?_⟩;replace c:=KB c hb;replace HB:=BS hb;clear hb));go_ret;exact⟨TE,TB⟩
end
section
def b8_.l0:Nat→List (ca_)→Int→Int→Option (Int)
 | 0,_,_,_=>none
 | k+1,x0,x1,x5=>if x5<(x0.length:Int) then(if 0≤x5 then((laws_szDiff.f k ((bF_ x0 x5).f0) ((bF_ x0 x5).f1) ((bF_ x0 x5).f2) ((bF_ x0 x5).f3) x1).bind fun c=>(if c<0 then(some (-1)) else(b8_.l0 k x0 c (wrap64 (x5+1))))) else(none)) else(some x1)
def b8_.f (k:Nat) (l0:List (ca_)) (a1:Int):Option (Int):=if (wrap64 (a1 - (l0.length:Int)))<0 then(some (-1)) else(b8_.l0 k l0 (wrap64 (a1 - (l0.length:Int))) 0)
theorem b8_.calls (k:Nat) (A0:Option Addr) (c0:Nat) (l0:List (ca_)) (a1:Int) (r:Int) (w:World) (I:Kd.C k_LDiff w A0 l0.length l0) (J:l0.length≤c0) (h:b8_.f k l0 a1=some r) :
  Calls Tryz.prog 16 #[.slice A0 l0.length c0,.int .i64 a1] w fun e w'=>e=.returned (.int .i64 r)∧Below w.heap.size w w':=by
 have hu67:=Tryz.underlying67;have K:=AM I;have U:=AM J;clear I J;have HB:=BZ w;have H:=h;clear h;unfold b8_.f at H;by_cases c3:(wrap64 (a1 - (l0.length:Int)))<0
 ·rw[if_pos c3] at H;have M:=decide_eq_true c3;clear c3;obtain rfl:=Option.some.inj H;go_enter Tryz.func16,Tryz.ntmps16;go_wp2;go_ret;exact⟨TE,TB⟩
 ·rw[if_neg c3] at H;have M:=decide_eq_false c3;clear c3;have H':=AM H;clear H;go_enter Tryz.func16,Tryz.ntmps16;go_wp2;go_loopg [1,5] k (fun kq v1 v5 w'=>∃(D:Int) (c:Int),v1=.int .i64 D∧v5=.int .i64 c∧Aside0 (b8_.l0 kq l0 D c=some r)∧Aside0 (kq≤k)∧Aside0 (Below w.heap.size w w'))
  case atStart=>exact⟨(wrap64 (a1 - (l0.length:Int))),(0),TF,TF,H',NL,⟨TB⟩⟩
  case round =>
   clear H';obtain⟨D,c,rfl,rfl,HA,HK1,HB⟩:=hrel
   cases gk with
   | zero=>exact absurd HA.out (by simp[b8_.l0])
   | succ k1 =>
    have H:=HA.out;clear HA;simp only[b8_.l0] at H;by_cases c4:c<(l0.length:Int)
    ·rw[if_pos c4] at H;have N:=decide_eq_true c4;clear c4;obtain⟨R,H⟩:=dn H;obtain⟨F,A6,H⟩:=bnd H;by_cases c7:F<0
     ·rw[if_pos c7] at H;have O:=decide_eq_true c7;clear c7;obtain rfl:=Option.some.inj H;have q:0≤(c:Int):=TD;have s:c<(l0.length:Int):=TD;obtain⟨G,y,z,A,B,E,g,i,j,l,m,n,o,p⟩:=at_TLDiff K.out c q s;cases E;replace g:=hBc HB g;replace i:=hBc HB i;replace j:=hBc HB j;replace l:=hBc HB l;have t:=AM n;have u:=AM m;clear n m;have v:=AM p;have x:=AM o;clear p o;replace q:=eq_true q;replace s:=eq_true s;go_wp2_with (first|(refine gL 23 rfl Tryz.func34 #[.agg #[.int .i64 ((bF_ l0 c).f0),.int .i64 ((bF_ l0 c).f1),.slice y ((bF_ l0 c).f2).length z,.slice A ((bF_ l0 c).f3).length B],.int .i64 D] rfl TA ?_;(with_reducible refine(laws_szDiff.calls _ _ _ _ _ _ _ _ _ _ _ _ ?side1 ?side2 ?side3 ?side4 A6.out).mono ?_);(case side1=>exact CW ((Kd.ae_ t.out HB.out)));(case side2=>exact u.out);(case side3=>exact CW ((Kd.ae_ v.out HB.out)));(case side4=>exact x.out);rintro e w8 ⟨rfl,hb⟩;refine⟨_,rfl,?_⟩;replace HB:=BS hb;clear hb));go_ret;exact⟨TE,TB⟩
     ·rw[if_neg c7] at H;have O:=decide_eq_false c7;clear c7;have H':=AM H;clear H;have q:0≤(c:Int):=TD;have s:c<(l0.length:Int):=TD;obtain⟨G,y,z,A,B,E,g,i,j,l,m,n,o,p⟩:=at_TLDiff K.out c q s;cases E;replace g:=hBc HB g;replace i:=hBc HB i;replace j:=hBc HB j;replace l:=hBc HB l;have t:=AM n;have u:=AM m;clear n m;have v:=AM p;have x:=AM o;clear p o;replace q:=eq_true q;replace s:=eq_true s;go_wp2_with (first|(refine gL 23 rfl Tryz.func34 #[.agg #[.int .i64 ((bF_ l0 c).f0),.int .i64 ((bF_ l0 c).f1),.slice y ((bF_ l0 c).f2).length z,.slice A ((bF_ l0 c).f3).length B],.int .i64 D] rfl TA ?_;(with_reducible refine(laws_szDiff.calls _ _ _ _ _ _ _ _ _ _ _ _ ?side1 ?side2 ?side3 ?side4 A6.out).mono ?_);(case side1=>exact CW ((Kd.ae_ t.out HB.out)));(case side2=>exact u.out);(case side3=>exact CW ((Kd.ae_ v.out HB.out)));(case side4=>exact x.out);rintro e w9 ⟨rfl,hb⟩;refine⟨_,rfl,?_⟩;replace HB:=BS hb;clear hb));go_roundg k1
      case measure=>exact TM
      case rel=>exact⟨(F),(wrap64 (c+1)),TF,TF,H',⟨TM⟩,⟨TB⟩⟩
    ·rw[if_neg c4] at H;have N:=decide_eq_false c4;clear c4;obtain rfl:=Option.some.inj H;go_wp2;go_ret;exact⟨TE,TB⟩
end
section
def laws_szJournal.f (k:Nat) (a0_0:ByteArray) (a0_1:Int) (l0_2:List (ca_)) (a1:Int):Option (Int):=if (wrap64 (a1 - (a0_0.size:Int)))<0 then(some (-1)) else((b8_.f k l0_2 (wrap64 (a1 - (a0_0.size:Int)))).bind fun t112=>(if t112<0 then(some (-1)) else(some t112)))
theorem laws_szJournal.calls (k:Nat) (i:ByteArray) (m:Int) (j:Option Addr) (l:Nat) (g:List (ca_)) (a1:Int) (r:Int) (w:World) (n:Kd.C k_LDiff w j g.length g) (o:g.length≤l) (h:laws_szJournal.f k i m g a1=some r) :
  Calls Tryz.prog 5 #[.agg #[.string i,.int .i64 m,.slice j g.length l],.int .i64 a1] w fun e w'=>e=.returned (.int .i64 r)∧Below w.heap.size w w':=by
 have hu27:=Tryz.underlying27;have p:=AM n;have q:=AM o;clear n o;have HB:=BZ w;have H:=h;clear h;unfold laws_szJournal.f at H;by_cases c3:(wrap64 (a1 - (i.size:Int)))<0
 ·rw[if_pos c3] at H;have t:=decide_eq_true c3;clear c3;obtain rfl:=Option.some.inj H;go_enter Tryz.func5,Tryz.ntmps5;go_wp2_with (first|(refine gD 2 rfl ?_;refine bE 2 #[.string i,.int .i64 m,.slice j g.length l] 27 ?_;intro s hg w4 hbox hb;have c:=AM (hbox);replace HB:=BS hb;clear hb hbox hg;have y:=cz3 c));go_ret;exact⟨TE,TB⟩
 ·rw[if_neg c3] at H;have t:=decide_eq_false c3;clear c3;obtain⟨u,A6,H⟩:=bnd H;by_cases c7:u<0
  ·rw[if_pos c7] at H;have v:=decide_eq_true c7;clear c7;obtain rfl:=Option.some.inj H;go_enter Tryz.func5,Tryz.ntmps5;go_wp2_with (first|(refine gD 2 rfl ?_;refine bE 2 #[.string i,.int .i64 m,.slice j g.length l] 27 ?_;intro s hg w8 hbox hb;have c:=AM (hbox);replace HB:=BS hb;clear hb hbox hg;have z:=cz3 c)|(refine gL 15 rfl Tryz.func16 #[.slice j g.length l,.int .i64 (wrap64 (a1 - (i.size:Int)))] rfl TA ?_;(with_reducible refine(b8_.calls _ _ _ _ _ _ _ ?side1 ?side2 A6.out).mono ?_);(case side1=>exact CW ((Kd.ae_ p.out HB.out)));(case side2=>exact q.out);rintro e A ⟨rfl,hb⟩;refine⟨_,rfl,?_⟩;replace c:=KB c hb;replace HB:=BS hb;clear hb));go_ret;exact⟨TE,TB⟩
  ·rw[if_neg c7] at H;have v:=decide_eq_false c7;clear c7;obtain rfl:=Option.some.inj H;go_enter Tryz.func5,Tryz.ntmps5;go_wp2_with (first|(refine gD 2 rfl ?_;refine bE 2 #[.string i,.int .i64 m,.slice j g.length l] 27 ?_;intro s hg B hbox hb;have c:=AM (hbox);replace HB:=BS hb;clear hb hbox hg;have x:=cz3 c)|(refine gL 15 rfl Tryz.func16 #[.slice j g.length l,.int .i64 (wrap64 (a1 - (i.size:Int)))] rfl TA ?_;(with_reducible refine(b8_.calls _ _ _ _ _ _ _ ?side1 ?side2 A6.out).mono ?_);(case side1=>exact CW ((Kd.ae_ p.out HB.out)));(case side2=>exact q.out);rintro e D ⟨rfl,hb⟩;refine⟨_,rfl,?_⟩;replace c:=KB c hb;replace HB:=BS hb;clear hb));go_ret;exact⟨TE,TB⟩
end
section
def laws_toRecord.f (a0_0:ByteArray) (a0_1:Int) (a0_2:Int) (a0_3:ByteArray):Option (ByteArray × Int × Int × ByteArray):=some (a0_0,a0_1,a0_2,a0_3)
theorem laws_toRecord.calls (i:ByteArray) (j:Int) (l:Int) (m:ByteArray) (r1:ByteArray) (r2:Int) (r3:Int) (r4:ByteArray) (w:World) (h:laws_toRecord.f i j l m=some (r1,r2,r3,r4)) :
  Calls Tryz.prog 44 #[.agg #[.string i,.int .i64 j,.int .i64 l,.string m]] w fun e w'=>e=.returned (.agg #[.string r1,.int .i64 r2,.int .i64 r3,.string r4])∧Below w.heap.size w w':=by
 have hu64:=Tryz.underlying64;have hu71:=Tryz.underlying71;have HB:=BZ w;have H:(some (i,j,l,m))=some (r1,r2,r3,r4):=h;clear h;simp only[Option.some.injEq,Prod.mk.injEq] at H;obtain⟨rfl,rfl,rfl,rfl⟩:=H;go_enter Tryz.func44,Tryz.ntmps44;go_wp2_with (first|(refine gD 1 rfl ?_;refine bE 1 #[.string i,.int .i64 j,.int .i64 l,.string m] 64 ?_;intro x hg w2 hbox hb;have c:=AM (hbox);have y:=bG hg;replace HB:=BS hb;clear hb hbox hg)|(refine gD 2 rfl ?_;refine bE 2 #[.string (⟨#[]⟩:ByteArray),.int .i64 0,.int .i64 0,.string (⟨#[]⟩:ByteArray)] 71 ?_;intro s hg w3 hbox hb;have g:=AM (hbox);have z:=bG hg;replace HB:=BS hb;have n:=bN c hg;have t:=bM c hg;replace c:=KB c hb;clear hb hbox hg)|(refine gD 3 rfl ?_;refine bE 3 #[.string (⟨#[]⟩:ByteArray),.int .i64 0,.int .i64 0,.string (⟨#[]⟩:ByteArray)] 71 ?_;intro A hg w4 hbox hb;have u:=AM (hbox);have B:=bG hg;replace HB:=BS hb;have o:=bN c hg;have v:=bM c hg;replace c:=KB c hb;have p:=bN g hg;have q:=bM g hg;replace g:=KB g hb;clear hb hbox hg;obtain⟨D,E⟩:=nn n;obtain⟨F,G⟩:=nn o;have I:=cz4 c;obtain⟨J,K⟩:=nn q;have M:=cz4 u;have C:=cz4 g));refine bodyPost_ret (results_cell_row rfl _ _ s 71 #[.string i,.int .i64 j,.int .i64 l,.string m] (0,0) _ rfl (by(with_reducible repeat (first|refine blk_drewN ?_ _|refine ai_ ?_|refine blk_alloc ?_ _));apply PF4;(with_reducible repeat (first|refine blk_drewN ?_ _|refine ai_ ?_|refine blk_alloc ?_ _));refine FF4 ?_ p.out;exact(KW g).out) Tryz.underlying71 rfl KR) rfl ?_;exact⟨TE,TB⟩
end
section
def by_.l0:Nat→List (a5_)→List (aa_)→Int→Option ((List (aa_)))
 | 0,_,_,_=>none
 | k+1,x0,x3,x4=>if x4<(x0.length:Int) then(if 0≤x4 then((laws_toRecord.f ((bG_ x0 x4).f0) ((bG_ x0 x4).f1) ((bG_ x0 x4).f2) ((bG_ x0 x4).f3)).bind fun bt120=>(if x4<(x3.length:Int) then(by_.l0 k x0 (x3.set (x4:Int).toNat (⟨bt120.1,bt120.2.1,bt120.2.2.1,bt120.2.2.2⟩:aa_)) (wrap64 (x4+1))) else(none))) else(none)) else(some x3)
def by_.f (k:Nat) (l0:List (a5_)):Option ((List (aa_))):=if 0≤(l0.length:Int) then(if ((l0.length:Int):Int).toNat≤5864062014805 then(by_.l0 k l0 (List.replicate ((l0.length:Int):Int).toNat cM_) 0) else(none)) else(none)
theorem by_.calls (k:Nat) (A0:Option Addr) (c0:Nat) (l0:List (a5_)) (r:List (aa_)) (w:World) (X:Kd.C cv_ w A0 l0.length l0) (Y:l0.length≤c0) (h:by_.f k l0=some r) :
  Calls Tryz.prog 21 #[.slice A0 l0.length c0] w fun e w'=>∃v0_:Value,e=.returned (v0_)∧Kd.R af_ 71 w' w.heap.size (fun _=>True) v0_ r∧Below w.heap.size w w':=by
 have hu64:=Tryz.underlying64;have hu71:=Tryz.underlying71;have ak:=AM X;have au:=AM Y;clear X Y;have HB:=BZ w;have H:=h;clear h;unfold by_.f at H;obtain⟨c2,H⟩:=ifn H;have am:=eq_true c2;have an:=decide_eq_true c2;clear c2;obtain⟨c3,H⟩:=ifn H;have ao:=eq_true c3;have ap:=decide_eq_true c3;clear c3;obtain⟨I,l⟩:∃y_:List (aa_),y_=(List.replicate ((l0.length:Int):Int).toNat cM_):=⟨_,rfl⟩
 replace H:(by_.l0 k l0 I 0)=some r:=by first|(rw[l];with_reducible exact H)|(have H2_:=(Option.bind_some _ _).symm.trans H;rw[l];with_reducible exact H2_)|(have H2_:=(Option.bind_some _ _).symm.trans H;with_reducible exact H2_)|with_reducible exact H|(rw[l];exact H)|exact H
 have Ny116:=AM l;clear l;have H':=AM H;clear H;go_enter Tryz.func21,Tryz.ntmps21;go_wp2_with (first|((with_reducible refine ax_ (N:=7) rfl ?_);refine Kd.R_make af_ _ 71 rfl (N:=7) rfl 30 _ _ rfl (l0.length:Int) rfl rfl Tryz.underlying30 (.agg #[(.string ⟨#[]⟩),(.int .i64 0),(.int .i64 0),(.string ⟨#[]⟩)]) 48 info71 rfl (by decide) (by omega) cM_ (ok:=fun _=>True) (okp:=fun _=>True) (ct_ _ _ _ cM_ ) (fun _ hk=>hk) trivial TD (Nat.le_trans (Nat.mul_le_mul_right _ (TD:(l0.length:Int).toNat≤5864062014805)) (by omega)) (Below.refl _ _) (Nat.le_refl _) ?_;intro Z w4 y hb hg_ hnew_;clear hg_ hnew_;(first|rw[←Ny116.out] at y|(simp only[Int.reduceToNat] at y;rw[←Ny116.out] at y));have O:=RL y;replace HB:=BS hb;clear hb y));go_loopg [4] k (fun kq v4 w'=>∃(g:List (aa_)) (c:Int),v4=.int .i64 c∧Aside0 (by_.l0 kq l0 g c=some r)∧Aside0 (kq≤k)∧Aside0 (Kd.R af_ 71 w' w.heap.size (fun _=>True) Z g)∧Aside0 (Below w.heap.size w w'))
 case atStart=>exact⟨(I),(0),TF,H',NL,RW O,⟨TB⟩⟩
 case round =>
  clear H';obtain⟨g,c,rfl,HA,HK1,i,HB⟩:=hrel
  cases gk with
  | zero=>exact absurd HA.out (by simp[by_.l0])
  | succ k1 =>
   have H:=HA.out;clear HA;simp only[by_.l0] at H;by_cases c6:c<(l0.length:Int)
   ·rw[if_pos c6] at H;have aa:=decide_eq_true c6;clear c6;obtain⟨aq,H⟩:=dn H;obtain⟨⟨o,q,s,u⟩,A8,H⟩:=bnd H
    try dsimp only at H
    obtain⟨ar,H⟩:=dn H;obtain⟨z,m⟩:∃y_:List (aa_),y_=(g.set (c:Int).toNat (⟨o,q,s,u⟩:aa_)):=⟨_,rfl⟩
    replace H:(by_.l0 k1 l0 z (wrap64 (c+1)))=some r:=by first|(rw[m];with_reducible exact H)|(have H2_:=(Option.bind_some _ _).symm.trans H;rw[m];with_reducible exact H2_)|(have H2_:=(Option.bind_some _ _).symm.trans H;with_reducible exact H2_)|with_reducible exact H|(rw[m];exact H)|exact H
    have Ny124:=AM m;clear m;have H':=AM H;clear H;have A:0≤(c:Int):=TD;have B:c<(l0.length:Int):=TD;obtain⟨al,ab,ac,ad,ae,af⟩:=at_TLRecord (Kd.ae_ ak.out HB.out) c A B;cases ab;replace A:=eq_true A;replace B:=eq_true B;go_wp2_with (first|(refine gL 20 rfl Tryz.func44 #[.agg #[.string ((bG_ l0 c).f0),.int .i64 ((bG_ l0 c).f1),.int .i64 ((bG_ l0 c).f2),.string ((bG_ l0 c).f3)]] rfl TA ?_;(with_reducible refine(laws_toRecord.calls _ _ _ _ _ _ _ _ _ A8.out).mono ?_);rintro e n ⟨rfl,hb⟩;refine⟨_,rfl,?_⟩;replace i:=RB i hb;replace HB:=BS hb;clear hb;have U:0≤(c:Int):=TD;have V:(c:Int)<((g.length:Int):Int):=TD;obtain⟨go10,J,eo10,K,gl10,cl10,M⟩:=Kd.R_form i.out (by omega);(first|cases eo10|(injection eo10 with ea_ en_ ec_;(first|subst ea_|(injection ea_ with ea_;subst ea_));subst ec_;clear en_));have x:=AM K;have GG10:=AM M;clear K gl10 M;obtain⟨ce10,hcl10,hM10,hcc10,hfr10⟩:=Kd.R_elem i.out cM_ (c:Int) U V;obtain rfl:=cG_ hM10;have ag:n.cell? ⟨go10,(c:Int).toNat * 4,none⟩=some (.string ((a_ g c).f0)):=hcc10 0 _ rfl;have ah:n.cell? ⟨go10,(c:Int).toNat * 4+1,none⟩=some (.int .i64 ((a_ g c).f1)):=hcc10 1 _ rfl;have ai:n.cell? ⟨go10,(c:Int).toNat * 4+2,none⟩=some (.int .i64 ((a_ g c).f2)):=hcc10 2 _ rfl;have aj:n.cell? ⟨go10,(c:Int).toNat * 4+3,none⟩=some (.string ((a_ g c).f3)):=hcc10 3 _ rfl;have hf10_0:n.frozen? ⟨go10,(c:Int).toNat * 4,none⟩=false:=hfr10 0;have hf10_1:n.frozen? ⟨go10,(c:Int).toNat * 4+1,none⟩=false:=hfr10 1;have hf10_2:n.frozen? ⟨go10,(c:Int).toNat * 4+2,none⟩=false:=hfr10 2;have hf10_3:n.frozen? ⟨go10,(c:Int).toNat * 4+3,none⟩=false:=hfr10 3;clear hcl10 hcc10 hfr10 hM10;replace U:=eq_true U;replace V:=eq_true V;have HX12:=AM (show Kd.R af_ 71 n w.heap.size (fun _=>True) (.slice (some ⟨go10,0,none⟩) g.length J) g from(RW i).out);obtain⟨ce12,hcl12,hM12,hcc12,hfr12⟩:=Kd.R_elem HX12.out cM_ (c:Int) TD (by have h_:(c:Int)<((g.length:Int):Int):=TD;first|exact h_|(have e_:=(Kd.ag_ i.out).1;omega)|simpa using h_);obtain rfl:=cG_ hM12;have HP12:=Kd.R_seg HX12.out (c:Int) TD (by have h_:(c:Int)<((g.length:Int):Int):=TD;first|exact h_|(have e_:=(Kd.ag_ i.out).1;omega)|simpa using h_) (seg:=[.string o,.int .i64 q,.int .i64 s,.string u]) (j:=0) hcl12 hcc12 (show 4≤4 from by decide) (x':=(⟨o,q,s,u⟩:aa_)) (ct_ _ _ _ (⟨o,q,s,u⟩:aa_) ) (fun _ hk=>hk);have D:=hcc12 0 _ rfl;(try simp only[show(af_).sz=4 from rfl,Nat.mul_one,Nat.add_zero] at D);have hf12_0:=hfr12 0;(try simp only[show(af_).sz=4 from rfl,Nat.mul_one,Nat.add_zero] at hf12_0);have E:=hcc12 1 _ rfl;(try simp only[show(af_).sz=4 from rfl,Nat.mul_one,Nat.add_zero] at E);have hf12_1:=hfr12 1;(try simp only[show(af_).sz=4 from rfl,Nat.mul_one,Nat.add_zero] at hf12_1);have F:=hcc12 2 _ rfl;(try simp only[show(af_).sz=4 from rfl,Nat.mul_one,Nat.add_zero] at F);have hf12_2:=hfr12 2;(try simp only[show(af_).sz=4 from rfl,Nat.mul_one,Nat.add_zero] at hf12_2);have G:=hcc12 3 _ rfl;(try simp only[show(af_).sz=4 from rfl,Nat.mul_one,Nat.add_zero] at G);have hf12_3:=hfr12 3;(try simp only[show(af_).sz=4 from rfl,Nat.mul_one,Nat.add_zero] at hf12_3);clear hcl12 hcc12 hfr12 hM12)|((with_reducible refine ck_ (t:=71) (p:=21) rfl ?_);refine cb_ (t:=71) (p:=21) (v:=?vo_w13) (w1:=((((n.setCell ⟨go10,(c:Int).toNat * 4,none⟩ (.string o)).setCell ⟨go10,(c:Int).toNat * 4+1,none⟩ (.int .i64 q)).setCell ⟨go10,(c:Int).toNat * 4+2,none⟩ (.int .i64 s)).setCell ⟨go10,(c:Int).toNat * 4+3,none⟩ (.string u))) ?hg ?ho ?hn ?hr ?_;(case ho=>rfl);(case hg=>rfl);(case hn=>rfl);(case hr=>first|(go_simp;done)|(go_simp;rfl));intro W hw;have hg:n.grownBy W (some go10):=(by rw[hw];exact HP12.2);have hp_:Kd.R af_ 71 W w.heap.size (fun _=>True) (.slice (some ⟨go10,0,none⟩) g.length J) z:=(by rw[hw,Ny124.out];exact HP12.1);clear HP12;replace i:=AM (hp_);replace HB:=AM ((by rw[hw];exact bW_ (bW_ (bW_ (bW_ (HB.out) x.out) x.out) x.out) x.out:Below w.heap.size w W));clear hg hw hp_));go_roundg k1
    case measure=>exact TM
    case rel=>exact⟨(z),(wrap64 (c+1)),TF,H',⟨TM⟩,RW i,⟨TB⟩⟩
   ·rw[if_neg c6] at H;have aa:=decide_eq_false c6;clear c6;obtain rfl:=Option.some.inj H;go_wp2;go_ret;exact⟨_,TE,(RW i).out,TB⟩
end
section
def cU_.f (k:Nat) (a0_0:ByteArray) (a0_1:Int) (l0_2:List (a5_)):Option (ByteArray × Int × (List (aa_))):=(by_.f k l0_2).bind fun t128=>(some (a0_0,a0_1,t128))
theorem cU_.calls (k:Nat) (l:ByteArray) (m:Int) (u:Option Addr) (v:Nat) (i:List (a5_)) (r1:ByteArray) (r2:Int) (r3:List (aa_)) (w:World) (x:Kd.C cv_ w u i.length i) (y:i.length≤v) (h:cU_.f k l m i=some (r1,r2,r3)) :
  Calls Tryz.prog 7 #[.agg #[.string l,.int .i64 m,.slice u i.length v]] w fun e w'=>∃v2_:Value,e=.returned (.agg #[.string r1,.int .i64 r2,v2_])∧Kd.R af_ 71 w' w.heap.size (fun _=>True) v2_ r3∧Below w.heap.size w w':=by
 have hu24:=Tryz.underlying24;have hu32:=Tryz.underlying32;have E:=AM x;have F:=AM y;clear x y;have HB:=BZ w;have H:=h;clear h;unfold cU_.f at H;obtain⟨z,A2,H⟩:=bnd H;simp only[Option.some.injEq,Prod.mk.injEq] at H;obtain⟨rfl,rfl,rfl⟩:=H;go_enter Tryz.func7,Tryz.ntmps7;go_wp2_with (first|(refine gD 1 rfl ?_;refine bE 1 #[.string l,.int .i64 m,.slice u i.length v] 24 ?_;intro K hg w3 hbox hb;have c:=AM (hbox);have M:=bG hg;replace HB:=BS hb;clear hb hbox hg)|(refine gD 2 rfl ?_;refine bE 2 #[.string (⟨#[]⟩:ByteArray),.int .i64 0,.slice none 0 0] 32 ?_;intro n hg w4 hbox hb;have g:=AM (hbox);have N:=bG hg;replace HB:=BS hb;have o:=bN c hg;have G:=bM c hg;replace c:=KB c hb;clear hb hbox hg)|(refine gD 3 rfl ?_;refine bE 3 #[.string (⟨#[]⟩:ByteArray),.int .i64 0,.slice none 0 0] 32 ?_;intro I hg w5 hbox hb;have j:=AM (hbox);have O:=bG hg;replace HB:=BS hb;have q:=bN c hg;have J:=bM c hg;replace c:=KB c hb;have s:=bN g hg;have t:=bM g hg;replace g:=KB g hb;clear hb hbox hg;obtain⟨Y,Z⟩:=nn o;obtain⟨aa,ab⟩:=nn q;have ac:=cz3 c;obtain⟨ad,ae⟩:=nn t;have U:=cz3 j)|(refine gL 12 rfl Tryz.func21 #[.slice u i.length v] rfl TA ?_;(with_reducible refine(by_.calls _ _ _ _ _ _ ?side1 ?side2 A2.out).mono ?_);(case side1=>exact Kd.ae_ E.out TB);(case side2=>exact F.out);rintro e ag ⟨af,rfl,V,hb⟩;refine⟨_,rfl,?_⟩;have A:=RL V;replace c:=KF c hb;replace g:=KF g hb;replace j:=KP j #[.string l,.int .i64 m,.slice none 0 0] hb;replace HB:=BS hb;clear hb;obtain⟨B,D,eo12⟩:=Kd.ap_ A.out;subst eo12;have W:=cz3 j;have X:=cz3 g));refine bodyPost_ret (results_cell_row rfl _ _ n 32 #[.string l,.int .i64 m,.slice B z.length D] (0,0) _ rfl (by(with_reducible repeat (first|refine blk_drewN ?_ _|refine ai_ ?_|refine blk_alloc ?_ _));apply PF3;(with_reducible repeat (first|refine blk_drewN ?_ _|refine ai_ ?_|refine blk_alloc ?_ _));refine FF1 ?_ s.out;exact(KW g).out) Tryz.underlying32 rfl KR) rfl ?_;exact⟨_,TE,by(with_reducible repeat (first|apply Kd.R_alloc|apply Kd.R_drewN|apply Kd.bC_));exact Kd.aM_ (Kd.a6_ (p:=⟨n,2,none⟩) (Kd.a6_ (p:=⟨n,1,none⟩) (Kd.a6_ (p:=⟨n,0,none⟩) (Kd.a6_ (p:=⟨I,2,none⟩) (Kd.bS_ (Kd.bS_ A.out j.out (by decide)) g.out (by decide)) (fun _ hk=>hk.1.2) (.slice B z.length D)) (fun _ hk=>hk.2) (.string l)) (fun _ hk=>hk.2) (.int .i64 m)) (fun _ hk=>hk.2) (.slice B z.length D)) (fun _ hk=>trivial),TB⟩
end
section
def laws_toDiff.f (k:Nat) (a0_0:Int) (a0_1:Int) (l0_2:List (a5_)) (l0_3:List (a5_)):Option (Int × Int × (List (aa_)) × (List (aa_))):=(by_.f k l0_2).bind fun t134=>((by_.f k l0_3).bind fun t137=>(some (a0_0,a0_1,t134,t137)))
theorem laws_toDiff.calls (k:Nat) (l:Int) (m:Int) (A:Option Addr) (B:Nat) (n:List (a5_)) (D:Option Addr) (E:Nat) (o:List (a5_)) (r1:Int) (r2:Int) (r3:List (aa_)) (r4:List (aa_)) (w:World) (J:Kd.C cv_ w A n.length n) (K:n.length≤B) (M:Kd.C cv_ w D o.length o) (N:o.length≤E) (h:laws_toDiff.f k l m n o=some (r1,r2,r3,r4)) :
  Calls Tryz.prog 45 #[.agg #[.int .i64 l,.int .i64 m,.slice A n.length B,.slice D o.length E]] w fun e w'=>∃v2_ v3_:Value,e=.returned (.agg #[.int .i64 r1,.int .i64 r2,v2_,v3_])∧Kd.R af_ 71 w' w.heap.size (fun k_=>some k_≠(v3_:Value).ownBlock) v2_ r3∧Kd.R af_ 71 w' w.heap.size (fun k_=>some k_≠(v2_:Value).ownBlock) v3_ r4∧Below w.heap.size w w':=by
 have hu67:=Tryz.underlying67;have hu52:=Tryz.underlying52;have W:=AM J;have X:=AM K;clear J K;have Y:=AM M;have Z:=AM N;clear M N;have HB:=BZ w;have H:=h;clear h;unfold laws_toDiff.f at H;obtain⟨F,A2,H⟩:=bnd H;obtain⟨s,A3,H⟩:=bnd H;simp only[Option.some.injEq,Prod.mk.injEq] at H;obtain⟨rfl,rfl,rfl,rfl⟩:=H;go_enter Tryz.func45,Tryz.ntmps45;go_wp2_with (first|(refine gD 1 rfl ?_;refine bE 1 #[.int .i64 l,.int .i64 m,.slice A n.length B,.slice D o.length E] 67 ?_;intro ac hg w4 hbox hb;have c:=AM (hbox);have ad:=bG hg;replace HB:=BS hb;clear hb hbox hg)|(refine gD 2 rfl ?_;refine bE 2 #[.int .i64 0,.int .i64 0,.slice none 0 0,.slice none 0 0] 52 ?_;intro j hg w5 hbox hb;have g:=AM (hbox);have ae:=bG hg;replace HB:=BS hb;have v:=bN c hg;have aa:=bM c hg;replace c:=KB c hb;clear hb hbox hg)|(refine gD 3 rfl ?_;refine bE 3 #[.int .i64 0,.int .i64 0,.slice none 0 0,.slice none 0 0] 52 ?_;intro O hg w6 hbox hb;have i:=AM (hbox);have af:=bG hg;replace HB:=BS hb;have x:=bN c hg;have ab:=bM c hg;replace c:=KB c hb;have y:=bN g hg;have z:=bM g hg;replace g:=KB g hb;clear hb hbox hg;obtain⟨an,ao⟩:=nn v;obtain⟨ap,aq⟩:=nn x;have ar:=cz4 c;obtain⟨ag,ah⟩:=nn z;have ai:=cz4 i)|(refine gL 12 rfl Tryz.func21 #[.slice A n.length B] rfl TA ?_;(with_reducible refine(by_.calls _ _ _ _ _ _ ?side1 ?side2 A2.out).mono ?_);(case side1=>exact Kd.ae_ W.out TB);(case side2=>exact X.out);rintro e aw ⟨au,rfl,V,hb⟩;refine⟨_,rfl,?_⟩;have q:=RL V;replace c:=KF c hb;replace g:=KF g hb;replace i:=KP i #[.int .i64 l,.int .i64 m,.slice none 0 0,.slice none 0 0] hb;replace HB:=BS hb;clear hb;obtain⟨G,I,eo13⟩:=Kd.ap_ q.out;subst eo13;have aj:=cz4 i;have ak:=cz4 c)|(refine gL 16 rfl Tryz.func21 #[.slice D o.length E] rfl TA ?_;(with_reducible refine(by_.calls _ _ _ _ _ _ ?side1 ?side2 A3.out).mono ?_);(case side1=>exact Kd.ae_ Y.out TB);(case side2=>exact Z.out);rintro e ax ⟨av,rfl,V,hb⟩;refine⟨_,rfl,?_⟩;have U:=RL (NT V q i);replace q:=ET q i V hb;replace c:=KF c hb;replace g:=KF g hb;replace i:=KP i #[.int .i64 l,.int .i64 m,.slice G F.length I,.slice none 0 0] hb;replace HB:=BS hb;clear hb;obtain⟨t,u,eo17⟩:=Kd.ap_ U.out;subst eo17;have al:=cz4 i;have am:=cz4 g));refine bodyPost_ret (results_cell_row rfl _ _ j 52 #[.int .i64 l,.int .i64 m,.slice G F.length I,.slice t s.length u] (0,0) _ rfl (by(with_reducible repeat (first|refine blk_drewN ?_ _|refine ai_ ?_|refine blk_alloc ?_ _));apply PF4;(with_reducible repeat (first|refine blk_drewN ?_ _|refine ai_ ?_|refine blk_alloc ?_ _));refine FF1 ?_ y.out;exact(KW g).out) Tryz.underlying52 rfl KR) rfl ?_;exact⟨_,_,TE,by(with_reducible repeat (first|apply Kd.R_alloc|apply Kd.R_drewN|apply Kd.bC_));exact Kd.aM_ (Kd.a6_ (p:=⟨j,3,none⟩) (Kd.a6_ (p:=⟨j,2,none⟩) (Kd.a6_ (p:=⟨j,1,none⟩) (Kd.a6_ (p:=⟨j,0,none⟩) (Kd.a6_ (p:=⟨O,3,none⟩) (Kd.bS_ (Kd.bS_ q.out i.out (by decide)) g.out (by decide)) (fun _ hk=>hk.1.2) (.slice t s.length u)) (fun _ hk=>hk.2) (.int .i64 l)) (fun _ hk=>hk.2) (.int .i64 m)) (fun _ hk=>hk.2) (.slice G F.length I)) (fun _ hk=>hk.2) (.slice t s.length u)) (fun _ hk=>hk.1.1.2),by(with_reducible repeat (first|apply Kd.R_alloc|apply Kd.R_drewN|apply Kd.bC_));exact Kd.aM_ (Kd.a6_ (p:=⟨j,3,none⟩) (Kd.a6_ (p:=⟨j,2,none⟩) (Kd.a6_ (p:=⟨j,1,none⟩) (Kd.a6_ (p:=⟨j,0,none⟩) (Kd.a6_ (p:=⟨O,3,none⟩) (Kd.bS_ (Kd.bS_ U.out i.out (by decide)) g.out (by decide)) (fun _ hk=>hk.1.2) (.slice t s.length u)) (fun _ hk=>hk.2) (.int .i64 l)) (fun _ hk=>hk.2) (.int .i64 m)) (fun _ hk=>hk.2) (.slice G F.length I)) (fun _ hk=>hk.2) (.slice t s.length u)) (fun _ hk=>hk.1.1.2),TB⟩
end
section
def c_.l0:Nat→List (ca_)→List (ah_)→Int→Option ((List (ah_)))
 | 0,_,_,_=>none
 | k+1,x0,x3,x4=>if x4<(x0.length:Int) then(if 0≤x4 then((laws_toDiff.f k ((bF_ x0 x4).f0) ((bF_ x0 x4).f1) ((bF_ x0 x4).f2) ((bF_ x0 x4).f3)).bind fun bt144=>(if x4<(x3.length:Int) then(c_.l0 k x0 (x3.set (x4:Int).toNat (⟨bt144.1,bt144.2.1,bt144.2.2.1,bt144.2.2.2⟩:ah_)) (wrap64 (x4+1))) else(none))) else(none)) else(some x3)
def c_.f (k:Nat) (l0:List (ca_)):Option ((List (ah_))):=if 0≤(l0.length:Int) then(if ((l0.length:Int):Int).toNat≤4398046511104 then(c_.l0 k l0 (List.replicate ((l0.length:Int):Int).toNat z_Diff) 0) else(none)) else(none)
theorem c_.calls (k:Nat) (A0:Option Addr) (c0:Nat) (l0:List (ca_)) (r:List (ah_)) (w:World) (au:Kd.C k_LDiff w A0 l0.length l0) (av:l0.length≤c0) (h:c_.f k l0=some r) :
  Calls Tryz.prog 22 #[.slice A0 l0.length c0] w fun e w'=>∃v0_:Value,e=.returned (v0_)∧Kd.S a8_ 52 w' w.heap.size (fun _=>True) v0_ r∧Below w.heap.size w w':=by
 have hu67:=Tryz.underlying67;have hu52:=Tryz.underlying52;have aF:=AM au;have aP:=AM av;clear au av;have HB:=BZ w;have H:=h;clear h;unfold c_.f at H;obtain⟨c2,H⟩:=ifn H;have aH:=eq_true c2;have aI:=decide_eq_true c2;clear c2;obtain⟨c3,H⟩:=ifn H;have aJ:=eq_true c3;have aK:=decide_eq_true c3;clear c3;obtain⟨ak,l⟩:∃y_:List (ah_),y_=(List.replicate ((l0.length:Int):Int).toNat z_Diff):=⟨_,rfl⟩
 replace H:(c_.l0 k l0 ak 0)=some r:=by first|(rw[l];with_reducible exact H)|(have H2_:=(Option.bind_some _ _).symm.trans H;rw[l];with_reducible exact H2_)|(have H2_:=(Option.bind_some _ _).symm.trans H;with_reducible exact H2_)|with_reducible exact H|(rw[l];exact H)|exact H
 have Ny140:=AM l;clear l;have H':=AM H;clear H;go_enter Tryz.func22,Tryz.ntmps22;go_wp2_with (first|((with_reducible refine ax_ (N:=7) rfl ?_);refine Kd.S_make a8_ _ 52 rfl (N:=7) rfl 36 _ _ rfl (l0.length:Int) rfl rfl Tryz.underlying36 (.agg #[(.int .i64 0),(.int .i64 0),(.slice none 0 0),(.slice none 0 0)]) 64 info52 rfl (by decide) (by omega) z_Diff (ok:=fun _=>True) (okp:=fun _=>True) (k_Diff_mkM _ _ _ z_Diff (Kd.R_nil _ _ _ _ _) (Kd.R_nil _ _ _ _ _) (by intro k_ h1_;simp[Value.ownBlock] at h1_)) (fun _ hk=>hk) trivial TD (Nat.le_trans (Nat.mul_le_mul_right _ (TD:(l0.length:Int).toNat≤4398046511104)) (by omega)) (Below.refl _ _) (Nat.le_refl _) ?_;intro aw w4 U hb hg_ hnew_;clear hg_ hnew_;(first|rw[←Ny140.out] at U|(simp only[Int.reduceToNat] at U;rw[←Ny140.out] at U));have ao:=AM (Kd.S_lower U (bh_ TB));replace HB:=BS hb;clear hb U));go_loopg [4] k (fun kq v4 w'=>∃(i:List (ah_)) (c:Int),v4=.int .i64 c∧Aside0 (c_.l0 kq l0 i c=some r)∧Aside0 (kq≤k)∧Aside0 (Kd.S a8_ 52 w' w.heap.size (fun _=>True) aw i)∧Aside0 (Below w.heap.size w w'))
 case atStart=>exact⟨(ak),(0),TF,H',NL,⟨by(with_reducible repeat (first|apply Kd.S_alloc|apply Kd.S_drewN|apply Kd.bn_));exact ao.out⟩,⟨TB⟩⟩
 case round =>
  clear H';obtain⟨i,c,rfl,HA,HK1,g,HB⟩:=hrel
  cases gk with
  | zero=>exact absurd HA.out (by simp[c_.l0])
  | succ k1 =>
   have H:=HA.out;clear HA;simp only[c_.l0] at H;by_cases c6:c<(l0.length:Int)
   ·rw[if_pos c6] at H;have ax:=decide_eq_true c6;clear c6;obtain⟨aL,H⟩:=dn H;obtain⟨⟨x,y,m,n⟩,A8,H⟩:=bnd H
    try dsimp only at H
    obtain⟨aM,H⟩:=dn H;obtain⟨V,o⟩:∃y_:List (ah_),y_=(i.set (c:Int).toNat (⟨x,y,m,n⟩:ah_)):=⟨_,rfl⟩
    replace H:(c_.l0 k1 l0 V (wrap64 (c+1)))=some r:=by first|(rw[o];with_reducible exact H)|(have H2_:=(Option.bind_some _ _).symm.trans H;rw[o];with_reducible exact H2_)|(have H2_:=(Option.bind_some _ _).symm.trans H;with_reducible exact H2_)|with_reducible exact H|(rw[o];exact H)|exact H
    have Ny152:=AM o;clear o;have H':=AM H;clear H;have W:0≤(c:Int):=TD;have X:c<(l0.length:Int):=TD;obtain⟨aG,ac,ad,ae,af,ay,z,A,B,D,E,F,G,I⟩:=at_TLDiff aF.out c W X;cases ay;replace z:=hBc HB z;replace A:=hBc HB A;replace B:=hBc HB B;replace D:=hBc HB D;have Y:=AM F;have Z:=AM E;clear F E;have aa:=AM I;have ab:=AM G;clear I G;replace W:=eq_true W;replace X:=eq_true X;go_wp2_with (first|(refine gL 20 rfl Tryz.func45 #[.agg #[.int .i64 ((bF_ l0 c).f0),.int .i64 ((bF_ l0 c).f1),.slice ac ((bF_ l0 c).f2).length ad,.slice ae ((bF_ l0 c).f3).length af]] rfl TA ?_;(with_reducible refine(laws_toDiff.calls _ _ _ _ _ _ _ _ _ _ _ _ _ _ ?side1 ?side2 ?side3 ?side4 A8.out).mono ?_);(case side1=>exact CW ((Kd.ae_ Y.out HB.out)));(case side2=>exact Z.out);(case side3=>exact CW ((Kd.ae_ aa.out HB.out)));(case side4=>exact ab.out);rintro e q ⟨aN,aO,rfl,az,aA,hb⟩;refine⟨_,rfl,?_⟩;replace g:=AM (Kd.bK_ (Kd.S_told (Kd.S_told (Kd.S_old (by(with_reducible repeat (first|apply Kd.S_alloc|apply Kd.S_drewN|apply Kd.bn_));exact g.out) hb) (Kd.cD_ az)) (Kd.cD_ aA)) (fun _ h_=>h_.1));have s:=RL az;have u:=RL aA;replace HB:=BS hb;clear hb;have ap:0≤(c:Int):=TD;have aq:(c:Int)<((i.length:Int):Int):=TD;obtain⟨go10,al,eo10,am,gl10,cl10,an⟩:=Kd.S_form g.out (by omega);(first|cases eo10|(injection eo10 with ea_ en_ ec_;(first|subst ea_|(injection ea_ with ea_;subst ea_));subst ec_;clear en_));have J:=AM am;have GG10:=AM an;clear am gl10 an;obtain⟨_,ce10,hcl10,hM10,hcc10,hfr10,_,_⟩:=Kd.S_elem g.out z_Diff (c:Int) ap aq;obtain⟨ve10_2,ve10_3,rfl,ge10_2,ge10_3⟩:=k_Diff_openM hM10;have aB:q.cell? ⟨go10,(c:Int).toNat * 4,none⟩=some (.int .i64 ((ad_ i c).f0)):=hcc10 0 _ rfl;have aC:q.cell? ⟨go10,(c:Int).toNat * 4+1,none⟩=some (.int .i64 ((ad_ i c).f1)):=hcc10 1 _ rfl;have aD:q.cell? ⟨go10,(c:Int).toNat * 4+2,none⟩=some (ve10_2):=hcc10 2 _ rfl;have aE:q.cell? ⟨go10,(c:Int).toNat * 4+3,none⟩=some (ve10_3):=hcc10 3 _ rfl;have hf10_0:q.frozen? ⟨go10,(c:Int).toNat * 4,none⟩=false:=hfr10 0;have hf10_1:q.frozen? ⟨go10,(c:Int).toNat * 4+1,none⟩=false:=hfr10 1;have hf10_2:q.frozen? ⟨go10,(c:Int).toNat * 4+2,none⟩=false:=hfr10 2;have hf10_3:q.frozen? ⟨go10,(c:Int).toNat * 4+3,none⟩=false:=hfr10 3;clear hcl10 hcc10 hfr10 hM10;replace ap:=eq_true ap;replace aq:=eq_true aq;obtain⟨K,M,eo14⟩:=Kd.ap_ s.out;subst eo14;obtain⟨O,R,eo15⟩:=Kd.ap_ u.out;subst eo15;have n_:=AM (Kd.bK_ (ok':=(fun k_=>some k_≠(.slice K m.length M:Value).ownBlock∧some k_≠(.slice O n.length R:Value).ownBlock)) g.out (fun k_ hk=>⟨hk.1.2,hk.2⟩));clear g;have g:=n_;clear n_;have HX12:=AM (show Kd.S a8_ 52 q w.heap.size (fun k_=>((fun _=>True)) k_∧¬((fun k_=>some k_=(.slice K m.length M:Value).ownBlock∨some k_=(.slice O n.length R:Value).ownBlock)) k_) (.slice (some ⟨go10,0,none⟩) i.length al) i from(by(with_reducible repeat (first|apply Kd.S_alloc|apply Kd.S_drewN|apply Kd.bn_));exact Kd.bK_ g.out (fun k_ hk=>⟨trivial,fun e_=>e_.elim (fun h_=>hk.1 h_) (fun h_=>hk.2 h_)⟩)));obtain⟨oki12,ce12,hcl12,hM12,hcc12,hfr12,hoki12,hH12⟩:=Kd.S_elem HX12.out z_Diff (c:Int) TD (by have h_:(c:Int)<((i.length:Int):Int):=TD;first|exact h_|(have e_:=(Kd.bV_ g.out).1;omega)|simpa using h_);obtain⟨ve12_2,ve12_3,rfl,ge12_2,ge12_3⟩:=k_Diff_openM hM12;have HP12:=Kd.S_seg hH12 TD (by have h_:(c:Int)<((i.length:Int):Int):=TD;first|exact h_|(have e_:=(Kd.bV_ g.out).1;omega)|simpa using h_) (seg:=[.int .i64 x,.int .i64 y,.slice K m.length M,.slice O n.length R]) (j:=0) (show 4≤4 from by decide) (x':=(⟨x,y,m,n⟩:ah_)) (k_Diff_mkM _ _ _ (⟨x,y,m,n⟩:ah_) (Kd.aM_ (Kd.R_tight rfl (Kd.aM_ (ok':=fun k_=>((fun _=>True)) k_∧k_≠go10) (Kd.R_apart' (s.out) (Kd.S_typed g.out) (by decide)) (fun k_ hk=>⟨trivial,fun e_=>(hk.2) (by rw[e_];rfl)⟩))) (fun _ h_=>Or.inr (Or.inl h_))) (Kd.aM_ (Kd.R_tight rfl (Kd.aM_ (ok':=fun k_=>((fun _=>True)) k_∧k_≠go10) (Kd.R_apart' (u.out) (Kd.S_typed g.out) (by decide)) (fun k_ hk=>⟨trivial,fun e_=>(hk.2) (by rw[e_];rfl)⟩))) (fun _ h_=>Or.inr (Or.inr (h_)))) (by intro k_ h1_ h2_;have h3_:=s.out.1 k_ h1_;first|exact h3_ h2_.symm|exact h3_.1 h2_.symm|exact h3_.2 h2_.symm|exact h3_.1.1 h2_.symm|exact h3_.1.2 h2_.symm)) (fun _ hk=>hk) (fun k_ hk_=>hk_.elim (fun h_=>((Kd.aM_ (ok':=fun k_=>((fun _=>True)) k_∧k_≠go10) (Kd.R_apart' (s.out) (Kd.S_typed g.out) (by decide)) (fun k_ hk=>⟨trivial,fun e_=>(hk.2) (by rw[e_];rfl)⟩))).1 k_ h_.symm) (fun h_=>((Kd.aM_ (ok':=fun k_=>((fun _=>True)) k_∧k_≠go10) (Kd.R_apart' (u.out) (Kd.S_typed g.out) (by decide)) (fun k_ hk=>⟨trivial,fun e_=>(hk.2) (by rw[e_];rfl)⟩))).1 k_ h_.symm));have ag:=hcc12 0 _ rfl;(try simp only[show(a8_).sz=4 from rfl,Nat.mul_one,Nat.add_zero] at ag);have hf12_0:=hfr12 0;(try simp only[show(a8_).sz=4 from rfl,Nat.mul_one,Nat.add_zero] at hf12_0);have ah:=hcc12 1 _ rfl;(try simp only[show(a8_).sz=4 from rfl,Nat.mul_one,Nat.add_zero] at ah);have hf12_1:=hfr12 1;(try simp only[show(a8_).sz=4 from rfl,Nat.mul_one,Nat.add_zero] at hf12_1);have ai:=hcc12 2 _ rfl;(try simp only[show(a8_).sz=4 from rfl,Nat.mul_one,Nat.add_zero] at ai);have hf12_2:=hfr12 2;(try simp only[show(a8_).sz=4 from rfl,Nat.mul_one,Nat.add_zero] at hf12_2);have aj:=hcc12 3 _ rfl;(try simp only[show(a8_).sz=4 from rfl,Nat.mul_one,Nat.add_zero] at aj);have hf12_3:=hfr12 3;(try simp only[show(a8_).sz=4 from rfl,Nat.mul_one,Nat.add_zero] at hf12_3);clear hcl12 hcc12 hfr12 hM12 hoki12 hH12)|((with_reducible refine ck_ (t:=52) (p:=21) rfl ?_);refine cb_ (t:=52) (p:=21) (v:=?vo_w13) (w1:=((((q.setCell ⟨go10,(c:Int).toNat * 4,none⟩ (.int .i64 x)).setCell ⟨go10,(c:Int).toNat * 4+1,none⟩ (.int .i64 y)).setCell ⟨go10,(c:Int).toNat * 4+2,none⟩ (.slice K m.length M)).setCell ⟨go10,(c:Int).toNat * 4+3,none⟩ (.slice O n.length R))) ?hg ?ho ?hn ?hr ?_;(case ho=>rfl);(case hg=>rfl);(case hn=>rfl);(case hr=>first|(go_simp;done)|(go_simp;rfl));intro ar hw;have hg:q.grownBy ar (some go10):=(by rw[hw];exact HP12.2);have hp_:Kd.S a8_ 52 ar w.heap.size (fun _=>True) (.slice (some ⟨go10,0,none⟩) i.length al) V:=(by rw[hw,Ny152.out];exact HP12.1);clear HP12;have n0_:=AM (hp_);have n1_:=AM ((by rw[hw];exact bW_ (bW_ (bW_ (bW_ (HB.out) J.out) J.out) J.out) J.out:Below w.heap.size w ar));clear g HB s u;have g:=n0_;have HB:=n1_;clear n0_ n1_ hg hw hp_));go_roundg k1
    case measure=>exact TM
    case rel=>exact⟨(V),(wrap64 (c+1)),TF,H',⟨TM⟩,⟨by(with_reducible repeat (first|apply Kd.S_alloc|apply Kd.S_drewN|apply Kd.bn_));exact g.out⟩,⟨TB⟩⟩
   ·rw[if_neg c6] at H;have ax:=decide_eq_false c6;clear c6;obtain rfl:=Option.some.inj H;go_wp2;go_ret;exact⟨_,TE,by(with_reducible repeat (first|apply Kd.S_alloc|apply Kd.S_drewN|apply Kd.bn_));exact g.out,TB⟩
end
section
def cm_.f (k:Nat) (a0_0:ByteArray) (a0_1:Int) (l0_2:List (ca_)):Option (ByteArray × Int × (List (ah_))):=(c_.f k l0_2).bind fun t156=>(some (a0_0,a0_1,t156))
theorem cm_.calls (k:Nat) (j:ByteArray) (l:Int) (v:Option Addr) (x:Nat) (i:List (ca_)) (r1:ByteArray) (r2:Int) (r3:List (ah_)) (w:World) (y:Kd.C k_LDiff w v i.length i) (z:i.length≤x) (h:cm_.f k j l i=some (r1,r2,r3)) :
  Calls Tryz.prog 8 #[.agg #[.string j,.int .i64 l,.slice v i.length x]] w fun e w'=>∃v2_:Value,e=.returned (.agg #[.string r1,.int .i64 r2,v2_])∧Kd.S a8_ 52 w' w.heap.size (fun _=>True) v2_ r3∧Below w.heap.size w w':=by
 have hu27:=Tryz.underlying27;have hu38:=Tryz.underlying38;have E:=AM y;have F:=AM z;clear y z;have HB:=BZ w;have H:((c_.f k i).bind fun o=>(some (j,l,o)))=some (r1,r2,r3):=h;clear h;obtain⟨o,A2,H⟩:=bnd H;simp only[Option.some.injEq,Prod.mk.injEq] at H;obtain⟨rfl,rfl,rfl⟩:=H;go_enter Tryz.func8,Tryz.ntmps8;go_wp2_with (first|(refine gD 1 rfl ?_;refine bE 1 #[.string j,.int .i64 l,.slice v i.length x] 27 ?_;intro K hg w3 hbox hb;have c:=AM (hbox);have M:=bG hg;replace HB:=BS hb;clear hb hbox hg)|(refine gD 2 rfl ?_;refine bE 2 #[.string (⟨#[]⟩:ByteArray),.int .i64 0,.slice none 0 0] 38 ?_;intro n hg w4 hbox hb;have g:=AM (hbox);have N:=bG hg;replace HB:=BS hb;have q:=bN c hg;have G:=bM c hg;replace c:=KB c hb;clear hb hbox hg)|(refine gD 3 rfl ?_;refine bE 3 #[.string (⟨#[]⟩:ByteArray),.int .i64 0,.slice none 0 0] 38 ?_;intro I hg w5 hbox hb;have m:=AM (hbox);have O:=bG hg;replace HB:=BS hb;have s:=bN c hg;have J:=bM c hg;replace c:=KB c hb;have t:=bN g hg;have u:=bM g hg;replace g:=KB g hb;clear hb hbox hg;obtain⟨X,Y⟩:=nn q;obtain⟨Z,aa⟩:=nn s;have ab:=cz3 c;obtain⟨ac,ad⟩:=nn u;have R:=cz3 m)|(refine gL 12 rfl Tryz.func22 #[.slice v i.length x] rfl TA ?_;(with_reducible refine(c_.calls _ _ _ _ _ _ ?side1 ?side2 A2.out).mono ?_);(case side1=>exact Kd.ae_ E.out TB);(case side2=>exact F.out);rintro e af ⟨ae,rfl,U,hb⟩;refine⟨_,rfl,?_⟩;have A:=AM (Kd.S_lower U (bh_ TB));replace c:=KF c hb;replace g:=KF g hb;replace m:=KP m #[.string j,.int .i64 l,.slice none 0 0] hb;replace HB:=BS hb;clear hb;obtain⟨B,D,eo12⟩:=Kd.S_slice A.out;subst eo12;have V:=cz3 m;have W:=cz3 g));refine bodyPost_ret (results_cell_row rfl _ _ n 38 #[.string j,.int .i64 l,.slice B o.length D] (0,0) _ rfl (by(with_reducible repeat (first|refine blk_drewN ?_ _|refine ai_ ?_|refine blk_alloc ?_ _));apply PF3;(with_reducible repeat (first|refine blk_drewN ?_ _|refine ai_ ?_|refine blk_alloc ?_ _));refine FF1 ?_ t.out;exact(KW g).out) Tryz.underlying38 rfl KR) rfl ?_;exact⟨_,TE,by(with_reducible repeat (first|apply Kd.S_alloc|apply Kd.S_drewN|apply Kd.bn_));exact Kd.bK_ (Kd.bk_ (p:=⟨n,2,none⟩) (Kd.bk_ (p:=⟨n,1,none⟩) (Kd.bk_ (p:=⟨n,0,none⟩) (Kd.bk_ (p:=⟨I,2,none⟩) (Kd.S_types (Kd.S_types A.out m.out (by decide)) g.out (by decide)) (fun _ hk=>hk.1.2) (.slice B o.length D)) (fun _ hk=>hk.2) (.string j)) (fun _ hk=>hk.2) (.int .i64 l)) (fun _ hk=>hk.2) (.slice B o.length D)) (fun _ hk=>trivial),TB⟩
end
section
def bv_.l0:Nat→ByteArray→Int→List ByteArray→Int→Int→Option (List ByteArray)
 | 0,_,_,_,_,_=>none
 | k+1,x0,x1,x5,x6,x7=>if x7<(x0.size:Int) then(if 0≤x7 then(if (bt x0 x7)=x1 then(if 0≤x6 then(if x6≤x7 then(if x7≤(x0.size:Int) then(if x5.length<8796093022208 then(bv_.l0 k x0 x1 (x5++[x0.extract (x6:Int).toNat (x7:Int).toNat]) (wrap64 (x7+1)) (wrap64 (x7+1))) else(none)) else(none)) else(none)) else(none)) else(bv_.l0 k x0 x1 x5 x6 (wrap64 (x7+1)))) else(none)) else(if 0≤x6 then(if x6≤(x0.size:Int) then(if x5.length<8796093022208 then(some (x5++[x0.extract (x6:Int).toNat x0.size])) else(none)) else(none)) else(none))
def bv_.f (k:Nat) (a0:ByteArray) (a1:Int):Option (List ByteArray):=bv_.l0 k a0 a1 ([]:List ByteArray) 0 0
theorem bv_.calls (k:Nat) (a0:ByteArray) (a1:Int) (r:List ByteArray) (w:World) (h:bv_.f k a0 a1=some r) :
  Calls Tryz.prog 103 #[.string a0,.int .u8 a1] w fun e w'=>∃v0_:Value,e=.returned (v0_)∧Kd.R Kd.string 9 w' w.heap.size (fun _=>True) v0_ r∧Below w.heap.size w w':=by
 have HB:=BZ w;have H:(bv_.l0 k a0 a1 ([]:List ByteArray) 0 0)=some r:=h;clear h;have H':=AM H;clear H;go_enter Tryz.func103,Tryz.ntmps103;go_wp2;go_loopg [5,6,7] k (fun kq v5 v6 v7 w'=>∃(i:List ByteArray) (g:Int) (c:Int),v6=.int .i64 g∧v7=.int .i64 c∧Aside0 (bv_.l0 kq a0 a1 i g c=some r)∧Aside0 (kq≤k)∧Aside0 (Kd.R Kd.string 9 w' w.heap.size (fun _=>True) v5 i)∧Aside0 (Below w.heap.size w w'))
 case atStart=>exact⟨(([]:List ByteArray)),(0),(0),TF,TF,H',NL,⟨TZ⟩,⟨TB⟩⟩
 case round =>
  clear H';obtain⟨i,g,c,rfl,rfl,HA,HK1,m,HB⟩:=hrel
  cases gk with
  | zero=>exact absurd HA.out (by simp[bv_.l0])
  | succ k1 =>
   have H:=HA.out;clear HA;simp only[bv_.l0] at H;by_cases c3:c<(a0.size:Int)
   ·rw[if_pos c3] at H;have t:=decide_eq_true c3;clear c3;obtain⟨E,H⟩:=dn H;by_cases c6:(bt a0 c)=a1
    ·replace H:=qP c6 H;obtain⟨u,v,H⟩:=H;clear c6;obtain⟨c7,H⟩:=ifn H;have F:=eq_true c7;have G:=decide_eq_true c7;clear c7;obtain⟨c8,H⟩:=ifn H;have I:=eq_true c8;have J:=decide_eq_true c8;clear c8;obtain⟨c9,H⟩:=ifn H;have K:=eq_true c9;have M:=decide_eq_true c9;clear c9;obtain⟨c10,H⟩:=ifn H;have LMc10:=AM c10;clear c10;obtain⟨n,j⟩:∃y_:List ByteArray,y_=(i++[a0.extract (g:Int).toNat (c:Int).toNat]):=⟨_,rfl⟩
     replace H:(bv_.l0 k1 a0 a1 n (wrap64 (c+1)) (wrap64 (c+1)))=some r:=by first|(rw[j];with_reducible exact H)|(have H2_:=(Option.bind_some _ _).symm.trans H;rw[j];with_reducible exact H2_)|(have H2_:=(Option.bind_some _ _).symm.trans H;with_reducible exact H2_)|with_reducible exact H|(rw[j];exact H)|exact H
     have Ny159:=AM j;clear j;have H':=AM H;clear H;have p5:0≤(c:Int):=TD;have q5:c<(a0.size:Int):=TD;have z:=cB_ a0 c;replace p5:=eq_true p5;replace q5:=eq_true q5;go_wp2_with (first|((with_reducible refine bN_ (b:=.append) (xs:=#[.tmp 19,.tmp 24]) rfl ?_);at_builtin;refine Kd.R_append Kd.string (w0:=w) w.heap.size rfl (.tmp 19) (.tmp 24) 93 9 (.string ⟨#[]⟩) 16 rfl Tryz.underlying93 info9 rfl (by decide) (by omega) u5 i (a0.extract (g:Int).toNat (c:Int).toNat) [.string (a0.extract (g:Int).toNat (c:Int).toNat)] (fun _=>True) (fun _=>False) rfl rfl ?aP (fun _ hk=>hk.elim) ?aF ?aO ?aB ?aS ?aL ?_;(case aP=>exact rfl);(case aB=>exact TB);(case aF=>exact(fun _ _=>trivial));(case aO=>exact(RW m).out);(case aS=>exact(bh_ TB));(case aL=>have:=LMc10.out;omega);intro N U ho hb hg hat;rw[←Ny159.out] at ho;have n0_:=AM (hb);have n1_:=AM (ho);clear HB m;have HB:=n0_;have o:=n1_;clear n0_ n1_ ho hb hg hat));go_roundg k1
     case measure=>exact TM
     case rel=>exact⟨(n),(wrap64 (c+1)),(wrap64 (c+1)),TF,TF,H',⟨TM⟩,RW o,⟨TB⟩⟩
    ·replace H:=qN c6 H;obtain⟨u,v,H⟩:=H;have H':=AM H;clear H;have p5:0≤(c:Int):=TD;have q5:c<(a0.size:Int):=TD;have z:=cB_ a0 c;replace p5:=eq_true p5;replace q5:=eq_true q5;go_wp2;go_roundg k1
     case measure=>exact TM
     case rel=>exact⟨(i),(g),(wrap64 (c+1)),TF,TF,H',⟨TM⟩,RW m,⟨TB⟩⟩
   ·rw[if_neg c3] at H;have t:=decide_eq_false c3;clear c3;obtain⟨p,H⟩:=ifn H;have A:=eq_true p;have B:=decide_eq_true p;clear p;obtain⟨q,H⟩:=ifn H;have C:=eq_true q;have D:=decide_eq_true q;clear q;obtain⟨x,H⟩:=ifn H;have LMc14:=AM x;clear x;obtain⟨y,l⟩:∃y_:List ByteArray,y_=(i++[a0.extract (g:Int).toNat a0.size]):=⟨_,rfl⟩
    replace H:(some y)=some r:=by first|(rw[l];with_reducible exact H)|(have H2_:=(Option.bind_some _ _).symm.trans H;rw[l];with_reducible exact H2_)|(have H2_:=(Option.bind_some _ _).symm.trans H;with_reducible exact H2_)|with_reducible exact H|(rw[l];exact H)|exact H
    have Ny162:=AM l;clear l;obtain rfl:=Option.some.inj H;go_wp2_with (first|((with_reducible refine bN_ (b:=.append) (xs:=#[.tmp 28,.tmp 32]) rfl ?_);at_builtin;refine Kd.R_append Kd.string (w0:=w) w.heap.size rfl (.tmp 28) (.tmp 32) 93 9 (.string ⟨#[]⟩) 16 rfl Tryz.underlying93 info9 rfl (by decide) (by omega) u5 i (a0.extract (g:Int).toNat a0.size) [.string (a0.extract (g:Int).toNat a0.size)] (fun _=>True) (fun _=>False) rfl rfl ?aP (fun _ hk=>hk.elim) ?aF ?aO ?aB ?aS ?aL ?_;(case aP=>exact rfl);(case aB=>exact TB);(case aF=>exact(fun _ _=>trivial));(case aO=>exact(RW m).out);(case aS=>exact(bh_ TB));(case aL=>have:=LMc14.out;omega);intro O V ho hb hg hat;rw[←Ny162.out] at ho;have n0_:=AM (hb);have n1_:=AM (ho);clear HB m;have HB:=n0_;have s:=n1_;clear n0_ n1_ ho hb hg hat));go_ret;exact⟨_,TE,(RW s).out,TB⟩
end
section
def bY_.f (a0:Int) (a1:Int) (a2:Int):Option (Bool):=if a0≥a1 then(some (decide (a0≤a2))) else(some false)
theorem bY_.calls (a0:Int) (a1:Int) (a2:Int) (r:Bool) (w:World) (h:bY_.f a0 a1 a2=some r) :
  Calls Tryz.prog 37 #[.int .i64 a0,.int .i64 a1,.int .i64 a2] w fun e w'=>e=.returned (.bool r)∧Drawn0 w w':=by
 have H:(if a0≥a1 then(some (decide (a0≤a2))) else(some false))=some r:=h;clear h;by_cases c4:a0≥a1
 ·rw[if_pos c4] at H;have c:=decide_eq_true c4;clear c4;obtain rfl:=Option.some.inj H;go_enter Tryz.func37,Tryz.ntmps37;go_wp2;go_ret;exact⟨TF,TN⟩
 ·rw[if_neg c4] at H;have c:=decide_eq_false c4;clear c4;obtain rfl:=Option.some.inj H;go_enter Tryz.func37,Tryz.ntmps37;go_wp2;go_ret;exact⟨TF,TN⟩
end
section
def bw_.l0:Nat→ByteArray→Int→Option (Bool)
 | 0,_,_=>none
 | k+1,x0,x3=>if x3<(x0.size:Int) then(if 0≤x3 then(if (bt x0 x3)≥97 then(if (bt x0 x3)≤122 then(bw_.l0 k x0 (wrap64 (x3+1))) else(if (bt x0 x3)≥48 then(if (bt x0 x3)≤57 then(bw_.l0 k x0 (wrap64 (x3+1))) else(if (bt x0 x3)=45 then(bw_.l0 k x0 (wrap64 (x3+1))) else(if ((bt x0 x3)=95) then(bw_.l0 k x0 (wrap64 (x3+1))) else(some false)))) else(if (bt x0 x3)=45 then(bw_.l0 k x0 (wrap64 (x3+1))) else(if ((bt x0 x3)=95) then(bw_.l0 k x0 (wrap64 (x3+1))) else(some false))))) else(if (bt x0 x3)≥48 then(if (bt x0 x3)≤57 then(bw_.l0 k x0 (wrap64 (x3+1))) else(if (bt x0 x3)=45 then(bw_.l0 k x0 (wrap64 (x3+1))) else(if ((bt x0 x3)=95) then(bw_.l0 k x0 (wrap64 (x3+1))) else(some false)))) else(if (bt x0 x3)=45 then(bw_.l0 k x0 (wrap64 (x3+1))) else(if ((bt x0 x3)=95) then(bw_.l0 k x0 (wrap64 (x3+1))) else(some false))))) else(none)) else((bY_.f (x0.size:Int) 1 20).bind fun c=>(some c))
def bw_.f (k:Nat) (a0:ByteArray):Option (Bool):=if a0.toList=([42]:List UInt8) then(some true) else(bw_.l0 k a0 0)
theorem bw_.calls (k:Nat) (a0:ByteArray) (r:Bool) (w:World) (h:bw_.f k a0=some r) :
  Calls Tryz.prog 104 #[.string a0] w fun e w'=>e=.returned (.bool r)∧Drawn0 w w':=by
 have H:=h;clear h;unfold bw_.f at H;by_cases c2:a0.toList=([42]:List UInt8)
 ·replace H:=qP c2 H;obtain⟨O,R,H⟩:=H;clear c2;obtain rfl:=Option.some.inj H;go_enter Tryz.func104,Tryz.ntmps104;go_wp2;go_ret;exact⟨TF,TN⟩
 ·replace H:=qN c2 H;obtain⟨O,R,H⟩:=H;have H':=AM H;clear H;go_enter Tryz.func104,Tryz.ntmps104;go_wp2;go_loopg [3] k (fun kq v3 w'=>∃(c:Int),v3=.int .i64 c∧Aside0 (bw_.l0 kq a0 c=some r)∧Aside0 (kq≤k)∧Drawn0 w w')
  case atStart=>exact⟨(0),TF,H',NL,TN⟩
  case round =>
   clear H';obtain⟨c,rfl,HA,HK1,⟨m1,rfl⟩⟩:=hrel
   cases gk with
   | zero=>exact absurd HA.out (by simp[bw_.l0])
   | succ k1 =>
    have H:=HA.out;clear HA;simp only[bw_.l0] at H;by_cases c3:c<(a0.size:Int)
    ·rw[if_pos c3] at H;have U:=decide_eq_true c3;clear c3;obtain⟨aa,H⟩:=dn H;by_cases c6:(bt a0 c)≥97
     ·rw[if_pos c6] at H;have V:=decide_eq_true c6;clear c6;by_cases c7:(bt a0 c)≤122
      ·rw[if_pos c7] at H;have W:=decide_eq_true c7;clear c7;have H':=AM H;clear H;have p5:0≤(c:Int):=TD;have q5:c<(a0.size:Int):=TD;have g:=cB_ a0 c;replace p5:=eq_true p5;replace q5:=eq_true q5;go_wp2;go_roundg k1
       case measure=>exact TM
       case rel=>exact⟨(wrap64 (c+1)),TF,H',⟨TM⟩,TN⟩
      ·rw[if_neg c7] at H;have W:=decide_eq_false c7;clear c7;by_cases c8:(bt a0 c)≥48
       ·rw[if_pos c8] at H;have X:=decide_eq_true c8;clear c8;by_cases c9:(bt a0 c)≤57
        ·rw[if_pos c9] at H;have Y:=decide_eq_true c9;clear c9;have H':=AM H;clear H;have p5:0≤(c:Int):=TD;have q5:c<(a0.size:Int):=TD;have g:=cB_ a0 c;replace p5:=eq_true p5;replace q5:=eq_true q5;go_wp2;go_roundg k1
         case measure=>exact TM
         case rel=>exact⟨(wrap64 (c+1)),TF,H',⟨TM⟩,TN⟩
        ·rw[if_neg c9] at H;have Y:=decide_eq_false c9;clear c9;by_cases c10:(bt a0 c)=45
         ·replace H:=qP c10 H;obtain⟨l,m,H⟩:=H;clear c10;have H':=AM H;clear H;have p5:0≤(c:Int):=TD;have q5:c<(a0.size:Int):=TD;have g:=cB_ a0 c;replace p5:=eq_true p5;replace q5:=eq_true q5;go_wp2;go_roundg k1
          case measure=>exact TM
          case rel=>exact⟨(wrap64 (c+1)),TF,H',⟨TM⟩,TN⟩
         ·replace H:=qN c10 H;obtain⟨l,m,H⟩:=H;by_cases n:((bt a0 c)=95)
          ·replace H:=qP n H;obtain⟨o,p,H⟩:=H;clear n;have H':=AM H;clear H;have p5:0≤(c:Int):=TD;have q5:c<(a0.size:Int):=TD;have g:=cB_ a0 c;replace p5:=eq_true p5;replace q5:=eq_true q5;go_wp2;go_roundg k1
           case measure=>exact TM
           case rel=>exact⟨(wrap64 (c+1)),TF,H',⟨TM⟩,TN⟩
          ·replace H:=qN n H;obtain⟨o,p,H⟩:=H;obtain rfl:=Option.some.inj H;have p5:0≤(c:Int):=TD;have q5:c<(a0.size:Int):=TD;have g:=cB_ a0 c;replace p5:=eq_true p5;replace q5:=eq_true q5;go_wp2;go_ret;exact⟨TF,TN⟩
       ·rw[if_neg c8] at H;have X:=decide_eq_false c8;clear c8;by_cases q:(bt a0 c)=45
        ·replace H:=qP q H;obtain⟨s,t,H⟩:=H;clear q;have H':=AM H;clear H;have p5:0≤(c:Int):=TD;have q5:c<(a0.size:Int):=TD;have g:=cB_ a0 c;replace p5:=eq_true p5;replace q5:=eq_true q5;go_wp2;go_roundg k1
         case measure=>exact TM
         case rel=>exact⟨(wrap64 (c+1)),TF,H',⟨TM⟩,TN⟩
        ·replace H:=qN q H;obtain⟨s,t,H⟩:=H;by_cases u:((bt a0 c)=95)
         ·replace H:=qP u H;obtain⟨v,x,H⟩:=H;clear u;have H':=AM H;clear H;have p5:0≤(c:Int):=TD;have q5:c<(a0.size:Int):=TD;have g:=cB_ a0 c;replace p5:=eq_true p5;replace q5:=eq_true q5;go_wp2;go_roundg k1
          case measure=>exact TM
          case rel=>exact⟨(wrap64 (c+1)),TF,H',⟨TM⟩,TN⟩
         ·replace H:=qN u H;obtain⟨v,x,H⟩:=H;obtain rfl:=Option.some.inj H;have p5:0≤(c:Int):=TD;have q5:c<(a0.size:Int):=TD;have g:=cB_ a0 c;replace p5:=eq_true p5;replace q5:=eq_true q5;go_wp2;go_ret;exact⟨TF,TN⟩
     ·rw[if_neg c6] at H;have V:=decide_eq_false c6;clear c6;by_cases i:(bt a0 c)≥48
      ·rw[if_pos i] at H;have y:=decide_eq_true i;clear i;by_cases j:(bt a0 c)≤57
       ·rw[if_pos j] at H;have z:=decide_eq_true j;clear j;have H':=AM H;clear H;have p5:0≤(c:Int):=TD;have q5:c<(a0.size:Int):=TD;have g:=cB_ a0 c;replace p5:=eq_true p5;replace q5:=eq_true q5;go_wp2;go_roundg k1
        case measure=>exact TM
        case rel=>exact⟨(wrap64 (c+1)),TF,H',⟨TM⟩,TN⟩
       ·rw[if_neg j] at H;have z:=decide_eq_false j;clear j;by_cases A:(bt a0 c)=45
        ·replace H:=qP A H;obtain⟨B,C,H⟩:=H;clear A;have H':=AM H;clear H;have p5:0≤(c:Int):=TD;have q5:c<(a0.size:Int):=TD;have g:=cB_ a0 c;replace p5:=eq_true p5;replace q5:=eq_true q5;go_wp2;go_roundg k1
         case measure=>exact TM
         case rel=>exact⟨(wrap64 (c+1)),TF,H',⟨TM⟩,TN⟩
        ·replace H:=qN A H;obtain⟨B,C,H⟩:=H;by_cases D:((bt a0 c)=95)
         ·replace H:=qP D H;obtain⟨E,F,H⟩:=H;clear D;have H':=AM H;clear H;have p5:0≤(c:Int):=TD;have q5:c<(a0.size:Int):=TD;have g:=cB_ a0 c;replace p5:=eq_true p5;replace q5:=eq_true q5;go_wp2;go_roundg k1
          case measure=>exact TM
          case rel=>exact⟨(wrap64 (c+1)),TF,H',⟨TM⟩,TN⟩
         ·replace H:=qN D H;obtain⟨E,F,H⟩:=H;obtain rfl:=Option.some.inj H;have p5:0≤(c:Int):=TD;have q5:c<(a0.size:Int):=TD;have g:=cB_ a0 c;replace p5:=eq_true p5;replace q5:=eq_true q5;go_wp2;go_ret;exact⟨TF,TN⟩
      ·rw[if_neg i] at H;have y:=decide_eq_false i;clear i;by_cases G:(bt a0 c)=45
       ·replace H:=qP G H;obtain⟨I,J,H⟩:=H;clear G;have H':=AM H;clear H;have p5:0≤(c:Int):=TD;have q5:c<(a0.size:Int):=TD;have g:=cB_ a0 c;replace p5:=eq_true p5;replace q5:=eq_true q5;go_wp2;go_roundg k1
        case measure=>exact TM
        case rel=>exact⟨(wrap64 (c+1)),TF,H',⟨TM⟩,TN⟩
       ·replace H:=qN G H;obtain⟨I,J,H⟩:=H;by_cases K:((bt a0 c)=95)
        ·replace H:=qP K H;obtain⟨M,N,H⟩:=H;clear K;have H':=AM H;clear H;have p5:0≤(c:Int):=TD;have q5:c<(a0.size:Int):=TD;have g:=cB_ a0 c;replace p5:=eq_true p5;replace q5:=eq_true q5;go_wp2;go_roundg k1
         case measure=>exact TM
         case rel=>exact⟨(wrap64 (c+1)),TF,H',⟨TM⟩,TN⟩
        ·replace H:=qN K H;obtain⟨M,N,H⟩:=H;obtain rfl:=Option.some.inj H;have p5:0≤(c:Int):=TD;have q5:c<(a0.size:Int):=TD;have g:=cB_ a0 c;replace p5:=eq_true p5;replace q5:=eq_true q5;go_wp2;go_ret;exact⟨TF,TN⟩
    ·rw[if_neg c3] at H;have U:=decide_eq_false c3;clear c3;obtain⟨ab,Z,H⟩:=bnd H;obtain rfl:=Option.some.inj H;go_wp2_with (first|(refine gL 41 rfl Tryz.func37 #[.int .i64 (a0.size:Int),.int .i64 1,.int .i64 20] rfl TA ?_;(with_reducible refine(bY_.calls _ _ _ _ _ Z.out).mono ?_);rintro e w' ⟨rfl,⟨nd,rfl⟩⟩;refine⟨_,rfl,?_⟩));go_ret;exact⟨TF,TN⟩
end
section
def bo_.l0:Nat→ByteArray→List ByteArray→List ByteArray→Int→Int→Option (List ByteArray × Bool)
 | 0,_,_,_,_,_=>none
 | k+1,x0,x4,g,h,c=>if c<h then(if 0≤c then(if c<(g.length:Int) then((bw_.f k (rdOf ByteArray.empty g c)).bind fun i=>(if i=true then(bo_.l0 k x0 x4 g h (wrap64 (c+1))) else(some (([]:List ByteArray),false)))) else(none)) else(none)) else(if (x0.size:Int)≤60 then(some (x4,decide ((x4.length:Int)≤8))) else(some (x4,false)))
def bo_.f (k:Nat) (a0:ByteArray):Option (List ByteArray × Bool):=if a0.toList=([]:List UInt8) then(some (([]:List ByteArray),true)) else((bv_.f k a0 46).bind fun t166=>(bo_.l0 k a0 t166 t166 (t166.length:Int) 0))
theorem bo_.calls (k:Nat) (a0:ByteArray) (r1:List ByteArray) (r2:Bool) (w:World) (h:bo_.f k a0=some (r1,r2)) :
  Calls Tryz.prog 83 #[.string a0] w fun e w'=>∃v0_:Value,e=.returned (.tuple #[v0_,.bool r2])∧Kd.R Kd.string 9 w' w.heap.size (fun _=>True) v0_ r1∧Below w.heap.size w w':=by
 have HB:=BZ w;have H:=h;clear h;unfold bo_.f at H;by_cases c2:a0.toList=([]:List UInt8)
 ·replace H:=qP c2 H;obtain⟨v,x,H⟩:=H;clear c2;simp only[Option.some.injEq,Prod.mk.injEq] at H;obtain⟨rfl,rfl⟩:=H;go_enter Tryz.func83,Tryz.ntmps83;go_wp2;go_ret2;exact⟨_,by first|rfl|(simp[av_,au_]<;>rfl)|(simp[*,av_,au_]<;>rfl)|(simp[av_,au_];rw[Bool.eq_iff_iff];simp),TZ,TB⟩
 ·replace H:=qN c2 H;obtain⟨v,x,H⟩:=H;obtain⟨g,A3,H⟩:=bnd H;have H':=AM H;clear H;go_enter Tryz.func83,Tryz.ntmps83;go_wp2_with (first|(refine gL 10 rfl Tryz.func103 #[.string a0,.int .u8 46] rfl TA ?_;(with_reducible refine(bv_.calls _ _ _ _ _ A3.out).mono ?_);rintro e w4 ⟨E,rfl,C,hb⟩;refine⟨_,rfl,?_⟩;have l:=RL C;replace HB:=BS hb;clear hb;obtain⟨y,z,eo5⟩:=Kd.ap_ l.out;subst eo5));go_loopg [13] k (fun kq D w'=>∃(c:Int),D=.int .i64 c∧Aside0 (bo_.l0 kq a0 g g (g.length:Int) c=some (r1,r2))∧Aside0 (kq≤k)∧Aside0 (Kd.R Kd.string 9 w' w.heap.size (fun _=>True) (.slice y g.length z) g)∧Aside0 (Kd.R Kd.string 9 w' w.heap.size (fun _=>True) (.slice y g.length z) g)∧Aside0 (Below w.heap.size w w'))
  case atStart=>exact⟨(0),TF,H',NL,RW l,RW l,⟨TB⟩⟩
  case round =>
   clear H';obtain⟨c,rfl,HA,HK1,o,m,HB⟩:=hrel
   cases gk with
   | zero=>exact absurd HA.out (by simp[bo_.l0])
   | succ k1 =>
    have H:=HA.out;clear HA;simp only[bo_.l0] at H;by_cases c6:c<(g.length:Int)
    ·rw[if_pos c6] at H;have A:=decide_eq_true c6;clear c6;obtain⟨F,H⟩:=dn H;obtain⟨G,H⟩:=dn H;obtain⟨B,A9,H⟩:=bnd H;by_cases c10:B=true
     ·subst c10;replace H:=ift H;have H':=AM H;clear H;have i:0≤(c:Int):=TD;have j:c<(g.length:Int):=TD;obtain⟨s,p,q⟩:=Kd.bB_ (Kd.ag_ m.out).2.2 c i j;cases p;replace i:=eq_true i;replace j:=eq_true j;go_wp2_with (first|(refine gL 18 rfl Tryz.func104 #[.string (rdOf ByteArray.empty g c)] rfl TA ?_;(with_reducible refine(bw_.calls _ _ _ _ A9.out).mono ?_);rintro e w' ⟨rfl,⟨nd,rfl⟩⟩;refine⟨_,rfl,?_⟩));go_roundg k1
      case measure=>exact TM
      case rel=>exact⟨(wrap64 (c+1)),TF,H',⟨TM⟩,RW o,RW m,⟨TB⟩⟩
     ·replace c10:=Bool.eq_false_iff.mpr c10;subst c10;replace H:=iff' H;simp only[Option.some.injEq,Prod.mk.injEq] at H;obtain⟨rfl,rfl⟩:=H;have i:0≤(c:Int):=TD;have j:c<(g.length:Int):=TD;obtain⟨s,p,q⟩:=Kd.bB_ (Kd.ag_ m.out).2.2 c i j;cases p;replace i:=eq_true i;replace j:=eq_true j;go_wp2_with (first|(refine gL 18 rfl Tryz.func104 #[.string (rdOf ByteArray.empty g c)] rfl TA ?_;(with_reducible refine(bw_.calls _ _ _ _ A9.out).mono ?_);rintro e w' ⟨rfl,⟨nd,rfl⟩⟩;refine⟨_,rfl,?_⟩));go_ret2;exact⟨_,by first|rfl|(simp[av_,au_]<;>rfl)|(simp[*,av_,au_]<;>rfl)|(simp[av_,au_];rw[Bool.eq_iff_iff];simp),TZ,TB⟩
    ·rw[if_neg c6] at H;have A:=decide_eq_false c6;clear c6;by_cases n:(a0.size:Int)≤60
     ·rw[if_pos n] at H;have t:=decide_eq_true n;have u:decide (a0.size≤60)=true:=decide_eq_true (by omega);clear n;simp only[Option.some.injEq,Prod.mk.injEq] at H;obtain⟨rfl,rfl⟩:=H;go_wp2;go_ret2;exact⟨_,by first|rfl|(simp[av_,au_]<;>rfl)|(simp[*,av_,au_]<;>rfl)|(simp[av_,au_];rw[Bool.eq_iff_iff];simp),(RW o).out,TB⟩
     ·rw[if_neg n] at H;have t:=decide_eq_false n;have u:decide (a0.size≤60)=false:=decide_eq_false (by omega);clear n;simp only[Option.some.injEq,Prod.mk.injEq] at H;obtain⟨rfl,rfl⟩:=H;go_wp2;go_ret2;exact⟨_,by first|rfl|(simp[av_,au_]<;>rfl)|(simp[*,av_,au_]<;>rfl)|(simp[av_,au_];rw[Bool.eq_iff_iff];simp),(RW o).out,TB⟩
end
section
def bO_.l0:Nat→Bool→List ByteArray→Int→Int→Option (Bool)
 | 0,_,_,_,_=>none
 | k+1,x4,f,g,c=>if c<g then(if 0≤c then(if c<(f.length:Int) then(if x4=true then(bO_.l0 k ((rdOf ByteArray.empty f c).toList != ([42]:List UInt8)) f g (wrap64 (c+1))) else(bO_.l0 k false f g (wrap64 (c+1)))) else(none)) else(none)) else(some x4)
def bO_.f (k:Nat) (a0:ByteArray):Option (Bool):=(bo_.f k a0).bind fun bt171=>(bO_.l0 k bt171.2 bt171.1 (bt171.1.length:Int) 0)
theorem bO_.calls (k:Nat) (a0:ByteArray) (r:Bool) (w:World) (h:bO_.f k a0=some r) :
  Calls Tryz.prog 61 #[.string a0] w fun e w'=>e=.returned (.bool r)∧Below w.heap.size w w':=by
 have HB:=BZ w;have H:=h;clear h;unfold bO_.f at H;obtain⟨⟨g,s⟩,A2,H⟩:=bnd H
 try dsimp only at H
 have H':=AM H;clear H;go_enter Tryz.func61,Tryz.ntmps61;go_wp2_with (first|(refine gL 9 rfl Tryz.func83 #[.string a0] rfl TA ?_;(with_reducible refine(bo_.calls _ _ _ _ _ A2.out).mono ?_);rintro e w3 ⟨z,rfl,u,hb⟩;refine⟨_,rfl,?_⟩;have n:=RL u;replace HB:=BS hb;clear hb;obtain⟨v,x,eo4⟩:=Kd.ap_ n.out;subst eo4));go_loopg [4,14] k (fun kq v4 y w'=>∃(m:Bool) (c:Int),v4=.bool m∧y=.int .i64 c∧Aside0 (bO_.l0 kq m g (g.length:Int) c=some r)∧Aside0 (kq≤k)∧Aside0 (Kd.R Kd.string 9 w' w.heap.size (fun _=>True) (.slice v g.length x) g)∧Aside0 (Below w.heap.size w w'))
 case atStart=>exact⟨(s),(0),TF,TF,H',NL,RW n,⟨TB⟩⟩
 case round =>
  clear H';obtain⟨m,c,rfl,rfl,HA,HK1,l,HB⟩:=hrel
  cases gk with
  | zero=>exact absurd HA.out (by simp[bO_.l0])
  | succ k1 =>
   have H:=HA.out;clear HA;simp only[bO_.l0] at H;by_cases c5:c<(g.length:Int)
   ·rw[if_pos c5] at H;have t:=decide_eq_true c5;clear c5;obtain⟨A,H⟩:=dn H;obtain⟨B,H⟩:=dn H;by_cases c8:m=true
    ·subst c8;replace H:=ift H;have H':=AM H;clear H;have i:0≤(c:Int):=TD;have j:c<(g.length:Int):=TD;obtain⟨q,o,p⟩:=Kd.bB_ (Kd.ag_ l.out).2.2 c i j;cases o;replace i:=eq_true i;replace j:=eq_true j;go_wp2;go_roundg k1
     case measure=>exact TM
     case rel=>exact⟨(((rdOf ByteArray.empty g c).toList != ([42]:List UInt8))),(wrap64 (c+1)),TF,TF,H',⟨TM⟩,RW l,⟨TB⟩⟩
    ·replace c8:=Bool.eq_false_iff.mpr c8;subst c8;replace H:=iff' H;have H':=AM H;clear H;have i:0≤(c:Int):=TD;have j:c<(g.length:Int):=TD;obtain⟨q,o,p⟩:=Kd.bB_ (Kd.ag_ l.out).2.2 c i j;cases o;replace i:=eq_true i;replace j:=eq_true j;go_wp2;go_roundg k1
     case measure=>exact TM
     case rel=>exact⟨(false),(wrap64 (c+1)),TF,TF,H',⟨TM⟩,RW l,⟨TB⟩⟩
   ·rw[if_neg c5] at H;have t:=decide_eq_false c5;clear c5;obtain rfl:=Option.some.inj H;go_wp2;go_ret;exact⟨TE,TB⟩
end
section
def bT_.f (a0:Int):Option (Bool):=(bY_.f a0 0 1152921504606846976).bind fun t176=>(some t176)
theorem bT_.calls (a0:Int) (r:Bool) (w:World) (h:bT_.f a0=some r) :
  Calls Tryz.prog 62 #[.int .i64 a0] w fun e w'=>e=.returned (.bool r)∧Drawn0 w w':=by
 have H:((bY_.f a0 0 1152921504606846976).bind fun c=>(some c))=some r:=h;clear h;obtain⟨c,A2,H⟩:=bnd H;obtain rfl:=Option.some.inj H;go_enter Tryz.func62,Tryz.ntmps62;go_wp2_with (first|(refine gL 4 rfl Tryz.func37 #[.int .i64 a0,.int .i64 0,.int .i64 1152921504606846976] rfl TA ?_;(with_reducible refine(bY_.calls _ _ _ _ _ A2.out).mono ?_);rintro e w' ⟨rfl,⟨nd,rfl⟩⟩;refine⟨_,rfl,?_⟩));go_ret;exact⟨TF,TN⟩
end
section
mutual
def bj_.j0:Nat→ByteArray→Bool→Option (Int)
 | 0,_,_=>none
 | k+1,x0,x18=>if x18=true then(some (-1)) else(bj_.l0 k x0 0 0)
def bj_.l0:Nat→ByteArray→Int→Int→Option (Int)
 | 0,_,_,_=>none
 | k+1,x0,x3,x4=>if x4<(x0.size:Int) then(if 0≤x4 then(if (bt x0 x4)<48 then(some (-1)) else(if (bt x0 x4) > 57 then(some (-1)) else(bj_.l0 k x0 (wrap64 ((wrap64 (10 * x3))+(((bt x0 x4) - 48) % 256))) (wrap64 (x4+1))))) else(none)) else(some x3)
end
def bj_.f (k:Nat) (a0:ByteArray):Option (Int):=(bY_.f (a0.size:Int) 1 10).bind fun t177=>(if t177=true then(if 0<(a0.size:Int) then(if (bt a0 0)=48 then(bj_.j0 k a0 (decide ((a0.size:Int) > 1))) else(bj_.j0 k a0 false)) else(none)) else(bj_.j0 k a0 true))
theorem bj_.calls (k:Nat) (a0:ByteArray) (r:Int) (w:World) (h:bj_.f k a0=some r) :
  Calls Tryz.prog 129 #[.string a0] w fun e w'=>e=.returned (.int .i64 r)∧Drawn0 w w':=by
 have H:=h;clear h;unfold bj_.f at H;have t:=AM H;clear H;go_enter Tryz.func129,Tryz.ntmps129
 go_upto_region 1 with (fail)
 go_cut [18] (fun G wc=>∃(kq:Nat) (g:Bool),G=.bool g∧Aside0 (bj_.j0 kq a0 g=some r)∧Aside0 (kq≤k)∧Drawn0 w wc)
 case first =>
  have H:=t.out;clear t;obtain⟨x,A3,H⟩:=bnd H;by_cases c4:x=true
  ·subst c4;replace H:=ift H;obtain⟨c5,H⟩:=ifn H;have q:=decide_eq_true c5;have y:decide (0<a0.size)=true:=decide_eq_true (by omega);clear c5;(first|rw[q]|(simp only[b6_,i32_w];rw[q])|rw[y]|skip);by_cases c7:(bt a0 0)=48
   ·replace H:=qP c7 H;obtain⟨z,A,H⟩:=H;clear c7;have H':=AM H;clear H;go_wp2_with (first|(refine gL 7 rfl Tryz.func37 #[.int .i64 (a0.size:Int),.int .i64 1,.int .i64 10] rfl TA ?_;(with_reducible refine(bY_.calls _ _ _ _ _ A3.out).mono ?_);rintro e w' ⟨rfl,⟨nd,rfl⟩⟩;refine⟨_,rfl,?_⟩;have p6:0≤(0:Int):=(by omega);have q6:0<a0.size:=(by have:(0:Int)<(a0.size:Int):=TD;omega);have I:∀h:0<a0.size,((a0[0]'h).toNat:Int)=bt a0 0:=cB_ a0 0;clear p6;have qi6:(0<(a0.size:Int))=True:=eq_true TD;replace q6:=eq_true q6));go_meet
    case rel=>exact⟨_,(decide ((a0.size:Int) > 1)),TF,H',⟨by first|omega|exact Nat.le_refl _⟩,TN⟩
   ·replace H:=qN c7 H;obtain⟨z,A,H⟩:=H;have H':=AM H;clear H;go_wp2_with (first|(refine gL 7 rfl Tryz.func37 #[.int .i64 (a0.size:Int),.int .i64 1,.int .i64 10] rfl TA ?_;(with_reducible refine(bY_.calls _ _ _ _ _ A3.out).mono ?_);rintro e w' ⟨rfl,⟨nd,rfl⟩⟩;refine⟨_,rfl,?_⟩;have p6:0≤(0:Int):=(by omega);have q6:0<a0.size:=(by have:(0:Int)<(a0.size:Int):=TD;omega);have I:∀h:0<a0.size,((a0[0]'h).toNat:Int)=bt a0 0:=cB_ a0 0;clear p6;have qi6:(0<(a0.size:Int))=True:=eq_true TD;replace q6:=eq_true q6));go_meet
    case rel=>exact⟨_,(false),TF,H',⟨by first|omega|exact Nat.le_refl _⟩,TN⟩
  ·replace c4:=Bool.eq_false_iff.mpr c4;subst c4;replace H:=iff' H;have H':=AM H;clear H;go_wp2_with (first|(refine gL 7 rfl Tryz.func37 #[.int .i64 (a0.size:Int),.int .i64 1,.int .i64 10] rfl TA ?_;(with_reducible refine(bY_.calls _ _ _ _ _ A3.out).mono ?_);rintro e w' ⟨rfl,⟨nd,rfl⟩⟩;refine⟨_,rfl,?_⟩));go_meet
   case rel=>exact⟨_,(true),TF,H',⟨by first|omega|exact Nat.le_refl _⟩,TN⟩
 case rest =>
  clear t;obtain⟨kq,g,rfl,HA,HJ1,⟨mc1,rfl⟩⟩:=hcut
  cases kq with
  | zero=>exact absurd HA.out (by simp[bj_.j0])
  | succ B =>
   have H:=HA.out;clear HA;simp only[bj_.j0] at H;by_cases c8:g=true
   ·subst c8;replace H:=ift H;obtain rfl:=Option.some.inj H;go_wp2;go_ret;exact⟨TF,TN⟩
   ·replace c8:=Bool.eq_false_iff.mpr c8;subst c8;replace H:=iff' H;have H':=AM H;clear H;go_wp2;go_loopg [3,4] B (fun kq v3 v4 w'=>∃(l:Int) (c:Int),v3=.int .i64 l∧v4=.int .i64 c∧Aside0 (bj_.l0 kq a0 l c=some r)∧Aside0 (kq≤B)∧Drawn0 w w')
    case atStart=>exact⟨(0),(0),TF,TF,H',NL,TN⟩
    case round =>
     clear H';obtain⟨l,c,rfl,rfl,HA,HK2,⟨m2,rfl⟩⟩:=hrel
     cases gk with
     | zero=>exact absurd HA.out (by simp[bj_.l0])
     | succ k2 =>
      have H:=HA.out;clear HA;simp only[bj_.l0] at H;by_cases c9:c<(a0.size:Int)
      ·rw[if_pos c9] at H;have C:=decide_eq_true c9;clear c9;obtain⟨J,H⟩:=dn H;by_cases m:(bt a0 c)<48
       ·rw[if_pos m] at H;have u:=decide_eq_true m;clear m;obtain rfl:=Option.some.inj H;have i:0≤(c:Int):=TD;have j:c<(a0.size:Int):=TD;have s:=cB_ a0 c;replace i:=eq_true i;replace j:=eq_true j;go_wp2;go_ret;exact⟨TF,TN⟩
       ·rw[if_neg m] at H;have u:=decide_eq_false m;clear m;by_cases n:(bt a0 c) > 57
        ·rw[if_pos n] at H;have v:=decide_eq_true n;clear n;obtain rfl:=Option.some.inj H;have i:0≤(c:Int):=TD;have j:c<(a0.size:Int):=TD;have s:=cB_ a0 c;replace i:=eq_true i;replace j:=eq_true j;have o:0≤(c:Int):=TD;have p:c<(a0.size:Int):=TD;have D:=cB_ a0 c;replace o:=eq_true o;replace p:=eq_true p;go_wp2;go_ret;exact⟨TF,TN⟩
        ·rw[if_neg n] at H;have v:=decide_eq_false n;clear n;have H':=AM H;clear H;have i:0≤(c:Int):=TD;have j:c<(a0.size:Int):=TD;have s:=cB_ a0 c;replace i:=eq_true i;replace j:=eq_true j;have o:0≤(c:Int):=TD;have p:c<(a0.size:Int):=TD;have D:=cB_ a0 c;replace o:=eq_true o;replace p:=eq_true p;have E:0≤(c:Int):=TD;have F:c<(a0.size:Int):=TD;have K:=cB_ a0 c;replace E:=eq_true E;replace F:=eq_true F;go_wp2;go_roundg k2
         case measure=>have:=HJ1.out;have:=HK2.out;omega
         case rel=>exact⟨(wrap64 ((wrap64 (10 * l))+(((bt a0 c) - 48) % 256))),(wrap64 (c+1)),TF,TF,H',⟨by have:=HJ1.out;have:=HK2.out;omega⟩,TN⟩
      ·rw[if_neg c9] at H;have C:=decide_eq_false c9;clear c9;obtain rfl:=Option.some.inj H;go_wp2;go_ret;exact⟨TF,TN⟩
end
section
def aO_.l0:Nat→Int→List Int→Int→Option (ByteArray)
 | 0,_,_,_=>none
 | k+1,x0,x5,x6=>if x6≥0 then(if 0≤x6 then(if x6<(x5.length:Int) then(aO_.l0 k (x0 / 256) (x5.set (x6:Int).toNat ((x0) % 256)) (wrap64 (x6 - 1))) else(none)) else(none)) else(some (strOfNums x5))
def aO_.f (k:Nat) (a0:Int) (a1:Int):Option (ByteArray):=if 0≤a1 then(if (a1:Int).toNat≤281474976710656 then(aO_.l0 k a0 (List.replicate (a1:Int).toNat 0) (wrap64 (a1 - 1))) else(none)) else(none)
theorem aO_.calls (k:Nat) (a0:Int) (a1:Int) (r:ByteArray) (w:World) (h:aO_.f k a0 a1=some r) :
  Calls Tryz.prog 130 #[.int .i64 a0,.int .i64 a1] w fun e w'=>e=.returned (.string r)∧Below w.heap.size w w':=by
 have HB:=BZ w;have H:=h;clear h;unfold aO_.f at H;obtain⟨c3,H⟩:=ifn H;have G:=eq_true c3;have I:=decide_eq_true c3;clear c3;obtain⟨c4,H⟩:=ifn H;have J:=eq_true c4;have K:=decide_eq_true c4;clear c4;obtain⟨q,i⟩:∃y_:List Int,y_=(List.replicate (a1:Int).toNat 0):=⟨_,rfl⟩
 replace H:(aO_.l0 k a0 q (wrap64 (a1 - 1)))=some r:=by first|(rw[i];with_reducible exact H)|(have H2_:=(Option.bind_some _ _).symm.trans H;rw[i];with_reducible exact H2_)|(have H2_:=(Option.bind_some _ _).symm.trans H;with_reducible exact H2_)|with_reducible exact H|(rw[i];exact H)|exact H
 have Ny178:=AM i;clear i;have H':=AM H;clear H;go_enter Tryz.func130,Tryz.ntmps130;go_wp2_with (first|((with_reducible refine ax_ (N:=8) rfl ?_);refine Kd.R_make (Kd.int .u8) _ 5 rfl (N:=8) rfl 96 _ _ rfl a1 rfl rfl Tryz.underlying96 (.int .u8 0) 1 info5 rfl (by decide) (by omega) 0 (ok:=fun _=>True) (okp:=fun _=>True) rfl (fun _ hk=>hk) trivial TD (Nat.le_trans (Nat.mul_le_mul_right _ (TD:a1.toNat≤281474976710656)) (by omega)) (Below.refl _ _) (Nat.le_refl _) ?_;intro B w5 n hb hg_ hnew_;clear hg_ hnew_;(first|rw[←Ny178.out] at n|(simp only[Int.reduceToNat] at n;rw[←Ny178.out] at n));have x:=RL n;replace HB:=BS hb;clear hb n));go_loopg [0,6] k (fun kq v0 v6 w'=>∃(g:Int) (l:List Int) (c:Int),v0=.int .i64 g∧v6=.int .i64 c∧Aside0 (aO_.l0 kq g l c=some r)∧Aside0 (kq≤k)∧Aside0 (Kd.R (Kd.int .u8) 5 w' w.heap.size (fun _=>True) B l)∧Aside0 (Below w.heap.size w w'))
 case atStart=>exact⟨(a0),(q),(wrap64 (a1 - 1)),TF,TF,H',NL,RW x,⟨TB⟩⟩
 case round =>
  clear H';obtain⟨g,l,c,rfl,rfl,HA,HK1,m,HB⟩:=hrel
  cases gk with
  | zero=>exact absurd HA.out (by simp[aO_.l0])
  | succ k1 =>
   have H:=HA.out;clear HA;simp only[aO_.l0] at H;by_cases c7:c≥0
   ·rw[if_pos c7] at H;have C:=decide_eq_true c7;clear c7;obtain⟨M,H⟩:=dn H;obtain⟨O,H⟩:=dn H;obtain⟨o,j⟩:∃y_:List Int,y_=(l.set (c:Int).toNat ((g) % 256)):=⟨_,rfl⟩
    replace H:(aO_.l0 k1 (g / 256) o (wrap64 (c - 1)))=some r:=by first|(rw[j];with_reducible exact H)|(have H2_:=(Option.bind_some _ _).symm.trans H;rw[j];with_reducible exact H2_)|(have H2_:=(Option.bind_some _ _).symm.trans H;with_reducible exact H2_)|with_reducible exact H|(rw[j];exact H)|exact H
    have Ny181:=AM j;clear j;have H':=AM H;clear H;have y:0≤(c:Int):=TD;have z:(c:Int)<((l.length:Int):Int):=TD;obtain⟨go10,D,eo10,s,gl10,cl10,u⟩:=Kd.R_form m.out (by omega);(first|cases eo10|(injection eo10 with ea_ en_ ec_;(first|subst ea_|(injection ea_ with ea_;subst ea_));subst ec_;clear en_));have E:=AM s;have GG10:=AM u;clear s gl10 u;obtain⟨F,hf10_0⟩:=Kd.R_celln 0 m.out (c:Int) y z;replace y:=eq_true y;replace z:=eq_true z;have HP11:=Kd.R_putg m.out (c:Int) ((g) % 256);go_wp2_with (first|((with_reducible refine ck_ (t:=5) (p:=19) rfl ?_);refine cb_ (t:=5) (p:=19) (v:=?vo_w12) (w1:=(wr.setCell ⟨go10,(c:Int).toNat,none⟩ (.int .u8 ((g) % 256)))) ?hg ?ho ?hn ?hr ?_;(case ho=>rfl);(case hg=>rfl);(case hn=>rfl);(case hr=>first|(go_simp;done)|(go_simp;rfl));intro A hw;have hg:wr.grownBy A (some go10):=(by rw[hw];exact HP11.2);have hp_:Kd.R (Kd.int .u8) 5 A w.heap.size (fun _=>True) (.slice (some ⟨go10,0,none⟩) l.length D) o:=(by rw[hw,Ny181.out];exact HP11.1);clear HP11;replace m:=AM (hp_);replace HB:=AM ((by rw[hw];exact bW_ (HB.out) E.out:Below w.heap.size w A));clear hg hw hp_));go_roundg k1
    case measure=>exact TM
    case rel=>exact⟨(g / 256),(o),(wrap64 (c - 1)),TF,TF,H',⟨TM⟩,RW m,⟨TB⟩⟩
   ·rw[if_neg c7] at H;have C:=decide_eq_false c7;clear c7;obtain rfl:=Option.some.inj H;have hcv13:=own_string (P:=Tryz.prog) Tryz.underlying96 Tryz.underlying5 Tryz.underlying9 (Kd.own_of_R m.out);go_wp2;go_ret;exact⟨TE,TB⟩
end
section
def bE_.l0:Nat→ByteArray→Bool→List ByteArray→Int→Int→Option (Bool)
 | 0,_,_,_,_,_=>none
 | k+1,x0,x4,f,g,c=>if c<g then(if 0≤c then(if c<(f.length:Int) then(if x4=true then(bE_.l0 k x0 ((rdOf ByteArray.empty f c).toList != ([42]:List UInt8)) f g (wrap64 (c+1))) else(bE_.l0 k x0 false f g (wrap64 (c+1)))) else(none)) else(none)) else(if x4=true then(some (x0.toList != ([]:List UInt8))) else(some false))
def bE_.f (k:Nat) (a0:ByteArray):Option (Bool):=(bo_.f k a0).bind fun bt182=>(bE_.l0 k a0 bt182.2 bt182.1 (bt182.1.length:Int) 0)
theorem bE_.calls (k:Nat) (a0:ByteArray) (r:Bool) (w:World) (h:bE_.f k a0=some r) :
  Calls Tryz.prog 131 #[.string a0] w fun e w'=>e=.returned (.bool r)∧Below w.heap.size w w':=by
 have HB:=BZ w;have H:=h;clear h;unfold bE_.f at H;obtain⟨⟨g,s⟩,A2,H⟩:=bnd H
 try dsimp only at H
 have H':=AM H;clear H;go_enter Tryz.func131,Tryz.ntmps131;go_wp2_with (first|(refine gL 9 rfl Tryz.func83 #[.string a0] rfl TA ?_;(with_reducible refine(bo_.calls _ _ _ _ _ A2.out).mono ?_);rintro e w3 ⟨z,rfl,u,hb⟩;refine⟨_,rfl,?_⟩;have n:=RL u;replace HB:=BS hb;clear hb;obtain⟨v,x,eo4⟩:=Kd.ap_ n.out;subst eo4));go_loopg [4,14] k (fun kq v4 y w'=>∃(m:Bool) (c:Int),v4=.bool m∧y=.int .i64 c∧Aside0 (bE_.l0 kq a0 m g (g.length:Int) c=some r)∧Aside0 (kq≤k)∧Aside0 (Kd.R Kd.string 9 w' w.heap.size (fun _=>True) (.slice v g.length x) g)∧Aside0 (Below w.heap.size w w'))
 case atStart=>exact⟨(s),(0),TF,TF,H',NL,RW n,⟨TB⟩⟩
 case round =>
  clear H';obtain⟨m,c,rfl,rfl,HA,HK1,l,HB⟩:=hrel
  cases gk with
  | zero=>exact absurd HA.out (by simp[bE_.l0])
  | succ k1 =>
   have H:=HA.out;clear HA;simp only[bE_.l0] at H;by_cases c5:c<(g.length:Int)
   ·rw[if_pos c5] at H;have t:=decide_eq_true c5;clear c5;obtain⟨A,H⟩:=dn H;obtain⟨B,H⟩:=dn H;by_cases c8:m=true
    ·subst c8;replace H:=ift H;have H':=AM H;clear H;have i:0≤(c:Int):=TD;have j:c<(g.length:Int):=TD;obtain⟨q,o,p⟩:=Kd.bB_ (Kd.ag_ l.out).2.2 c i j;cases o;replace i:=eq_true i;replace j:=eq_true j;go_wp2;go_roundg k1
     case measure=>exact TM
     case rel=>exact⟨(((rdOf ByteArray.empty g c).toList != ([42]:List UInt8))),(wrap64 (c+1)),TF,TF,H',⟨TM⟩,RW l,⟨TB⟩⟩
    ·replace c8:=Bool.eq_false_iff.mpr c8;subst c8;replace H:=iff' H;have H':=AM H;clear H;have i:0≤(c:Int):=TD;have j:c<(g.length:Int):=TD;obtain⟨q,o,p⟩:=Kd.bB_ (Kd.ag_ l.out).2.2 c i j;cases o;replace i:=eq_true i;replace j:=eq_true j;go_wp2;go_roundg k1
     case measure=>exact TM
     case rel=>exact⟨(false),(wrap64 (c+1)),TF,TF,H',⟨TM⟩,RW l,⟨TB⟩⟩
   ·rw[if_neg c5] at H;have t:=decide_eq_false c5;clear c5;by_cases c9:m=true
    ·subst c9;replace H:=ift H;obtain rfl:=Option.some.inj H;go_wp2;go_ret;exact⟨by first|rfl|(simp[av_,au_]<;>rfl)|(simp[*,av_,au_]<;>rfl)|(simp[av_,au_];rw[Bool.eq_iff_iff];simp),TB⟩
    ·replace c9:=Bool.eq_false_iff.mpr c9;subst c9;replace H:=iff' H;obtain rfl:=Option.some.inj H;go_wp2;go_ret;exact⟨by first|rfl|(simp[av_,au_]<;>rfl)|(simp[*,av_,au_]<;>rfl)|(simp[av_,au_];rw[Bool.eq_iff_iff];simp),TB⟩
end
section
def b9_.l0:Nat→ByteArray→List ByteArray→Int→Int→Option (ByteArray)
 | 0,_,_,_,_=>none
 | k+1,x5,f,h,c=>if c<h then(if 0≤c then(if c<(f.length:Int) then((some (([(((rdOf ByteArray.empty f c).size:Int)) % 256]:List Int):List Int)).bind fun g=>(if (strOfNums g).size+(rdOf ByteArray.empty f c).size≤9223372036854775807 then(if x5.size+((strOfNums g)++(rdOf ByteArray.empty f c)).size≤9223372036854775807 then(b9_.l0 k (x5++((strOfNums g)++(rdOf ByteArray.empty f c))) f h (wrap64 (c+1))) else(none)) else(none))) else(none)) else(none)) else(if x5.size+1≤9223372036854775807 then(some (x5++(⟨#[0]⟩:ByteArray))) else(none))
def b9_.f (k:Nat) (a0:ByteArray):Option (ByteArray):=(bo_.f k a0).bind fun bt187=>(b9_.l0 k (⟨#[]⟩:ByteArray) bt187.1 (bt187.1.length:Int) 0)
theorem b9_.calls (k:Nat) (a0:ByteArray) (r:ByteArray) (w:World) (h:b9_.f k a0=some r) :
  Calls Tryz.prog 132 #[.string a0] w fun e w'=>e=.returned (.string r)∧Below w.heap.size w w':=by
 have HB:=BZ w;have H:=h;clear h;unfold b9_.f at H;obtain⟨⟨g,F⟩,A2,H⟩:=bnd H
 try dsimp only at H
 have H':=AM H;clear H;go_enter Tryz.func132,Tryz.ntmps132;go_wp2_with (first|(refine gL 10 rfl Tryz.func83 #[.string a0] rfl TA ?_;(with_reducible refine(bo_.calls _ _ _ _ _ A2.out).mono ?_);rintro e w3 ⟨G,rfl,x,hb⟩;refine⟨_,rfl,?_⟩;have m:=RL x;replace HB:=BS hb;clear hb;obtain⟨y,z,eo4⟩:=Kd.ap_ m.out;subst eo4));go_loopg [5,15] k (fun kq v5 A w'=>∃(i:ByteArray) (c:Int),v5=.string i∧A=.int .i64 c∧Aside0 (b9_.l0 kq i g (g.length:Int) c=some r)∧Aside0 (kq≤k)∧Aside0 (Kd.R Kd.string 9 w' w.heap.size (fun _=>True) (.slice y g.length z) g)∧Aside0 (Below w.heap.size w w'))
 case atStart=>exact⟨((⟨#[]⟩:ByteArray)),(0),TF,TF,H',NL,RW m,⟨TB⟩⟩
 case round =>
  clear H';obtain⟨i,c,rfl,rfl,HA,HK1,j,HB⟩:=hrel
  cases gk with
  | zero=>exact absurd HA.out (by simp[b9_.l0])
  | succ k1 =>
   have H:=HA.out;clear HA;simp only[b9_.l0] at H;by_cases c5:c<(g.length:Int)
   ·rw[if_pos c5] at H;have t:=decide_eq_true c5;clear c5;obtain⟨I,H⟩:=dn H;obtain⟨J,H⟩:=dn H;obtain⟨n,Ny192,H⟩:=nm H;obtain⟨c8,H⟩:=ifn H;have K:=eq_true c8;have O:=decide_eq_true c8
    try have U:(9223372036854775807<(strOfNums n).size+(rdOf ByteArray.empty g c).size)=False:=eq_false (Nat.not_lt.2 c8)
    obtain⟨c9,H⟩:=ifn H;have V:=eq_true c9;have W:=decide_eq_true c9
    try have X:(9223372036854775807<i.size+((strOfNums n)++(rdOf ByteArray.empty g c)).size)=False:=eq_false (Nat.not_lt.2 c9)
    have H':=AM H;clear H;have o:0≤(c:Int):=TD;have p:c<(g.length:Int):=TD;obtain⟨B,u,v⟩:=Kd.bB_ (Kd.ag_ j.out).2.2 c o p;cases u;replace o:=eq_true o;replace p:=eq_true p;go_wp2_with (first|((with_reducible refine ax_ (N:=23) rfl ?_);refine Kd.R_lit (Kd.int .u8) _ 5 ?hg (N:=23) ?hd (xs:=([(((rdOf ByteArray.empty g c).size:Int)) % 256]:List Int)) (inner:=[.int .u8 ((((rdOf ByteArray.empty g c).size:Int)) % 256)]) (ok:=fun _=>True) (okp:=fun _=>True) ?hr ?hp (fun _ hk=>hk) trivial (Below.refl _ _) (Nat.le_refl _) (by simp) ?_;(case hd=>rfl);(case hg=>rfl);(case hr=>first|(go_simp;done)|(go_simp;rfl));(case hp=>exact(Reps.one (show Kd.M (Kd.int .u8) _ _ _ ((((rdOf ByteArray.empty g c).size:Int)) % 256) [.int .u8 ((((rdOf ByteArray.empty g c).size:Int)) % 256)] from rfl) (Reps.none _ _)));intro Y Z l hb hg_ hnew_;clear hg_ hnew_;(first|rw[←Ny192.out] at l|(simp only[Int.reduceToNat] at l;rw[←Ny192.out] at l));replace j:=RB j hb;have q:=RL l;replace HB:=BS hb;clear hb l;have hcv12:=own_string (P:=Tryz.prog) Tryz.underlying96 Tryz.underlying5 Tryz.underlying9 (Kd.own_of_R q.out)));go_roundg k1
    case measure=>exact TM
    case rel=>exact⟨(i++((strOfNums n)++(rdOf ByteArray.empty g c))),(wrap64 (c+1)),TF,TF,H',⟨TM⟩,RW j,⟨TB⟩⟩
   ·rw[if_neg c5] at H;have t:=decide_eq_false c5;clear c5;obtain⟨s,H⟩:=ifn H;have C:=eq_true s;have D:=decide_eq_true s
    try have E:(9223372036854775807<i.size+1)=False:=eq_false (Nat.not_lt.2 s)
    obtain rfl:=Option.some.inj H;go_wp2;go_ret;exact⟨TE,TB⟩
end
section
mutual
def al_.l0:Nat→ByteArray→List ByteArray→List ByteArray→Int→Int→Option (ByteArray × Bool)
 | 0,_,_,_,_,_=>none
 | k+1,x6,x7,i,j,c=>if c<j then(if 0≤c then(if c<(i.length:Int) then((bj_.f k (rdOf ByteArray.empty i c)).bind fun g=>((bY_.f g 0 255).bind fun l=>(if l=true then((aO_.f k g 1).bind fun h=>(if x6.size+h.size≤9223372036854775807 then(al_.l0 k (x6++h) x7 i j (wrap64 (c+1))) else(none))) else(some ((⟨#[]⟩:ByteArray),false))))) else(none)) else(none)) else(some (x6,((x7.length:Int)==4)))
def al_.j1:Nat→ByteArray→Int→Bool→Option (ByteArray × Bool)
 | 0,_,_,_=>none
 | k+1,x1,h,q=>if q=true then((bE_.f k x1).bind fun i=>(if i=true then((b9_.f k x1).bind fun j=>(some (j,true))) else(some ((⟨#[]⟩:ByteArray),false)))) else(if h=6 then((bj_.f k x1).bind fun g=>((aO_.f k g 4).bind fun l=>((bY_.f g 0 4294967295).bind fun m=>(some (l,m))))) else(if h=15 then((bv_.f k x1 32).bind fun c=>(if (c.length:Int)=2 then(if 0<(c.length:Int) then((bj_.f k (rdOf ByteArray.empty c 0)).bind fun n=>((bY_.f n 0 65535).bind fun o=>(if o=true then(if 1<(c.length:Int) then((bE_.f k (rdOf ByteArray.empty c 1)).bind fun p=>(al_.j2 k c (!p))) else(none)) else(al_.j2 k c true)))) else(none)) else(al_.j2 k c true))) else(if h=16 then(al_.l1 k x1 0) else(some ((⟨#[]⟩:ByteArray),false)))))
def al_.j2:Nat→List ByteArray→Bool→Option (ByteArray × Bool)
 | 0,_,_=>none
 | k+1,c,j=>if j=true then(some ((⟨#[]⟩:ByteArray),false)) else(if 0<(c.length:Int) then((bj_.f k (rdOf ByteArray.empty c 0)).bind fun i=>((aO_.f k i 2).bind fun g=>(if 1<(c.length:Int) then((b9_.f k (rdOf ByteArray.empty c 1)).bind fun h=>(if g.size+h.size≤9223372036854775807 then(some (g++h,true)) else(none))) else(none)))) else(none))
def al_.l1:Nat→ByteArray→Int→Option (ByteArray × Bool)
 | 0,_,_=>none
 | k+1,x1,c=>if c<(x1.size:Int) then(if 0≤c then(if (bt x1 c)<32 then(some ((⟨#[]⟩:ByteArray),false)) else(if (bt x1 c) > 126 then(some ((⟨#[]⟩:ByteArray),false)) else(al_.l1 k x1 (wrap64 (c+1))))) else(none)) else((some (([((x1.size:Int)) % 256]:List Int):List Int)).bind fun f=>(if (strOfNums f).size+x1.size≤9223372036854775807 then(some ((strOfNums f)++x1,decide ((x1.size:Int)≤30))) else(none)))
end
def al_.f (k:Nat) (a0:Int) (a1:ByteArray):Option (ByteArray × Bool):=if a0=1 then((bv_.f k a1 46).bind fun t195=>(al_.l0 k (⟨#[]⟩:ByteArray) t195 t195 (t195.length:Int) 0)) else(if a0=2 then(al_.j1 k a1 a0 (a0==2)) else(al_.j1 k a1 a0 (a0==5)))
def al_.T26:Bool × List (List Nat × List Nat):=(true,[([],[]),([0],[0]),([1],[1]),([2],[2]),([3,3],[3]),([],[]),([5],[5]),([6],[6]),([7,4],[7]),([4,8],[4,8]),([9,8,0,1,2,3,4,5,6,7,8,9],[9]),([10,0,1,2,3,4,5,6,7,8,9,10],[])])
def al_.B26:List Nat:=[0,1,3,7,15,0,32,96,255,511,1023,2047]
theorem al_.tab26:rtab .any (opsOf Tryz.f105 26)=al_.T26:=by kernel_rfl
theorem al_.bits26:waitsOk al_.T26.2 al_.B26=true:=by kernel_rfl
theorem al_.calls (k:Nat) (a0:Int) (a1:ByteArray) (r1:ByteArray) (r2:Bool) (w:World) (h:al_.f k a0 a1=some (r1,r2)) :
  Calls Tryz.prog 105 #[.int .i64 a0,.string a1] w fun e w'=>e=.returned (.tuple #[.string r1,.bool r2])∧Below w.heap.size w w':=by
 have HB:=BZ w;have H:=h;clear h;unfold al_.f at H;by_cases c3:a0=1
 ·replace H:=qP c3 H;obtain⟨aV,aW,H⟩:=H;clear c3;obtain⟨m,A4,H⟩:=bnd H;have H':=AM H;clear H;go_enter Tryz.func105,Tryz.ntmps105;go_wp2_with (first|(refine gL 18 rfl Tryz.func103 #[.string a1,.int .u8 46] rfl TA ?_;(with_reducible refine(bv_.calls _ _ _ _ _ A4.out).mono ?_);rintro e w5 ⟨b1,rfl,az,hb⟩;refine⟨_,rfl,?_⟩;have J:=RL az;replace HB:=BS hb;clear hb;obtain⟨aX,aY,eo6⟩:=Kd.ap_ J.out;subst eo6));go_loopg [6,21] k (fun kq v6 bp w'=>∃(D:ByteArray) (i:Int),v6=.string D∧bp=.int .i64 i∧Aside0 (al_.l0 kq D m m (m.length:Int) i=some (r1,r2))∧Aside0 (kq≤k)∧Aside0 (Kd.R Kd.string 9 w' w.heap.size (fun _=>True) (.slice aX m.length aY) m)∧Aside0 (Kd.R Kd.string 9 w' w.heap.size (fun _=>True) (.slice aX m.length aY) m)∧Aside0 (Below w.heap.size w w'))
  case atStart=>exact⟨((⟨#[]⟩:ByteArray)),(0),TF,TF,H',NL,RW J,RW J,⟨TB⟩⟩
  case round =>
   clear H';obtain⟨D,i,rfl,rfl,HA,HK1,Y,u,HB⟩:=hrel
   cases gk with
   | zero=>exact absurd HA.out (by simp[al_.l0])
   | succ k1 =>
    have H:=HA.out;clear HA;simp only[al_.l0] at H;by_cases c7:i<(m.length:Int)
    ·rw[if_pos c7] at H;have aZ:=decide_eq_true c7;clear c7;obtain⟨b2,H⟩:=dn H;obtain⟨b3,H⟩:=dn H;obtain⟨Z,a2,H⟩:=bnd H;obtain⟨a3,a4,H⟩:=bnd H;by_cases ap:a3=true
     ·subst ap;replace H:=ift H;obtain⟨aw,bq,H⟩:=bnd H;obtain⟨aA,H⟩:=ifn H;have br:=eq_true aA;have bs:=decide_eq_true aA
      try have bu:(9223372036854775807<D.size+aw.size)=False:=eq_false (Nat.not_lt.2 aA)
      have H':=AM H;clear H;have v:0≤(i:Int):=TD;have x:i<(m.length:Int):=TD;obtain⟨aB,aa,ab⟩:=Kd.bB_ (Kd.ag_ u.out).2.2 i v x;cases aa;replace v:=eq_true v;replace x:=eq_true x;go_wp2_with (first|(refine gL 26 rfl Tryz.func129 #[.string (rdOf ByteArray.empty m i)] rfl TA ?_;(with_reducible refine(bj_.calls _ _ _ _ a2.out).mono ?_);rintro e w' ⟨rfl,⟨nd,rfl⟩⟩;refine⟨_,rfl,?_⟩)|(refine gL 28 rfl Tryz.func37 #[.int .i64 Z,.int .i64 0,.int .i64 255] rfl TA ?_;(with_reducible refine(bY_.calls _ _ _ _ _ a4.out).mono ?_);rintro e w' ⟨rfl,⟨nd,rfl⟩⟩;refine⟨_,rfl,?_⟩)|(refine gL 32 rfl Tryz.func130 #[.int .i64 Z,.int .i64 1] rfl TA ?_;(with_reducible refine(aO_.calls _ _ _ _ _ bq.out).mono ?_);rintro e ci ⟨rfl,hb⟩;refine⟨_,rfl,?_⟩;replace Y:=RB Y hb;replace u:=RB u hb;replace HB:=BS hb;clear hb));go_roundg k1
      case measure=>exact TM
      case rel=>exact⟨(D++aw),(wrap64 (i+1)),TF,TF,H',⟨TM⟩,RW Y,RW u,⟨TB⟩⟩
     ·replace ap:=Bool.eq_false_iff.mpr ap;subst ap;replace H:=iff' H;simp only[Option.some.injEq,Prod.mk.injEq] at H;obtain⟨rfl,rfl⟩:=H;have v:0≤(i:Int):=TD;have x:i<(m.length:Int):=TD;obtain⟨aB,aa,ab⟩:=Kd.bB_ (Kd.ag_ u.out).2.2 i v x;cases aa;replace v:=eq_true v;replace x:=eq_true x;go_wp2_with (first|(refine gL 26 rfl Tryz.func129 #[.string (rdOf ByteArray.empty m i)] rfl TA ?_;(with_reducible refine(bj_.calls _ _ _ _ a2.out).mono ?_);rintro e w' ⟨rfl,⟨nd,rfl⟩⟩;refine⟨_,rfl,?_⟩)|(refine gL 28 rfl Tryz.func37 #[.int .i64 Z,.int .i64 0,.int .i64 255] rfl TA ?_;(with_reducible refine(bY_.calls _ _ _ _ _ a4.out).mono ?_);rintro e w' ⟨rfl,⟨nd,rfl⟩⟩;refine⟨_,rfl,?_⟩));go_ret2;exact⟨TE,TB⟩
    ·rw[if_neg c7] at H;have aZ:=decide_eq_false c7;clear c7;simp only[Option.some.injEq,Prod.mk.injEq] at H;obtain⟨rfl,rfl⟩:=H;go_wp2;go_ret2;exact⟨TE,TB⟩
 ·replace H:=qN c3 H;obtain⟨aV,aW,H⟩:=H;have ac:=AM H;clear H;go_enter Tryz.func105,Tryz.ntmps105
  go_upto_if 39 with (fail)
  go_cut [39] (fun bv wc=>∃(kq:Nat) (s:Bool),bv=.bool s∧Aside0 (al_.j1 kq a1 a0 s=some (r1,r2))∧Aside0 (kq≤k)∧Aside0 (Below w.heap.size w wc))
  case first =>
   have H:=ac.out;clear ac;by_cases aC:a0=2
   ·replace H:=qP aC H;obtain⟨y,O,H⟩:=H;clear aC;(first|rw[y]|(simp only[b6_,i32_w];rw[y])|rw[O]|skip);have H':=AM H;clear H;go_wp2;go_meet
    case rel=>exact⟨_,((a0==2)),TF,H',⟨by first|omega|exact Nat.le_refl _⟩,⟨TB⟩⟩
   ·replace H:=qN aC H;obtain⟨y,O,H⟩:=H;(first|rw[y]|(simp only[b6_,i32_w];rw[y])|rw[O]|skip);have H':=AM H;clear H;go_wp2;go_meet
    case rel=>exact⟨_,((a0==5)),TF,H',⟨by first|omega|exact Nat.le_refl _⟩,⟨TB⟩⟩
  case rest =>
   clear ac;obtain⟨kq,s,rfl,HA,HJ15,HB⟩:=hcut
   cases kq with
   | zero=>exact absurd HA.out (by simp[al_.j1])
   | succ ad =>
    have H:=HA.out;clear HA;simp only[al_.j1] at H;by_cases aq:s=true
    ·subst aq;replace H:=ift H;obtain⟨a5,a6,H⟩:=bnd H;by_cases ar:a5=true
     ·subst ar;replace H:=ift H;obtain⟨b4,bw,H⟩:=bnd H;simp only[Option.some.injEq,Prod.mk.injEq] at H;obtain⟨rfl,rfl⟩:=H;go_wp2_with (first|(refine gL 43 rfl Tryz.func131 #[.string a1] rfl TA ?_;(with_reducible refine(bE_.calls _ _ _ _ a6.out).mono ?_);rintro e cj ⟨rfl,hb⟩;refine⟨_,rfl,?_⟩;replace HB:=BS hb;clear hb)|(refine gL 46 rfl Tryz.func132 #[.string a1] rfl TA ?_;(with_reducible refine(b9_.calls _ _ _ _ bw.out).mono ?_);rintro e ck ⟨rfl,hb⟩;refine⟨_,rfl,?_⟩;replace HB:=BS hb;clear hb));go_ret2;exact⟨TE,TB⟩
     ·replace ar:=Bool.eq_false_iff.mpr ar;subst ar;replace H:=iff' H;simp only[Option.some.injEq,Prod.mk.injEq] at H;obtain⟨rfl,rfl⟩:=H;go_wp2_with (first|(refine gL 43 rfl Tryz.func131 #[.string a1] rfl TA ?_;(with_reducible refine(bE_.calls _ _ _ _ a6.out).mono ?_);rintro e cl ⟨rfl,hb⟩;refine⟨_,rfl,?_⟩;replace HB:=BS hb;clear hb));go_ret2;exact⟨TE,TB⟩
    ·replace aq:=Bool.eq_false_iff.mpr aq;subst aq;replace H:=iff' H;by_cases aD:a0=6
     ·replace H:=qP aD H;obtain⟨aE,aF,H⟩:=H;clear aD;obtain⟨ax,bx,H⟩:=bnd H;obtain⟨b5,bz,H⟩:=bnd H;obtain⟨b6,bA,H⟩:=bnd H;simp only[Option.some.injEq,Prod.mk.injEq] at H;obtain⟨rfl,rfl⟩:=H;go_wp2_with (first|(refine gL 50 rfl Tryz.func129 #[.string a1] rfl TA ?_;(with_reducible refine(bj_.calls _ _ _ _ bx.out).mono ?_);rintro e w' ⟨rfl,⟨nd,rfl⟩⟩;refine⟨_,rfl,?_⟩)|(refine gL 52 rfl Tryz.func130 #[.int .i64 ax,.int .i64 4] rfl TA ?_;(with_reducible refine(aO_.calls _ _ _ _ _ bz.out).mono ?_);rintro e cm ⟨rfl,hb⟩;refine⟨_,rfl,?_⟩;replace HB:=BS hb;clear hb)|(refine gL 54 rfl Tryz.func37 #[.int .i64 ax,.int .i64 0,.int .i64 4294967295] rfl TA ?_;(with_reducible refine(bY_.calls _ _ _ _ _ bA.out).mono ?_);rintro e w' ⟨rfl,⟨nd,rfl⟩⟩;refine⟨_,rfl,?_⟩));go_ret2;exact⟨TE,TB⟩
     ·replace H:=qN aD H;obtain⟨aE,aF,H⟩:=H;by_cases aG:a0=15
      ·replace H:=qP aG H;obtain⟨aH,aI,H⟩:=H;clear aG;obtain⟨g,bB,H⟩:=bnd H;have ae:=AM H;clear H
       go_upto_region 24 with (first|(refine gL 58 rfl Tryz.func103 #[.string a1,.int .u8 32] rfl TA ?_;(with_reducible refine(bv_.calls _ _ _ _ _ bB.out).mono ?_);rintro e cn ⟨a7,rfl,az,hb⟩;refine⟨_,rfl,?_⟩;have j:=RL az;replace HB:=BS hb;clear hb))
       (try simp only[Act.put,List.setIfInBounds_toArray,List.set_cons_zero,List.set_cons_succ]);go_cut [76] (fun bC wc=>∃(kq:Nat) (t:Bool),bC=.bool t∧Aside0 (al_.j2 kq g t=some (r1,r2))∧Aside0 (kq≤ad)∧Aside0 (Kd.R Kd.string 9 wc w.heap.size (fun _=>True) a7 g)∧Aside0 (Below w.heap.size w wc))
       case first =>
        have H:=ae.out;clear ae;by_cases aJ:(g.length:Int)=2
        ·replace H:=qP aJ H;obtain⟨z,U,H⟩:=H;clear aJ;(first|rw[z]|(simp only[b6_,i32_w];rw[z])|rw[U]|skip);obtain⟨a8,H⟩:=ifn H;have bD:=decide_eq_true a8;have bF:decide (0<g.length)=true:=decide_eq_true (by omega);clear a8;obtain⟨b7,a9,H⟩:=bnd H;obtain⟨ba,bb,H⟩:=bnd H;by_cases au:ba=true
         ·subst au;replace H:=ift H;obtain⟨bd,H⟩:=ifn H;have bH:=decide_eq_true bd;have bI:decide (1<g.length)=true:=decide_eq_true (by omega);clear bd;obtain⟨be,bJ,H⟩:=bnd H;have H':=AM H;clear H;obtain⟨b8,b9,eo41⟩:=Kd.ap_ j.out;subst eo41;have A:0≤(0:Int):=(by omega);have B:0<(g.length:Int):=TD;obtain⟨af,ag,o⟩:=Kd.bB_ (Kd.ag_ j.out).2.2 0 A B;cases ag;have qi210:(0<g.length)=True:=eq_true (by omega);(try rw[show((0:Int)).toNat=0 from rfl] at o);(try rw[Addr.add_zero'] at o);replace A:=eq_true A;replace B:=eq_true B;go_wp2_with (first|(go_at_call 129;(with_reducible refine(bj_.calls _ _ _ _ a9.out).mono ?_);rintro e w' ⟨rfl,⟨nd,rfl⟩⟩)|(go_at_call 37;(with_reducible refine(bY_.calls _ _ _ _ _ bb.out).mono ?_);rintro e w' ⟨rfl,⟨nd,rfl⟩⟩;have ah:0≤(1:Int):=(by omega);have ai:1<(g.length:Int):=TD;obtain⟨aK,bf,E⟩:=Kd.bB_ (Kd.ag_ j.out).2.2 1 ah ai;obtain rfl:af=aK:=(by injection bf);(try simp only[show(1:Int).toNat=1 from rfl,Nat.reduceMul,Nat.reduceEqDiff,Go.Addr.add,↓reduceIte] at E);have qi213:(1<g.length)=True:=eq_true (by omega);(try rw[show((1:Int)).toNat=1 from rfl] at E);replace ah:=eq_true ah;replace ai:=eq_true ai)|(go_at_call 131;(with_reducible refine(bE_.calls _ _ _ _ bJ.out).mono ?_);rintro e co ⟨rfl,hb⟩;replace j:=RB j hb;replace HB:=BS hb;clear hb));go_meet
          case rel=>exact⟨_,(!be),TF,H',⟨by have:=HJ15.out;first|omega|exact Nat.le_refl _⟩,RW j,⟨TB⟩⟩
         ·replace au:=Bool.eq_false_iff.mpr au;subst au;replace H:=iff' H;have H':=AM H;clear H;obtain⟨ca,cb,eo43⟩:=Kd.ap_ j.out;subst eo43;have A:0≤(0:Int):=(by omega);have B:0<(g.length:Int):=TD;obtain⟨af,ag,o⟩:=Kd.bB_ (Kd.ag_ j.out).2.2 0 A B;cases ag;have qi210:(0<g.length)=True:=eq_true (by omega);(try rw[show((0:Int)).toNat=0 from rfl] at o);(try rw[Addr.add_zero'] at o);replace A:=eq_true A;replace B:=eq_true B;go_wp2_with (first|(go_at_call 129;(with_reducible refine(bj_.calls _ _ _ _ a9.out).mono ?_);rintro e w' ⟨rfl,⟨nd,rfl⟩⟩)|(go_at_call 37;(with_reducible refine(bY_.calls _ _ _ _ _ bb.out).mono ?_);rintro e w' ⟨rfl,⟨nd,rfl⟩⟩));go_meet
          case rel=>exact⟨_,(true),TF,H',⟨by have:=HJ15.out;first|omega|exact Nat.le_refl _⟩,RW j,⟨TB⟩⟩
        ·replace H:=qN aJ H;obtain⟨z,U,H⟩:=H;(first|rw[z]|(simp only[b6_,i32_w];rw[z])|rw[U]|skip);have H':=AM H;clear H;obtain⟨cc,cd,eo44⟩:=Kd.ap_ j.out;subst eo44;go_wp2;go_meet
         case rel=>exact⟨_,(true),TF,H',⟨by have:=HJ15.out;first|omega|exact Nat.le_refl _⟩,RW j,⟨TB⟩⟩
       case rest =>
        clear ae;obtain⟨kq,t,rfl,HA,HJ31,l,HB⟩:=hcut
        cases kq with
        | zero=>exact absurd HA.out (by simp[al_.j2])
        | succ ce =>
         have H:=HA.out;clear HA;simp only[al_.j2] at H;by_cases av:t=true
         ·subst av;replace H:=ift H;simp only[Option.some.injEq,Prod.mk.injEq] at H;obtain⟨rfl,rfl⟩:=H;go_wp2;go_ret2;exact⟨TE,TB⟩
         ·replace av:=Bool.eq_false_iff.mpr av;subst av;replace H:=iff' H;obtain⟨bg,H⟩:=ifn H;have bK:=decide_eq_true bg;have bL:decide (0<g.length)=true:=decide_eq_true (by omega);clear bg;obtain⟨bh,bO,H⟩:=bnd H;obtain⟨bi,bP,H⟩:=bnd H;obtain⟨bj,H⟩:=ifn H;have bQ:=decide_eq_true bj;have bR:decide (1<g.length)=true:=decide_eq_true (by omega);clear bj;obtain⟨bk,bS,H⟩:=bnd H;obtain⟨aL,H⟩:=ifn H;have bT:=eq_true aL;have bU:=decide_eq_true aL
          try have bV:(9223372036854775807<bi.size+bk.size)=False:=eq_false (Nat.not_lt.2 aL)
          simp only[Option.some.injEq,Prod.mk.injEq] at H;obtain⟨rfl,rfl⟩:=H
          try go_wp2
          replace l:=AM (Kd.bC_ l.out);replace HB:=AM (ar_ HB.out);obtain⟨cf,cg,eo53⟩:=Kd.ap_ l.out;(first|subst eo53|(injection eo53 with f1_ f2_ f3_;have f4_:=f1_.symm;have f5_:=f3_.symm;clear f1_ f2_ f3_;subst f4_;subst f5_));have aj:0≤(0:Int):=(by omega);have ak:0<(g.length:Int):=TD;obtain⟨C,bl,p⟩:=Kd.bB_ (Kd.ag_ l.out).2.2 0 aj ak;cases bl;have qi215:(0<g.length)=True:=eq_true (by omega);(try rw[show((0:Int)).toNat=0 from rfl] at p);(try rw[Addr.add_zero'] at p);replace aj:=eq_true aj;replace ak:=eq_true ak;have al:0≤(1:Int):=(by omega);have am:1<(g.length:Int):=TD;obtain⟨aM,bm,q⟩:=Kd.bB_ (Kd.ag_ l.out).2.2 1 al am;obtain rfl:C=aM:=(by injection bm);(try simp only[show(1:Int).toNat=1 from rfl,Nat.reduceMul,Nat.reduceEqDiff,Go.Addr.add,↓reduceIte] at q);have qi218:(1<g.length)=True:=eq_true (by omega);(try rw[show((1:Int)).toNat=1 from rfl] at q);replace al:=eq_true al;replace am:=eq_true am;refine start_ (n:=12) (S:=fun w'=>w'.cell? C=some (.string (rdOf ByteArray.empty g 0))∧w'.cell? ⟨C.block,C.off+1,none⟩=some (.string (rdOf ByteArray.empty g 1))) (ds:=[]) (mL 12 0) KR rfl KR ⟨p,q⟩ (fun hHeld=>?_);refine bg_ al_.tab26 al_.bits26 (fun HT_ HW_=>?_);generalize wc.drew=cp at l HB p q hHeld ⊢;refine pB 0 rfl rfl ?_;refine pB 1 rfl rfl ?_;refine pB 5 rfl rfl ?_;refine pB 6 rfl rfl ?_;refine tB 2 hHeld rfl rfl ?_;refine tB 7 hHeld rfl rfl ?_
          refine oB 3 rfl rfl fun K hK=>?_
          refine gB Tryz.func129 #[.string (rdOf ByteArray.empty g 0)] rfl rfl ?_
          with_reducible refine(bj_.calls _ _ _ _ bO.out).mono ?_
          rintro e w' ⟨rfl,⟨nd,rfl⟩⟩;refine⟨_,rfl,?_⟩;refine hK.out _ _ ⟨hHeld.1,hHeld.2⟩ (fun hHeld=>?_);clear hK K;refine nA ?_
          refine oB 4 rfl rfl fun K hK=>?_
          refine gB Tryz.func130 #[.int .i64 bh,.int .i64 2] rfl rfl ?_
          with_reducible refine(aO_.calls _ _ _ _ _ bP.out).mono ?_
          rintro e cq ⟨rfl,hb⟩;have HS0_:=hS hb (hHeld.1);have HS1_:=hS hb (hHeld.2);refine⟨_,rfl,?_⟩;replace l:=RB l hb;replace HB:=BS hb;clear hb;refine hK.out _ _ ⟨HS0_,HS1_⟩ (fun hHeld=>?_);clear hK K;refine nA ?_
          refine oB 8 rfl rfl fun K hK=>?_
          refine gB Tryz.func132 #[.string (rdOf ByteArray.empty g 1)] rfl rfl ?_
          with_reducible refine(b9_.calls _ _ _ _ bS.out).mono ?_
          rintro e cr ⟨rfl,hb⟩;have HS0_:=hS hb (hHeld.1);have HS1_:=hS hb (hHeld.2);refine⟨_,rfl,?_⟩;replace l:=RB l hb;replace HB:=BS hb;clear hb;refine hK.out _ _ ⟨HS0_,HS1_⟩ (fun hHeld=>?_);clear hK K;refine nA ?_;refine pB 9 rfl rfl ?_;refine pB 10 rfl rfl ?_;refine pB 11 rfl rfl ?_;refine done_ (bz_ HT_.out KR) ?_
          try go_wp2
          go_ret2;exact⟨TE,TB⟩
      ·replace H:=qN aG H;obtain⟨aH,aI,H⟩:=H;by_cases aN:a0=16
       ·replace H:=qP aN H;obtain⟨aO,aP,H⟩:=H;clear aN;have H':=AM H;clear H;go_wp2;go_loopg [13] ad (fun kq bW w'=>∃(c:Int),bW=.int .i64 c∧Aside0 (al_.l1 kq a1 c=some (r1,r2))∧Aside0 (kq≤ad)∧Aside0 (Below w.heap.size w w'))
        case atStart=>exact⟨(0),TF,H',NL,⟨TB⟩⟩
        case round =>
         clear H';obtain⟨c,rfl,HA,HK2,HB⟩:=hrel
         cases gk with
         | zero=>exact absurd HA.out (by simp[al_.l1])
         | succ k2 =>
          have H:=HA.out;clear HA;simp only[al_.l1] at H;by_cases V:c<(a1.size:Int)
          ·rw[if_pos V] at H;have aQ:=decide_eq_true V;clear V;obtain⟨bX,H⟩:=dn H;by_cases W:(bt a1 c)<32
           ·rw[if_pos W] at H;have aR:=decide_eq_true W;clear W;simp only[Option.some.injEq,Prod.mk.injEq] at H;obtain⟨rfl,rfl⟩:=H;have F:0≤(c:Int):=TD;have G:c<(a1.size:Int):=TD;have ay:=cB_ a1 c;replace F:=eq_true F;replace G:=eq_true G;go_wp2;go_ret2;exact⟨TE,TB⟩
           ·rw[if_neg W] at H;have aR:=decide_eq_false W;clear W;by_cases X:(bt a1 c) > 126
            ·rw[if_pos X] at H;have aS:=decide_eq_true X;clear X;simp only[Option.some.injEq,Prod.mk.injEq] at H;obtain⟨rfl,rfl⟩:=H;have F:0≤(c:Int):=TD;have G:c<(a1.size:Int):=TD;have ay:=cB_ a1 c;replace F:=eq_true F;replace G:=eq_true G;have an:0≤(c:Int):=TD;have ao:c<(a1.size:Int):=TD;have bn:=cB_ a1 c;replace an:=eq_true an;replace ao:=eq_true ao;go_wp2;go_ret2;exact⟨TE,TB⟩
            ·rw[if_neg X] at H;have aS:=decide_eq_false X;clear X;have H':=AM H;clear H;have F:0≤(c:Int):=TD;have G:c<(a1.size:Int):=TD;have ay:=cB_ a1 c;replace F:=eq_true F;replace G:=eq_true G;have an:0≤(c:Int):=TD;have ao:c<(a1.size:Int):=TD;have bn:=cB_ a1 c;replace an:=eq_true an;replace ao:=eq_true ao;go_wp2;go_roundg k2
             case measure=>have:=HJ15.out;have:=HK2.out;omega
             case rel=>exact⟨(wrap64 (c+1)),TF,H',⟨by have:=HJ15.out;have:=HK2.out;omega⟩,⟨TB⟩⟩
          ·rw[if_neg V] at H;have aQ:=decide_eq_false V;clear V;obtain⟨bo,Ny220,H⟩:=nm H;obtain⟨aT,H⟩:=ifn H;have bY:=eq_true aT;have bZ:=decide_eq_true aT
           try have b0:(9223372036854775807<(strOfNums bo).size+a1.size)=False:=eq_false (Nat.not_lt.2 aT)
           simp only[Option.some.injEq,Prod.mk.injEq] at H;obtain⟨rfl,rfl⟩:=H;go_wp2_with (first|((with_reducible refine ax_ (N:=108) rfl ?_);refine Kd.R_lit (Kd.int .u8) _ 5 ?hg (N:=108) ?hd (xs:=([((a1.size:Int)) % 256]:List Int)) (inner:=[.int .u8 (((a1.size:Int)) % 256)]) (ok:=fun _=>True) (okp:=fun _=>True) ?hr ?hp (fun _ hk=>hk) trivial (Below.refl _ _) (Nat.le_refl _) (by simp) ?_;(case hd=>rfl);(case hg=>rfl);(case hr=>first|(go_simp;done)|(go_simp;rfl));(case hp=>exact(Reps.one (show Kd.M (Kd.int .u8) _ _ _ (((a1.size:Int)) % 256) [.int .u8 (((a1.size:Int)) % 256)] from rfl) (Reps.none _ _)));intro ch w64 I hb hg_ hnew_;clear hg_ hnew_;(first|rw[←Ny220.out] at I|(simp only[Int.reduceToNat] at I;rw[←Ny220.out] at I));have aU:=RL I;replace HB:=BS hb;clear hb I;have hcv66:=own_string (P:=Tryz.prog) Tryz.underlying96 Tryz.underlying5 Tryz.underlying9 (Kd.own_of_R aU.out)));go_ret2;exact⟨TE,TB⟩
       ·replace H:=qN aN H;obtain⟨aO,aP,H⟩:=H;simp only[Option.some.injEq,Prod.mk.injEq] at H;obtain⟨rfl,rfl⟩:=H;go_wp2;go_ret2;exact⟨TE,TB⟩
end
section
def spec_GoodName.f (k:Nat) (a0:ByteArray):Option (Bool):=(bo_.f k a0).bind fun bt223=>(some bt223.2)
theorem spec_GoodName.calls (k:Nat) (a0:ByteArray) (r:Bool) (w:World) (h:spec_GoodName.f k a0=some r) :
  Calls Tryz.prog 106 #[.string a0] w fun e w'=>e=.returned (.bool r)∧Below w.heap.size w w':=by
 have HB:=BZ w;have H:((bo_.f k a0).bind fun bt223=>(some bt223.2))=some r:=h;clear h;obtain⟨⟨i,j⟩,A2,H⟩:=bnd H
 try dsimp only at H
 obtain rfl:=Option.some.inj H;go_enter Tryz.func106,Tryz.ntmps106;go_wp2_with (first|(refine gL 7 rfl Tryz.func83 #[.string a0] rfl TA ?_;(with_reducible refine(bo_.calls _ _ _ _ _ A2.out).mono ?_);rintro e w3 ⟨l,rfl,c,hb⟩;refine⟨_,rfl,?_⟩;have g:=RL c;replace HB:=BS hb;clear hb));go_ret;exact⟨TE,TB⟩
end
section
def cP_.f (k:Nat) (a0_0:ByteArray) (a0_1:Int) (a0_2:Int) (a0_3:ByteArray):Option (Bool):=(al_.f k a0_1 a0_3).bind fun bt228=>(if bt228.2=true then((spec_GoodName.f k a0_0).bind fun t230=>(if t230=true then((bY_.f a0_2 0 100000).bind fun t231=>(some t231)) else(some false))) else(some false))
theorem cP_.calls (k:Nat) (j:ByteArray) (g:Int) (l:Int) (i:ByteArray) (r:Bool) (w:World) (h:cP_.f k j g l i=some r) :
  Calls Tryz.prog 84 #[.agg #[.string j,.int .i64 g,.int .i64 l,.string i]] w fun e w'=>e=.returned (.bool r)∧Below w.heap.size w w':=by
 have hu71:=Tryz.underlying71;have HB:=BZ w;have H:=h;clear h;unfold cP_.f at H;obtain⟨⟨v,n⟩,A2,H⟩:=bnd H
 try dsimp only at H
 by_cases c3:n=true
 ·subst c3;replace H:=ift H;obtain⟨o,A4,H⟩:=bnd H;by_cases c5:o=true
  ·subst c5;replace H:=ift H;obtain⟨x,A6,H⟩:=bnd H;obtain rfl:=Option.some.inj H;go_enter Tryz.func84,Tryz.ntmps84;go_wp2_with (first|(refine gD 1 rfl ?_;refine bE 1 #[.string j,.int .i64 g,.int .i64 l,.string i] 71 ?_;intro m hg w7 hbox hb;have c:=AM (hbox);replace HB:=BS hb;clear hb hbox hg;have y:=cz4 c)|(refine gL 10 rfl Tryz.func105 #[.int .i64 g,.string i] rfl TA ?_;(with_reducible refine(al_.calls _ _ _ _ _ _ A2.out).mono ?_);rintro e w9 ⟨rfl,hb⟩;refine⟨_,rfl,?_⟩;replace c:=KB c hb;replace HB:=BS hb;clear hb;have p:=cz4 c)|(go_at_call 106;(with_reducible refine(spec_GoodName.calls _ _ _ _ A4.out).mono ?_);rintro e z ⟨rfl,hb⟩;replace c:=KB c hb;replace HB:=BS hb;clear hb;have q:=cz4 c)|(go_at_call 37;(with_reducible refine(bY_.calls _ _ _ _ _ A6.out).mono ?_);rintro e w' ⟨rfl,⟨nd,rfl⟩⟩));go_ret;exact⟨TE,TB⟩
  ·replace c5:=Bool.eq_false_iff.mpr c5;subst c5;replace H:=iff' H;obtain rfl:=Option.some.inj H;go_enter Tryz.func84,Tryz.ntmps84;go_wp2_with (first|(refine gD 1 rfl ?_;refine bE 1 #[.string j,.int .i64 g,.int .i64 l,.string i] 71 ?_;intro m hg A hbox hb;have c:=AM (hbox);replace HB:=BS hb;clear hb hbox hg;have s:=cz4 c)|(refine gL 10 rfl Tryz.func105 #[.int .i64 g,.string i] rfl TA ?_;(with_reducible refine(al_.calls _ _ _ _ _ _ A2.out).mono ?_);rintro e B ⟨rfl,hb⟩;refine⟨_,rfl,?_⟩;replace c:=KB c hb;replace HB:=BS hb;clear hb;have t:=cz4 c)|(go_at_call 106;(with_reducible refine(spec_GoodName.calls _ _ _ _ A4.out).mono ?_);rintro e C ⟨rfl,hb⟩;replace c:=KB c hb;replace HB:=BS hb;clear hb));go_ret;exact⟨TE,TB⟩
 ·replace c3:=Bool.eq_false_iff.mpr c3;subst c3;replace H:=iff' H;obtain rfl:=Option.some.inj H;go_enter Tryz.func84,Tryz.ntmps84;go_wp2_with (first|(refine gD 1 rfl ?_;refine bE 1 #[.string j,.int .i64 g,.int .i64 l,.string i] 71 ?_;intro m hg D hbox hb;have c:=AM (hbox);replace HB:=BS hb;clear hb hbox hg;have u:=cz4 c)|(refine gL 10 rfl Tryz.func105 #[.int .i64 g,.string i] rfl TA ?_;(with_reducible refine(al_.calls _ _ _ _ _ _ A2.out).mono ?_);rintro e E ⟨rfl,hb⟩;refine⟨_,rfl,?_⟩;replace c:=KB c hb;replace HB:=BS hb;clear hb));go_ret;exact⟨TE,TB⟩
end
section
mutual
def a1_.l0:Nat→List ByteArray→List ByteArray→Int→Option (Int)
 | 0,_,_,_=>none
 | k+1,x5,x7,x9=>if x9≤(x5.length:Int) then(a1_.j1 k x5 x7 x9 (decide (x9≤(x7.length:Int)))) else(a1_.j1 k x5 x7 x9 false)
def a1_.j1:Nat→List ByteArray→List ByteArray→Int→Bool→Option (Int)
 | 0,_,_,_,_=>none
 | k+1,x5,x7,x9,c=>if c=true then(if 0≤(wrap64 ((x5.length:Int) - x9)) then(if (wrap64 ((x5.length:Int) - x9))<(x5.length:Int) then(if 0≤(wrap64 ((x7.length:Int) - x9)) then(if (wrap64 ((x7.length:Int) - x9))<(x7.length:Int) then(if (Op.bytesLess ((rdOf ByteArray.empty x5 (wrap64 ((x5.length:Int) - x9))).toList) ((rdOf ByteArray.empty x7 (wrap64 ((x7.length:Int) - x9))).toList))=true then(some (-1)) else(if (rdOf ByteArray.empty x5 (wrap64 ((x5.length:Int) - x9))).toList=(rdOf ByteArray.empty x7 (wrap64 ((x7.length:Int) - x9))).toList then(a1_.l0 k x5 x7 (wrap64 (x9+1))) else(some 1))) else(none)) else(none)) else(none)) else(none)) else(if (x5.length:Int)<(x7.length:Int) then(some (-1)) else(if (x5.length:Int) > (x7.length:Int) then(some 1) else(some 0)))
end
def a1_.f (k:Nat) (a0:ByteArray) (a1:ByteArray):Option (Int):=(bo_.f k a0).bind fun bt232=>((bo_.f k a1).bind fun bt236=>(a1_.l0 k bt232.1 bt236.1 1))
theorem a1_.calls (k:Nat) (a0:ByteArray) (a1:ByteArray) (r:Int) (w:World) (h:a1_.f k a0 a1=some r) :
  Calls Tryz.prog 107 #[.string a0,.string a1] w fun e w'=>e=.returned (.int .i64 r)∧Below w.heap.size w w':=by
 have HB:=BZ w;have H:=h;clear h;unfold a1_.f at H;obtain⟨⟨g,ah⟩,A3,H⟩:=bnd H
 try dsimp only at H
 obtain⟨⟨c,ai⟩,A4,H⟩:=bnd H
 try dsimp only at H
 have H':=AM H;clear H;go_enter Tryz.func107,Tryz.ntmps107;go_wp2_with (first|(refine gL 14 rfl Tryz.func83 #[.string a0] rfl TA ?_;(with_reducible refine(bo_.calls _ _ _ _ _ A3.out).mono ?_);rintro e w5 ⟨D,rfl,J,hb⟩;refine⟨_,rfl,?_⟩;have t:=RL J;replace HB:=BS hb;clear hb)|(refine gL 19 rfl Tryz.func83 #[.string a1] rfl TA ?_;(with_reducible refine(bo_.calls _ _ _ _ _ A4.out).mono ?_);rintro e w6 ⟨E,rfl,J,hb⟩;refine⟨_,rfl,?_⟩;have M:=RL (NW J t);replace t:=EL t J hb;replace HB:=BS hb;clear hb));go_loopg [9] k (fun kq v9 w'=>∃(l:Int),v9=.int .i64 l∧Aside0 (a1_.l0 kq g c l=some r)∧Aside0 (kq≤k)∧Aside0 (Kd.R Kd.string 9 w' w.heap.size (fun k_=>some k_≠(E:Value).ownBlock) D g)∧Aside0 (Kd.R Kd.string 9 w' w.heap.size (fun k_=>some k_≠(D:Value).ownBlock) E c)∧Aside0 (Below w.heap.size w w'))
 case atStart=>exact⟨(1),TF,H',NL,MO t,MO M,⟨TB⟩⟩
 case round =>
  clear H';obtain⟨l,rfl,HA,HK1,m,n,HB⟩:=hrel
  cases gk with
  | zero=>exact absurd HA.out (by simp[a1_.l0])
  | succ k1 =>
   have H:=HA.out;clear HA;simp only[a1_.l0] at H;have N:=AM H;clear H
   go_upto_region 4 with (fail)
   go_cut [31] (fun ac wc=>∃(kq:Nat) (u:Bool),ac=.bool u∧Aside0 (a1_.j1 kq g c l u=some r)∧Aside0 (kq≤k1)∧Aside0 (Kd.R Kd.string 9 wc w.heap.size (fun k_=>some k_≠(E:Value).ownBlock) D g)∧Aside0 (Kd.R Kd.string 9 wc w.heap.size (fun k_=>some k_≠(D:Value).ownBlock) E c)∧Aside0 (Below w.heap.size w wc))
   case first =>
    have H:=N.out;clear N;by_cases c8:l≤(g.length:Int)
    ·rw[if_pos c8] at H;have v:=decide_eq_true c8;clear c8;(first|rw[v]|(simp only[b6_,i32_w];rw[v])|skip);have H':=AM H;clear H;obtain⟨aN,aO,eo9⟩:=Kd.ap_ m.out;subst eo9;obtain⟨aj,ak,eo10⟩:=Kd.ap_ n.out;subst eo10;go_wp2;go_meet
     case rel=>exact⟨_,(decide (l≤(c.length:Int))),TF,H',⟨by have:=HK1.out;first|omega|exact Nat.le_refl _⟩,RW m,RW n,⟨TB⟩⟩
    ·rw[if_neg c8] at H;have v:=decide_eq_false c8;clear c8;(first|rw[v]|(simp only[b6_,i32_w];rw[v])|skip);have H':=AM H;clear H;obtain⟨al,am,eo11⟩:=Kd.ap_ m.out;subst eo11;go_wp2;go_meet
     case rel=>exact⟨_,(false),TF,H',⟨by have:=HK1.out;first|omega|exact Nat.le_refl _⟩,RW m,RW n,⟨TB⟩⟩
   case rest =>
    clear N;obtain⟨kq,u,rfl,HA,HJ6,m,n,HB⟩:=hcut
    cases kq with
    | zero=>exact absurd HA.out (by simp[a1_.j1])
    | succ O =>
     have H:=HA.out;clear HA;simp only[a1_.j1] at H;by_cases K:u=true
     ·subst K;replace H:=ift H;obtain⟨i,hji13⟩:∃j_:Int,(wrap64 ((g.length:Int) - l))=j_:=⟨_,rfl⟩
      replace H:(if 0≤(i) then(if (i)<(g.length:Int) then(if 0≤(wrap64 ((c.length:Int) - l)) then(if (wrap64 ((c.length:Int) - l))<(c.length:Int) then(if (Op.bytesLess ((rdOf ByteArray.empty g (i)).toList) ((rdOf ByteArray.empty c (wrap64 ((c.length:Int) - l))).toList))=true then(some (-1)) else(if (rdOf ByteArray.empty g (i)).toList=(rdOf ByteArray.empty c (wrap64 ((c.length:Int) - l))).toList then(a1_.l0 O g c (wrap64 (l+1))) else(some 1))) else(none)) else(none)) else(none)) else(none))=some r:=by first|(rw[hji13] at H;exact H)|(simp only[hji13] at H ⊢;exact H)
      have hji13w:(IntKind.i64.wrap ((g.length:Int) - l))=i:=(b6_ _).trans hji13;obtain⟨ad,H⟩:=dn H;obtain⟨ae,H⟩:=dn H;obtain⟨j,hji16⟩:∃j_:Int,(wrap64 ((c.length:Int) - l))=j_:=⟨_,rfl⟩
      replace H:(if 0≤(j) then(if (j)<(c.length:Int) then(if (Op.bytesLess ((rdOf ByteArray.empty g (i)).toList) ((rdOf ByteArray.empty c (j)).toList))=true then(some (-1)) else(if (rdOf ByteArray.empty g (i)).toList=(rdOf ByteArray.empty c (j)).toList then(a1_.l0 O g c (wrap64 (l+1))) else(some 1))) else(none)) else(none))=some r:=by first|(rw[hji16] at H;exact H)|(simp only[hji16] at H ⊢;exact H)
      have hji16w:(IntKind.i64.wrap ((c.length:Int) - l))=j:=(b6_ _).trans hji16;obtain⟨af,H⟩:=dn H;obtain⟨ag,H⟩:=dn H;by_cases F:(Op.bytesLess ((rdOf ByteArray.empty g (i)).toList) ((rdOf ByteArray.empty c (j)).toList))=true
      ·rw[if_pos F] at H;have U:(Op.bytesLess ((rdOf ByteArray.empty g (i)).toList) ((rdOf ByteArray.empty c (j)).toList))=true:=F;clear F;obtain rfl:=Option.some.inj H;obtain⟨an,ao,eo20⟩:=Kd.ap_ m.out;subst eo20;have o:0≤((i):Int):=TD;have p:(i)<(g.length:Int):=TD;obtain⟨G,x,y⟩:=Kd.bB_ (Kd.ag_ m.out).2.2 (i) o p;cases x;replace o:=eq_true o;replace p:=eq_true p;obtain⟨ap,aq,eo21⟩:=Kd.ap_ n.out;subst eo21;have q:0≤((j):Int):=TD;have s:(j)<(c.length:Int):=TD;obtain⟨I,z,A⟩:=Kd.bB_ (Kd.ag_ n.out).2.2 (j) q s;cases z;replace q:=eq_true q;replace s:=eq_true s;go_wp2;go_ret;exact⟨by first|rfl|(simp[av_,au_]<;>rfl)|(simp only[←hji13,←hji16];first|rfl|(simp[av_,au_]<;>rfl))|(simp[*,av_,au_]<;>rfl),TB⟩
      ·rw[if_neg F] at H
       have U:(Op.bytesLess ((rdOf ByteArray.empty g (i)).toList) ((rdOf ByteArray.empty c (j)).toList))=false:=by simpa using F
       clear F;by_cases V:(rdOf ByteArray.empty g (i)).toList=(rdOf ByteArray.empty c (j)).toList
       ·replace H:=qP V H;obtain⟨W,X,H⟩:=H;clear V;have H':=AM H;clear H;obtain⟨ar,au,eo23⟩:=Kd.ap_ m.out;subst eo23;have o:0≤((i):Int):=TD;have p:(i)<(g.length:Int):=TD;obtain⟨G,x,y⟩:=Kd.bB_ (Kd.ag_ m.out).2.2 (i) o p;cases x;replace o:=eq_true o;replace p:=eq_true p;obtain⟨av,aw,eo24⟩:=Kd.ap_ n.out;subst eo24;have q:0≤((j):Int):=TD;have s:(j)<(c.length:Int):=TD;obtain⟨I,z,A⟩:=Kd.bB_ (Kd.ag_ n.out).2.2 (j) q s;cases z;replace q:=eq_true q;replace s:=eq_true s;go_wp2;go_roundg O
        case measure=>have:=HK1.out;have:=HJ6.out;omega
        case rel=>exact⟨(wrap64 (l+1)),TF,H',⟨by have:=HK1.out;have:=HJ6.out;omega⟩,RW m,RW n,⟨TB⟩⟩
       ·replace H:=qN V H;obtain⟨W,X,H⟩:=H;obtain rfl:=Option.some.inj H;obtain⟨ax,ay,eo25⟩:=Kd.ap_ m.out;subst eo25;have o:0≤((i):Int):=TD;have p:(i)<(g.length:Int):=TD;obtain⟨G,x,y⟩:=Kd.bB_ (Kd.ag_ m.out).2.2 (i) o p;cases x;replace o:=eq_true o;replace p:=eq_true p;obtain⟨az,aA,eo26⟩:=Kd.ap_ n.out;subst eo26;have q:0≤((j):Int):=TD;have s:(j)<(c.length:Int):=TD;obtain⟨I,z,A⟩:=Kd.bB_ (Kd.ag_ n.out).2.2 (j) q s;cases z;replace q:=eq_true q;replace s:=eq_true s;go_wp2;go_ret;exact⟨by first|rfl|(simp[av_,au_]<;>rfl)|(simp only[←hji13,←hji16];first|rfl|(simp[av_,au_]<;>rfl))|(simp[*,av_,au_]<;>rfl),TB⟩
     ·replace K:=Bool.eq_false_iff.mpr K;subst K;replace H:=iff' H;by_cases B:(g.length:Int)<(c.length:Int)
      ·rw[if_pos B] at H;have Y:=decide_eq_true B;have Z:decide (g.length<c.length)=true:=decide_eq_true (Int.ofNat_lt.mp B);clear B;obtain rfl:=Option.some.inj H;obtain⟨aB,aC,eo28⟩:=Kd.ap_ m.out;subst eo28;obtain⟨aD,aE,eo29⟩:=Kd.ap_ n.out;subst eo29;go_wp2;go_ret;exact⟨TE,TB⟩
      ·rw[if_neg B] at H;have Y:=decide_eq_false B;have Z:decide (g.length<c.length)=false:=decide_eq_false (fun h=>B (Int.ofNat_lt.mpr h));clear B;by_cases C:(g.length:Int) > (c.length:Int)
       ·rw[if_pos C] at H;have aa:=decide_eq_true C;have ab:decide (c.length<g.length)=true:=decide_eq_true (Int.ofNat_lt.mp C);clear C;obtain rfl:=Option.some.inj H;obtain⟨aF,aG,eo31⟩:=Kd.ap_ m.out;subst eo31;obtain⟨aH,aI,eo32⟩:=Kd.ap_ n.out;subst eo32;go_wp2;go_ret;exact⟨TE,TB⟩
       ·rw[if_neg C] at H;have aa:=decide_eq_false C;have ab:decide (c.length<g.length)=false:=decide_eq_false (fun h=>C (Int.ofNat_lt.mpr h));clear C;obtain rfl:=Option.some.inj H;obtain⟨aJ,aK,eo33⟩:=Kd.ap_ m.out;subst eo33;obtain⟨aL,aM,eo34⟩:=Kd.ap_ n.out;subst eo34;go_wp2;go_ret;exact⟨TE,TB⟩
end
section
def spec_l3Less.f (a0:Bool):Option (Int):=if a0=true then(some (-1)) else(some 1)
theorem spec_l3Less.calls (a0:Bool) (r:Int) (w:World) (h:spec_l3Less.f a0=some r) :
  Calls Tryz.prog 108 #[.bool a0] w fun e w'=>e=.returned (.int .i64 r)∧Drawn0 w w':=by
 have H:(if a0=true then(some (-1)) else(some 1))=some r:=h;clear h;by_cases c2:a0=true
 ·subst c2;replace H:=ift H;obtain rfl:=Option.some.inj H;go_enter Tryz.func108,Tryz.ntmps108;go_wp2;go_ret;exact⟨TF,TN⟩
 ·replace c2:=Bool.eq_false_iff.mpr c2;subst c2;replace H:=iff' H;obtain rfl:=Option.some.inj H;go_enter Tryz.func108,Tryz.ntmps108;go_wp2;go_ret;exact⟨TF,TN⟩
end
section
def cx_.f (k:Nat) (l:ByteArray) (c:Int) (h:Int) (m:ByteArray) (n:ByteArray) (g:Int) (i:Int) (o:ByteArray):Option (Int):=(a1_.f k l n).bind fun j=>(if j=0 then((al_.f k c m).bind fun bt245=>((al_.f k g o).bind fun bt247=>(if c=g then(if bt245.1.toList=bt247.1.toList then(if h=i then(some 0) else((spec_l3Less.f (decide (h<i))).bind fun p=>(some p))) else((spec_l3Less.f (Op.bytesLess bt245.1.toList bt247.1.toList)).bind fun q=>(some q))) else((spec_l3Less.f (decide (c<g))).bind fun s=>(some s))))) else(some j))
theorem cx_.calls (k:Nat) (n:ByteArray) (j:Int) (s:Int) (p:ByteArray) (o:ByteArray) (l:Int) (t:Int) (q:ByteArray) (r:Int) (w:World) (h:cx_.f k n j s p o l t q=some r) :
  Calls Tryz.prog 85 #[.agg #[.string n,.int .i64 j,.int .i64 s,.string p],.agg #[.string o,.int .i64 l,.int .i64 t,.string q]] w fun e w'=>e=.returned (.int .i64 r)∧Below w.heap.size w w':=by
 have hu71:=Tryz.underlying71;have HB:=BZ w;have H:=h;clear h;unfold cx_.f at H;obtain⟨z,A3,H⟩:=bnd H;by_cases c4:z=0
 ·replace H:=qP c4 H;obtain⟨A,B,H⟩:=H;clear c4;obtain⟨⟨x,aD⟩,A5,H⟩:=bnd H
  try dsimp only at H
  obtain⟨⟨y,aE⟩,A6,H⟩:=bnd H
  try dsimp only at H
  by_cases c7:j=l
  ·replace H:=qP c7 H;obtain⟨C,D,H⟩:=H;clear c7;by_cases c8:x.toList=y.toList
   ·replace H:=qP c8 H;obtain⟨E,F,H⟩:=H;clear c8;by_cases c9:s=t
    ·replace H:=qP c9 H;obtain⟨G,I,H⟩:=H;clear c9;obtain rfl:=Option.some.inj H;go_enter Tryz.func85,Tryz.ntmps85;go_wp2_with (first|(refine gD 2 rfl ?_;refine bE 2 #[.string n,.int .i64 j,.int .i64 s,.string p] 71 ?_;intro u hg aI hbox hb;have c:=AM (hbox);replace HB:=BS hb;clear hb hbox hg)|(refine gD 3 rfl ?_;refine bE 3 #[.string o,.int .i64 l,.int .i64 t,.string q] 71 ?_;intro v hg aJ hbox hb;have g:=AM (hbox);replace HB:=BS hb;have i:=bN c hg;have m:=bM c hg;replace c:=KB c hb;clear hb hbox hg;obtain⟨J,K⟩:=nn i;have M:=cz4 c;have N:=cz4 g)|(refine gL 14 rfl Tryz.func107 #[.string n,.string o] rfl TA ?_;(with_reducible refine(a1_.calls _ _ _ _ _ A3.out).mono ?_);rintro e aK ⟨rfl,hb⟩;refine⟨_,rfl,?_⟩;replace c:=KB c hb;replace g:=KB g hb;replace HB:=BS hb;clear hb;have O:=cz4 c)|(refine gL 23 rfl Tryz.func105 #[.int .i64 j,.string p] rfl TA ?_;(with_reducible refine(al_.calls _ _ _ _ _ _ A5.out).mono ?_);rintro e aL ⟨rfl,hb⟩;refine⟨_,rfl,?_⟩;replace c:=KB c hb;replace g:=KB g hb;replace HB:=BS hb;clear hb;have R:=cz4 g)|(refine gL 31 rfl Tryz.func105 #[.int .i64 l,.string q] rfl TA ?_;(with_reducible refine(al_.calls _ _ _ _ _ _ A6.out).mono ?_);rintro e aM ⟨rfl,hb⟩;refine⟨_,rfl,?_⟩;replace c:=KB c hb;replace g:=KB g hb;replace HB:=BS hb;clear hb;have U:=cz4 c;have V:=cz4 g));go_ret;exact⟨TE,TB⟩
    ·replace H:=qN c9 H;obtain⟨G,I,H⟩:=H;obtain⟨aF,W,H⟩:=bnd H;obtain rfl:=Option.some.inj H;go_enter Tryz.func85,Tryz.ntmps85;go_wp2_with (first|(refine gD 2 rfl ?_;refine bE 2 #[.string n,.int .i64 j,.int .i64 s,.string p] 71 ?_;intro u hg aN hbox hb;have c:=AM (hbox);replace HB:=BS hb;clear hb hbox hg)|(refine gD 3 rfl ?_;refine bE 3 #[.string o,.int .i64 l,.int .i64 t,.string q] 71 ?_;intro v hg aO hbox hb;have g:=AM (hbox);replace HB:=BS hb;have i:=bN c hg;have m:=bM c hg;replace c:=KB c hb;clear hb hbox hg;obtain⟨X,Y⟩:=nn i;have Z:=cz4 c;have aa:=cz4 g)|(refine gL 14 rfl Tryz.func107 #[.string n,.string o] rfl TA ?_;(with_reducible refine(a1_.calls _ _ _ _ _ A3.out).mono ?_);rintro e aP ⟨rfl,hb⟩;refine⟨_,rfl,?_⟩;replace c:=KB c hb;replace g:=KB g hb;replace HB:=BS hb;clear hb;have ab:=cz4 c)|(refine gL 23 rfl Tryz.func105 #[.int .i64 j,.string p] rfl TA ?_;(with_reducible refine(al_.calls _ _ _ _ _ _ A5.out).mono ?_);rintro e aQ ⟨rfl,hb⟩;refine⟨_,rfl,?_⟩;replace c:=KB c hb;replace g:=KB g hb;replace HB:=BS hb;clear hb;have ac:=cz4 g)|(refine gL 31 rfl Tryz.func105 #[.int .i64 l,.string q] rfl TA ?_;(with_reducible refine(al_.calls _ _ _ _ _ _ A6.out).mono ?_);rintro e aR ⟨rfl,hb⟩;refine⟨_,rfl,?_⟩;replace c:=KB c hb;replace g:=KB g hb;replace HB:=BS hb;clear hb;have ad:=cz4 c;have ae:=cz4 g)|(refine gL 65 rfl Tryz.func108 #[.bool (decide (s<t))] rfl TA ?_;(with_reducible refine(spec_l3Less.calls _ _ _ W.out).mono ?_);rintro e w' ⟨rfl,⟨nd,rfl⟩⟩;refine⟨_,rfl,?_⟩));go_ret;exact⟨TE,TB⟩
   ·replace H:=qN c8 H;obtain⟨E,F,H⟩:=H;obtain⟨aG,af,H⟩:=bnd H;obtain rfl:=Option.some.inj H;go_enter Tryz.func85,Tryz.ntmps85;go_wp2_with (first|(refine gD 2 rfl ?_;refine bE 2 #[.string n,.int .i64 j,.int .i64 s,.string p] 71 ?_;intro u hg aS hbox hb;have c:=AM (hbox);replace HB:=BS hb;clear hb hbox hg)|(refine gD 3 rfl ?_;refine bE 3 #[.string o,.int .i64 l,.int .i64 t,.string q] 71 ?_;intro v hg aT hbox hb;have g:=AM (hbox);replace HB:=BS hb;have i:=bN c hg;have m:=bM c hg;replace c:=KB c hb;clear hb hbox hg;obtain⟨ag,ah⟩:=nn i;have ai:=cz4 c;have aj:=cz4 g)|(refine gL 14 rfl Tryz.func107 #[.string n,.string o] rfl TA ?_;(with_reducible refine(a1_.calls _ _ _ _ _ A3.out).mono ?_);rintro e aU ⟨rfl,hb⟩;refine⟨_,rfl,?_⟩;replace c:=KB c hb;replace g:=KB g hb;replace HB:=BS hb;clear hb;have ak:=cz4 c)|(refine gL 23 rfl Tryz.func105 #[.int .i64 j,.string p] rfl TA ?_;(with_reducible refine(al_.calls _ _ _ _ _ _ A5.out).mono ?_);rintro e aV ⟨rfl,hb⟩;refine⟨_,rfl,?_⟩;replace c:=KB c hb;replace g:=KB g hb;replace HB:=BS hb;clear hb;have al:=cz4 g)|(refine gL 31 rfl Tryz.func105 #[.int .i64 l,.string q] rfl TA ?_;(with_reducible refine(al_.calls _ _ _ _ _ _ A6.out).mono ?_);rintro e aW ⟨rfl,hb⟩;refine⟨_,rfl,?_⟩;replace c:=KB c hb;replace g:=KB g hb;replace HB:=BS hb;clear hb;have am:=cz4 c;have an:=cz4 g)|(refine gL 53 rfl Tryz.func108 #[.bool (Op.bytesLess x.toList y.toList)] rfl TA ?_;(with_reducible refine(spec_l3Less.calls _ _ _ af.out).mono ?_);rintro e w' ⟨rfl,⟨nd,rfl⟩⟩;refine⟨_,rfl,?_⟩));go_ret;exact⟨TE,TB⟩
  ·replace H:=qN c7 H;obtain⟨C,D,H⟩:=H;obtain⟨aH,ao,H⟩:=bnd H;obtain rfl:=Option.some.inj H;go_enter Tryz.func85,Tryz.ntmps85;go_wp2_with (first|(refine gD 2 rfl ?_;refine bE 2 #[.string n,.int .i64 j,.int .i64 s,.string p] 71 ?_;intro u hg aX hbox hb;have c:=AM (hbox);replace HB:=BS hb;clear hb hbox hg)|(refine gD 3 rfl ?_;refine bE 3 #[.string o,.int .i64 l,.int .i64 t,.string q] 71 ?_;intro v hg aY hbox hb;have g:=AM (hbox);replace HB:=BS hb;have i:=bN c hg;have m:=bM c hg;replace c:=KB c hb;clear hb hbox hg;obtain⟨ap,aq⟩:=nn i;have ar:=cz4 c;have au:=cz4 g)|(refine gL 14 rfl Tryz.func107 #[.string n,.string o] rfl TA ?_;(with_reducible refine(a1_.calls _ _ _ _ _ A3.out).mono ?_);rintro e aZ ⟨rfl,hb⟩;refine⟨_,rfl,?_⟩;replace c:=KB c hb;replace g:=KB g hb;replace HB:=BS hb;clear hb;have av:=cz4 c)|(refine gL 23 rfl Tryz.func105 #[.int .i64 j,.string p] rfl TA ?_;(with_reducible refine(al_.calls _ _ _ _ _ _ A5.out).mono ?_);rintro e a0 ⟨rfl,hb⟩;refine⟨_,rfl,?_⟩;replace c:=KB c hb;replace g:=KB g hb;replace HB:=BS hb;clear hb;have aw:=cz4 g)|(refine gL 31 rfl Tryz.func105 #[.int .i64 l,.string q] rfl TA ?_;(with_reducible refine(al_.calls _ _ _ _ _ _ A6.out).mono ?_);rintro e a1 ⟨rfl,hb⟩;refine⟨_,rfl,?_⟩;replace c:=KB c hb;replace g:=KB g hb;replace HB:=BS hb;clear hb;have ax:=cz4 c;have ay:=cz4 g)|(refine gL 45 rfl Tryz.func108 #[.bool (decide (j<l))] rfl TA ?_;(with_reducible refine(spec_l3Less.calls _ _ _ ao.out).mono ?_);rintro e w' ⟨rfl,⟨nd,rfl⟩⟩;refine⟨_,rfl,?_⟩));go_ret;exact⟨TE,TB⟩
 ·replace H:=qN c4 H;obtain⟨A,B,H⟩:=H;obtain rfl:=Option.some.inj H;go_enter Tryz.func85,Tryz.ntmps85;go_wp2_with (first|(refine gD 2 rfl ?_;refine bE 2 #[.string n,.int .i64 j,.int .i64 s,.string p] 71 ?_;intro u hg a2 hbox hb;have c:=AM (hbox);replace HB:=BS hb;clear hb hbox hg)|(refine gD 3 rfl ?_;refine bE 3 #[.string o,.int .i64 l,.int .i64 t,.string q] 71 ?_;intro v hg a3 hbox hb;have g:=AM (hbox);replace HB:=BS hb;have i:=bN c hg;have m:=bM c hg;replace c:=KB c hb;clear hb hbox hg;obtain⟨az,aA⟩:=nn i;have aB:=cz4 c;have aC:=cz4 g)|(refine gL 14 rfl Tryz.func107 #[.string n,.string o] rfl TA ?_;(with_reducible refine(a1_.calls _ _ _ _ _ A3.out).mono ?_);rintro e a4 ⟨rfl,hb⟩;refine⟨_,rfl,?_⟩;replace c:=KB c hb;replace g:=KB g hb;replace HB:=BS hb;clear hb));go_ret;exact⟨TE,TB⟩
end
section
def be_.l0:Nat→List (aa_)→List (aa_)→Int→Int→Option (Bool)
 | 0,_,_,_,_=>none
 | k+1,x0,x5,x6,x7=>if x7<x6 then(if 0≤x7 then(if x7<(x5.length:Int) then((cP_.f k ((a_ x5 x7).f0) ((a_ x5 x7).f1) ((a_ x5 x7).f2) ((a_ x5 x7).f3)).bind fun c=>(if c=true then(if x7 > 0 then(if 0≤(wrap64 (x7 - 1)) then(if (wrap64 (x7 - 1))<(x0.length:Int) then((cx_.f k ((a_ x0 (wrap64 (x7 - 1))).f0) ((a_ x0 (wrap64 (x7 - 1))).f1) ((a_ x0 (wrap64 (x7 - 1))).f2) ((a_ x0 (wrap64 (x7 - 1))).f3) ((a_ x5 x7).f0) ((a_ x5 x7).f1) ((a_ x5 x7).f2) ((a_ x5 x7).f3)).bind fun g=>(if g≥0 then(some false) else(be_.l0 k x0 x5 x6 (wrap64 (x7+1))))) else(none)) else(none)) else(be_.l0 k x0 x5 x6 (wrap64 (x7+1)))) else(some false))) else(none)) else(none)) else(some (decide ((x0.length:Int)≤40)))
def be_.f (k:Nat) (l0:List (aa_)):Option (Bool):=be_.l0 k l0 l0 (l0.length:Int) 0
def be_.T4:Bool × List (List Nat × List Nat):=(true,[([],[]),([0],[0]),([1],[1]),([2,1],[2]),([3],[3]),([4,3],[3,4]),([5,3,3],[3,5]),([6],[6]),([6],[6]),([8,6],[6,8]),([7,9,6],[6,7,9]),([10,6],[6,10]),([6],[6]),([11,12,6,6],[6,11,12]),([13,6],[6,13]),([6,14,3],[3,6,14]),([3,15],[3,15])])
def be_.B4:List Nat:=[0,1,3,7,15,31,63,127,127,383,1023,2047,127,8191,16383,32767,65535]
theorem be_.tab4:rtab .any (opsOf Tryz.f64 4)=be_.T4:=by kernel_rfl
theorem be_.bits4:waitsOk be_.T4.2 be_.B4=true:=by kernel_rfl
theorem be_.calls (k:Nat) (A0:Option Addr) (c0:Nat) (l0:List (aa_)) (r:Bool) (w:World) (X:Kd.C af_ w A0 l0.length l0) (Y:l0.length≤c0) (h:be_.f k l0=some r) :
  Calls Tryz.prog 64 #[.slice A0 l0.length c0] w fun e w'=>e=.returned (.bool r)∧Below w.heap.size w w':=by
 have hu71:=Tryz.underlying71;have N:=AM X;have ao:=AM Y;clear X Y;have HB:=BZ w;have H:(be_.l0 k l0 l0 (l0.length:Int) 0)=some r:=h;clear h;have H':=AM H;clear H;go_enter Tryz.func64,Tryz.ntmps64;go_wp2;go_loopg [7] k (fun kq v7 w'=>∃(c:Int),v7=.int .i64 c∧Aside0 (be_.l0 kq l0 l0 (l0.length:Int) c=some r)∧Aside0 (kq≤k)∧Aside0 (Below w.heap.size w w'))
 case atStart=>exact⟨(0),TF,H',NL,⟨TB⟩⟩
 case round =>
  clear H';obtain⟨c,rfl,HA,HK1,HB⟩:=hrel
  cases gk with
  | zero=>exact absurd HA.out (by simp[be_.l0])
  | succ k1 =>
   have H:=HA.out;clear HA;simp only[be_.l0] at H;by_cases c2:c<(l0.length:Int)
   ·rw[if_pos c2] at H;have Z:=decide_eq_true c2;clear c2;obtain⟨al,H⟩:=dn H;obtain⟨am,H⟩:=dn H;obtain⟨aa,A5,H⟩:=bnd H;by_cases c6:aa=true
    ·subst c6;replace H:=ift H;by_cases c7:c > 0
     ·rw[if_pos c7] at H;have ab:=decide_eq_true c7;clear c7;obtain⟨j,hji8⟩:∃j_:Int,(wrap64 (c - 1))=j_:=⟨_,rfl⟩
      replace H:(if 0≤(j) then(if (j)<(l0.length:Int) then((cx_.f k1 ((a_ l0 (j)).f0) ((a_ l0 (j)).f1) ((a_ l0 (j)).f2) ((a_ l0 (j)).f3) ((a_ l0 c).f0) ((a_ l0 c).f1) ((a_ l0 c).f2) ((a_ l0 c).f3)).bind fun G=>(if G≥0 then(some false) else(be_.l0 k1 l0 l0 (l0.length:Int) (wrap64 (c+1))))) else(none)) else(none))=some r:=by first|(rw[hji8] at H;exact H)|(simp only[hji8] at H ⊢;exact H)
      (try rw[hji8] at A5);have hji8w:(IntKind.i64.wrap (c - 1))=j:=(b6_ _).trans hji8;obtain⟨an,H⟩:=dn H;obtain⟨ad,H⟩:=dn H;obtain⟨G,ae,H⟩:=bnd H;have HX_:=AM H;clear H;have m:0≤(c:Int):=TD;have o:c<(l0.length:Int):=TD;obtain⟨l,z,A,B,D,E⟩:=aw_ (Kd.ae_ N.out HB.out) c m o;cases z;replace m:=eq_true m;replace o:=eq_true o
      try go_wp2_with (first|(refine gD 4 rfl ?_;refine bE 4 #[.string (⟨#[]⟩:ByteArray),.int .i64 0,.int .i64 0,.string (⟨#[]⟩:ByteArray)] 71 ?_;intro g hg O hbox hb;have i:=AM (hbox);have I:=bG hg;replace HB:=BS hb;clear hb hbox hg;have af:=cz4 i))
      have n0_:Aside0 (((((O.setCell ⟨g,0,none⟩ (.string ((a_ l0 c).f0))).setCell ⟨g,1,none⟩ (.int .i64 ((a_ l0 c).f1))).setCell ⟨g,2,none⟩ (.int .i64 ((a_ l0 c).f2))).setCell ⟨g,3,none⟩ (.string ((a_ l0 c).f3))).heap[g]? = some (.cells #[.string ((a_ l0 c).f0),.int .i64 ((a_ l0 c).f1),.int .i64 ((a_ l0 c).f2),.string ((a_ l0 c).f3)] 71 (0,0))):=⟨TS⟩;have n1_:Aside0 (Below w.heap.size w ((((O.setCell ⟨g,0,none⟩ (.string ((a_ l0 c).f0))).setCell ⟨g,1,none⟩ (.int .i64 ((a_ l0 c).f1))).setCell ⟨g,2,none⟩ (.int .i64 ((a_ l0 c).f2))).setCell ⟨g,3,none⟩ (.string ((a_ l0 c).f3)))):=⟨TB⟩;generalize ((((O.setCell ⟨g,0,none⟩ (.string ((a_ l0 c).f0))).setCell ⟨g,1,none⟩ (.int .i64 ((a_ l0 c).f1))).setCell ⟨g,2,none⟩ (.int .i64 ((a_ l0 c).f2))).setCell ⟨g,3,none⟩ (.string ((a_ l0 c).f3)))=ag at n0_ n1_ ⊢;have i:=n0_;have HB:=n1_;clear n0_ n1_;replace i:=AM (ai_ i.out);replace HB:=AM (ar_ HB.out);have J:0≤((j):Int):=TD;have M:(j)<(l0.length:Int):=TD;obtain⟨R,ac,p,q,s,t⟩:=aw_ N.out (j) J M;have u:=t;have v:=s;have x:=q;have y:=p;obtain rfl:l=R:=(by injection ac);replace p:=hBc HB p;replace q:=hBc HB q;replace s:=hBc HB s;replace t:=hBc HB t;replace J:=eq_true J;replace M:=eq_true M;refine start_ (n:=17) (S:=fun w'=>w'.cell? ⟨g,0,none⟩=some (.string ((a_ l0 c).f0))∧w'.cell? ⟨g,1,none⟩=some (.int .i64 ((a_ l0 c).f1))∧w'.cell? ⟨g,2,none⟩=some (.int .i64 ((a_ l0 c).f2))∧w'.cell? ⟨g,3,none⟩=some (.string ((a_ l0 c).f3))∧w'.cell? (l.add (((j)).toNat * 4))=some (.string ((a_ l0 (j)).f0))∧w'.cell? ⟨(l.add (((j)).toNat * 4)).block,(l.add (((j)).toNat * 4)).off+1,none⟩=some (.int .i64 ((a_ l0 (j)).f1))∧w'.cell? ⟨(l.add (((j)).toNat * 4)).block,(l.add (((j)).toNat * 4)).off+2,none⟩=some (.int .i64 ((a_ l0 (j)).f2))∧w'.cell? ⟨(l.add (((j)).toNat * 4)).block,(l.add (((j)).toNat * 4)).off+3,none⟩=some (.string ((a_ l0 (j)).f3))) (ds:=[]) (mL 17 0) KR rfl KR ⟨bc 0 i,bc 1 i,bc 2 i,bc 3 i,(hBc HB y),(hBc HB x),(hBc HB v),(hBc HB u)⟩ (fun hHeld=>?_);refine bg_ be_.tab4 be_.bits4 (fun HT_ HW_=>?_);generalize ag.drew=ap at i HB p q s t hHeld ⊢;refine tB 0 hHeld rfl rfl ?_
      refine oB 1 rfl rfl fun K hK=>?_
      refine gB Tryz.func84 #[.agg #[.string ((a_ l0 c).f0),.int .i64 ((a_ l0 c).f1),.int .i64 ((a_ l0 c).f2),.string ((a_ l0 c).f3)]] rfl rfl ?_
      with_reducible refine(cP_.calls _ _ _ _ _ _ _ A5.out).mono ?_
      rintro e aq ⟨rfl,hb⟩;refine⟨_,rfl,?_⟩;replace i:=KB i hb;replace HB:=BS hb;clear hb;refine hK.out _ _ ⟨bc 0 i,bc 1 i,bc 2 i,bc 3 i,(hBc HB y),(hBc HB x),(hBc HB v),(hBc HB u)⟩ (fun hHeld=>?_);clear hK K;refine nA ?_;refine pB 2 rfl rfl ?_;refine pB 3 rfl rfl ?_;refine pB 4 rfl rfl ?_;refine pB 5 rfl rfl ?_;refine pB 6 rfl rfl ?_;refine pB 7 rfl rfl ?_;refine pB 8 rfl rfl ?_;refine pB 9 rfl rfl ?_;refine pB 10 rfl rfl ?_;refine tB 11 hHeld rfl rfl ?_;refine tB 12 hHeld rfl rfl ?_
      refine oB 13 rfl rfl fun K hK=>?_
      refine goes_ Tryz.func85 KR rfl #[.agg #[.string ((a_ l0 (j)).f0),.int .i64 ((a_ l0 (j)).f1),.int .i64 ((a_ l0 (j)).f2),.string ((a_ l0 (j)).f3)],.agg #[.string ((a_ l0 c).f0),.int .i64 ((a_ l0 c).f1),.int .i64 ((a_ l0 c).f2),.string ((a_ l0 c).f3)]] (by rfl) rfl rfl (by(try simp only[List.map_toArray,List.map_cons,List.map_nil]);first|done|(simp only[hji8];rfl)|rfl|(simp only[List.length_drop,List.length_take];rfl)) ?_
      with_reducible refine(cx_.calls _ _ _ _ _ _ _ _ _ _ _ ae.out).mono ?_
      rintro e ar ⟨rfl,hb⟩;refine⟨_,rfl,?_⟩;replace i:=KB i hb;replace HB:=BS hb;clear hb;refine hK.out _ _ ⟨bc 0 i,bc 1 i,bc 2 i,bc 3 i,(hBc HB y),(hBc HB x),(hBc HB v),(hBc HB u)⟩ (fun hHeld=>?_);clear hK K;refine nA ?_;refine pB 14 rfl rfl ?_;refine pB 15 rfl rfl ?_;refine pB 16 rfl rfl ?_;refine done_ (bz_ HT_.out KR) ?_;have H:=HX_.out;clear HX_;by_cases F:G≥0
      ·rw[if_pos F] at H;have U:=decide_eq_true F;clear F;obtain rfl:=Option.some.inj H
       try go_simp
       try go_wp2
       go_ret;exact⟨by first|rfl|(simp[av_,au_]<;>rfl)|(simp only[←hji8];first|rfl|(simp[av_,au_]<;>rfl))|(simp[*,av_,au_]<;>rfl),TB⟩
      ·rw[if_neg F] at H;have U:=decide_eq_false F;clear F;have H':=AM H;clear H
       try go_simp
       try go_wp2
       go_roundg k1
       case measure=>exact TM
       case rel=>exact⟨(wrap64 (c+1)),TF,H',⟨TM⟩,⟨TB⟩⟩
     ·rw[if_neg c7] at H;have ab:=decide_eq_false c7;clear c7;have H':=AM H;clear H;have m:0≤(c:Int):=TD;have o:c<(l0.length:Int):=TD;obtain⟨l,z,A,B,D,E⟩:=aw_ (Kd.ae_ N.out HB.out) c m o;cases z;replace m:=eq_true m;replace o:=eq_true o
      try go_wp2_with (first|(refine gD 4 rfl ?_;refine bE 4 #[.string (⟨#[]⟩:ByteArray),.int .i64 0,.int .i64 0,.string (⟨#[]⟩:ByteArray)] 71 ?_;intro g hg V hbox hb;have i:=AM (hbox);have I:=bG hg;replace HB:=BS hb;clear hb hbox hg;have ah:=cz4 i))
      have n0_:Aside0 (((((V.setCell ⟨g,0,none⟩ (.string ((a_ l0 c).f0))).setCell ⟨g,1,none⟩ (.int .i64 ((a_ l0 c).f1))).setCell ⟨g,2,none⟩ (.int .i64 ((a_ l0 c).f2))).setCell ⟨g,3,none⟩ (.string ((a_ l0 c).f3))).heap[g]? = some (.cells #[.string ((a_ l0 c).f0),.int .i64 ((a_ l0 c).f1),.int .i64 ((a_ l0 c).f2),.string ((a_ l0 c).f3)] 71 (0,0))):=⟨TS⟩;have n1_:Aside0 (Below w.heap.size w ((((V.setCell ⟨g,0,none⟩ (.string ((a_ l0 c).f0))).setCell ⟨g,1,none⟩ (.int .i64 ((a_ l0 c).f1))).setCell ⟨g,2,none⟩ (.int .i64 ((a_ l0 c).f2))).setCell ⟨g,3,none⟩ (.string ((a_ l0 c).f3)))):=⟨TB⟩;generalize ((((V.setCell ⟨g,0,none⟩ (.string ((a_ l0 c).f0))).setCell ⟨g,1,none⟩ (.int .i64 ((a_ l0 c).f1))).setCell ⟨g,2,none⟩ (.int .i64 ((a_ l0 c).f2))).setCell ⟨g,3,none⟩ (.string ((a_ l0 c).f3)))=ai at n0_ n1_ ⊢;have i:=n0_;have HB:=n1_;clear n0_ n1_;replace i:=AM (ai_ i.out);replace HB:=AM (ar_ HB.out);refine start_ (n:=17) (S:=fun w'=>w'.cell? ⟨g,0,none⟩=some (.string ((a_ l0 c).f0))∧w'.cell? ⟨g,1,none⟩=some (.int .i64 ((a_ l0 c).f1))∧w'.cell? ⟨g,2,none⟩=some (.int .i64 ((a_ l0 c).f2))∧w'.cell? ⟨g,3,none⟩=some (.string ((a_ l0 c).f3))) (ds:=[]) (mL 17 0) KR rfl KR ⟨bc 0 i,bc 1 i,bc 2 i,bc 3 i⟩ (fun hHeld=>?_);refine bg_ be_.tab4 be_.bits4 (fun HT_ HW_=>?_);generalize ai.drew=au at i HB hHeld ⊢;refine tB 0 hHeld rfl rfl ?_
      refine oB 1 rfl rfl fun K hK=>?_
      refine gB Tryz.func84 #[.agg #[.string ((a_ l0 c).f0),.int .i64 ((a_ l0 c).f1),.int .i64 ((a_ l0 c).f2),.string ((a_ l0 c).f3)]] rfl rfl ?_
      with_reducible refine(cP_.calls _ _ _ _ _ _ _ A5.out).mono ?_
      rintro e av ⟨rfl,hb⟩;refine⟨_,rfl,?_⟩;replace i:=KB i hb;replace HB:=BS hb;clear hb;refine hK.out _ _ ⟨bc 0 i,bc 1 i,bc 2 i,bc 3 i⟩ (fun hHeld=>?_);clear hK K;refine nA ?_;refine pB 2 rfl rfl ?_;refine pB 3 rfl rfl ?_;refine pB 4 rfl rfl ?_;refine pB 5 rfl rfl ?_;refine pB 6 rfl rfl ?_;refine uB 7 rfl rfl ?_;refine uB 8 rfl rfl ?_;refine uB 9 rfl rfl ?_;refine uB 10 rfl rfl ?_;refine uB 11 rfl rfl ?_;refine uB 12 rfl rfl ?_;refine uB 13 rfl rfl ?_;refine uB 14 rfl rfl ?_;refine pB 15 rfl rfl ?_;refine pB 16 rfl rfl ?_;refine done_ (bz_ HT_.out KR) ?_
      try go_wp2
      go_roundg k1
      case measure=>exact TM
      case rel=>exact⟨(wrap64 (c+1)),TF,H',⟨TM⟩,⟨TB⟩⟩
    ·replace c6:=Bool.eq_false_iff.mpr c6;subst c6;replace H:=iff' H;obtain rfl:=Option.some.inj H;have m:0≤(c:Int):=TD;have o:c<(l0.length:Int):=TD;obtain⟨l,z,A,B,D,E⟩:=aw_ (Kd.ae_ N.out HB.out) c m o;cases z;replace m:=eq_true m;replace o:=eq_true o
     try go_wp2_with (first|(refine gD 4 rfl ?_;refine bE 4 #[.string (⟨#[]⟩:ByteArray),.int .i64 0,.int .i64 0,.string (⟨#[]⟩:ByteArray)] 71 ?_;intro g hg W hbox hb;have i:=AM (hbox);have I:=bG hg;replace HB:=BS hb;clear hb hbox hg;have aj:=cz4 i))
     have n0_:Aside0 (((((W.setCell ⟨g,0,none⟩ (.string ((a_ l0 c).f0))).setCell ⟨g,1,none⟩ (.int .i64 ((a_ l0 c).f1))).setCell ⟨g,2,none⟩ (.int .i64 ((a_ l0 c).f2))).setCell ⟨g,3,none⟩ (.string ((a_ l0 c).f3))).heap[g]? = some (.cells #[.string ((a_ l0 c).f0),.int .i64 ((a_ l0 c).f1),.int .i64 ((a_ l0 c).f2),.string ((a_ l0 c).f3)] 71 (0,0))):=⟨TS⟩;have n1_:Aside0 (Below w.heap.size w ((((W.setCell ⟨g,0,none⟩ (.string ((a_ l0 c).f0))).setCell ⟨g,1,none⟩ (.int .i64 ((a_ l0 c).f1))).setCell ⟨g,2,none⟩ (.int .i64 ((a_ l0 c).f2))).setCell ⟨g,3,none⟩ (.string ((a_ l0 c).f3)))):=⟨TB⟩;generalize ((((W.setCell ⟨g,0,none⟩ (.string ((a_ l0 c).f0))).setCell ⟨g,1,none⟩ (.int .i64 ((a_ l0 c).f1))).setCell ⟨g,2,none⟩ (.int .i64 ((a_ l0 c).f2))).setCell ⟨g,3,none⟩ (.string ((a_ l0 c).f3)))=ak at n0_ n1_ ⊢;have i:=n0_;have HB:=n1_;clear n0_ n1_;replace i:=AM (ai_ i.out);replace HB:=AM (ar_ HB.out);refine start_ (n:=17) (S:=fun w'=>w'.cell? ⟨g,0,none⟩=some (.string ((a_ l0 c).f0))∧w'.cell? ⟨g,1,none⟩=some (.int .i64 ((a_ l0 c).f1))∧w'.cell? ⟨g,2,none⟩=some (.int .i64 ((a_ l0 c).f2))∧w'.cell? ⟨g,3,none⟩=some (.string ((a_ l0 c).f3))) (ds:=[]) (mL 17 0) KR rfl KR ⟨bc 0 i,bc 1 i,bc 2 i,bc 3 i⟩ (fun hHeld=>?_);refine bg_ be_.tab4 be_.bits4 (fun HT_ HW_=>?_);generalize ak.drew=aw at i HB hHeld ⊢;refine tB 0 hHeld rfl rfl ?_
     refine oB 1 rfl rfl fun K hK=>?_
     refine gB Tryz.func84 #[.agg #[.string ((a_ l0 c).f0),.int .i64 ((a_ l0 c).f1),.int .i64 ((a_ l0 c).f2),.string ((a_ l0 c).f3)]] rfl rfl ?_
     with_reducible refine(cP_.calls _ _ _ _ _ _ _ A5.out).mono ?_
     rintro e ax ⟨rfl,hb⟩;refine⟨_,rfl,?_⟩;replace i:=KB i hb;replace HB:=BS hb;clear hb;refine hK.out _ _ ⟨bc 0 i,bc 1 i,bc 2 i,bc 3 i⟩ (fun hHeld=>?_);clear hK K;refine nA ?_;refine pB 2 rfl rfl ?_;refine pB 3 rfl rfl ?_;refine uB 4 rfl rfl ?_;refine uB 5 rfl rfl ?_;refine uB 6 rfl rfl ?_;refine uB 7 rfl rfl ?_;refine uB 8 rfl rfl ?_;refine uB 9 rfl rfl ?_;refine uB 10 rfl rfl ?_;refine uB 11 rfl rfl ?_;refine uB 12 rfl rfl ?_;refine uB 13 rfl rfl ?_;refine uB 14 rfl rfl ?_;refine uB 15 rfl rfl ?_;refine pB 16 rfl rfl ?_;refine done_ (bz_ HT_.out KR) ?_
     try go_wp2
     go_ret;exact⟨TE,TB⟩
   ·rw[if_neg c2] at H;have Z:=decide_eq_false c2;clear c2;obtain rfl:=Option.some.inj H;go_wp2;go_ret;exact⟨TE,TB⟩
end
section
theorem eqARecord (d:Nat) (w:World) (x0 y0:ByteArray) (x1 y1:Int) (x2 y2:Int) (x3 y3:ByteArray) :
  (Op.equalIn (d+2) 71 (.agg #[.string x0,.int .i64 x1,.int .i64 x2,.string x3]) (.agg #[.string y0,.int .i64 y1,.int .i64 y2,.string y3])).run Tryz.prog w=.ok (x0.toList==y0.toList&&(x1==y1&&(x2==y2&&(x3.toList==y3.toList)))) w:=by
 refine eqA_of Tryz.underlying71 KR ?_;refine eqf_cons (by rfl) (by go_simp;rfl) (by go_simp;rfl) (by go_simp) ?_;refine eqf_cons (by rfl) (by go_simp;rfl) (by go_simp;rfl) (by go_simp) ?_;refine eqf_cons (by rfl) (by go_simp;rfl) (by go_simp;rfl) (by go_simp) ?_;exact eqf_last (by rfl) (by go_simp;rfl) (by go_simp;rfl) (by go_simp)
end
section
attribute [local go_sem high] eqARecord
def bR_.l0:Nat→List (aa_)→Int→Int→ByteArray→Int→Int→ByteArray→Option (Bool)
 | 0,_,_,_,_,_,_,_=>none
 | k+1,x7,x8,x9,c,f,g,h=>if x9<x8 then(if 0≤x9 then(if x9<(x7.length:Int) then(if ((((a_ x7 x9).f0).toList)==c.toList&&(((a_ x7 x9).f1)==f&&(((a_ x7 x9).f2)==g&&((((a_ x7 x9).f3).toList)==h.toList))))=true then(some true) else(bR_.l0 k x7 x8 (wrap64 (x9+1)) c f g h)) else(none)) else(none)) else(some false)
def bR_.f (k:Nat) (l0:List (aa_)) (a1_0:ByteArray) (a1_1:Int) (a1_2:Int) (a1_3:ByteArray):Option (Bool):=bR_.l0 k l0 (l0.length:Int) 0 a1_0 a1_1 a1_2 a1_3
theorem bR_.calls (k:Nat) (A0:Option Addr) (c0:Nat) (l0:List (aa_)) (i:ByteArray) (j:Int) (l:Int) (m:ByteArray) (r:Bool) (w:World) (E:Kd.C af_ w A0 l0.length l0) (F:l0.length≤c0) (h:bR_.f k l0 i j l m=some r) :
  Calls Tryz.prog 41 #[.slice A0 l0.length c0,.agg #[.string i,.int .i64 j,.int .i64 l,.string m]] w fun e w'=>e=.returned (.bool r)∧Below w.heap.size w w':=by
 have hu71:=Tryz.underlying71;have G:=AM E;have ad:=AM F;clear E F;have HB:=BZ w;have H:(bR_.l0 k l0 (l0.length:Int) 0 i j l m)=some r:=h;clear h;have H':=AM H;clear H;go_enter Tryz.func41,Tryz.ntmps41;go_wp2_with (first|(refine gD 3 rfl ?_;refine bE 3 #[.string i,.int .i64 j,.int .i64 l,.string m] 71 ?_;intro z hg w3 hbox hb;have g:=AM (hbox);have N:=bG hg;replace HB:=BS hb;clear hb hbox hg));go_loopg [9] k (fun kq v9 w'=>∃(c:Int),v9=.int .i64 c∧Aside0 (bR_.l0 kq l0 (l0.length:Int) c i j l m=some r)∧Aside0 (kq≤k)∧Aside0 (w'.heap[z]? = some (.cells #[.string i,.int .i64 j,.int .i64 l,.string m] 71 (0,0)))∧Aside0 (Below w.heap.size w w'))
 case atStart=>exact⟨(0),TF,H',NL,KW g,⟨TB⟩⟩
 case round =>
  clear H';obtain⟨c,rfl,HA,HK1,g,HB⟩:=hrel
  cases gk with
  | zero=>exact absurd HA.out (by simp[bR_.l0])
  | succ k1 =>
   have H:=HA.out;clear HA;simp only[bR_.l0] at H;by_cases c4:c<(l0.length:Int)
   ·rw[if_pos c4] at H;have I:=decide_eq_true c4;clear c4;obtain⟨Y,H⟩:=dn H;obtain⟨Z,H⟩:=dn H;by_cases c7:((((a_ l0 c).f0).toList)==i.toList&&(((a_ l0 c).f1)==j&&(((a_ l0 c).f2)==l&&((((a_ l0 c).f3).toList)==m.toList))))=true
    ·rw[if_pos c7] at H;have J:((((a_ l0 c).f0).toList)==i.toList&&(((a_ l0 c).f1)==j&&(((a_ l0 c).f2)==l&&((((a_ l0 c).f3).toList)==m.toList))))=true:=c7;(try (have K:decide ((((a_ l0 c).f0).toList)=i.toList&&(((a_ l0 c).f1)==j&&(((a_ l0 c).f2)==l&&((((a_ l0 c).f3).toList)==m.toList))))=true:=by simpa using c7));(try (have M:((((a_ l0 c).f0).toList)==i.toList&&(((a_ l0 c).f1)==j&&(((a_ l0 c).f2)==l&&((((a_ l0 c).f3).toList)==m.toList))))=true:=by simpa using c7));clear c7;obtain rfl:=Option.some.inj H;have o:0≤(c:Int):=TD;have p:c<(l0.length:Int):=TD;obtain⟨A,t,u,v,x,y⟩:=aw_ (Kd.ae_ G.out HB.out) c o p;cases t;replace o:=eq_true o;replace p:=eq_true p;go_wp2_with (first|(refine gD 6 rfl ?_;refine bE 6 #[.string (⟨#[]⟩:ByteArray),.int .i64 0,.int .i64 0,.string (⟨#[]⟩:ByteArray)] 71 ?_;intro B hg w8 hbox hb;have q:=AM (hbox);have D:=bG hg;replace HB:=BS hb;have s:=bN g hg;have n:=bM g hg;replace g:=KB g hb;clear hb hbox hg;obtain⟨aa,ab⟩:=nn n;have O:=cz4 q;have R:=cz4 g));go_ret;exact⟨TE,TB⟩
    ·rw[if_neg c7] at H
     have J:((((a_ l0 c).f0).toList)==i.toList&&(((a_ l0 c).f1)==j&&(((a_ l0 c).f2)==l&&((((a_ l0 c).f3).toList)==m.toList))))=false:=by simpa using c7
     (try (have K:decide ((((a_ l0 c).f0).toList)=i.toList&&(((a_ l0 c).f1)==j&&(((a_ l0 c).f2)==l&&((((a_ l0 c).f3).toList)==m.toList))))=false:=by simpa using c7));(try (have M:((((a_ l0 c).f0).toList)==i.toList&&(((a_ l0 c).f1)==j&&(((a_ l0 c).f2)==l&&((((a_ l0 c).f3).toList)==m.toList))))=false:=by simpa using c7));(try (have ac:¬((((a_ l0 c).f0).toList)=i.toList&&(((a_ l0 c).f1)==j&&(((a_ l0 c).f2)==l&&((((a_ l0 c).f3).toList)==m.toList)))):=by simpa using c7));clear c7;have H':=AM H;clear H;have o:0≤(c:Int):=TD;have p:c<(l0.length:Int):=TD;obtain⟨A,t,u,v,x,y⟩:=aw_ (Kd.ae_ G.out HB.out) c o p;cases t;replace o:=eq_true o;replace p:=eq_true p;go_wp2_with (first|(refine gD 6 rfl ?_;refine bE 6 #[.string (⟨#[]⟩:ByteArray),.int .i64 0,.int .i64 0,.string (⟨#[]⟩:ByteArray)] 71 ?_;intro B hg ae hbox hb;have q:=AM (hbox);have D:=bG hg;replace HB:=BS hb;have s:=bN g hg;have n:=bM g hg;replace g:=KB g hb;clear hb hbox hg;obtain⟨U,V⟩:=nn n;have W:=cz4 q;have X:=cz4 g));go_roundg k1
     case measure=>exact TM
     case rel=>exact⟨(wrap64 (c+1)),TF,H',⟨TM⟩,⟨TS⟩,⟨TB⟩⟩
   ·rw[if_neg c4] at H;have I:=decide_eq_false c4;clear c4;obtain rfl:=Option.some.inj H;go_wp2;go_ret;exact⟨TE,TB⟩
end
section
mutual
def a2_.j0:Nat→Bool→Int→Int→List (aa_)→List (aa_)→Option (Bool)
 | 0,_,_,_,_,_=>none
 | k+1,x33,x261000,x261001,x261002,x261003=>if x33=true then(some false) else(a2_.l0 k x261002 (x261002.length:Int) 0 x261000 x261001 x261002 x261003)
def a2_.l0:Nat→List (aa_)→Int→Int→Int→Int→List (aa_)→List (aa_)→Option (Bool)
 | 0,_,_,_,_,_,_,_=>none
 | k+1,h,m,c,i,j,l,g=>if c<m then(if 0≤c then(if c<(h.length:Int) then((bR_.f k g ((a_ h c).f0) ((a_ h c).f1) ((a_ h c).f2) ((a_ h c).f3)).bind fun n=>(if n=true then(some false) else(a2_.l0 k h m (wrap64 (c+1)) i j l g))) else(none)) else(none)) else(some true)
end
def a2_.f (k:Nat) (c:Int) (g:Int) (h:List (aa_)) (i:List (aa_)):Option (Bool):=(bT_.f c).bind fun j=>(if j=true then((bT_.f g).bind fun l=>(if l=true then(if c=g then(a2_.j0 k true c g h i) else((be_.f k h).bind fun m=>(if m=true then((be_.f k i).bind fun n=>(a2_.j0 k (!n) c g h i)) else(a2_.j0 k true c g h i)))) else(a2_.j0 k true c g h i))) else(a2_.j0 k true c g h i))
theorem a2_.calls (k:Nat) (j:Int) (o:Int) (x:Option Addr) (y:Nat) (i:List (aa_)) (p:Option Addr) (q:Nat) (l:List (aa_)) (r:Bool) (w:World) (F:Kd.C af_ w x i.length i) (G:i.length≤y) (I:Kd.C af_ w p l.length l) (J:l.length≤q) (h:a2_.f k j o i l=some r) :
  Calls Tryz.prog 40 #[.agg #[.int .i64 j,.int .i64 o,.slice x i.length y,.slice p l.length q]] w fun e w'=>e=.returned (.bool r)∧Below w.heap.size w w':=by
 have hu52:=Tryz.underlying52;have hu71:=Tryz.underlying71;have u:=AM F;have K:=AM G;clear F G;have A:=AM I;have B:=AM J;clear I J;have HB:=BZ w;have H:=h;clear h;unfold a2_.f at H;have aa:=AM H;clear H;go_enter Tryz.func40,Tryz.ntmps40
 go_upto_region 1 with (first|(refine gD 1 rfl ?_;refine bE 1 #[.int .i64 j,.int .i64 o,.slice x i.length y,.slice p l.length q] 52 ?_;intro M hg w3 hbox hb;have c:=AM (hbox);replace HB:=BS hb;clear hb hbox hg))
 (try simp only[Act.put,List.setIfInBounds_toArray,List.set_cons_zero,List.set_cons_succ]);go_cut [33] (fun an wc=>∃(kq:Nat) (v:Bool),an=.bool v∧Aside0 (a2_.j0 kq v j o i l=some r)∧Aside0 (kq≤k)∧Aside0 (wc.heap[M]? = some (.cells #[.int .i64 j,.int .i64 o,(.slice x i.length y),(.slice p l.length q)] 52 (0,0)))∧Aside0 (Below w.heap.size w wc))
 case first =>
  have H:=aa.out;clear aa;obtain⟨af,A4,H⟩:=bnd H;by_cases c5:af=true
  ·subst c5;replace H:=ift H;obtain⟨ag,A6,H⟩:=bnd H;by_cases c7:ag=true
   ·subst c7;replace H:=ift H;by_cases c8:j=o
    ·replace H:=qP c8 H;obtain⟨z,N,H⟩:=H;clear c8;(first|rw[z]|(simp only[b6_,i32_w];rw[z])|rw[N]|skip);have H':=AM H;clear H;have aI:=cz4 c;go_wp2_with (first|(refine gL 7 rfl Tryz.func62 #[.int .i64 j] rfl TA ?_;(with_reducible refine(bT_.calls _ _ _ A4.out).mono ?_);rintro e w' ⟨rfl,⟨nd,rfl⟩⟩;refine⟨_,rfl,?_⟩)|(go_at_call 62;(with_reducible refine(bT_.calls _ _ _ A6.out).mono ?_);rintro e w' ⟨rfl,⟨nd,rfl⟩⟩));go_meet
     case rel=>exact⟨_,(true),TF,H',⟨by first|omega|exact Nat.le_refl _⟩,KW c,⟨TB⟩⟩
    ·replace H:=qN c8 H;obtain⟨z,N,H⟩:=H;(first|rw[z]|(simp only[b6_,i32_w];rw[z])|rw[N]|skip);obtain⟨ah,ai,H⟩:=bnd H;by_cases X:ah=true
     ·subst X;replace H:=ift H;obtain⟨aj,ao,H⟩:=bnd H;have H':=AM H;clear H;have ap:=cz4 c;go_wp2_with (first|(refine gL 7 rfl Tryz.func62 #[.int .i64 j] rfl TA ?_;(with_reducible refine(bT_.calls _ _ _ A4.out).mono ?_);rintro e w' ⟨rfl,⟨nd,rfl⟩⟩;refine⟨_,rfl,?_⟩)|(go_at_call 62;(with_reducible refine(bT_.calls _ _ _ A6.out).mono ?_);rintro e w' ⟨rfl,⟨nd,rfl⟩⟩)|(go_at_call 64;(with_reducible refine(be_.calls _ _ _ _ _ _ ?side1 ?side2 ai.out).mono ?_);(case side1=>exact CW ((Kd.ae_ u.out TB)));(case side2=>exact K.out);rintro e aJ ⟨rfl,hb⟩;replace c:=KB c hb;replace HB:=BS hb;clear hb;have aq:=cz4 c)|(go_at_call 64;(with_reducible refine(be_.calls _ _ _ _ _ _ ?side1 ?side2 ao.out).mono ?_);(case side1=>exact CW ((Kd.ae_ A.out HB.out)));(case side2=>exact B.out);rintro e aK ⟨rfl,hb⟩;replace c:=KB c hb;replace HB:=BS hb;clear hb));go_meet
      case rel=>exact⟨_,(!aj),TF,H',⟨by first|omega|exact Nat.le_refl _⟩,KW c,⟨TB⟩⟩
     ·replace X:=Bool.eq_false_iff.mpr X;subst X;replace H:=iff' H;have H':=AM H;clear H;have ar:=cz4 c;go_wp2_with (first|(refine gL 7 rfl Tryz.func62 #[.int .i64 j] rfl TA ?_;(with_reducible refine(bT_.calls _ _ _ A4.out).mono ?_);rintro e w' ⟨rfl,⟨nd,rfl⟩⟩;refine⟨_,rfl,?_⟩)|(go_at_call 62;(with_reducible refine(bT_.calls _ _ _ A6.out).mono ?_);rintro e w' ⟨rfl,⟨nd,rfl⟩⟩)|(go_at_call 64;(with_reducible refine(be_.calls _ _ _ _ _ _ ?side1 ?side2 ai.out).mono ?_);(case side1=>exact CW ((Kd.ae_ u.out TB)));(case side2=>exact K.out);rintro e aL ⟨rfl,hb⟩;replace c:=KB c hb;replace HB:=BS hb;clear hb));go_meet
      case rel=>exact⟨_,(true),TF,H',⟨by first|omega|exact Nat.le_refl _⟩,KW c,⟨TB⟩⟩
   ·replace c7:=Bool.eq_false_iff.mpr c7;subst c7;replace H:=iff' H;have H':=AM H;clear H;have au:=cz4 c;go_wp2_with (first|(refine gL 7 rfl Tryz.func62 #[.int .i64 j] rfl TA ?_;(with_reducible refine(bT_.calls _ _ _ A4.out).mono ?_);rintro e w' ⟨rfl,⟨nd,rfl⟩⟩;refine⟨_,rfl,?_⟩)|(go_at_call 62;(with_reducible refine(bT_.calls _ _ _ A6.out).mono ?_);rintro e w' ⟨rfl,⟨nd,rfl⟩⟩));go_meet
    case rel=>exact⟨_,(true),TF,H',⟨by first|omega|exact Nat.le_refl _⟩,KW c,⟨TB⟩⟩
  ·replace c5:=Bool.eq_false_iff.mpr c5;subst c5;replace H:=iff' H;have H':=AM H;clear H;have av:=cz4 c;go_wp2_with (first|(refine gL 7 rfl Tryz.func62 #[.int .i64 j] rfl TA ?_;(with_reducible refine(bT_.calls _ _ _ A4.out).mono ?_);rintro e w' ⟨rfl,⟨nd,rfl⟩⟩;refine⟨_,rfl,?_⟩));go_meet
   case rel=>exact⟨_,(true),TF,H',⟨by first|omega|exact Nat.le_refl _⟩,KW c,⟨TB⟩⟩
 case rest =>
  clear aa;obtain⟨kq,v,rfl,HA,HJ1,c,HB⟩:=hcut
  cases kq with
  | zero=>exact absurd HA.out (by simp[a2_.j0])
  | succ ak =>
   have H:=HA.out;clear HA;simp only[a2_.j0] at H;by_cases Y:v=true
   ·subst Y;replace H:=ift H;obtain rfl:=Option.some.inj H;go_wp2;go_ret;exact⟨TE,TB⟩
   ·replace Y:=Bool.eq_false_iff.mpr Y;subst Y;replace H:=iff' H;have H':=AM H;clear H;have aw:=cz4 c;go_wp2;go_loopg [37] ak (fun kq ax w'=>∃(g:Int),ax=.int .i64 g∧Aside0 (a2_.l0 kq i (i.length:Int) g j o i l=some r)∧Aside0 (kq≤ak)∧Aside0 (w'.heap[M]? = some (.cells #[.int .i64 j,.int .i64 o,(.slice x i.length y),(.slice p l.length q)] 52 (0,0)))∧Aside0 (Below w.heap.size w w'))
    case atStart=>exact⟨(0),TF,H',NL,KW c,⟨TB⟩⟩
    case round =>
     clear H';obtain⟨g,rfl,HA,HK2,c,HB⟩:=hrel
     cases gk with
     | zero=>exact absurd HA.out (by simp[a2_.l0])
     | succ k2 =>
      have H:=HA.out;clear HA;simp only[a2_.l0] at H;by_cases E:g<(i.length:Int)
      ·rw[if_pos E] at H;have ab:=decide_eq_true E;clear E;obtain⟨ay,H⟩:=dn H;obtain⟨az,H⟩:=dn H;obtain⟨al,am,H⟩:=bnd H;by_cases Z:al=true
       ·subst Z;replace H:=ift H;obtain rfl:=Option.some.inj H;have s:0≤(g:Int):=TD;have t:g<(i.length:Int):=TD;obtain⟨ac,O,R,U,V,W⟩:=aw_ (Kd.ae_ u.out HB.out) g s t;cases O;replace s:=eq_true s;replace t:=eq_true t;go_wp2_with (first|(refine gD 4 rfl ?_;refine bE 4 #[.string (⟨#[]⟩:ByteArray),.int .i64 0,.int .i64 0,.string (⟨#[]⟩:ByteArray)] 71 ?_;intro ad hg aM hbox hb;have m:=AM (hbox);have ae:=bG hg;replace HB:=BS hb;have D:=bN c hg;have n:=bM c hg;replace c:=KB c hb;clear hb hbox hg;obtain⟨aA,aB⟩:=nn n;have aC:=cz4 m;have aD:=cz4 c)|(refine gL 44 rfl Tryz.func41 #[.slice p l.length q,.agg #[.string ((a_ i g).f0),.int .i64 ((a_ i g).f1),.int .i64 ((a_ i g).f2),.string ((a_ i g).f3)]] rfl TA ?_;(with_reducible refine(bR_.calls _ _ _ _ _ _ _ _ _ _ ?side1 ?side2 am.out).mono ?_);(case side1=>exact Kd.ae_ A.out TB);(case side2=>exact B.out);rintro e aN ⟨rfl,hb⟩;refine⟨_,rfl,?_⟩;replace c:=KF c hb;replace m:=KP m #[.string ((a_ i g).f0),.int .i64 ((a_ i g).f1),.int .i64 ((a_ i g).f2),.string ((a_ i g).f3)] hb;replace HB:=BS hb;clear hb));go_ret;exact⟨TE,TB⟩
       ·replace Z:=Bool.eq_false_iff.mpr Z;subst Z;replace H:=iff' H;have H':=AM H;clear H;have s:0≤(g:Int):=TD;have t:g<(i.length:Int):=TD;obtain⟨ac,O,R,U,V,W⟩:=aw_ (Kd.ae_ u.out HB.out) g s t;cases O;replace s:=eq_true s;replace t:=eq_true t;go_wp2_with (first|(refine gD 4 rfl ?_;refine bE 4 #[.string (⟨#[]⟩:ByteArray),.int .i64 0,.int .i64 0,.string (⟨#[]⟩:ByteArray)] 71 ?_;intro ad hg aO hbox hb;have m:=AM (hbox);have ae:=bG hg;replace HB:=BS hb;have D:=bN c hg;have n:=bM c hg;replace c:=KB c hb;clear hb hbox hg;obtain⟨aE,aF⟩:=nn n;have aG:=cz4 m;have aH:=cz4 c)|(refine gL 44 rfl Tryz.func41 #[.slice p l.length q,.agg #[.string ((a_ i g).f0),.int .i64 ((a_ i g).f1),.int .i64 ((a_ i g).f2),.string ((a_ i g).f3)]] rfl TA ?_;(with_reducible refine(bR_.calls _ _ _ _ _ _ _ _ _ _ ?side1 ?side2 am.out).mono ?_);(case side1=>exact Kd.ae_ A.out TB);(case side2=>exact B.out);rintro e aP ⟨rfl,hb⟩;refine⟨_,rfl,?_⟩;replace c:=KF c hb;replace m:=KP m #[.string ((a_ i g).f0),.int .i64 ((a_ i g).f1),.int .i64 ((a_ i g).f2),.string ((a_ i g).f3)] hb;replace HB:=BS hb;clear hb));go_roundg k2
        case measure=>have:=HJ1.out;have:=HK2.out;omega
        case rel=>exact⟨(wrap64 (g+1)),TF,H',⟨by have:=HJ1.out;have:=HK2.out;omega⟩,KW c,⟨TB⟩⟩
      ·rw[if_neg E] at H;have ab:=decide_eq_false E;clear E;obtain rfl:=Option.some.inj H;go_wp2;go_ret;exact⟨TE,TB⟩
end
section
mutual
def aW_.j0:Nat→Bool→ByteArray→Int→List (ah_)→Option (Bool)
 | 0,_,_,_,_=>none
 | k+1,x21,x269000,x269001,x269002=>if x21=true then(some false) else(aW_.l0 k x269001 x269002 (x269002.length:Int) 0)
def aW_.l0:Nat→Int→List (ah_)→Int→Int→Option (Bool)
 | 0,_,_,_,_=>none
 | k+1,x3,g,h,c=>if c<h then(if 0≤c then(if c<(g.length:Int) then((a2_.f k ((ad_ g c).f0) ((ad_ g c).f1) ((ad_ g c).f2) ((ad_ g c).f3)).bind fun i=>(if i=true then(if ((ad_ g c).f0)=x3 then(if ((ad_ g c).f1)≤((ad_ g c).f0) then(some false) else(aW_.l0 k ((ad_ g c).f1) g h (wrap64 (c+1)))) else(some false)) else(some false))) else(none)) else(none)) else(some true)
end
def aW_.f (k:Nat) (c:ByteArray) (g:Int) (h:List (ah_)):Option (Bool):=(bO_.f k c).bind fun i=>(if i=true then((bT_.f g).bind fun j=>(if j=true then(aW_.j0 k (decide ((h.length:Int) > 12)) c g h) else(aW_.j0 k true c g h))) else(aW_.j0 k true c g h))
theorem aW_.calls (k:Nat) (J:ByteArray) (K:Int) (U:Option Addr) (V:Nat) (i:List (ah_)) (r:Bool) (w:World) (ac:Kd.C a8_ w U i.length i) (ad:i.length≤V) (h:aW_.f k J K i=some r) :
  Calls Tryz.prog 35 #[.agg #[.string J,.int .i64 K,.slice U i.length V]] w fun e w'=>e=.returned (.bool r)∧Below w.heap.size w w':=by
 have hu38:=Tryz.underlying38;have hu52:=Tryz.underlying52;have O:=AM ac;have au:=AM ad;clear ac ad;have HB:=BZ w;have H:=h;clear h;unfold aW_.f at H;have ai:=AM H;clear H;go_enter Tryz.func35,Tryz.ntmps35
 go_upto_region 1 with (first|((with_reducible refine ax_ (N:=1) rfl ?_);(try (refine aQ_ (by rfl) ?_;dsimp only));refine bE 1 #[.string J,.int .i64 K,.slice U i.length V] 38 ?_;intro ae hg w3 hbox hb;have g:=AM (hbox);replace HB:=BS hb;clear hb hbox hg))
 (try simp only[Act.put,List.setIfInBounds_toArray,List.set_cons_zero,List.set_cons_succ]);go_cut [21] (fun av wc=>∃(kq:Nat) (R:Bool),av=.bool R∧Aside0 (aW_.j0 kq R J K i=some r)∧Aside0 (kq≤k)∧Aside0 (wc.heap[ae]? = some (.cells #[.string J,.int .i64 K,(.slice U i.length V)] 38 (0,0)))∧Aside0 (Below w.heap.size w wc))
 case first =>
  have H:=ai.out;clear ai;obtain⟨ao,A4,H⟩:=bnd H;by_cases c5:ao=true
  ·subst c5;replace H:=ift H;obtain⟨ap,A6,H⟩:=bnd H;by_cases c7:ap=true
   ·subst c7;replace H:=ift H;have H':=AM H;clear H;have aT:=cz3 g;go_wp2_with (first|(refine gL 8 rfl Tryz.func61 #[.string J] rfl TA ?_;(with_reducible refine(bO_.calls _ _ _ _ A4.out).mono ?_);rintro e w9 ⟨rfl,hb⟩;refine⟨_,rfl,?_⟩;replace g:=KB g hb;replace HB:=BS hb;clear hb;have aw:=cz3 g)|(go_at_call 62;(with_reducible refine(bT_.calls _ _ _ A6.out).mono ?_);rintro e w' ⟨rfl,⟨nd,rfl⟩⟩));go_meet
    case rel=>exact⟨_,(decide ((i.length:Int) > 12)),TF,H',⟨by first|omega|exact Nat.le_refl _⟩,KW g,⟨TB⟩⟩
   ·replace c7:=Bool.eq_false_iff.mpr c7;subst c7;replace H:=iff' H;have H':=AM H;clear H;have ax:=cz3 g;go_wp2_with (first|(refine gL 8 rfl Tryz.func61 #[.string J] rfl TA ?_;(with_reducible refine(bO_.calls _ _ _ _ A4.out).mono ?_);rintro e aU ⟨rfl,hb⟩;refine⟨_,rfl,?_⟩;replace g:=KB g hb;replace HB:=BS hb;clear hb;have ay:=cz3 g)|(go_at_call 62;(with_reducible refine(bT_.calls _ _ _ A6.out).mono ?_);rintro e w' ⟨rfl,⟨nd,rfl⟩⟩));go_meet
    case rel=>exact⟨_,(true),TF,H',⟨by first|omega|exact Nat.le_refl _⟩,KW g,⟨TB⟩⟩
  ·replace c5:=Bool.eq_false_iff.mpr c5;subst c5;replace H:=iff' H;have H':=AM H;clear H;have az:=cz3 g;go_wp2_with (first|(refine gL 8 rfl Tryz.func61 #[.string J] rfl TA ?_;(with_reducible refine(bO_.calls _ _ _ _ A4.out).mono ?_);rintro e aV ⟨rfl,hb⟩;refine⟨_,rfl,?_⟩;replace g:=KB g hb;replace HB:=BS hb;clear hb));go_meet
   case rel=>exact⟨_,(true),TF,H',⟨by first|omega|exact Nat.le_refl _⟩,KW g,⟨TB⟩⟩
 case rest =>
  clear ai;obtain⟨kq,R,rfl,HA,HJ1,g,HB⟩:=hcut
  cases kq with
  | zero=>exact absurd HA.out (by simp[aW_.j0])
  | succ aq =>
   have H:=HA.out;clear HA;simp only[aW_.j0] at H;by_cases af:R=true
   ·subst af;replace H:=ift H;obtain rfl:=Option.some.inj H;go_wp2;go_ret;exact⟨TE,TB⟩
   ·replace af:=Bool.eq_false_iff.mpr af;subst af;replace H:=iff' H;have H':=AM H;clear H;have aA:=cz3 g;go_wp2;go_loopg [3,27] aq (fun kq v3 aB w'=>∃(Z:Int) (c:Int),v3=.int .i64 Z∧aB=.int .i64 c∧Aside0 (aW_.l0 kq Z i (i.length:Int) c=some r)∧Aside0 (kq≤aq)∧Aside0 (w'.heap[ae]? = some (.cells #[.string J,.int .i64 K,(.slice U i.length V)] 38 (0,0)))∧Aside0 (Below w.heap.size w w'))
    case atStart=>exact⟨(K),(0),TF,TF,H',NL,KW g,⟨TB⟩⟩
    case round =>
     clear H';obtain⟨Z,c,rfl,rfl,HA,HK2,g,HB⟩:=hrel
     cases gk with
     | zero=>exact absurd HA.out (by simp[aW_.l0])
     | succ k2 =>
      have H:=HA.out;clear HA;simp only[aW_.l0] at H;by_cases aa:c<(i.length:Int)
      ·rw[if_pos aa] at H;have aj:=decide_eq_true aa;clear aa;obtain⟨aC,H⟩:=dn H;obtain⟨aD,H⟩:=dn H;obtain⟨ar,ag,H⟩:=bnd H;by_cases ah:ar=true
       ·subst ah;replace H:=ift H;by_cases ak:((ad_ i c).f0)=Z
        ·replace H:=qP ak H;obtain⟨al,am,H⟩:=H;clear ak;by_cases ab:((ad_ i c).f1)≤((ad_ i c).f0)
         ·rw[if_pos ab] at H;have an:=decide_eq_true ab;clear ab;obtain rfl:=Option.some.inj H;have A:0≤(c:Int):=TD;have B:c<(i.length:Int):=TD;obtain⟨W,v,x,y,z,M,l,m,n,o,p,q,s,t⟩:=cC_ O.out c A B;cases M;replace l:=hBc HB l;replace m:=hBc HB m;replace n:=hBc HB n;replace o:=hBc HB o;have D:=AM q;have E:=AM p;clear q p;have F:=AM t;have G:=AM s;clear t s;replace A:=eq_true A;replace B:=eq_true B;go_wp2_with (first|((with_reducible refine ax_ (N:=5) rfl ?_);(try (refine aQ_ (by rfl) ?_;dsimp only));refine bE 5 #[.int .i64 0,.int .i64 0,.slice none 0 0,.slice none 0 0] 52 ?_;intro X hg aW hbox hb;have j:=AM (hbox);have Y:=bG hg;replace HB:=BS hb;have I:=bN g hg;have u:=bM g hg;replace g:=KB g hb;clear hb hbox hg;obtain⟨aE,aF⟩:=nn u;have aG:=cz4 j)|(refine gL 32 rfl Tryz.func40 #[.agg #[.int .i64 ((ad_ i c).f0),.int .i64 ((ad_ i c).f1),.slice v ((ad_ i c).f2).length x,.slice y ((ad_ i c).f3).length z]] rfl TA ?_;(with_reducible refine(a2_.calls _ _ _ _ _ _ _ _ _ _ _ ?side1 ?side2 ?side3 ?side4 ag.out).mono ?_);(case side1=>exact Kd.ae_ D.out TB);(case side2=>exact E.out);(case side3=>exact Kd.ae_ F.out TB);(case side4=>exact G.out);rintro e aX ⟨rfl,hb⟩;refine⟨_,rfl,?_⟩;replace g:=KF g hb;replace j:=KP j #[.int .i64 ((ad_ i c).f0),.int .i64 ((ad_ i c).f1),.slice v ((ad_ i c).f2).length x,.slice y ((ad_ i c).f3).length z] hb;replace HB:=BS hb;clear hb;have aH:=cz4 j));go_ret;exact⟨TE,TB⟩
         ·rw[if_neg ab] at H;have an:=decide_eq_false ab;clear ab;have H':=AM H;clear H;have A:0≤(c:Int):=TD;have B:c<(i.length:Int):=TD;obtain⟨W,v,x,y,z,M,l,m,n,o,p,q,s,t⟩:=cC_ O.out c A B;cases M;replace l:=hBc HB l;replace m:=hBc HB m;replace n:=hBc HB n;replace o:=hBc HB o;have D:=AM q;have E:=AM p;clear q p;have F:=AM t;have G:=AM s;clear t s;replace A:=eq_true A;replace B:=eq_true B;go_wp2_with (first|((with_reducible refine ax_ (N:=5) rfl ?_);(try (refine aQ_ (by rfl) ?_;dsimp only));refine bE 5 #[.int .i64 0,.int .i64 0,.slice none 0 0,.slice none 0 0] 52 ?_;intro X hg aY hbox hb;have j:=AM (hbox);have Y:=bG hg;replace HB:=BS hb;have I:=bN g hg;have u:=bM g hg;replace g:=KB g hb;clear hb hbox hg;obtain⟨aI,aJ⟩:=nn u;have aK:=cz4 j)|(refine gL 32 rfl Tryz.func40 #[.agg #[.int .i64 ((ad_ i c).f0),.int .i64 ((ad_ i c).f1),.slice v ((ad_ i c).f2).length x,.slice y ((ad_ i c).f3).length z]] rfl TA ?_;(with_reducible refine(a2_.calls _ _ _ _ _ _ _ _ _ _ _ ?side1 ?side2 ?side3 ?side4 ag.out).mono ?_);(case side1=>exact Kd.ae_ D.out TB);(case side2=>exact E.out);(case side3=>exact Kd.ae_ F.out TB);(case side4=>exact G.out);rintro e aZ ⟨rfl,hb⟩;refine⟨_,rfl,?_⟩;replace g:=KF g hb;replace j:=KP j #[.int .i64 ((ad_ i c).f0),.int .i64 ((ad_ i c).f1),.slice v ((ad_ i c).f2).length x,.slice y ((ad_ i c).f3).length z] hb;replace HB:=BS hb;clear hb;have aL:=cz4 j));go_roundg k2
          case measure=>have:=HJ1.out;have:=HK2.out;omega
          case rel=>exact⟨((ad_ i c).f1),(wrap64 (c+1)),TF,TF,H',⟨by have:=HJ1.out;have:=HK2.out;omega⟩,KW g,⟨TB⟩⟩
        ·replace H:=qN ak H;obtain⟨al,am,H⟩:=H;obtain rfl:=Option.some.inj H;have A:0≤(c:Int):=TD;have B:c<(i.length:Int):=TD;obtain⟨W,v,x,y,z,M,l,m,n,o,p,q,s,t⟩:=cC_ O.out c A B;cases M;replace l:=hBc HB l;replace m:=hBc HB m;replace n:=hBc HB n;replace o:=hBc HB o;have D:=AM q;have E:=AM p;clear q p;have F:=AM t;have G:=AM s;clear t s;replace A:=eq_true A;replace B:=eq_true B;go_wp2_with (first|((with_reducible refine ax_ (N:=5) rfl ?_);(try (refine aQ_ (by rfl) ?_;dsimp only));refine bE 5 #[.int .i64 0,.int .i64 0,.slice none 0 0,.slice none 0 0] 52 ?_;intro X hg a0 hbox hb;have j:=AM (hbox);have Y:=bG hg;replace HB:=BS hb;have I:=bN g hg;have u:=bM g hg;replace g:=KB g hb;clear hb hbox hg;obtain⟨aM,aN⟩:=nn u;have aO:=cz4 j)|(refine gL 32 rfl Tryz.func40 #[.agg #[.int .i64 ((ad_ i c).f0),.int .i64 ((ad_ i c).f1),.slice v ((ad_ i c).f2).length x,.slice y ((ad_ i c).f3).length z]] rfl TA ?_;(with_reducible refine(a2_.calls _ _ _ _ _ _ _ _ _ _ _ ?side1 ?side2 ?side3 ?side4 ag.out).mono ?_);(case side1=>exact Kd.ae_ D.out TB);(case side2=>exact E.out);(case side3=>exact Kd.ae_ F.out TB);(case side4=>exact G.out);rintro e a1 ⟨rfl,hb⟩;refine⟨_,rfl,?_⟩;replace g:=KF g hb;replace j:=KP j #[.int .i64 ((ad_ i c).f0),.int .i64 ((ad_ i c).f1),.slice v ((ad_ i c).f2).length x,.slice y ((ad_ i c).f3).length z] hb;replace HB:=BS hb;clear hb;have aP:=cz4 j));go_ret;exact⟨TE,TB⟩
       ·replace ah:=Bool.eq_false_iff.mpr ah;subst ah;replace H:=iff' H;obtain rfl:=Option.some.inj H;have A:0≤(c:Int):=TD;have B:c<(i.length:Int):=TD;obtain⟨W,v,x,y,z,M,l,m,n,o,p,q,s,t⟩:=cC_ O.out c A B;cases M;replace l:=hBc HB l;replace m:=hBc HB m;replace n:=hBc HB n;replace o:=hBc HB o;have D:=AM q;have E:=AM p;clear q p;have F:=AM t;have G:=AM s;clear t s;replace A:=eq_true A;replace B:=eq_true B;go_wp2_with (first|((with_reducible refine ax_ (N:=5) rfl ?_);(try (refine aQ_ (by rfl) ?_;dsimp only));refine bE 5 #[.int .i64 0,.int .i64 0,.slice none 0 0,.slice none 0 0] 52 ?_;intro X hg a2 hbox hb;have j:=AM (hbox);have Y:=bG hg;replace HB:=BS hb;have I:=bN g hg;have u:=bM g hg;replace g:=KB g hb;clear hb hbox hg;obtain⟨aQ,aR⟩:=nn u;have aS:=cz4 j)|(refine gL 32 rfl Tryz.func40 #[.agg #[.int .i64 ((ad_ i c).f0),.int .i64 ((ad_ i c).f1),.slice v ((ad_ i c).f2).length x,.slice y ((ad_ i c).f3).length z]] rfl TA ?_;(with_reducible refine(a2_.calls _ _ _ _ _ _ _ _ _ _ _ ?side1 ?side2 ?side3 ?side4 ag.out).mono ?_);(case side1=>exact Kd.ae_ D.out TB);(case side2=>exact E.out);(case side3=>exact Kd.ae_ F.out TB);(case side4=>exact G.out);rintro e a3 ⟨rfl,hb⟩;refine⟨_,rfl,?_⟩;replace g:=KF g hb;replace j:=KP j #[.int .i64 ((ad_ i c).f0),.int .i64 ((ad_ i c).f1),.slice v ((ad_ i c).f2).length x,.slice y ((ad_ i c).f3).length z] hb;replace HB:=BS hb;clear hb));go_ret;exact⟨TE,TB⟩
      ·rw[if_neg aa] at H;have aj:=decide_eq_false aa;clear aa;obtain rfl:=Option.some.inj H;go_wp2;go_ret;exact⟨TE,TB⟩
end
section
def spec_l9Own.f (j:Int) (l:Int) (c:List (aa_)) (g:List (aa_)):Option (Int × Int × (List (aa_)) × (List (aa_))):=(some (([]:List (aa_)):List (aa_))).bind fun h=>(if h.length+c.length<2932031007402 then((some (([]:List (aa_)):List (aa_))).bind fun i=>(if i.length+g.length<2932031007402 then(some (j,l,(h++c),(i++g))) else(none))) else(none))
theorem spec_l9Own.calls (n:Int) (q:Int) (U:Option Addr) (V:Nat) (s:List (aa_)) (x:Option Addr) (y:Nat) (l:List (aa_)) (r1:Int) (r2:Int) (r3:List (aa_)) (r4:List (aa_)) (w:World) (W:Kd.C af_ w U s.length s) (X:s.length≤V) (Y:Kd.C af_ w x l.length l) (Z:l.length≤y) (h:spec_l9Own.f n q s l=some (r1,r2,r3,r4)) :
  Calls Tryz.prog 63 #[.agg #[.int .i64 n,.int .i64 q,.slice U s.length V,.slice x l.length y]] w fun e w'=>∃v2_ v3_:Value,e=.returned (.agg #[.int .i64 r1,.int .i64 r2,v2_,v3_])∧Kd.R af_ 71 w' w.heap.size (fun k_=>some k_≠(v3_:Value).ownBlock) v2_ r3∧Kd.R af_ 71 w' w.heap.size (fun k_=>some k_≠(v2_:Value).ownBlock) v3_ r4∧Below w.heap.size w w':=by
 have hu52:=Tryz.underlying52;have ad:=AM W;have ah:=AM X;clear W X;have ae:=AM Y;have ai:=AM Z;clear Y Z;have HB:=BZ w;have H:=h;clear h;unfold spec_l9Own.f at H;obtain⟨ac,Ny276,H⟩:=nm H;obtain⟨c2,H⟩:=ifn H;have LMc2:=AM c2;clear c2;obtain⟨t,u⟩:∃y_:List (aa_),y_=(ac++s):=⟨_,rfl⟩
 replace H:((some (([]:List (aa_)):List (aa_))).bind fun I=>(if I.length+l.length<2932031007402 then(some (n,q,t,(I++l))) else(none)))=some (r1,r2,r3,r4):=by first|(rw[u];with_reducible exact H)|(have H2_:=(Option.bind_some _ _).symm.trans H;rw[u];with_reducible exact H2_)|(have H2_:=(Option.bind_some _ _).symm.trans H;with_reducible exact H2_)|with_reducible exact H|(rw[u];exact H)|exact H
 have Ny279:=AM u;clear u;obtain⟨I,Ny282,H⟩:=nm H;obtain⟨c3,H⟩:=ifn H;have LMc3:=AM c3;clear c3;obtain⟨z,v⟩:∃y_:List (aa_),y_=(I++l):=⟨_,rfl⟩
 replace H:(some (n,q,t,z))=some (r1,r2,r3,r4):=by first|(rw[v];with_reducible exact H)|(have H2_:=(Option.bind_some _ _).symm.trans H;rw[v];with_reducible exact H2_)|(have H2_:=(Option.bind_some _ _).symm.trans H;with_reducible exact H2_)|with_reducible exact H|(rw[v];exact H)|exact H
 have Ny285:=AM v;clear v;simp only[Option.some.injEq,Prod.mk.injEq] at H;obtain⟨rfl,rfl,rfl,rfl⟩:=H;go_enter Tryz.func63,Tryz.ntmps63;go_wp2_with (first|(refine gD 1 rfl ?_;refine bE 1 #[.int .i64 n,.int .i64 q,.slice U s.length V,.slice x l.length y] 52 ?_;intro E hg w4 hbox hb;have c:=AM (hbox);have aj:=bG hg;replace HB:=BS hb;clear hb hbox hg)|(refine gD 2 rfl ?_;refine bE 2 #[.int .i64 0,.int .i64 0,.slice none 0 0,.slice none 0 0] 52 ?_;intro j hg w5 hbox hb;have i:=AM (hbox);have ak:=bG hg;replace HB:=BS hb;have M:=bN c hg;have O:=bM c hg;replace c:=KB c hb;clear hb hbox hg)|((with_reducible refine ax_ (N:=3) rfl ?_);refine Kd.R_lit af_ _ 71 ?hg (N:=3) ?hd (xs:=([]:List (aa_))) (inner:=[]) (ok:=fun _=>True) (okp:=fun _=>True) ?hr ?hp (fun _ hk=>hk) trivial (Below.refl _ _) (Nat.le_refl _) (by simp) ?_;(case hd=>rfl);(case hg=>rfl);(case hr=>first|(go_simp;done)|(go_simp;rfl));(case hp=>exact(Reps.none _ _));intro af w6 aa hb hg_ hnew_;clear hg_ hnew_;(first|rw[←Ny276.out] at aa|(simp only[Int.reduceToNat] at aa;rw[←Ny276.out] at aa));have F:=RL aa;replace c:=KB c hb;replace i:=KB i hb;replace HB:=BS hb;clear hb aa;obtain⟨ap,aq⟩:=nn M;have ar:=cz4 c)|((with_reducible refine bN_ (b:=.append) (xs:=#[.tmp 3,.tmp 5]) rfl ?_);at_builtin;refine Kd.cK_ af_ (w0:=w) w.heap.size rfl (.tmp 3) (.tmp 5) 30 71 (.agg #[(.string ⟨#[]⟩),(.int .i64 0),(.int .i64 0),(.string ⟨#[]⟩)]) 48 rfl Tryz.underlying30 info71 rfl (by decide) (by omega) af ac s _ _ _ (fun _=>True) (fun _=>False) rfl rfl ?aO ?aR (fun _ _ h=>h) (fun _ h=>h.elim) ?aF ?aB ?aS ?aL ?_;(case aR=>repeat (first|exact(Kd.ae_ ad.out HB.out)|(with_reducible refine Kd.C_alloc ?_ _)|(with_reducible refine Kd.C_drewN ?_ _)|(with_reducible refine Kd.C_drew ?_)));(case aB=>exact TB);(case aF=>exact(fun _ _=>trivial));(case aO=>exact(RW F).out);(case aS=>exact(bh_ TB));(case aL=>have:=LMc2.out;omega);intro au aw ho hb hg hat;rw[←Ny279.out] at ho;have n0_:=AM (cz_ (g:=E) (o:=.cells #[.int .i64 n,.int .i64 q,.slice U s.length V,.slice x l.length y] 52 (0,0)) (KW c).out hg (Kd.R_ne F.out c.out (by decide)));have n1_:=AM (cz_ (g:=j) (o:=.cells #[.int .i64 0,.int .i64 0,.slice none 0 0,.slice none 0 0] 52 (0,0)) (KW i).out hg (Kd.R_ne F.out i.out (by decide)));have n2_:=AM (hb);have n3_:=AM (ho);clear c i HB F;have c:=n0_;have i:=n1_;have HB:=n2_;have m:=n3_;clear n0_ n1_ n2_ n3_ ho hb hg hat;obtain⟨A,B,eo11⟩:=Kd.ap_ m.out;subst eo11;have al:=cz4 c)|((with_reducible refine ax_ (N:=8) rfl ?_);refine Kd.R_lit af_ _ 71 ?hg (N:=8) ?hd (xs:=([]:List (aa_))) (inner:=[]) (ok:=fun _=>True) (okp:=fun _=>True) ?hr ?hp (fun _ hk=>hk) trivial (Below.refl _ _) (Nat.le_refl _) (by simp) ?_;(case hd=>rfl);(case hg=>rfl);(case hr=>first|(go_simp;done)|(go_simp;rfl));(case hp=>exact(Reps.none _ _));intro ag ax D hb hg_ hnew_;clear hg_ hnew_;(first|rw[←Ny282.out] at D|(simp only[Int.reduceToNat] at D;rw[←Ny282.out] at D));have G:=RL (NT D m c);replace m:=ET m c D hb;replace c:=KP c #[.int .i64 n,.int .i64 q,.slice A t.length B,.slice x l.length y] hb;replace i:=KF i hb;replace HB:=BS hb;clear hb D;have am:=cz4 c)|((with_reducible refine bN_ (b:=.append) (xs:=#[.tmp 8,.tmp 10]) rfl ?_);at_builtin;refine Kd.cK_ af_ (w0:=w) w.heap.size rfl (.tmp 8) (.tmp 10) 30 71 (.agg #[(.string ⟨#[]⟩),(.int .i64 0),(.int .i64 0),(.string ⟨#[]⟩)]) 48 rfl Tryz.underlying30 info71 rfl (by decide) (by omega) ag I l _ _ _ (fun k_=>some k_≠(.slice A t.length B:Value).ownBlock) (fun _=>False) rfl rfl ?aO ?aR (fun _ _ h=>h) (fun _ h=>h.elim) ?aF ?aB ?aS ?aL ?_;(case aR=>repeat (first|exact(Kd.ae_ ae.out HB.out)|(with_reducible refine Kd.C_alloc ?_ _)|(with_reducible refine Kd.C_drewN ?_ _)|(with_reducible refine Kd.C_drew ?_)));(case aB=>exact TB);(case aF=>exact(fun k_ hk=>Kd.fresh' (Kd.R_lt (RW m).out) k_ hk));(case aO=>exact(MO G).out);(case aS=>exact(bh_ TB));(case aL=>have:=LMc3.out;omega);intro av ay ho hb hg hat;rw[←Ny285.out] at ho;have n0_:=AM (cz_ (g:=E) (o:=.cells #[.int .i64 n,.int .i64 q,.slice A t.length B,.slice x l.length y] 52 (0,0)) (KW c).out hg (Kd.R_ne G.out c.out (by decide)));have n1_:=AM (cz_ (g:=j) (o:=.cells #[.int .i64 0,.int .i64 0,.slice none 0 0,.slice none 0 0] 52 (0,0)) (KW i).out hg (Kd.R_ne G.out i.out (by decide)));have n2_:=AM (Kd.R_after (ok:=(fun _=>True)) (RW m).out hg hat);have n3_:=AM (hb);have n4_:=AM (ho);clear c i m HB G;have c:=n0_;have i:=n1_;have m:=n2_;have HB:=n3_;have ab:=n4_;clear n0_ n1_ n2_ n3_ n4_ ho hb hg hat;obtain⟨J,K,eo17⟩:=Kd.ap_ ab.out;subst eo17;have an:=cz4 c;have ao:=cz4 i));refine bodyPost_ret (results_cell_row rfl _ _ j 52 #[.int .i64 n,.int .i64 q,.slice A t.length B,.slice J z.length K] (0,0) _ rfl (by(with_reducible repeat (first|refine blk_drewN ?_ _|refine ai_ ?_|refine blk_alloc ?_ _));apply PF4;(with_reducible repeat (first|refine blk_drewN ?_ _|refine ai_ ?_|refine blk_alloc ?_ _));refine FF1 ?_ O.out;exact(KW i).out) Tryz.underlying52 rfl KR) rfl ?_;exact⟨_,_,TE,by(with_reducible repeat (first|apply Kd.R_alloc|apply Kd.R_drewN|apply Kd.bC_));exact Kd.aM_ (Kd.a6_ (p:=⟨j,3,none⟩) (Kd.a6_ (p:=⟨j,2,none⟩) (Kd.a6_ (p:=⟨j,1,none⟩) (Kd.a6_ (p:=⟨j,0,none⟩) (Kd.a6_ (p:=⟨E,3,none⟩) (Kd.bS_ (Kd.bS_ m.out c.out (by decide)) i.out (by decide)) (fun _ hk=>hk.1.2) (.slice J z.length K)) (fun _ hk=>hk.2) (.int .i64 n)) (fun _ hk=>hk.2) (.int .i64 q)) (fun _ hk=>hk.2) (.slice A t.length B)) (fun _ hk=>hk.2) (.slice J z.length K)) (fun _ hk=>hk.1.1.2),by(with_reducible repeat (first|apply Kd.R_alloc|apply Kd.R_drewN|apply Kd.bC_));exact Kd.aM_ (Kd.a6_ (p:=⟨j,3,none⟩) (Kd.a6_ (p:=⟨j,2,none⟩) (Kd.a6_ (p:=⟨j,1,none⟩) (Kd.a6_ (p:=⟨j,0,none⟩) (Kd.a6_ (p:=⟨E,3,none⟩) (Kd.bS_ (Kd.bS_ ab.out c.out (by decide)) i.out (by decide)) (fun _ hk=>hk.1.2) (.slice J z.length K)) (fun _ hk=>hk.2) (.int .i64 n)) (fun _ hk=>hk.2) (.int .i64 q)) (fun _ hk=>hk.2) (.slice A t.length B)) (fun _ hk=>hk.2) (.slice J z.length K)) (fun _ hk=>hk.1.1),TB⟩
end
section
def bU_.l0:Nat→List (ah_)→List (ah_)→Int→Int→Option ((List (ah_)))
 | 0,_,_,_,_=>none
 | k+1,x3,x6,x7,x8=>if x8<x7 then(if 0≤x8 then(if x8<(x6.length:Int) then((spec_l9Own.f ((ad_ x6 x8).f0) ((ad_ x6 x8).f1) ((ad_ x6 x8).f2) ((ad_ x6 x8).f3)).bind fun bt290=>(if x3.length<2199023255552 then(bU_.l0 k (x3++[(⟨bt290.1,bt290.2.1,bt290.2.2.1,bt290.2.2.2⟩:ah_)]) x6 x7 (wrap64 (x8+1))) else(none))) else(none)) else(none)) else(some x3)
def bU_.f (k:Nat) (l0:List (ah_)):Option ((List (ah_))):=bU_.l0 k ([]:List (ah_)) l0 (l0.length:Int) 0
theorem bU_.calls (k:Nat) (A0:Option Addr) (c0:Nat) (l0:List (ah_)) (r:List (ah_)) (w:World) (ad:Kd.C a8_ w A0 l0.length l0) (ae:l0.length≤c0) (h:bU_.f k l0=some r) :
  Calls Tryz.prog 36 #[.slice A0 l0.length c0] w fun e w'=>∃v0_:Value,e=.returned (v0_)∧Kd.S a8_ 52 w' w.heap.size (fun _=>True) v0_ r∧Below w.heap.size w w':=by
 have hu52:=Tryz.underlying52;have aj:=AM ad;have au:=AM ae;clear ad ae;have HB:=BZ w;have H:(bU_.l0 k ([]:List (ah_)) l0 (l0.length:Int) 0)=some r:=h;clear h;have H':=AM H;clear H;go_enter Tryz.func36,Tryz.ntmps36;go_wp2;go_loopg [3,8] k (fun kq v3 v8 w'=>∃(x:List (ah_)) (c:Int),v8=.int .i64 c∧Aside0 (bU_.l0 kq x l0 (l0.length:Int) c=some r)∧Aside0 (kq≤k)∧Aside0 (Kd.S a8_ 52 w' w.heap.size (fun _=>True) v3 x)∧Aside0 (Below w.heap.size w w'))
 case atStart=>exact⟨(([]:List (ah_))),(0),TF,H',NL,⟨by first|exact Kd.S_nil _ _ _ _ _|exact Kd.N_nil _ _ _ _ _|exact Kd.V_nil _ _ _ _ _|exact Kd.Q_nil _ _ _ _ _|exact Kd.R_nil _ _ _ _ _⟩,⟨TB⟩⟩
 case round =>
  clear H';obtain⟨x,c,rfl,HA,HK1,l,HB⟩:=hrel
  cases gk with
  | zero=>exact absurd HA.out (by simp[bU_.l0])
  | succ k1 =>
   have H:=HA.out;clear HA;simp only[bU_.l0] at H;by_cases c2:c<(l0.length:Int)
   ·rw[if_pos c2] at H;have af:=decide_eq_true c2;clear c2;obtain⟨am,H⟩:=dn H;obtain⟨an,H⟩:=dn H;obtain⟨⟨K,M,y,z⟩,A5,H⟩:=bnd H
    try dsimp only at H
    obtain⟨c6,H⟩:=ifn H;have LMc6:=AM c6;clear c6;obtain⟨X,t⟩:∃y_:List (ah_),y_=(x++[(⟨K,M,y,z⟩:ah_)]):=⟨_,rfl⟩
    replace H:(bU_.l0 k1 X l0 (l0.length:Int) (wrap64 (c+1)))=some r:=by first|(rw[t];with_reducible exact H)|(have H2_:=(Option.bind_some _ _).symm.trans H;rw[t];with_reducible exact H2_)|(have H2_:=(Option.bind_some _ _).symm.trans H;with_reducible exact H2_)|with_reducible exact H|(rw[t];exact H)|exact H
    have Ny298:=AM t;clear t;have H':=AM H;clear H;have N:0≤(c:Int):=TD;have O:c<(l0.length:Int):=TD;obtain⟨ak,m,n,q,s,ag,A,B,D,E,F,G,I,J⟩:=cC_ aj.out c N O;cases ag;replace A:=hBc HB A;replace B:=hBc HB B;replace D:=hBc HB D;replace E:=hBc HB E;have R:=AM G;have U:=AM F;clear G F;have V:=AM J;have W:=AM I;clear J I;replace N:=eq_true N;replace O:=eq_true O;go_wp2_with (first|(refine gD 5 rfl ?_;refine bE 5 #[.int .i64 0,.int .i64 0,.slice none 0 0,.slice none 0 0] 52 ?_;intro i hg w7 hbox hb;replace l:=AM (Kd.cy_ (Kd.S_elderB (by(with_reducible repeat (first|apply Kd.S_alloc|apply Kd.S_drewN|apply Kd.bn_));exact l.out) i (Nat.le_of_eq hg.symm)) hb);have j:=AM (hbox);have al:=bG hg;replace HB:=BS hb;clear hb hbox hg;have ao:=cz4 j)|(refine gL 14 rfl Tryz.func63 #[.agg #[.int .i64 ((ad_ l0 c).f0),.int .i64 ((ad_ l0 c).f1),.slice m ((ad_ l0 c).f2).length n,.slice q ((ad_ l0 c).f3).length s]] rfl TA ?_;(with_reducible refine(spec_l9Own.calls _ _ _ _ _ _ _ _ _ _ _ _ _ ?side1 ?side2 ?side3 ?side4 A5.out).mono ?_);(case side1=>exact Kd.ae_ R.out TB);(case side2=>exact U.out);(case side3=>exact Kd.ae_ V.out TB);(case side4=>exact W.out);rintro e w9 ⟨ap,aq,rfl,ah,ai,hb⟩;refine⟨_,rfl,?_⟩;replace l:=AM (Kd.bK_ (Kd.S_told (Kd.S_told (Kd.S_old (by(with_reducible repeat (first|apply Kd.S_alloc|apply Kd.S_drewN|apply Kd.bn_));exact(Kd.bK_ (Kd.bk_ (p:=⟨i,3,none⟩) (Kd.bk_ (p:=⟨i,2,none⟩) (Kd.bk_ (p:=⟨i,1,none⟩) (Kd.bk_ (p:=⟨i,0,none⟩) (Kd.bK_ l.out (fun k_ hk=>(⟨hk,hk.2⟩:_∧k_≠i))) (fun _ hk=>hk.2) (.int .i64 ((ad_ l0 c).f0))) (fun _ hk=>hk.2) (.int .i64 ((ad_ l0 c).f1))) (fun _ hk=>hk.2) (.slice m ((ad_ l0 c).f2).length n)) (fun _ hk=>hk.2) (.slice q ((ad_ l0 c).f3).length s)) (fun _ h_=>h_.1))) hb) (Kd.cD_ ah)) (Kd.cD_ ai)) (fun _ h_=>h_.1));have u:=RL ah;have v:=RL ai;replace j:=KP j #[.int .i64 ((ad_ l0 c).f0),.int .i64 ((ad_ l0 c).f1),.slice m ((ad_ l0 c).f2).length n,.slice q ((ad_ l0 c).f3).length s] hb;replace HB:=BS hb;clear hb;obtain⟨Y,Z,eo11⟩:=Kd.ap_ u.out;subst eo11;obtain⟨aa,ab,eo12⟩:=Kd.ap_ v.out;subst eo12)|((with_reducible refine bN_ (b:=.append) (xs:=#[.tmp 12,.tmp 15]) rfl ?_);at_builtin;refine Kd.S_append a8_ (w0:=w) w.heap.size rfl (.tmp 12) (.tmp 15) 36 52 (.agg #[(.int .i64 0),(.int .i64 0),(.slice none 0 0),(.slice none 0 0)]) 64 rfl Tryz.underlying36 info52 rfl (by decide) (by omega) u3 x (⟨K,M,y,z⟩:ah_) [.int .i64 K,.int .i64 M,.slice Y y.length Z,.slice aa z.length ab] (fun k_=>k_≠i) (fun k_=>some k_=(.slice Y y.length Z:Value).ownBlock∨some k_=(.slice aa z.length ab:Value).ownBlock) rfl rfl ?aP (fun k_ hk_=>hk_.elim (fun h_=>((Kd.aM_ (ok':=fun k_=>((fun k_=>k_≠i)) k_∧some k_≠(u3:Value).ownBlock) (Kd.bS_ (Kd.R_apart' (u.out) (Kd.S_typed l.out) (by decide)) j.out (by decide)) (fun k_ hk=>⟨hk.2,hk.1.2⟩))).1 k_ h_.symm) (fun h_=>((Kd.aM_ (ok':=fun k_=>((fun k_=>k_≠i)) k_∧some k_≠(u3:Value).ownBlock) (Kd.bS_ (Kd.R_apart' (v.out) (Kd.S_typed l.out) (by decide)) j.out (by decide)) (fun k_ hk=>⟨hk.2,hk.1.2⟩))).1 k_ h_.symm)) ?aF ?aO ?aB ?aS ?aL ?_;(case aP=>exact k_Diff_mkM _ _ _ (⟨K,M,y,z⟩:ah_) (Kd.aM_ (Kd.R_tight rfl (Kd.aM_ (ok':=fun k_=>((fun k_=>k_≠i)) k_∧some k_≠(u3:Value).ownBlock) (Kd.bS_ (Kd.R_apart' (u.out) (Kd.S_typed l.out) (by decide)) j.out (by decide)) (fun k_ hk=>⟨hk.2,hk.1.2⟩))) (fun _ h_=>Or.inl h_)) (Kd.aM_ (Kd.R_tight rfl (Kd.aM_ (ok':=fun k_=>((fun k_=>k_≠i)) k_∧some k_≠(u3:Value).ownBlock) (Kd.bS_ (Kd.R_apart' (v.out) (Kd.S_typed l.out) (by decide)) j.out (by decide)) (fun k_ hk=>⟨hk.2,hk.1.2⟩))) (fun _ h_=>Or.inr (h_))) (by intro k_ h1_ h2_;have h3_:=u.out.1 k_ h1_;first|exact h3_ h2_.symm|exact h3_.1 h2_.symm|exact h3_.2 h2_.symm|exact h3_.1.1 h2_.symm|exact h3_.1.2 h2_.symm));(case aB=>exact TB);(case aF=>exact(fun k_ hk=>Kd.freshB (g:=i) (o:=.cells #[.int .i64 ((ad_ l0 c).f0),.int .i64 ((ad_ l0 c).f1),.slice m ((ad_ l0 c).f2).length n,.slice q ((ad_ l0 c).f3).length s] 52 (0,0)) (KW j).out k_ hk));(case aO=>exact(by(with_reducible repeat (first|apply Kd.S_alloc|apply Kd.S_drewN|apply Kd.bn_));exact Kd.bK_ l.out (fun k_ hk=>⟨hk.1.1.2,fun e_=>e_.elim (fun h_=>hk.1.2 h_) (fun h_=>hk.2 h_)⟩)));(case aS=>exact(bh_ TB));(case aL=>have:=LMc6.out;omega);intro ar av ho hb hg hat;rw[←Ny298.out] at ho;have n0_:=AM (cz_ (g:=i) (o:=.cells #[.int .i64 ((ad_ l0 c).f0),.int .i64 ((ad_ l0 c).f1),.slice m ((ad_ l0 c).f2).length n,.slice q ((ad_ l0 c).f3).length s] 52 (0,0)) (KW j).out hg (Kd.S_away l.out (fun _ hk=>hk.1.1.2)));have n1_:=AM (hb);have n2_:=AM (ho);clear j HB l u v;have j:=n0_;have HB:=n1_;have ac:=n2_;clear n0_ n1_ n2_ ho hb hg hat));go_roundg k1
    case measure=>exact TM
    case rel=>exact⟨(X),(wrap64 (c+1)),TF,H',⟨TM⟩,⟨by(with_reducible repeat (first|apply Kd.S_alloc|apply Kd.S_drewN|apply Kd.bn_));exact Kd.bK_ ac.out (fun _ hk=>trivial)⟩,⟨TB⟩⟩
   ·rw[if_neg c2] at H;have af:=decide_eq_false c2;clear c2;obtain rfl:=Option.some.inj H;go_wp2;go_ret;exact⟨_,TE,by(with_reducible repeat (first|apply Kd.S_alloc|apply Kd.S_drewN|apply Kd.bn_));exact l.out,TB⟩
end
section
def bX_.l0:Nat→Int→List (ah_)→Int→Int→ByteArray→Int→List (ah_)→Option ((List (ah_)) × Bool)
 | 0,_,_,_,_,_,_,_=>none
 | k+1,x1,j,l,g,h,i,c=>if g<l then(if 0≤g then(if g<(j.length:Int) then(if ((ad_ j g).f1)=x1 then(if 0≤(wrap64 (g+1)) then(if (wrap64 (g+1))≤(c.length:Int) then((bU_.f k (c.drop ((wrap64 (g+1)):Int).toNat)).bind fun m=>(some (m,true))) else(none)) else(none)) else(bX_.l0 k x1 j l (wrap64 (g+1)) h i c)) else(none)) else(none)) else(some (([]:List (ah_)),false))
def bX_.f (k:Nat) (h:ByteArray) (g:Int) (c:List (ah_)) (a1:Int):Option ((List (ah_)) × Bool):=(aW_.f k h g c).bind fun i=>(if i=true then(if a1=g then((bU_.f k c).bind fun j=>(some (j,true))) else(bX_.l0 k a1 c (c.length:Int) 0 h g c)) else(some (([]:List (ah_)),false)))
theorem bX_.calls (k:Nat) (x:ByteArray) (u:Int) (I:Option Addr) (n:Nat) (i:List (ah_)) (a1:Int) (r1:List (ah_)) (r2:Bool) (w:World) (ah:Kd.C a8_ w I i.length i) (ai:i.length≤n) (h:bX_.f k x u i a1=some (r1,r2)) :
  Calls Tryz.prog 17 #[.agg #[.string x,.int .i64 u,.slice I i.length n],.int .i64 a1] w fun e w'=>∃v0_:Value,e=.returned (.tuple #[v0_,.bool r2])∧Kd.S a8_ 52 w' w.heap.size (fun _=>True) v0_ r1∧Below w.heap.size w w':=by
 have hu38:=Tryz.underlying38;have hu52:=Tryz.underlying52;have J:=AM ah;have W:=AM ai;clear ah ai;have HB:=BZ w;have H:=h;clear h;unfold bX_.f at H;obtain⟨aH,A3,H⟩:=bnd H;by_cases c4:aH=true
 ·subst c4;replace H:=ift H;by_cases c5:a1=u
  ·replace H:=qP c5 H;obtain⟨aI,aJ,H⟩:=H;clear c5;obtain⟨a9,A6,H⟩:=bnd H;simp only[Option.some.injEq,Prod.mk.injEq] at H;obtain⟨rfl,rfl⟩:=H;go_enter Tryz.func17,Tryz.ntmps17;go_wp2_with (first|(refine gD 2 rfl ?_;refine bE 2 #[.string x,.int .i64 u,.slice I i.length n] 38 ?_;intro ac hg w7 hbox hb;have j:=AM (hbox);have aj:=bG hg;replace HB:=BS hb;clear hb hbox hg;have ba:=cz3 j)|(refine gL 9 rfl Tryz.func35 #[.agg #[.string x,.int .i64 u,.slice I i.length n]] rfl TA ?_;(with_reducible refine(aW_.calls _ _ _ _ _ _ _ _ ?side1 ?side2 A3.out).mono ?_);(case side1=>exact CW ((Kd.ae_ J.out HB.out)));(case side2=>exact W.out);rintro e w9 ⟨rfl,hb⟩;refine⟨_,rfl,?_⟩;replace j:=KB j hb;replace HB:=BS hb;clear hb;have aN:=cz3 j)|(refine gL 17 rfl Tryz.func36 #[.slice I i.length n] rfl TA ?_;(with_reducible refine(bU_.calls _ _ _ _ _ _ ?side1 ?side2 A6.out).mono ?_);(case side1=>exact CW ((Kd.ae_ J.out HB.out)));(case side2=>exact W.out);rintro e bf ⟨bb,rfl,ar,hb⟩;refine⟨_,rfl,?_⟩;have au:=AM (Kd.S_lower ar (bh_ TB));replace j:=KB j hb;replace HB:=BS hb;clear hb));go_ret2;exact⟨_,TE,by(with_reducible repeat (first|apply Kd.S_alloc|apply Kd.S_drewN|apply Kd.bn_));exact au.out,TB⟩
  ·replace H:=qN c5 H;obtain⟨aI,aJ,H⟩:=H;have H':=AM H;clear H;go_enter Tryz.func17,Tryz.ntmps17;go_wp2_with (first|(refine gD 2 rfl ?_;refine bE 2 #[.string x,.int .i64 u,.slice I i.length n] 38 ?_;intro ac hg bg hbox hb;have j:=AM (hbox);have aj:=bG hg;replace HB:=BS hb;clear hb hbox hg;have aO:=cz3 j)|(refine gL 9 rfl Tryz.func35 #[.agg #[.string x,.int .i64 u,.slice I i.length n]] rfl TA ?_;(with_reducible refine(aW_.calls _ _ _ _ _ _ _ _ ?side1 ?side2 A3.out).mono ?_);(case side1=>exact CW ((Kd.ae_ J.out HB.out)));(case side2=>exact W.out);rintro e bh ⟨rfl,hb⟩;refine⟨_,rfl,?_⟩;replace j:=KB j hb;replace HB:=BS hb;clear hb;have aP:=cz3 j));go_loopg [21] k (fun kq aQ w'=>∃(l:Int),aQ=.int .i64 l∧Aside0 (bX_.l0 kq a1 i (i.length:Int) l x u i=some (r1,r2))∧Aside0 (kq≤k)∧Aside0 (w'.heap[ac]? = some (.cells #[.string x,.int .i64 u,(.slice I i.length n)] 38 (0,0)))∧Aside0 (Below w.heap.size w w'))
   case atStart=>exact⟨(0),TF,H',NL,KW j,⟨TB⟩⟩
   case round =>
    clear H';obtain⟨l,rfl,HA,HK1,j,HB⟩:=hrel
    cases gk with
    | zero=>exact absurd HA.out (by simp[bX_.l0])
    | succ k1 =>
     have H:=HA.out;clear HA;simp only[bX_.l0] at H;by_cases ag:l<(i.length:Int)
     ·rw[if_pos ag] at H;have av:=decide_eq_true ag;clear ag;obtain⟨aR,H⟩:=dn H;obtain⟨aS,H⟩:=dn H;by_cases aw:((ad_ i l).f1)=a1
      ·replace H:=qP aw H;obtain⟨ax,ay,H⟩:=H;clear aw;obtain⟨q,hji20⟩:∃j_:Int,(wrap64 (l+1))=j_:=⟨_,rfl⟩
       replace H:(if 0≤(q) then(if (q)≤(i.length:Int) then((bU_.f k1 (i.drop ((q):Int).toNat)).bind fun ae=>(some (ae,true))) else(none)) else(none))=some (r1,r2):=by first|(rw[hji20] at H;exact H)|(simp only[hji20] at H ⊢;exact H)
       have hji20w:(IntKind.i64.wrap (l+1))=q:=(b6_ _).trans hji20;obtain⟨az,H⟩:=ifn H;have aT:=eq_true az;have aU:=decide_eq_true az;clear az;obtain⟨aA,H⟩:=ifn H;have aV:=eq_true aA;have aW:=decide_eq_true aA;clear aA;obtain⟨X,Y⟩:∃y_:List (ah_),y_=(i.drop ((q):Int).toNat):=⟨_,rfl⟩
       replace H:((bU_.f k1 X).bind fun ae=>(some (ae,true)))=some (r1,r2):=by first|(rw[Y];with_reducible exact H)|(have H2_:=(Option.bind_some _ _).symm.trans H;rw[Y];with_reducible exact H2_)|(have H2_:=(Option.bind_some _ _).symm.trans H;with_reducible exact H2_)|with_reducible exact H|(rw[Y];exact H)|exact H
       have Ny308:=AM Y;clear Y;obtain⟨ae,aX,H⟩:=bnd H;simp only[Option.some.injEq,Prod.mk.injEq] at H;obtain⟨rfl,rfl⟩:=H;have Z:0≤(l:Int):=TD;have aa:l<(i.length:Int):=TD;obtain⟨N,O,R,U,V,ak,y,z,A,B,D,E,F,G⟩:=cC_ J.out l Z aa;cases ak;replace y:=hBc HB y;replace z:=hBc HB z;replace A:=hBc HB A;replace B:=hBc HB B;have al:=AM E;have am:=AM D;clear E D;have an:=AM G;have ao:=AM F;clear G F;replace Z:=eq_true Z;replace aa:=eq_true aa;go_wp2_with (first|(refine gD 7 rfl ?_;refine bE 7 #[.int .i64 0,.int .i64 0,.slice none 0 0,.slice none 0 0] 52 ?_;intro K hg aY hbox hb;have s:=AM (hbox);have aB:=bG hg;replace HB:=BS hb;have ab:=bN j hg;have M:=bM j hg;replace j:=KB j hb;clear hb hbox hg;obtain⟨aZ,a0⟩:=nn M;have a2:=cz4 s)|((with_reducible refine ck_ (t:=52) (p:=7) rfl ?_);refine cb_ (t:=52) (p:=7) (v:=?vo_w27) (w1:=((((aY.setCell ⟨K,0,none⟩ (.int .i64 ((ad_ i l).f0))).setCell ⟨K,1,none⟩ (.int .i64 ((ad_ i l).f1))).setCell ⟨K,2,none⟩ (.slice O ((ad_ i l).f2).length R)).setCell ⟨K,3,none⟩ (.slice U ((ad_ i l).f3).length V))) ?hg ?ho ?hn ?hr ?_;(case ho=>rfl);(case hg=>rfl);(case hn=>rfl);(case hr=>first|(go_simp;done)|(go_simp;rfl));intro aC hw;have n0_:Aside0 (aC.heap[ac]? = some (.cells #[.string x,.int .i64 u,.slice (some N) i.length n] 38 (0,0))):=⟨(by rw[hw];exact(by(with_reducible repeat (first|refine blk_drewN ?_ _|refine ai_ ?_|refine blk_alloc ?_ _));refine FF4 ?_ ab.out;exact(KW j).out))⟩;have n1_:Aside0 (aC.heap[K]? = some (.cells #[.int .i64 ((ad_ i l).f0),.int .i64 ((ad_ i l).f1),.slice O ((ad_ i l).f2).length R,.slice U ((ad_ i l).f3).length V] 52 (0,0))):=⟨(by rw[hw];exact(by(with_reducible repeat (first|refine blk_drewN ?_ _|refine ai_ ?_|refine blk_alloc ?_ _));apply PF4;exact(KW s).out))⟩;have n2_:Aside0 (Below w.heap.size w aC):=⟨(by rw[hw];exact TB)⟩;clear hw j s HB;have j:=n0_;have s:=n1_;have HB:=n2_;clear n0_ n1_ n2_;have a3:=cz4 s;have a4:=cz3 j;have aD:((q):Int)≤((i.length:Int):Int):=TD;obtain⟨bd,ap,_,hsz30,_⟩:=info_parts info52;have hroom30:i.length≤n:=W.out;have hC30:Kd.C a8_ _ (some N) i.length i:=J.out;have aK:(0:Int)≤((q):Int):=TD;have hcut30:=cut_from (P:=Tryz.prog) 36 52 .i64 Tryz.underlying36 ap 4 hsz30 (some N) i.length n (q) aK aD;have ad:=Kd.C_drop (m:=((q):Int).toNat) (c:=n) hC30 (by omega) hroom30;obtain⟨aL,hA30⟩:∃A1,A1=(if n=((q):Int).toNat then(some N) else((some N):Option Addr).map (·.add (((q):Int).toNat * 4))):=⟨_,rfl⟩;obtain⟨aM,aq⟩:∃c1,c1=n - ((q):Int).toNat:=⟨_,rfl⟩;have af:X.length=i.length - ((q):Int).toNat:=(by rw[Ny308.out,List.length_drop]<;>omega);rw[show(i).drop ((q):Int).toNat=X from Ny308.out.symm] at ad;replace ad:Kd.C a8_ _ aL X.length X:=(by rw[hA30];exact ad);rw[←af,←hA30,←aq] at hcut30;have aE:=AM ad;have aF:=AM (show X.length≤aM from by rw[af,aq];exact Nat.sub_le_sub_right hroom30 _);clear ad hC30 hroom30 ap hsz30 aq;have KY30:=AM af;have KA30:=AM hA30;clear af hA30;replace aD:=eq_true aD)|(refine gL 35 rfl Tryz.func36 #[.slice aL X.length aM] rfl TA ?_;(with_reducible refine(bU_.calls _ _ _ _ _ _ ?side1 ?side2 aX.out).mono ?_);(case side1=>exact CW ((Kd.ae_ aE.out HB.out)));(case side2=>exact aF.out);rintro e bi ⟨be,rfl,ar,hb⟩;refine⟨_,rfl,?_⟩;have aG:=AM (Kd.S_lower (Kd.S_newB ar (g:=K) (o:=.cells #[.int .i64 ((ad_ i l).f0),.int .i64 ((ad_ i l).f1),.slice O ((ad_ i l).f2).length R,.slice U ((ad_ i l).f3).length V] 52 (0,0)) (KW s).out) (bh_ TB));replace j:=KB j hb;replace s:=KB s hb;replace HB:=BS hb;clear hb));go_ret2;exact⟨_,by first|rfl|(simp[av_,au_]<;>rfl)|(simp only[←hji20];first|rfl|(simp[av_,au_]<;>rfl))|(simp[*,av_,au_]<;>rfl),by(with_reducible repeat (first|apply Kd.S_alloc|apply Kd.S_drewN|apply Kd.bn_));exact Kd.bK_ aG.out (fun _ hk=>trivial),TB⟩
      ·replace H:=qN aw H;obtain⟨ax,ay,H⟩:=H;have H':=AM H;clear H;have Z:0≤(l:Int):=TD;have aa:l<(i.length:Int):=TD;obtain⟨N,O,R,U,V,ak,y,z,A,B,D,E,F,G⟩:=cC_ J.out l Z aa;cases ak;replace y:=hBc HB y;replace z:=hBc HB z;replace A:=hBc HB A;replace B:=hBc HB B;have al:=AM E;have am:=AM D;clear E D;have an:=AM G;have ao:=AM F;clear G F;replace Z:=eq_true Z;replace aa:=eq_true aa;go_wp2_with (first|(refine gD 7 rfl ?_;refine bE 7 #[.int .i64 0,.int .i64 0,.slice none 0 0,.slice none 0 0] 52 ?_;intro K hg bj hbox hb;have s:=AM (hbox);have aB:=bG hg;replace HB:=BS hb;have ab:=bN j hg;have M:=bM j hg;replace j:=KB j hb;clear hb hbox hg;obtain⟨a5,a6⟩:=nn M;have a7:=cz4 s));go_roundg k1
       case measure=>exact TM
       case rel=>exact⟨(wrap64 (l+1)),TF,H',⟨TM⟩,⟨TS⟩,⟨TB⟩⟩
     ·rw[if_neg ag] at H;have av:=decide_eq_false ag;clear ag;simp only[Option.some.injEq,Prod.mk.injEq] at H;obtain⟨rfl,rfl⟩:=H;go_wp2;go_ret2;exact⟨_,TE,by first|exact Kd.S_nil _ _ _ _ _|exact Kd.N_nil _ _ _ _ _|exact Kd.V_nil _ _ _ _ _|exact Kd.Q_nil _ _ _ _ _|exact Kd.R_nil _ _ _ _ _,TB⟩
 ·replace c4:=Bool.eq_false_iff.mpr c4;subst c4;replace H:=iff' H;simp only[Option.some.injEq,Prod.mk.injEq] at H;obtain⟨rfl,rfl⟩:=H;go_enter Tryz.func17,Tryz.ntmps17;go_wp2_with (first|(refine gD 2 rfl ?_;refine bE 2 #[.string x,.int .i64 u,.slice I i.length n] 38 ?_;intro ac hg bk hbox hb;have j:=AM (hbox);have aj:=bG hg;replace HB:=BS hb;clear hb hbox hg;have a8:=cz3 j)|(refine gL 9 rfl Tryz.func35 #[.agg #[.string x,.int .i64 u,.slice I i.length n]] rfl TA ?_;(with_reducible refine(aW_.calls _ _ _ _ _ _ _ _ ?side1 ?side2 A3.out).mono ?_);(case side1=>exact CW ((Kd.ae_ J.out HB.out)));(case side2=>exact W.out);rintro e bl ⟨rfl,hb⟩;refine⟨_,rfl,?_⟩;replace j:=KB j hb;replace HB:=BS hb;clear hb));go_ret2;exact⟨_,TE,by first|exact Kd.S_nil _ _ _ _ _|exact Kd.N_nil _ _ _ _ _|exact Kd.V_nil _ _ _ _ _|exact Kd.Q_nil _ _ _ _ _|exact Kd.R_nil _ _ _ _ _,TB⟩
end
section
def cL_.f (a0:ByteArray) (a1:ByteArray):Option (Bool):=if a1.toList=([]:List UInt8) then(some true) else(if a0.toList=a1.toList then(some true) else(if (wrap64 ((a0.size:Int) - (a1.size:Int))) > 0 then(if 0≤(wrap64 ((a0.size:Int) - (a1.size:Int))) then(if (wrap64 ((a0.size:Int) - (a1.size:Int)))≤(a0.size:Int) then(if (a0.extract ((wrap64 ((a0.size:Int) - (a1.size:Int))):Int).toNat a0.size).toList=a1.toList then(if 0≤(wrap64 ((wrap64 ((a0.size:Int) - (a1.size:Int))) - 1)) then(if (wrap64 ((wrap64 ((a0.size:Int) - (a1.size:Int))) - 1))<(a0.size:Int) then(some ((bt a0 (wrap64 ((wrap64 ((a0.size:Int) - (a1.size:Int))) - 1)))==46)) else(none)) else(none)) else(some false)) else(none)) else(none)) else(some false)))
theorem cL_.calls (a0:ByteArray) (a1:ByteArray) (r:Bool) (w:World) (h:cL_.f a0 a1=some r) :
  Calls Tryz.prog 86 #[.string a0,.string a1] w fun e w'=>e=.returned (.bool r)∧Drawn0 w w':=by
 have H:=h;clear h;unfold cL_.f at H;by_cases c3:a1.toList=([]:List UInt8)
 ·replace H:=qP c3 H;obtain⟨j,l,H⟩:=H;clear c3;obtain rfl:=Option.some.inj H;go_enter Tryz.func86,Tryz.ntmps86;go_wp2;go_ret;exact⟨TF,TN⟩
 ·replace H:=qN c3 H;obtain⟨j,l,H⟩:=H;by_cases c4:a0.toList=a1.toList
  ·replace H:=qP c4 H;obtain⟨m,n,H⟩:=H;clear c4;obtain rfl:=Option.some.inj H;go_enter Tryz.func86,Tryz.ntmps86;go_wp2;go_ret;exact⟨TF,TN⟩
  ·replace H:=qN c4 H;obtain⟨m,n,H⟩:=H;by_cases c5:(wrap64 ((a0.size:Int) - (a1.size:Int))) > 0
   ·rw[if_pos c5] at H;have i:=decide_eq_true c5;clear c5;obtain⟨g,hji6⟩:∃j_:Int,(wrap64 ((a0.size:Int) - (a1.size:Int)))=j_:=⟨_,rfl⟩
    replace H:(if 0≤(g) then(if (g)≤(a0.size:Int) then(if (a0.extract ((g):Int).toNat a0.size).toList=a1.toList then(if 0≤(wrap64 ((g) - 1)) then(if (wrap64 ((g) - 1))<(a0.size:Int) then(some ((bt a0 (wrap64 ((g) - 1)))==46)) else(none)) else(none)) else(some false)) else(none)) else(none))=some r:=by first|(rw[hji6] at H;exact H)|(simp only[hji6] at H ⊢;exact H)
    (try rw[hji6] at i);have hji6w:(IntKind.i64.wrap ((a0.size:Int) - (a1.size:Int)))=g:=(b6_ _).trans hji6;obtain⟨c7,H⟩:=ifn H;have v:=eq_true c7;have x:=decide_eq_true c7;clear c7;obtain⟨c8,H⟩:=ifn H;have y:=eq_true c8;have z:=decide_eq_true c8;clear c8;by_cases c9:(a0.extract ((g):Int).toNat a0.size).toList=a1.toList
    ·replace H:=qP c9 H;obtain⟨o,p,H⟩:=H;clear c9;obtain⟨c,hji10⟩:∃j_:Int,(wrap64 ((g) - 1))=j_:=⟨_,rfl⟩
     replace H:(if 0≤(c) then(if (c)<(a0.size:Int) then(some ((bt a0 (c))==46)) else(none)) else(none))=some r:=by first|(rw[hji10] at H;exact H)|(simp only[hji10] at H ⊢;exact H)
     have hji10w:(IntKind.i64.wrap ((g) - 1))=c:=(b6_ _).trans hji10;obtain⟨t,H⟩:=dn H;obtain⟨u,H⟩:=dn H;obtain rfl:=Option.some.inj H;have q:0≤((c):Int):=TD;have s:(c)<(a0.size:Int):=TD;have A:=cB_ a0 (c);replace q:=eq_true q;replace s:=eq_true s;go_enter Tryz.func86,Tryz.ntmps86;go_wp2;go_ret;exact⟨by first|rfl|(simp;done)|(simp only[←hji6,←hji10]<;>(first|rfl|simp))|(simp[*];done),TN⟩
    ·replace H:=qN c9 H;obtain⟨o,p,H⟩:=H;obtain rfl:=Option.some.inj H;go_enter Tryz.func86,Tryz.ntmps86;go_wp2;go_ret;exact⟨by first|rfl|(simp;done)|(simp only[←hji6]<;>(first|rfl|simp))|(simp[*];done),TN⟩
   ·rw[if_neg c5] at H;have i:=decide_eq_false c5;clear c5;obtain rfl:=Option.some.inj H;go_enter Tryz.func86,Tryz.ntmps86;go_wp2;go_ret;exact⟨TF,TN⟩
end
section
def b1_.l0:Nat→ByteArray→Int→List (aa_)→Int→Int→Option (Bool)
 | 0,_,_,_,_,_=>none
 | k+1,x1,x2,x9,f,c=>if c<f then(if 0≤c then(if c<(x9.length:Int) then(if ((a_ x9 c).f0).toList=x1.toList then(if ((a_ x9 c).f1)=x2 then(some true) else(b1_.l0 k x1 x2 x9 f (wrap64 (c+1)))) else(b1_.l0 k x1 x2 x9 f (wrap64 (c+1)))) else(none)) else(none)) else(some false)
def b1_.f (k:Nat) (l0:List (aa_)) (a1:ByteArray) (a2:Int):Option (Bool):=b1_.l0 k a1 a2 l0 (l0.length:Int) 0
theorem b1_.calls (k:Nat) (A0:Option Addr) (c0:Nat) (l0:List (aa_)) (a1:ByteArray) (a2:Int) (r:Bool) (w:World) (v:Kd.C af_ w A0 l0.length l0) (x:l0.length≤c0) (h:b1_.f k l0 a1 a2=some r) :
  Calls Tryz.prog 87 #[.slice A0 l0.length c0,.string a1,.int .i64 a2] w fun e w'=>e=.returned (.bool r)∧Below w.heap.size w w':=by
 have hu71:=Tryz.underlying71;have u:=AM v;have M:=AM x;clear v x;have HB:=BZ w;have H:(b1_.l0 k a1 a2 l0 (l0.length:Int) 0)=some r:=h;clear h;have H':=AM H;clear H;go_enter Tryz.func87,Tryz.ntmps87;go_wp2;go_loopg [11] k (fun kq E w'=>∃(c:Int),E=.int .i64 c∧Aside0 (b1_.l0 kq a1 a2 l0 (l0.length:Int) c=some r)∧Aside0 (kq≤k)∧Aside0 (Below w.heap.size w w'))
 case atStart=>exact⟨(0),TF,H',NL,⟨TB⟩⟩
 case round =>
  clear H';obtain⟨c,rfl,HA,HK1,HB⟩:=hrel
  cases gk with
  | zero=>exact absurd HA.out (by simp[b1_.l0])
  | succ k1 =>
   have H:=HA.out;clear HA;simp only[b1_.l0] at H;by_cases c4:c<(l0.length:Int)
   ·rw[if_pos c4] at H;have y:=decide_eq_true c4;clear c4;obtain⟨J,H⟩:=dn H;obtain⟨K,H⟩:=dn H;by_cases c7:((a_ l0 c).f0).toList=a1.toList
    ·replace H:=qP c7 H;obtain⟨z,A,H⟩:=H;clear c7;by_cases c8:((a_ l0 c).f1)=a2
     ·replace H:=qP c8 H;obtain⟨B,D,H⟩:=H;clear c8;obtain rfl:=Option.some.inj H;have g:0≤(c:Int):=TD;have i:c<(l0.length:Int):=TD;obtain⟨q,l,m,n,o,p⟩:=aw_ (Kd.ae_ u.out HB.out) c g i;cases l;replace g:=eq_true g;replace i:=eq_true i;go_wp2_with (first|(refine gD 8 rfl ?_;refine bE 8 #[.string (⟨#[]⟩:ByteArray),.int .i64 0,.int .i64 0,.string (⟨#[]⟩:ByteArray)] 71 ?_;intro s hg w9 hbox hb;have j:=AM (hbox);have t:=bG hg;replace HB:=BS hb;clear hb hbox hg;have F:=cz4 j));go_ret;exact⟨TE,TB⟩
     ·replace H:=qN c8 H;obtain⟨B,D,H⟩:=H;have H':=AM H;clear H;have g:0≤(c:Int):=TD;have i:c<(l0.length:Int):=TD;obtain⟨q,l,m,n,o,p⟩:=aw_ (Kd.ae_ u.out HB.out) c g i;cases l;replace g:=eq_true g;replace i:=eq_true i;go_wp2_with (first|(refine gD 8 rfl ?_;refine bE 8 #[.string (⟨#[]⟩:ByteArray),.int .i64 0,.int .i64 0,.string (⟨#[]⟩:ByteArray)] 71 ?_;intro s hg N hbox hb;have j:=AM (hbox);have t:=bG hg;replace HB:=BS hb;clear hb hbox hg;have G:=cz4 j));go_roundg k1
      case measure=>exact TM
      case rel=>exact⟨(wrap64 (c+1)),TF,H',⟨TM⟩,⟨TB⟩⟩
    ·replace H:=qN c7 H;obtain⟨z,A,H⟩:=H;have H':=AM H;clear H;have g:0≤(c:Int):=TD;have i:c<(l0.length:Int):=TD;obtain⟨q,l,m,n,o,p⟩:=aw_ (Kd.ae_ u.out HB.out) c g i;cases l;replace g:=eq_true g;replace i:=eq_true i;go_wp2_with (first|(refine gD 8 rfl ?_;refine bE 8 #[.string (⟨#[]⟩:ByteArray),.int .i64 0,.int .i64 0,.string (⟨#[]⟩:ByteArray)] 71 ?_;intro s hg O hbox hb;have j:=AM (hbox);have t:=bG hg;replace HB:=BS hb;clear hb hbox hg;have I:=cz4 j));go_roundg k1
     case measure=>exact TM
     case rel=>exact⟨(wrap64 (c+1)),TF,H',⟨TM⟩,⟨TB⟩⟩
   ·rw[if_neg c4] at H;have y:=decide_eq_false c4;clear c4;obtain rfl:=Option.some.inj H;go_wp2;go_ret;exact⟨TE,TB⟩
end
section
def bZ_.l0:Nat→ByteArray→Int→Option (ByteArray)
 | 0,_,_=>none
 | k+1,x0,x3=>if x3<(x0.size:Int) then(if 0≤x3 then(if (bt x0 x3)=46 then(if 0≤(wrap64 (x3+1)) then(if (wrap64 (x3+1))≤(x0.size:Int) then(some (x0.extract ((wrap64 (x3+1)):Int).toNat x0.size)) else(none)) else(none)) else(bZ_.l0 k x0 (wrap64 (x3+1)))) else(none)) else(some (⟨#[]⟩:ByteArray))
def bZ_.f (k:Nat) (a0:ByteArray):Option (ByteArray):=bZ_.l0 k a0 0
theorem bZ_.calls (k:Nat) (a0:ByteArray) (r:ByteArray) (w:World) (h:bZ_.f k a0=some r) :
  Calls Tryz.prog 109 #[.string a0] w fun e w'=>e=.returned (.string r)∧Drawn0 w w':=by
 have H:(bZ_.l0 k a0 0)=some r:=h;clear h;have H':=AM H;clear H;go_enter Tryz.func109,Tryz.ntmps109;go_wp2;go_loopg [3] k (fun kq v3 w'=>∃(c:Int),v3=.int .i64 c∧Aside0 (bZ_.l0 kq a0 c=some r)∧Aside0 (kq≤k)∧Drawn0 w w')
 case atStart=>exact⟨(0),TF,H',NL,TN⟩
 case round =>
  clear H';obtain⟨c,rfl,HA,HK1,⟨m1,rfl⟩⟩:=hrel
  cases gk with
  | zero=>exact absurd HA.out (by simp[bZ_.l0])
  | succ k1 =>
   have H:=HA.out;clear HA;simp only[bZ_.l0] at H;by_cases c2:c<(a0.size:Int)
   ·rw[if_pos c2] at H;have i:=decide_eq_true c2;clear c2;obtain⟨n,H⟩:=dn H;by_cases c5:(bt a0 c)=46
    ·replace H:=qP c5 H;obtain⟨j,l,H⟩:=H;clear c5;obtain⟨g,hji6⟩:∃j_:Int,(wrap64 (c+1))=j_:=⟨_,rfl⟩
     replace H:(if 0≤(g) then(if (g)≤(a0.size:Int) then(some (a0.extract ((g):Int).toNat a0.size)) else(none)) else(none))=some r:=by first|(rw[hji6] at H;exact H)|(simp only[hji6] at H ⊢;exact H)
     have hji6w:(IntKind.i64.wrap (c+1))=g:=(b6_ _).trans hji6;obtain⟨c7,H⟩:=ifn H;have o:=eq_true c7;have p:=decide_eq_true c7;clear c7;obtain⟨c8,H⟩:=ifn H;have q:=eq_true c8;have s:=decide_eq_true c8;clear c8;obtain rfl:=Option.some.inj H;have p4:0≤(c:Int):=TD;have q4:c<(a0.size:Int):=TD;have m:=cB_ a0 c;replace p4:=eq_true p4;replace q4:=eq_true q4;go_wp2;go_ret;exact⟨by first|rfl|(simp;done)|(simp only[←hji6]<;>(first|rfl|simp))|(simp[*];done),TN⟩
    ·replace H:=qN c5 H;obtain⟨j,l,H⟩:=H;have H':=AM H;clear H;have p4:0≤(c:Int):=TD;have q4:c<(a0.size:Int):=TD;have m:=cB_ a0 c;replace p4:=eq_true p4;replace q4:=eq_true q4;go_wp2;go_roundg k1
     case measure=>exact TM
     case rel=>exact⟨(wrap64 (c+1)),TF,H',⟨TM⟩,TN⟩
   ·rw[if_neg c2] at H;have i:=decide_eq_false c2;clear c2;obtain rfl:=Option.some.inj H;go_wp2;go_ret;exact⟨TF,TN⟩
end
section
mutual
def bI_.l0:Nat→ByteArray→List (aa_)→ByteArray→ByteArray→Bool→Option (ByteArray × Bool)
 | 0,_,_,_,_,_=>none
 | k+1,x0,x1,x2,x8,x9=>if x2.toList=x0.toList then(bI_.j1 k x0 x1 x2 x8 x9 false) else((cL_.f x2 x0).bind fun t317=>(bI_.j1 k x0 x1 x2 x8 x9 t317))
def bI_.j1:Nat→ByteArray→List (aa_)→ByteArray→ByteArray→Bool→Bool→Option (ByteArray × Bool)
 | 0,_,_,_,_,_,_=>none
 | k+1,x0,x1,x2,x8,x9,i=>if i=true then((b1_.f k x1 x2 2).bind fun c=>(if c=true then(if x2.toList=([]:List UInt8) then(some (x2,true)) else((bZ_.f k x2).bind fun g=>(bI_.l0 k x0 x1 g x2 true))) else(if x2.toList=([]:List UInt8) then(some (x8,x9)) else((bZ_.f k x2).bind fun h=>(bI_.l0 k x0 x1 h x8 x9))))) else(some (x8,x9))
end
def bI_.f (k:Nat) (a0:ByteArray) (l1:List (aa_)) (a2:ByteArray):Option (ByteArray × Bool):=bI_.l0 k a0 l1 a2 (⟨#[]⟩:ByteArray) false
theorem bI_.calls (k:Nat) (a0:ByteArray) (A1:Option Addr) (c1:Nat) (l1:List (aa_)) (a2:ByteArray) (r1:ByteArray) (r2:Bool) (w:World) (x:Kd.C af_ w A1 l1.length l1) (y:l1.length≤c1) (h:bI_.f k a0 l1 a2=some (r1,r2)) :
  Calls Tryz.prog 88 #[.string a0,.slice A1 l1.length c1,.string a2] w fun e w'=>e=.returned (.tuple #[.string r1,.bool r2])∧Below w.heap.size w w':=by
 have n:=AM x;have o:=AM y;clear x y;have HB:=BZ w;have H:(bI_.l0 k a0 l1 a2 (⟨#[]⟩:ByteArray) false)=some (r1,r2):=h;clear h;have H':=AM H;clear H;go_enter Tryz.func88,Tryz.ntmps88;go_wp2;go_loopg [2,8,9] k (fun kq v2 v8 v9 w'=>∃(c:ByteArray) (i:ByteArray) (j:Bool),v2=.string c∧v8=.string i∧v9=.bool j∧Aside0 (bI_.l0 kq a0 l1 c i j=some (r1,r2))∧Aside0 (kq≤k)∧Aside0 (Below w.heap.size w w'))
 case atStart=>exact⟨(a2),((⟨#[]⟩:ByteArray)),(false),TF,TF,TF,H',NL,⟨TB⟩⟩
 case round =>
  clear H';obtain⟨c,i,j,rfl,rfl,rfl,HA,HK1,HB⟩:=hrel
  cases gk with
  | zero=>exact absurd HA.out (by simp[bI_.l0])
  | succ k1 =>
   have H:=HA.out;clear HA;simp only[bI_.l0] at H;have p:=AM H;clear H
   go_upto_region 3 with (fail)
   go_cut [17] (fun F wc=>∃(kq:Nat) (g:Bool),F=.bool g∧Aside0 (bI_.j1 kq a0 l1 c i j g=some (r1,r2))∧Aside0 (kq≤k1)∧Aside0 (Below w.heap.size w wc))
   case first =>
    have H:=p.out;clear p;by_cases c5:c.toList=a0.toList
    ·replace H:=qP c5 H;obtain⟨l,m,H⟩:=H;clear c5;(first|rw[l]|(simp only[b6_,i32_w];rw[l])|rw[m]|skip);have H':=AM H;clear H;go_wp2;go_meet
     case rel=>exact⟨_,(false),TF,H',⟨by have:=HK1.out;first|omega|exact Nat.le_refl _⟩,⟨TB⟩⟩
    ·replace H:=qN c5 H;obtain⟨l,m,H⟩:=H;(first|rw[l]|(simp only[b6_,i32_w];rw[l])|rw[m]|skip);obtain⟨z,A6,H⟩:=bnd H;have H':=AM H;clear H;go_wp2_with (first|(go_at_call 86;(with_reducible refine(cL_.calls _ _ _ _ A6.out).mono ?_);rintro e w' ⟨rfl,⟨nd,rfl⟩⟩));go_meet
     case rel=>exact⟨_,(z),TF,H',⟨by have:=HK1.out;first|omega|exact Nat.le_refl _⟩,⟨TB⟩⟩
   case rest =>
    clear p;obtain⟨kq,g,rfl,HA,HJ3,HB⟩:=hcut
    cases kq with
    | zero=>exact absurd HA.out (by simp[bI_.j1])
    | succ A =>
     have H:=HA.out;clear HA;simp only[bI_.j1] at H;by_cases c7:g=true
     ·subst c7;replace H:=ift H;obtain⟨B,A8,H⟩:=bnd H;by_cases c9:B=true
      ·subst c9;replace H:=ift H;by_cases c10:c.toList=([]:List UInt8)
       ·replace H:=qP c10 H;obtain⟨q,s,H⟩:=H;clear c10;simp only[Option.some.injEq,Prod.mk.injEq] at H;obtain⟨rfl,rfl⟩:=H;go_wp2_with (first|(refine gL 20 rfl Tryz.func87 #[.slice A1 l1.length c1,.string c,.int .i64 2] rfl TA ?_;(with_reducible refine(b1_.calls _ _ _ _ _ _ _ _ ?side1 ?side2 A8.out).mono ?_);(case side1=>exact CW ((Kd.ae_ n.out HB.out)));(case side2=>exact o.out);rintro e J ⟨rfl,hb⟩;refine⟨_,rfl,?_⟩;replace HB:=BS hb;clear hb));go_ret2;exact⟨by first|rfl|(simp[av_,au_]<;>rfl)|(simp[*,av_,au_]<;>rfl)|(simp[av_,au_];rw[Bool.eq_iff_iff];simp),TB⟩
       ·replace H:=qN c10 H;obtain⟨q,s,H⟩:=H;obtain⟨D,G,H⟩:=bnd H;have H':=AM H;clear H;go_wp2_with (first|(refine gL 20 rfl Tryz.func87 #[.slice A1 l1.length c1,.string c,.int .i64 2] rfl TA ?_;(with_reducible refine(b1_.calls _ _ _ _ _ _ _ _ ?side1 ?side2 A8.out).mono ?_);(case side1=>exact CW ((Kd.ae_ n.out HB.out)));(case side2=>exact o.out);rintro e K ⟨rfl,hb⟩;refine⟨_,rfl,?_⟩;replace HB:=BS hb;clear hb)|(refine gL 25 rfl Tryz.func109 #[.string c] rfl TA ?_;(with_reducible refine(bZ_.calls _ _ _ _ G.out).mono ?_);rintro e w' ⟨rfl,⟨nd,rfl⟩⟩;refine⟨_,rfl,?_⟩));go_roundg A
        case measure=>have:=HK1.out;have:=HJ3.out;omega
        case rel=>exact⟨(D),(c),(true),TF,TF,TF,H',⟨by have:=HK1.out;have:=HJ3.out;omega⟩,⟨TB⟩⟩
      ·replace c9:=Bool.eq_false_iff.mpr c9;subst c9;replace H:=iff' H;by_cases t:c.toList=([]:List UInt8)
       ·replace H:=qP t H;obtain⟨u,v,H⟩:=H;clear t;simp only[Option.some.injEq,Prod.mk.injEq] at H;obtain⟨rfl,rfl⟩:=H;go_wp2_with (first|(refine gL 20 rfl Tryz.func87 #[.slice A1 l1.length c1,.string c,.int .i64 2] rfl TA ?_;(with_reducible refine(b1_.calls _ _ _ _ _ _ _ _ ?side1 ?side2 A8.out).mono ?_);(case side1=>exact CW ((Kd.ae_ n.out HB.out)));(case side2=>exact o.out);rintro e M ⟨rfl,hb⟩;refine⟨_,rfl,?_⟩;replace HB:=BS hb;clear hb));go_ret2;exact⟨by first|rfl|(simp[av_,au_]<;>rfl)|(simp[*,av_,au_]<;>rfl)|(simp[av_,au_];rw[Bool.eq_iff_iff];simp),TB⟩
       ·replace H:=qN t H;obtain⟨u,v,H⟩:=H;obtain⟨E,I,H⟩:=bnd H;have H':=AM H;clear H;go_wp2_with (first|(refine gL 20 rfl Tryz.func87 #[.slice A1 l1.length c1,.string c,.int .i64 2] rfl TA ?_;(with_reducible refine(b1_.calls _ _ _ _ _ _ _ _ ?side1 ?side2 A8.out).mono ?_);(case side1=>exact CW ((Kd.ae_ n.out HB.out)));(case side2=>exact o.out);rintro e N ⟨rfl,hb⟩;refine⟨_,rfl,?_⟩;replace HB:=BS hb;clear hb)|(refine gL 25 rfl Tryz.func109 #[.string c] rfl TA ?_;(with_reducible refine(bZ_.calls _ _ _ _ I.out).mono ?_);rintro e w' ⟨rfl,⟨nd,rfl⟩⟩;refine⟨_,rfl,?_⟩));go_roundg A
        case measure=>have:=HK1.out;have:=HJ3.out;omega
        case rel=>exact⟨(E),(i),(j),TF,TF,TF,H',⟨by have:=HK1.out;have:=HJ3.out;omega⟩,⟨TB⟩⟩
     ·replace c7:=Bool.eq_false_iff.mpr c7;subst c7;replace H:=iff' H;simp only[Option.some.injEq,Prod.mk.injEq] at H;obtain⟨rfl,rfl⟩:=H;go_wp2;go_ret2;exact⟨by first|rfl|(simp[av_,au_]<;>rfl)|(simp[*,av_,au_]<;>rfl)|(simp[av_,au_];rw[Bool.eq_iff_iff];simp),TB⟩
end
section
mutual
def az_.l0:Nat→ByteArray→List (aa_)→Int→List (aa_)→Int→Int→Option (Int)
 | 0,_,_,_,_,_,_=>none
 | k+1,x0,x1,x5,g,h,c=>if c<h then(if 0≤c then(if c<(g.length:Int) then((cL_.f ((a_ g c).f0) x0).bind fun i=>(if i=true then(if ((a_ g c).f1)=6 then(if ((a_ g c).f0).toList=x0.toList then(az_.l0 k x0 x1 (wrap64 (x5+1)) g h (wrap64 (c+1))) else(az_.l0 k x0 x1 (wrap64 ((wrap64 (x5+1))+1)) g h (wrap64 (c+1)))) else(az_.l0 k x0 x1 x5 g h (wrap64 (c+1)))) else(some 1))) else(none)) else(none)) else(if x5=1 then(az_.l1 k x0 x1 x1 (x1.length:Int) 0) else(some 2))
def az_.l1:Nat→ByteArray→List (aa_)→List (aa_)→Int→Int→Option (Int)
 | 0,_,_,_,_,_=>none
 | k+1,x0,x1,f,g,c=>if c<g then(if 0≤c then(if c<(f.length:Int) then(if c > 0 then(if 0≤(wrap64 (c - 1)) then(if (wrap64 (c - 1))<(x1.length:Int) then(if ((a_ x1 (wrap64 (c - 1))).f0).toList=((a_ f c).f0).toList then(if ((a_ x1 (wrap64 (c - 1))).f1)=((a_ f c).f1) then(if ((a_ x1 (wrap64 (c - 1))).f2)=((a_ f c).f2) then(if ((a_ x1 (wrap64 (c - 1))).f3).toList=((a_ f c).f3).toList then(some 3) else(az_.l1 k x0 x1 f g (wrap64 (c+1)))) else(some 3)) else(az_.l1 k x0 x1 f g (wrap64 (c+1)))) else(az_.l1 k x0 x1 f g (wrap64 (c+1)))) else(none)) else(none)) else(az_.l1 k x0 x1 f g (wrap64 (c+1)))) else(none)) else(none)) else(az_.l2 k x0 x1 x1 (x1.length:Int) 0)
def az_.l2:Nat→ByteArray→List (aa_)→List (aa_)→Int→Int→Option (Int)
 | 0,_,_,_,_,_=>none
 | k+1,x0,x1,g,i,c=>if c<i then(if 0≤c then(if c<(g.length:Int) then(if c≤(x1.length:Int) then((some (x1.take (c:Int).toNat:List (aa_))).bind fun h=>(az_.l3 k x0 x1 g i c h (h.length:Int) 0 ((a_ g c).f0) ((a_ g c).f1) ((a_ g c).f2) ((a_ g c).f3))) else(none)) else(none)) else(none)) else((b1_.f k x1 x0 5).bind fun j=>(if j=true then(some 5) else(az_.l4 k x0 x1 x1 (x1.length:Int) 0)))
def az_.l3:Nat→ByteArray→List (aa_)→List (aa_)→Int→Int→List (aa_)→Int→Int→ByteArray→Int→Int→ByteArray→Option (Int)
 | 0,_,_,_,_,_,_,_,_,_,_,_,_=>none
 | k+1,x0,x1,m,n,o,h,l,c,f,g,i,j=>if c<l then(if 0≤c then(if c<(h.length:Int) then(if ((a_ h c).f0).toList=f.toList then(if ((a_ h c).f1)=5 then(some 4) else(if g=5 then(some 4) else(az_.l3 k x0 x1 m n o h l (wrap64 (c+1)) f g i j))) else(az_.l3 k x0 x1 m n o h l (wrap64 (c+1)) f g i j)) else(none)) else(none)) else(az_.l2 k x0 x1 m n (wrap64 (o+1)))
def az_.l4:Nat→ByteArray→List (aa_)→List (aa_)→Int→Int→Option (Int)
 | 0,_,_,_,_,_=>none
 | k+1,x0,x1,g,h,c=>if c<h then(if 0≤c then(if c<(g.length:Int) then((bI_.f k x0 x1 ((a_ g c).f0)).bind fun bt341=>(if bt341.2=true then(if ((a_ g c).f1)=1 then(az_.l4 k x0 x1 g h (wrap64 (c+1))) else(if ((a_ g c).f1)=2 then(if ((a_ g c).f0).toList=bt341.1.toList then(az_.l4 k x0 x1 g h (wrap64 (c+1))) else(some 6)) else(some 6))) else(az_.l4 k x0 x1 g h (wrap64 (c+1))))) else(none)) else(none)) else(some 0)
end
def az_.f (k:Nat) (a0:ByteArray) (l1:List (aa_)):Option (Int):=az_.l0 k a0 l1 0 l1 (l1.length:Int) 0
theorem az_.calls (k:Nat) (a0:ByteArray) (A1:Option Addr) (c1:Nat) (l1:List (aa_)) (r:Int) (w:World) (bR:Kd.C af_ w A1 l1.length l1) (bS:l1.length≤c1) (h:az_.f k a0 l1=some r) :
  Calls Tryz.prog 65 #[.string a0,.slice A1 l1.length c1] w fun e w'=>e=.returned (.int .i64 r)∧Below w.heap.size w w':=by
 have hu71:=Tryz.underlying71;have D:=AM bR;have aM:=AM bS;clear bR bS;have HB:=BZ w;have H:(az_.l0 k a0 l1 0 l1 (l1.length:Int) 0)=some r:=h;clear h;have H':=AM H;clear H;go_enter Tryz.func65,Tryz.ntmps65;go_wp2
 repeat (go_quiet (fail);try go_wp2)
 go_loopg [5,20] k (fun kq v5 cd w'=>∃(av:Int) (x:Int),v5=.int .i64 av∧cd=.int .i64 x∧Aside0 (az_.l0 kq a0 l1 av l1 (l1.length:Int) x=some r)∧Aside0 (kq≤k)∧Aside0 (Below w.heap.size w w'))
 case atStart=>exact⟨(0),(0),TF,TF,H',NL,⟨TB⟩⟩
 case round =>
  clear H';obtain⟨av,x,rfl,rfl,HA,HK1,HB⟩:=hrel
  cases gk with
  | zero=>exact absurd HA.out (by simp[az_.l0])
  | succ k1 =>
   have H:=HA.out;clear HA;simp only[az_.l0] at H;by_cases c3:x<(l1.length:Int)
   ·rw[if_pos c3] at H;have bT:=decide_eq_true c3;clear c3;obtain⟨c6,H⟩:=dn H;obtain⟨da,H⟩:=dn H;obtain⟨bU,A6,H⟩:=bnd H;by_cases c7:bU=true
    ·subst c7;replace H:=ift H;by_cases c8:((a_ l1 x).f1)=6
     ·replace H:=qP c8 H;obtain⟨bV,bW,H⟩:=H;clear c8;by_cases c9:((a_ l1 x).f0).toList=a0.toList
      ·replace H:=qP c9 H;obtain⟨bX,bY,H⟩:=H;clear c9;have H':=AM H;clear H;have J:0≤(x:Int):=TD;have K:x<(l1.length:Int):=TD;obtain⟨aN,aw,ax,ay,az,aA⟩:=aw_ (Kd.ae_ D.out HB.out) x J K;cases aw;replace J:=eq_true J;replace K:=eq_true K;go_wp2_with (first|((with_reducible refine ax_ (N:=7) rfl ?_);refine bE 7 #[.string (⟨#[]⟩:ByteArray),.int .i64 0,.int .i64 0,.string (⟨#[]⟩:ByteArray)] 71 ?_;intro aO hg de hbox hb;have ad:=AM (hbox);have aP:=bG hg;replace HB:=BS hb;clear hb hbox hg;have ce:=cz4 ad)|(go_at_call 86;(with_reducible refine(cL_.calls _ _ _ _ A6.out).mono ?_);rintro e w' ⟨rfl,⟨nd,rfl⟩⟩;(try first|exact⟨rfl,_,World.drewN_drewN _ _ _⟩|exact⟨rfl,_,Eq.trans (World.drewN_drewN _ _ _) (congrArg (World.drewN _) (Nat.add_assoc _ _ _))⟩))|((with_reducible refine gQ ?_);go_quiet (fail)));go_roundg k1
       case measure=>exact TM
       case rel=>exact⟨(wrap64 (av+1)),(wrap64 (x+1)),TF,TF,H',⟨TM⟩,⟨TB⟩⟩
      ·replace H:=qN c9 H;obtain⟨bX,bY,H⟩:=H;have H':=AM H;clear H;have J:0≤(x:Int):=TD;have K:x<(l1.length:Int):=TD;obtain⟨aN,aw,ax,ay,az,aA⟩:=aw_ (Kd.ae_ D.out HB.out) x J K;cases aw;replace J:=eq_true J;replace K:=eq_true K;go_wp2_with (first|((with_reducible refine ax_ (N:=7) rfl ?_);refine bE 7 #[.string (⟨#[]⟩:ByteArray),.int .i64 0,.int .i64 0,.string (⟨#[]⟩:ByteArray)] 71 ?_;intro aO hg df hbox hb;have ad:=AM (hbox);have aP:=bG hg;replace HB:=BS hb;clear hb hbox hg;have cf:=cz4 ad)|(go_at_call 86;(with_reducible refine(cL_.calls _ _ _ _ A6.out).mono ?_);rintro e w' ⟨rfl,⟨nd,rfl⟩⟩;(try first|exact⟨rfl,_,World.drewN_drewN _ _ _⟩|exact⟨rfl,_,Eq.trans (World.drewN_drewN _ _ _) (congrArg (World.drewN _) (Nat.add_assoc _ _ _))⟩))|((with_reducible refine gQ ?_);go_quiet (fail)));go_roundg k1
       case measure=>exact TM
       case rel=>exact⟨(wrap64 ((wrap64 (av+1))+1)),(wrap64 (x+1)),TF,TF,H',⟨TM⟩,⟨TB⟩⟩
     ·replace H:=qN c8 H;obtain⟨bV,bW,H⟩:=H;have H':=AM H;clear H;have J:0≤(x:Int):=TD;have K:x<(l1.length:Int):=TD;obtain⟨aN,aw,ax,ay,az,aA⟩:=aw_ (Kd.ae_ D.out HB.out) x J K;cases aw;replace J:=eq_true J;replace K:=eq_true K;go_wp2_with (first|((with_reducible refine ax_ (N:=7) rfl ?_);refine bE 7 #[.string (⟨#[]⟩:ByteArray),.int .i64 0,.int .i64 0,.string (⟨#[]⟩:ByteArray)] 71 ?_;intro aO hg dg hbox hb;have ad:=AM (hbox);have aP:=bG hg;replace HB:=BS hb;clear hb hbox hg;have cg:=cz4 ad)|(go_at_call 86;(with_reducible refine(cL_.calls _ _ _ _ A6.out).mono ?_);rintro e w' ⟨rfl,⟨nd,rfl⟩⟩;(try first|exact⟨rfl,_,World.drewN_drewN _ _ _⟩|exact⟨rfl,_,Eq.trans (World.drewN_drewN _ _ _) (congrArg (World.drewN _) (Nat.add_assoc _ _ _))⟩))|((with_reducible refine gQ ?_);go_quiet (fail)));go_roundg k1
      case measure=>exact TM
      case rel=>exact⟨(av),(wrap64 (x+1)),TF,TF,H',⟨TM⟩,⟨TB⟩⟩
    ·replace c7:=Bool.eq_false_iff.mpr c7;subst c7;replace H:=iff' H;obtain rfl:=Option.some.inj H;have J:0≤(x:Int):=TD;have K:x<(l1.length:Int):=TD;obtain⟨aN,aw,ax,ay,az,aA⟩:=aw_ (Kd.ae_ D.out HB.out) x J K;cases aw;replace J:=eq_true J;replace K:=eq_true K;go_wp2_with (first|((with_reducible refine ax_ (N:=7) rfl ?_);refine bE 7 #[.string (⟨#[]⟩:ByteArray),.int .i64 0,.int .i64 0,.string (⟨#[]⟩:ByteArray)] 71 ?_;intro aO hg dh hbox hb;have ad:=AM (hbox);have aP:=bG hg;replace HB:=BS hb;clear hb hbox hg;have ch:=cz4 ad)|(go_at_call 86;(with_reducible refine(cL_.calls _ _ _ _ A6.out).mono ?_);rintro e w' ⟨rfl,⟨nd,rfl⟩⟩;(try first|exact⟨rfl,_,World.drewN_drewN _ _ _⟩|exact⟨rfl,_,Eq.trans (World.drewN_drewN _ _ _) (congrArg (World.drewN _) (Nat.add_assoc _ _ _))⟩))|((with_reducible refine gQ ?_);go_quiet (fail)));go_ret;exact⟨TE,TB⟩
   ·rw[if_neg c3] at H;have bT:=decide_eq_false c3;clear c3;by_cases a7:av=1
    ·replace H:=qP a7 H;obtain⟨a8,a9,H⟩:=H;clear a7;have H':=AM H;clear H;go_wp2
     repeat (go_quiet (fail);try go_wp2)
     go_loopg [45] k1 (fun kq ci w'=>∃(c:Int),ci=.int .i64 c∧Aside0 (az_.l1 kq a0 l1 l1 (l1.length:Int) c=some r)∧Aside0 (kq≤k1)∧Aside0 (Below w.heap.size w w'))
     case atStart=>exact⟨(0),TF,H',NL,⟨TB⟩⟩
     case round =>
      clear H';obtain⟨c,rfl,HA,HK2,HB⟩:=hrel
      cases gk with
      | zero=>exact absurd HA.out (by simp[az_.l1])
      | succ k2 =>
       have H:=HA.out;clear HA;simp only[az_.l1] at H;by_cases aS:c<(l1.length:Int)
       ·rw[if_pos aS] at H;have ba:=decide_eq_true aS;clear aS;obtain⟨cj,H⟩:=dn H;obtain⟨ck,H⟩:=dn H;by_cases aT:c > 0
        ·rw[if_pos aT] at H;have bb:=decide_eq_true aT;clear aT;obtain⟨y,hji23⟩:∃j_:Int,(wrap64 (c - 1))=j_:=⟨_,rfl⟩
         replace H:(if 0≤(y) then(if (y)<(l1.length:Int) then(if ((a_ l1 (y)).f0).toList=((a_ l1 c).f0).toList then(if ((a_ l1 (y)).f1)=((a_ l1 c).f1) then(if ((a_ l1 (y)).f2)=((a_ l1 c).f2) then(if ((a_ l1 (y)).f3).toList=((a_ l1 c).f3).toList then(some 3) else(az_.l1 k2 a0 l1 l1 (l1.length:Int) (wrap64 (c+1)))) else(some 3)) else(az_.l1 k2 a0 l1 l1 (l1.length:Int) (wrap64 (c+1)))) else(az_.l1 k2 a0 l1 l1 (l1.length:Int) (wrap64 (c+1)))) else(none)) else(none))=some r:=by first|(rw[hji23] at H;exact H)|(simp only[hji23] at H ⊢;exact H)
         have hji23w:(IntKind.i64.wrap (c - 1))=y:=(b6_ _).trans hji23;obtain⟨cl,H⟩:=dn H;obtain⟨cm,H⟩:=dn H;by_cases bd:((a_ l1 (y)).f0).toList=((a_ l1 c).f0).toList
         ·replace H:=qP bd H;obtain⟨be,bf,H⟩:=H;clear bd;by_cases bg:((a_ l1 (y)).f1)=((a_ l1 c).f1)
          ·replace H:=qP bg H;obtain⟨bh,bi,H⟩:=H;clear bg;by_cases bj:((a_ l1 (y)).f2)=((a_ l1 c).f2)
           ·replace H:=qP bj H;obtain⟨bk,bl,H⟩:=H;clear bj;by_cases bm:((a_ l1 (y)).f3).toList=((a_ l1 c).f3).toList
            ·replace H:=qP bm H;obtain⟨bn,bo,H⟩:=H;clear bm;obtain rfl:=Option.some.inj H;have z:0≤(c:Int):=TD;have A:c<(l1.length:Int):=TD;obtain⟨U,X,Y,Z,aa,ab⟩:=aw_ (Kd.ae_ D.out HB.out) c z A;cases X;replace z:=eq_true z;replace A:=eq_true A;go_wp2_with (first|((with_reducible refine ax_ (N:=9) rfl ?_);refine bE 9 #[.string (⟨#[]⟩:ByteArray),.int .i64 0,.int .i64 0,.string (⟨#[]⟩:ByteArray)] 71 ?_;intro aB hg di hbox hb;have M:=AM (hbox);have V:=bG hg;have aC:=bG hg;replace HB:=BS hb;clear hb hbox hg;have cn:=cz4 M;have E:0≤((y):Int):=TD;have F:(y)<(l1.length:Int):=TD;obtain⟨W,ah,j,l,n,o⟩:=aw_ D.out (y) E F;obtain rfl:U=W:=(by injection ah);obtain⟨fA,fD⟩:=fr4 HB V (.string ((a_ l1 c).f0)) (.int .i64 ((a_ l1 c).f1)) (.int .i64 ((a_ l1 c).f2)) (.string ((a_ l1 c).f3));have ai:=fun n_=>fD n_ j;have aj:=fun n_=>fD n_ l;have ak:=fun n_=>fD n_ n;have al:=fun n_=>fD n_ o;replace j:=fA j;replace l:=fA l;replace n:=fA n;replace o:=fA o;clear fA fD;replace E:=eq_true E;replace F:=eq_true F)|((with_reducible refine gQ ?_);go_quiet (fail)));go_ret;exact⟨by first|rfl|(simp[av_,au_]<;>rfl)|(simp only[←hji23];first|rfl|(simp[av_,au_]<;>rfl))|(simp[*,av_,au_]<;>rfl),TB⟩
            ·replace H:=qN bm H;obtain⟨bn,bo,H⟩:=H;have H':=AM H;clear H;have z:0≤(c:Int):=TD;have A:c<(l1.length:Int):=TD;obtain⟨U,X,Y,Z,aa,ab⟩:=aw_ (Kd.ae_ D.out HB.out) c z A;cases X;replace z:=eq_true z;replace A:=eq_true A;go_wp2_with (first|((with_reducible refine ax_ (N:=9) rfl ?_);refine bE 9 #[.string (⟨#[]⟩:ByteArray),.int .i64 0,.int .i64 0,.string (⟨#[]⟩:ByteArray)] 71 ?_;intro aB hg dj hbox hb;have M:=AM (hbox);have V:=bG hg;have aC:=bG hg;replace HB:=BS hb;clear hb hbox hg;have co:=cz4 M;have E:0≤((y):Int):=TD;have F:(y)<(l1.length:Int):=TD;obtain⟨W,ah,j,l,n,o⟩:=aw_ D.out (y) E F;obtain rfl:U=W:=(by injection ah);obtain⟨fA,fD⟩:=fr4 HB V (.string ((a_ l1 c).f0)) (.int .i64 ((a_ l1 c).f1)) (.int .i64 ((a_ l1 c).f2)) (.string ((a_ l1 c).f3));have ai:=fun n_=>fD n_ j;have aj:=fun n_=>fD n_ l;have ak:=fun n_=>fD n_ n;have al:=fun n_=>fD n_ o;replace j:=fA j;replace l:=fA l;replace n:=fA n;replace o:=fA o;clear fA fD;replace E:=eq_true E;replace F:=eq_true F)|((with_reducible refine gQ ?_);go_quiet (fail)));go_roundg k2
             case measure=>have:=HK1.out;have:=HK2.out;omega
             case rel=>exact⟨(wrap64 (c+1)),TF,H',⟨by have:=HK1.out;have:=HK2.out;omega⟩,⟨TB⟩⟩
           ·replace H:=qN bj H;obtain⟨bk,bl,H⟩:=H;obtain rfl:=Option.some.inj H;have z:0≤(c:Int):=TD;have A:c<(l1.length:Int):=TD;obtain⟨U,X,Y,Z,aa,ab⟩:=aw_ (Kd.ae_ D.out HB.out) c z A;cases X;replace z:=eq_true z;replace A:=eq_true A;go_wp2_with (first|((with_reducible refine ax_ (N:=9) rfl ?_);refine bE 9 #[.string (⟨#[]⟩:ByteArray),.int .i64 0,.int .i64 0,.string (⟨#[]⟩:ByteArray)] 71 ?_;intro aB hg dk hbox hb;have M:=AM (hbox);have V:=bG hg;have aC:=bG hg;replace HB:=BS hb;clear hb hbox hg;have cp:=cz4 M;have E:0≤((y):Int):=TD;have F:(y)<(l1.length:Int):=TD;obtain⟨W,ah,j,l,n,o⟩:=aw_ D.out (y) E F;obtain rfl:U=W:=(by injection ah);obtain⟨fA,fD⟩:=fr4 HB V (.string ((a_ l1 c).f0)) (.int .i64 ((a_ l1 c).f1)) (.int .i64 ((a_ l1 c).f2)) (.string ((a_ l1 c).f3));have ai:=fun n_=>fD n_ j;have aj:=fun n_=>fD n_ l;have ak:=fun n_=>fD n_ n;have al:=fun n_=>fD n_ o;replace j:=fA j;replace l:=fA l;replace n:=fA n;replace o:=fA o;clear fA fD;replace E:=eq_true E;replace F:=eq_true F)|((with_reducible refine gQ ?_);go_quiet (fail)));go_ret;exact⟨by first|rfl|(simp[av_,au_]<;>rfl)|(simp only[←hji23];first|rfl|(simp[av_,au_]<;>rfl))|(simp[*,av_,au_]<;>rfl),TB⟩
          ·replace H:=qN bg H;obtain⟨bh,bi,H⟩:=H;have H':=AM H;clear H;have z:0≤(c:Int):=TD;have A:c<(l1.length:Int):=TD;obtain⟨U,X,Y,Z,aa,ab⟩:=aw_ (Kd.ae_ D.out HB.out) c z A;cases X;replace z:=eq_true z;replace A:=eq_true A;go_wp2_with (first|((with_reducible refine ax_ (N:=9) rfl ?_);refine bE 9 #[.string (⟨#[]⟩:ByteArray),.int .i64 0,.int .i64 0,.string (⟨#[]⟩:ByteArray)] 71 ?_;intro aB hg dl hbox hb;have M:=AM (hbox);have V:=bG hg;have aC:=bG hg;replace HB:=BS hb;clear hb hbox hg;have cq:=cz4 M;have E:0≤((y):Int):=TD;have F:(y)<(l1.length:Int):=TD;obtain⟨W,ah,j,l,n,o⟩:=aw_ D.out (y) E F;obtain rfl:U=W:=(by injection ah);obtain⟨fA,fD⟩:=fr4 HB V (.string ((a_ l1 c).f0)) (.int .i64 ((a_ l1 c).f1)) (.int .i64 ((a_ l1 c).f2)) (.string ((a_ l1 c).f3));have ai:=fun n_=>fD n_ j;have aj:=fun n_=>fD n_ l;have ak:=fun n_=>fD n_ n;have al:=fun n_=>fD n_ o;replace j:=fA j;replace l:=fA l;replace n:=fA n;replace o:=fA o;clear fA fD;replace E:=eq_true E;replace F:=eq_true F)|((with_reducible refine gQ ?_);go_quiet (fail)));go_roundg k2
           case measure=>have:=HK1.out;have:=HK2.out;omega
           case rel=>exact⟨(wrap64 (c+1)),TF,H',⟨by have:=HK1.out;have:=HK2.out;omega⟩,⟨TB⟩⟩
         ·replace H:=qN bd H;obtain⟨be,bf,H⟩:=H;have H':=AM H;clear H;have z:0≤(c:Int):=TD;have A:c<(l1.length:Int):=TD;obtain⟨U,X,Y,Z,aa,ab⟩:=aw_ (Kd.ae_ D.out HB.out) c z A;cases X;replace z:=eq_true z;replace A:=eq_true A;go_wp2_with (first|((with_reducible refine ax_ (N:=9) rfl ?_);refine bE 9 #[.string (⟨#[]⟩:ByteArray),.int .i64 0,.int .i64 0,.string (⟨#[]⟩:ByteArray)] 71 ?_;intro aB hg dm hbox hb;have M:=AM (hbox);have V:=bG hg;have aC:=bG hg;replace HB:=BS hb;clear hb hbox hg;have cr:=cz4 M;have E:0≤((y):Int):=TD;have F:(y)<(l1.length:Int):=TD;obtain⟨W,ah,j,l,n,o⟩:=aw_ D.out (y) E F;obtain rfl:U=W:=(by injection ah);obtain⟨fA,fD⟩:=fr4 HB V (.string ((a_ l1 c).f0)) (.int .i64 ((a_ l1 c).f1)) (.int .i64 ((a_ l1 c).f2)) (.string ((a_ l1 c).f3));have ai:=fun n_=>fD n_ j;have aj:=fun n_=>fD n_ l;have ak:=fun n_=>fD n_ n;have al:=fun n_=>fD n_ o;replace j:=fA j;replace l:=fA l;replace n:=fA n;replace o:=fA o;clear fA fD;replace E:=eq_true E;replace F:=eq_true F)|((with_reducible refine gQ ?_);go_quiet (fail)));go_roundg k2
          case measure=>have:=HK1.out;have:=HK2.out;omega
          case rel=>exact⟨(wrap64 (c+1)),TF,H',⟨by have:=HK1.out;have:=HK2.out;omega⟩,⟨TB⟩⟩
        ·rw[if_neg aT] at H;have bb:=decide_eq_false aT;clear aT;have H':=AM H;clear H;have z:0≤(c:Int):=TD;have A:c<(l1.length:Int):=TD;obtain⟨U,X,Y,Z,aa,ab⟩:=aw_ (Kd.ae_ D.out HB.out) c z A;cases X;replace z:=eq_true z;replace A:=eq_true A;go_wp2_with (first|((with_reducible refine ax_ (N:=9) rfl ?_);refine bE 9 #[.string (⟨#[]⟩:ByteArray),.int .i64 0,.int .i64 0,.string (⟨#[]⟩:ByteArray)] 71 ?_;intro aB hg dp hbox hb;have M:=AM (hbox);have V:=bG hg;have aC:=bG hg;replace HB:=BS hb;clear hb hbox hg;have ct:=cz4 M)|((with_reducible refine gQ ?_);go_quiet (fail)));go_roundg k2
         case measure=>have:=HK1.out;have:=HK2.out;omega
         case rel=>exact⟨(wrap64 (c+1)),TF,H',⟨by have:=HK1.out;have:=HK2.out;omega⟩,⟨TB⟩⟩
       ·rw[if_neg aS] at H;have ba:=decide_eq_false aS;clear aS;have H':=AM H;clear H;go_wp2
        repeat (go_quiet (fail);try go_wp2)
        go_loopg [99] k2 (fun kq cu w'=>∃(i:Int),cu=.int .i64 i∧Aside0 (az_.l2 kq a0 l1 l1 (l1.length:Int) i=some r)∧Aside0 (kq≤k2)∧Aside0 (Below w.heap.size w w'))
        case atStart=>exact⟨(0),TF,H',NL,⟨TB⟩⟩
        case round =>
         clear H';obtain⟨i,rfl,HA,HK3,HB⟩:=hrel
         cases gk with
         | zero=>exact absurd HA.out (by simp[az_.l2])
         | succ k3 =>
          have H:=HA.out;clear HA;simp only[az_.l2] at H;by_cases aU:i<(l1.length:Int)
          ·rw[if_pos aU] at H;have bp:=decide_eq_true aU;clear aU;obtain⟨cv,H⟩:=dn H;obtain⟨cw,H⟩:=dn H;have cx:=eq_true (TD:0≤i);obtain⟨bq,H⟩:=ifn H;have cy:=eq_true bq;have cz:=decide_eq_true bq;clear bq;obtain⟨ac,Ny332,H⟩:=nm H;have H':=AM H;clear H;have aX:0≤(i:Int):=TD;have aY:i<(l1.length:Int):=TD;obtain⟨ar,bZ,b0,b1,b2,b3⟩:=aw_ (Kd.ae_ D.out HB.out) i aX aY;cases bZ;replace aX:=eq_true aX;replace aY:=eq_true aY;go_wp2_with (first|((with_reducible refine ax_ (N:=11) rfl ?_);refine bE 11 #[.string (⟨#[]⟩:ByteArray),.int .i64 0,.int .i64 0,.string (⟨#[]⟩:ByteArray)] 71 ?_;intro au hg a4 hbox hb;have q:=AM (hbox);have cA:=bG hg;replace HB:=BS hb;clear hb hbox hg;have cB:=cz4 q)|((with_reducible refine ck_ (t:=71) (p:=11) rfl ?_);(try (rw[drewN_self a4];generalize hq_:World.drewN a4 _=a4;have n0_:=AM (blk_at hq_ q.out);have n1_:=AM (below_at hq_ HB.out);clear hq_ q HB;have q:=n0_;have HB:=n1_;clear n0_ n1_));refine cb_ (t:=71) (p:=11) (v:=?vo_w49) (w1:=((((a4.setCell ⟨au,0,none⟩ (.string ((a_ l1 i).f0))).setCell ⟨au,1,none⟩ (.int .i64 ((a_ l1 i).f1))).setCell ⟨au,2,none⟩ (.int .i64 ((a_ l1 i).f2))).setCell ⟨au,3,none⟩ (.string ((a_ l1 i).f3)))) ?hg ?ho ?hn ?hr ?_;(case ho=>rfl);(case hg=>rfl);(case hn=>rfl);(case hr=>first|(go_simp;done)|(go_simp;rfl));intro b4 hw;have n0_:Aside0 (b4.heap[au]? = some (.cells #[.string ((a_ l1 i).f0),.int .i64 ((a_ l1 i).f1),.int .i64 ((a_ l1 i).f2),.string ((a_ l1 i).f3)] 71 (0,0))):=⟨(by rw[hw];exact(by(with_reducible repeat (first|refine blk_drewN ?_ _|refine ai_ ?_|refine blk_alloc ?_ _));refine blk_put (cs:=#[.string ((a_ l1 i).f0),.int .i64 ((a_ l1 i).f1),.int .i64 ((a_ l1 i).f2),.string (⟨#[]⟩:ByteArray)]) ?_ 3 _ rfl;(with_reducible repeat (first|refine blk_drewN ?_ _|refine ai_ ?_|refine blk_alloc ?_ _));refine blk_put (cs:=#[.string ((a_ l1 i).f0),.int .i64 ((a_ l1 i).f1),.int .i64 0,.string (⟨#[]⟩:ByteArray)]) ?_ 2 _ rfl;(with_reducible repeat (first|refine blk_drewN ?_ _|refine ai_ ?_|refine blk_alloc ?_ _));refine blk_put (cs:=#[.string ((a_ l1 i).f0),.int .i64 0,.int .i64 0,.string (⟨#[]⟩:ByteArray)]) ?_ 1 _ rfl;(with_reducible repeat (first|refine blk_drewN ?_ _|refine ai_ ?_|refine blk_alloc ?_ _));refine blk_put (cs:=#[.string (⟨#[]⟩:ByteArray),.int .i64 0,.int .i64 0,.string (⟨#[]⟩:ByteArray)]) ?_ 0 _ rfl;(with_reducible repeat (first|refine blk_drewN ?_ _|refine ai_ ?_|refine blk_alloc ?_ _));exact q.out))⟩;have n1_:Aside0 (Below w.heap.size w b4):=⟨(by rw[hw];exact TB)⟩;clear hw q HB;have q:=n0_;have HB:=n1_;clear n0_ n1_;have br:(i:Int)≤((l1.length:Int):Int):=TD;obtain⟨db,aZ,_,hsz50,_⟩:=info_parts info71;have hroom50:l1.length≤c1:=aM.out;have hC50:Kd.C af_ _ (some ar) l1.length l1:=D.out;have hcut50:=cut_to (P:=Tryz.prog) 30 71 .i64 Tryz.underlying30 aZ (some ar) l1.length c1 i TD br hroom50;have a1:=Kd.C_take (m:=(i:Int).toNat) hC50 (by omega);have a2:ac.length=(i:Int).toNat:=(by rw[Ny332.out,List.length_take];omega);rw[←Ny332.out] at a1;rw[←a2] at hcut50;have aI:=AM a1;have cC:=AM (show ac.length≤c1 from by omega);clear a1 hC50 hroom50 aZ hsz50;have KY50:=AM a2;clear a2;replace br:=eq_true br)|((with_reducible refine gQ ?_);go_quiet (fail)));go_loopg [108] k3 (fun kq b5 w'=>∃(s:Int),b5=.int .i64 s∧Aside0 (az_.l3 kq a0 l1 l1 (l1.length:Int) i ac (ac.length:Int) s ((a_ l1 i).f0) ((a_ l1 i).f1) ((a_ l1 i).f2) ((a_ l1 i).f3)=some r)∧Aside0 (kq≤k3)∧Aside0 (w'.heap[au]? = some (.cells #[.string ((a_ l1 i).f0),.int .i64 ((a_ l1 i).f1),.int .i64 ((a_ l1 i).f2),.string ((a_ l1 i).f3)] 71 (0,0)))∧Aside0 (Below w.heap.size w w'))
           case atStart=>exact⟨(0),TF,H',NL,KW q,⟨TB⟩⟩
           case round =>
            clear H';obtain⟨s,rfl,HA,HK4,q,HB⟩:=hrel
            cases gk with
            | zero=>exact absurd HA.out (by simp[az_.l3])
            | succ k4 =>
             have H:=HA.out;clear HA;simp only[az_.l3] at H;by_cases aV:s<(ac.length:Int)
             ·rw[if_pos aV] at H;have bs:=decide_eq_true aV;clear aV;obtain⟨cD,H⟩:=dn H;obtain⟨cE,H⟩:=dn H;by_cases bt:((a_ ac s).f0).toList=((a_ l1 i).f0).toList
              ·replace H:=qP bt H;obtain⟨bu,bv,H⟩:=H;clear bt;by_cases bw:((a_ ac s).f1)=5
               ·replace H:=qP bw H;obtain⟨bx,bz,H⟩:=H;clear bw;obtain rfl:=Option.some.inj H;have O:0≤(s:Int):=TD;have R:s<(ac.length:Int):=TD;obtain⟨ae,aD,aE,aF,aG,aH⟩:=aw_ (Kd.ae_ aI.out HB.out) s O R;obtain rfl:ar=ae:=(by injection aD);replace O:=eq_true O;replace R:=eq_true R;go_wp2_with (first|((with_reducible refine ax_ (N:=13) rfl ?_);refine bE 13 #[.string (⟨#[]⟩:ByteArray),.int .i64 0,.int .i64 0,.string (⟨#[]⟩:ByteArray)] 71 ?_;intro aQ hg dq hbox hb;have af:=AM (hbox);have aR:=bG hg;replace HB:=BS hb;have ag:=bN q hg;have B:=bM q hg;replace q:=KB q hb;clear hb hbox hg;obtain⟨cF,cG⟩:=nn B;have cH:=cz4 af;have cI:=cz4 q)|((with_reducible refine gQ ?_);go_quiet (fail)));go_ret;exact⟨TE,TB⟩
               ·replace H:=qN bw H;obtain⟨bx,bz,H⟩:=H;by_cases bA:((a_ l1 i).f1)=5
                ·replace H:=qP bA H;obtain⟨bB,bC,H⟩:=H;clear bA;obtain rfl:=Option.some.inj H;have O:0≤(s:Int):=TD;have R:s<(ac.length:Int):=TD;obtain⟨ae,aD,aE,aF,aG,aH⟩:=aw_ (Kd.ae_ aI.out HB.out) s O R;obtain rfl:ar=ae:=(by injection aD);replace O:=eq_true O;replace R:=eq_true R;go_wp2_with (first|((with_reducible refine ax_ (N:=13) rfl ?_);refine bE 13 #[.string (⟨#[]⟩:ByteArray),.int .i64 0,.int .i64 0,.string (⟨#[]⟩:ByteArray)] 71 ?_;intro aQ hg dr hbox hb;have af:=AM (hbox);have aR:=bG hg;replace HB:=BS hb;have ag:=bN q hg;have B:=bM q hg;replace q:=KB q hb;clear hb hbox hg;obtain⟨cJ,cK⟩:=nn B;have cL:=cz4 af;have cM:=cz4 q)|((with_reducible refine gQ ?_);go_quiet (fail)));go_ret;exact⟨TE,TB⟩
                ·replace H:=qN bA H;obtain⟨bB,bC,H⟩:=H;have H':=AM H;clear H;have O:0≤(s:Int):=TD;have R:s<(ac.length:Int):=TD;obtain⟨ae,aD,aE,aF,aG,aH⟩:=aw_ (Kd.ae_ aI.out HB.out) s O R;obtain rfl:ar=ae:=(by injection aD);replace O:=eq_true O;replace R:=eq_true R;go_wp2_with (first|((with_reducible refine ax_ (N:=13) rfl ?_);refine bE 13 #[.string (⟨#[]⟩:ByteArray),.int .i64 0,.int .i64 0,.string (⟨#[]⟩:ByteArray)] 71 ?_;intro aQ hg ds hbox hb;have af:=AM (hbox);have aR:=bG hg;replace HB:=BS hb;have ag:=bN q hg;have B:=bM q hg;replace q:=KB q hb;clear hb hbox hg;obtain⟨cN,cO⟩:=nn B;have cP:=cz4 af;have cQ:=cz4 q)|((with_reducible refine gQ ?_);go_quiet (fail)));go_roundg k4
                 case measure=>have:=HK1.out;have:=HK2.out;have:=HK3.out;have:=HK4.out;omega
                 case rel=>exact⟨(wrap64 (s+1)),TF,H',⟨by have:=HK1.out;have:=HK2.out;have:=HK3.out;have:=HK4.out;omega⟩,⟨TS⟩,⟨TB⟩⟩
              ·replace H:=qN bt H;obtain⟨bu,bv,H⟩:=H;have H':=AM H;clear H;have O:0≤(s:Int):=TD;have R:s<(ac.length:Int):=TD;obtain⟨ae,aD,aE,aF,aG,aH⟩:=aw_ (Kd.ae_ aI.out HB.out) s O R;obtain rfl:ar=ae:=(by injection aD);replace O:=eq_true O;replace R:=eq_true R;go_wp2_with (first|((with_reducible refine ax_ (N:=13) rfl ?_);refine bE 13 #[.string (⟨#[]⟩:ByteArray),.int .i64 0,.int .i64 0,.string (⟨#[]⟩:ByteArray)] 71 ?_;intro aQ hg dt hbox hb;have af:=AM (hbox);have aR:=bG hg;replace HB:=BS hb;have ag:=bN q hg;have B:=bM q hg;replace q:=KB q hb;clear hb hbox hg;obtain⟨cR,cS⟩:=nn B;have cT:=cz4 af;have cU:=cz4 q)|((with_reducible refine gQ ?_);go_quiet (fail)));go_roundg k4
               case measure=>have:=HK1.out;have:=HK2.out;have:=HK3.out;have:=HK4.out;omega
               case rel=>exact⟨(wrap64 (s+1)),TF,H',⟨by have:=HK1.out;have:=HK2.out;have:=HK3.out;have:=HK4.out;omega⟩,⟨TS⟩,⟨TB⟩⟩
             ·rw[if_neg aV] at H;have bs:=decide_eq_false aV;clear aV;have H':=AM H;clear H;go_wp2
              repeat (go_quiet (fail);try go_wp2)
              go_roundg k4
              case measure=>have:=HK1.out;have:=HK2.out;have:=HK3.out;have:=HK4.out;omega
              case rel=>exact⟨(wrap64 (i+1)),TF,H',⟨by have:=HK1.out;have:=HK2.out;have:=HK3.out;have:=HK4.out;omega⟩,⟨TB⟩⟩
          ·rw[if_neg aU] at H;have bp:=decide_eq_false aU;clear aU;obtain⟨b6,b7,H⟩:=bnd H;by_cases a5:b6=true
           ·subst a5;replace H:=ift H;obtain rfl:=Option.some.inj H;go_wp2_with (first|(go_at_call 87;(with_reducible refine(b1_.calls _ _ _ _ _ _ _ _ ?side1 ?side2 b7.out).mono ?_);(case side1=>exact CW ((Kd.ae_ D.out HB.out)));(case side2=>exact aM.out);rintro e du ⟨rfl,hb⟩;replace HB:=BS hb;clear hb)|((with_reducible refine gQ ?_);go_quiet (fail)));go_ret;exact⟨TE,TB⟩
           ·replace a5:=Bool.eq_false_iff.mpr a5;subst a5;replace H:=iff' H;have H':=AM H;clear H;go_wp2_with (first|(go_at_call 87;(with_reducible refine(b1_.calls _ _ _ _ _ _ _ _ ?side1 ?side2 b7.out).mono ?_);(case side1=>exact CW ((Kd.ae_ D.out HB.out)));(case side2=>exact aM.out);rintro e dv ⟨rfl,hb⟩;replace HB:=BS hb;clear hb)|((with_reducible refine gQ ?_);go_quiet (fail)));go_loopg [134] k3 (fun kq b8 w'=>∃(g:Int),b8=.int .i64 g∧Aside0 (az_.l4 kq a0 l1 l1 (l1.length:Int) g=some r)∧Aside0 (kq≤k3)∧Aside0 (Below w.heap.size w w'))
            case atStart=>exact⟨(0),TF,H',NL,⟨TB⟩⟩
            case round =>
             clear H';obtain⟨g,rfl,HA,HK4,HB⟩:=hrel
             cases gk with
             | zero=>exact absurd HA.out (by simp[az_.l4])
             | succ k4 =>
              have H:=HA.out;clear HA;simp only[az_.l4] at H;by_cases aW:g<(l1.length:Int)
              ·rw[if_pos aW] at H;have bD:=decide_eq_true aW;clear aW;obtain⟨cV,H⟩:=dn H;obtain⟨cW,H⟩:=dn H;obtain⟨⟨b9,ca⟩,a3,H⟩:=bnd H
               try dsimp only at H
               by_cases a6:ca=true
               ·subst a6;replace H:=ift H;by_cases bF:((a_ l1 g).f1)=1
                ·replace H:=qP bF H;obtain⟨bH,bI,H⟩:=H;clear bF;have H':=AM H;clear H;have G:0≤(g:Int):=TD;have I:g<(l1.length:Int):=TD;obtain⟨aJ,am,an,ao,ap,aq⟩:=aw_ (Kd.ae_ D.out HB.out) g G I;cases am;replace G:=eq_true G;replace I:=eq_true I;go_wp2_with (first|((with_reducible refine ax_ (N:=15) rfl ?_);refine bE 15 #[.string (⟨#[]⟩:ByteArray),.int .i64 0,.int .i64 0,.string (⟨#[]⟩:ByteArray)] 71 ?_;intro aK hg dw hbox hb;have u:=AM (hbox);have aL:=bG hg;replace HB:=BS hb;clear hb hbox hg;have cX:=cz4 u)|(go_at_call 88;(with_reducible refine(bI_.calls _ _ _ _ _ _ _ _ _ ?side1 ?side2 a3.out).mono ?_);(case side1=>exact Kd.ae_ D.out TB);(case side2=>exact aM.out);rintro e dx ⟨rfl,hb⟩;replace u:=KP u #[.string ((a_ l1 g).f0),.int .i64 ((a_ l1 g).f1),.int .i64 ((a_ l1 g).f2),.string ((a_ l1 g).f3)] hb;replace HB:=BS hb;clear hb;have cY:=cz4 u)|((with_reducible refine gQ ?_);go_quiet (fail)));go_roundg k4
                 case measure=>have:=HK1.out;have:=HK2.out;have:=HK3.out;have:=HK4.out;omega
                 case rel=>exact⟨(wrap64 (g+1)),TF,H',⟨by have:=HK1.out;have:=HK2.out;have:=HK3.out;have:=HK4.out;omega⟩,⟨TB⟩⟩
                ·replace H:=qN bF H;obtain⟨bH,bI,H⟩:=H;by_cases bJ:((a_ l1 g).f1)=2
                 ·replace H:=qP bJ H;obtain⟨bK,bL,H⟩:=H;clear bJ;by_cases bO:((a_ l1 g).f0).toList=b9.toList
                  ·replace H:=qP bO H;obtain⟨bP,bQ,H⟩:=H;clear bO;have H':=AM H;clear H;have G:0≤(g:Int):=TD;have I:g<(l1.length:Int):=TD;obtain⟨aJ,am,an,ao,ap,aq⟩:=aw_ (Kd.ae_ D.out HB.out) g G I;cases am;replace G:=eq_true G;replace I:=eq_true I;go_wp2_with (first|((with_reducible refine ax_ (N:=15) rfl ?_);refine bE 15 #[.string (⟨#[]⟩:ByteArray),.int .i64 0,.int .i64 0,.string (⟨#[]⟩:ByteArray)] 71 ?_;intro aK hg dy hbox hb;have u:=AM (hbox);have aL:=bG hg;replace HB:=BS hb;clear hb hbox hg;have cZ:=cz4 u)|(go_at_call 88;(with_reducible refine(bI_.calls _ _ _ _ _ _ _ _ _ ?side1 ?side2 a3.out).mono ?_);(case side1=>exact Kd.ae_ D.out TB);(case side2=>exact aM.out);rintro e dz ⟨rfl,hb⟩;replace u:=KP u #[.string ((a_ l1 g).f0),.int .i64 ((a_ l1 g).f1),.int .i64 ((a_ l1 g).f2),.string ((a_ l1 g).f3)] hb;replace HB:=BS hb;clear hb;have c0:=cz4 u)|((with_reducible refine gQ ?_);go_quiet (fail)));go_roundg k4
                   case measure=>have:=HK1.out;have:=HK2.out;have:=HK3.out;have:=HK4.out;omega
                   case rel=>exact⟨(wrap64 (g+1)),TF,H',⟨by have:=HK1.out;have:=HK2.out;have:=HK3.out;have:=HK4.out;omega⟩,⟨TB⟩⟩
                  ·replace H:=qN bO H;obtain⟨bP,bQ,H⟩:=H;obtain rfl:=Option.some.inj H;have G:0≤(g:Int):=TD;have I:g<(l1.length:Int):=TD;obtain⟨aJ,am,an,ao,ap,aq⟩:=aw_ (Kd.ae_ D.out HB.out) g G I;cases am;replace G:=eq_true G;replace I:=eq_true I;go_wp2_with (first|((with_reducible refine ax_ (N:=15) rfl ?_);refine bE 15 #[.string (⟨#[]⟩:ByteArray),.int .i64 0,.int .i64 0,.string (⟨#[]⟩:ByteArray)] 71 ?_;intro aK hg dA hbox hb;have u:=AM (hbox);have aL:=bG hg;replace HB:=BS hb;clear hb hbox hg;have c2:=cz4 u)|(go_at_call 88;(with_reducible refine(bI_.calls _ _ _ _ _ _ _ _ _ ?side1 ?side2 a3.out).mono ?_);(case side1=>exact Kd.ae_ D.out TB);(case side2=>exact aM.out);rintro e dB ⟨rfl,hb⟩;replace u:=KP u #[.string ((a_ l1 g).f0),.int .i64 ((a_ l1 g).f1),.int .i64 ((a_ l1 g).f2),.string ((a_ l1 g).f3)] hb;replace HB:=BS hb;clear hb;have c4:=cz4 u)|((with_reducible refine gQ ?_);go_quiet (fail)));go_ret;exact⟨TE,TB⟩
                 ·replace H:=qN bJ H;obtain⟨bK,bL,H⟩:=H;obtain rfl:=Option.some.inj H;have G:0≤(g:Int):=TD;have I:g<(l1.length:Int):=TD;obtain⟨aJ,am,an,ao,ap,aq⟩:=aw_ (Kd.ae_ D.out HB.out) g G I;cases am;replace G:=eq_true G;replace I:=eq_true I;go_wp2_with (first|((with_reducible refine ax_ (N:=15) rfl ?_);refine bE 15 #[.string (⟨#[]⟩:ByteArray),.int .i64 0,.int .i64 0,.string (⟨#[]⟩:ByteArray)] 71 ?_;intro aK hg dC hbox hb;have u:=AM (hbox);have aL:=bG hg;replace HB:=BS hb;clear hb hbox hg;have c5:=cz4 u)|(go_at_call 88;(with_reducible refine(bI_.calls _ _ _ _ _ _ _ _ _ ?side1 ?side2 a3.out).mono ?_);(case side1=>exact Kd.ae_ D.out TB);(case side2=>exact aM.out);rintro e dD ⟨rfl,hb⟩;replace u:=KP u #[.string ((a_ l1 g).f0),.int .i64 ((a_ l1 g).f1),.int .i64 ((a_ l1 g).f2),.string ((a_ l1 g).f3)] hb;replace HB:=BS hb;clear hb;have cb:=cz4 u)|((with_reducible refine gQ ?_);go_quiet (fail)));go_ret;exact⟨TE,TB⟩
               ·replace a6:=Bool.eq_false_iff.mpr a6;subst a6;replace H:=iff' H;have H':=AM H;clear H;have G:0≤(g:Int):=TD;have I:g<(l1.length:Int):=TD;obtain⟨aJ,am,an,ao,ap,aq⟩:=aw_ (Kd.ae_ D.out HB.out) g G I;cases am;replace G:=eq_true G;replace I:=eq_true I;go_wp2_with (first|((with_reducible refine ax_ (N:=15) rfl ?_);refine bE 15 #[.string (⟨#[]⟩:ByteArray),.int .i64 0,.int .i64 0,.string (⟨#[]⟩:ByteArray)] 71 ?_;intro aK hg dc hbox hb;have u:=AM (hbox);have aL:=bG hg;replace HB:=BS hb;clear hb hbox hg;have cc:=cz4 u)|(go_at_call 88;(with_reducible refine(bI_.calls _ _ _ _ _ _ _ _ _ ?side1 ?side2 a3.out).mono ?_);(case side1=>exact Kd.ae_ D.out TB);(case side2=>exact aM.out);rintro e dd ⟨rfl,hb⟩;replace u:=KP u #[.string ((a_ l1 g).f0),.int .i64 ((a_ l1 g).f1),.int .i64 ((a_ l1 g).f2),.string ((a_ l1 g).f3)] hb;replace HB:=BS hb;clear hb)|((with_reducible refine gQ ?_);go_quiet (fail)));go_roundg k4
                case measure=>have:=HK1.out;have:=HK2.out;have:=HK3.out;have:=HK4.out;omega
                case rel=>exact⟨(wrap64 (g+1)),TF,H',⟨by have:=HK1.out;have:=HK2.out;have:=HK3.out;have:=HK4.out;omega⟩,⟨TB⟩⟩
              ·rw[if_neg aW] at H;have bD:=decide_eq_false aW;clear aW;obtain rfl:=Option.some.inj H;go_wp2
               repeat (go_quiet (fail);try go_wp2)
               go_ret;exact⟨TE,TB⟩
    ·replace H:=qN a7 H;obtain⟨a8,a9,H⟩:=H;obtain rfl:=Option.some.inj H;go_wp2
     repeat (go_quiet (fail);try go_wp2)
     go_ret;exact⟨TE,TB⟩
end
section
def spec_RuleOf.f (k:Nat) (a0:ByteArray) (l1:List (aa_)):Option (Int):=(bO_.f k a0).bind fun t343=>(if t343=true then((be_.f k l1).bind fun t344=>(if t344=true then((az_.f k a0 l1).bind fun t345=>(some t345)) else(some 9))) else(some 9))
theorem spec_RuleOf.calls (k:Nat) (a0:ByteArray) (A1:Option Addr) (c1:Nat) (l1:List (aa_)) (r:Int) (w:World) (i:Kd.C af_ w A1 l1.length l1) (j:l1.length≤c1) (h:spec_RuleOf.f k a0 l1=some r) :
  Calls Tryz.prog 38 #[.string a0,.slice A1 l1.length c1] w fun e w'=>e=.returned (.int .i64 r)∧Below w.heap.size w w':=by
 have c:=AM i;have g:=AM j;clear i j;have HB:=BZ w;have H:=h;clear h;unfold spec_RuleOf.f at H;obtain⟨l,A3,H⟩:=bnd H;by_cases c4:l=true
 ·subst c4;replace H:=ift H;obtain⟨m,A5,H⟩:=bnd H;by_cases c6:m=true
  ·subst c6;replace H:=ift H;obtain⟨n,A7,H⟩:=bnd H;obtain rfl:=Option.some.inj H;go_enter Tryz.func38,Tryz.ntmps38;go_wp2_with (first|(refine gL 6 rfl Tryz.func61 #[.string a0] rfl TA ?_;(with_reducible refine(bO_.calls _ _ _ _ A3.out).mono ?_);rintro e w8 ⟨rfl,hb⟩;refine⟨_,rfl,?_⟩;replace HB:=BS hb;clear hb)|(go_at_call 64;(with_reducible refine(be_.calls _ _ _ _ _ _ ?side1 ?side2 A5.out).mono ?_);(case side1=>exact CW ((Kd.ae_ c.out HB.out)));(case side2=>exact g.out);rintro e w9 ⟨rfl,hb⟩;replace HB:=BS hb;clear hb)|(refine gL 15 rfl Tryz.func65 #[.string a0,.slice A1 l1.length c1] rfl TA ?_;(with_reducible refine(az_.calls _ _ _ _ _ _ _ ?side1 ?side2 A7.out).mono ?_);(case side1=>exact CW ((Kd.ae_ c.out HB.out)));(case side2=>exact g.out);rintro e o ⟨rfl,hb⟩;refine⟨_,rfl,?_⟩;replace HB:=BS hb;clear hb));go_ret;exact⟨TE,TB⟩
  ·replace c6:=Bool.eq_false_iff.mpr c6;subst c6;replace H:=iff' H;obtain rfl:=Option.some.inj H;go_enter Tryz.func38,Tryz.ntmps38;go_wp2_with (first|(refine gL 6 rfl Tryz.func61 #[.string a0] rfl TA ?_;(with_reducible refine(bO_.calls _ _ _ _ A3.out).mono ?_);rintro e p ⟨rfl,hb⟩;refine⟨_,rfl,?_⟩;replace HB:=BS hb;clear hb)|(go_at_call 64;(with_reducible refine(be_.calls _ _ _ _ _ _ ?side1 ?side2 A5.out).mono ?_);(case side1=>exact CW ((Kd.ae_ c.out HB.out)));(case side2=>exact g.out);rintro e q ⟨rfl,hb⟩;replace HB:=BS hb;clear hb));go_ret;exact⟨TE,TB⟩
 ·replace c4:=Bool.eq_false_iff.mpr c4;subst c4;replace H:=iff' H;obtain rfl:=Option.some.inj H;go_enter Tryz.func38,Tryz.ntmps38;go_wp2_with (first|(refine gL 6 rfl Tryz.func61 #[.string a0] rfl TA ?_;(with_reducible refine(bO_.calls _ _ _ _ A3.out).mono ?_);rintro e s ⟨rfl,hb⟩;refine⟨_,rfl,?_⟩;replace HB:=BS hb;clear hb));go_ret;exact⟨TE,TB⟩
end
end Go.Proofs.YtenpejebbeoceaaGreatDoor.Pp
