/- The functions that the law reaches,one Lean function and its proof for each;written by wip/pp of this workplace,joined by claimit.py. -/
import Derived.Test.YtenpejebbeoceaaGreatDoorProg
import Derived.Below
import Derived.Deep.Draws
import Derived.Deep.AppendLies
import Derived.Maps.AppendAt
import Derived.OwnWalk
import Derived.Laws.BytesArg
import Derived.Laws.MakeOwn
import Derived.Laws.OwnMore
import Derived.Deep.OwnRows
import Derived.Tactics
import Derived.Lib.ConvBytes
import Derived.Laws.Slices
import Derived.WalkKit
import Derived.KernelRfl
import Derived.RowKit3
import Derived.Deep.LoopGhost
import Derived.Deep.QuietTactic
import Derived.BigQuiet
import Derived.WideLaws
import Derived.Deep.DeepCutAuto
import Derived.Deep.CutBlock
import Derived.Deep.RegionHeld3
import Derived.Laws.Rows
import Derived.Lib.AppendStr
import Derived.ArgAppend
import Derived.Laws.IdiomCopy
import Derived.OrdersHeld
import Derived.Laws.BitsLemmas
import Derived.RowKit
import Derived.Test.YtenpejebbeoceaaGreatDoorKFnExactCatchUpW
import Derived.Laws.CopyRow
import Derived.Lib.Overlaps
import Derived.Lib.AppendZerosOnto
import Derived.Laws.Externs
import Derived.Shelf.Spec.SlicesInsert
import Derived.Test.YtenpejebbeoceaaGreatDoorJFnExactCatchUp0
import Derived.Test.YtenpejebbeoceaaGreatDoorJFnExactCatchUp1
namespace Go.Proofs.YtenpejebbeoceaaGreatDoor.Pp
open Go.RowKit Go.Proofs.YtenpejebbeoceaaGreatDoorW.PrintWords Go.Proofs.YtenpejebbeoceaaGreatDoorW.PrintLast Go.Proofs.YtenpejebbeoceaaGreatDoorW.PrintMore
attribute [local go_sem] max2_int min2_int max_two min_two max_three min_three max_four min_four
set_option linter.unusedVariables false
set_option linter.unusedSimpArgs false
set_option maxHeartbeats 8000000
set_option maxRecDepth 100000
section
def bQ_.f (k:Nat) (a0_0:ByteArray) (a0_1:Int) (a0_2:Int) (a0_3:ByteArray) (a1_0:ByteArray) (a1_1:Int) (a1_2:Int) (a1_3:ByteArray):Option (Int):=(impl_compareNames.f k a0_0 a1_0).bind fun t577=>((cO_.f a0_1 a1_1).bind fun t578=>((cf_.f k (([t577,t578]:List Int))).bind fun t582=>(some t582)))
def bQ_.T1:Bool × List (List Nat × List Nat):=(true,[([],[]),([0],[0]),([],[]),([2],[2]),([1,3],[1,3]),([],[]),([5],[5]),([],[]),([7],[7]),([6,8,4],[6,8]),([4,9],[4,9]),([10,9],[10]),([11,11,0,1,2,3,4,5,6,7,8,9,10,11],[11])])
def bQ_.B1:List Nat:=[0,1,0,4,15,0,32,0,128,511,1023,2047,4095]
theorem bQ_.tab1:rtab .any (opsOf Tryz.f123 1)=bQ_.T1:=by kernel_rfl
theorem bQ_.bits1:waitsOk bQ_.T1.2 bQ_.B1=true:=by kernel_rfl
theorem bQ_.calls (k:Nat) (m:ByteArray) (o:Int) (x:Int) (y:ByteArray) (p:ByteArray) (q:Int) (z:Int) (A:ByteArray) (r:Int) (w:World) (h:bQ_.f k m o x y p q z A=some r) :
  Calls Tryz.prog 123 #[.agg #[.string m,.int .i64 o,.int .i64 x,.string y],.agg #[.string p,.int .i64 q,.int .i64 z,.string A]] w fun e w'=>e=.returned (.int .i64 r)∧Below w.heap.size w w':=by
 have hu71:=Tryz.underlying71;have HB:=BZ w;have H:=h;clear h;unfold bQ_.f at H;obtain⟨s,A3,H⟩:=bnd H;obtain⟨t,A4,H⟩:=bnd H;obtain⟨B,i⟩:∃y_:List Int,y_=(([s,t]:List Int)):=⟨_,rfl⟩
 replace H:((cf_.f k B).bind fun C=>(some C))=some r:=by first|(rw[i];with_reducible exact H)|(have H2_:=(Option.bind_some _ _).symm.trans H;rw[i];with_reducible exact H2_)|(have H2_:=(Option.bind_some _ _).symm.trans H;with_reducible exact H2_)|with_reducible exact H|(rw[i];exact H)|exact H
 have Ny579:=AM i;clear i;obtain⟨C,A5,H⟩:=bnd H;obtain rfl:=Option.some.inj H;go_enter Tryz.func123,Tryz.ntmps123
 try go_wp2_with (first|(refine gD 2 rfl ?_;refine bE 2 #[.string m,.int .i64 o,.int .i64 x,.string y] 71 ?_;intro j hg w6 hbox hb;have c:=AM (hbox);replace HB:=BS hb;clear hb hbox hg)|(refine gD 3 rfl ?_;refine bE 3 #[.string p,.int .i64 q,.int .i64 z,.string A] 71 ?_;intro l hg w7 hbox hb;have g:=AM (hbox);replace HB:=BS hb;have D:=bN c hg;have E:=bM c hg;replace c:=KB c hb;clear hb hbox hg))
 replace c:=AM (ai_ c.out);replace g:=AM (ai_ g.out);replace HB:=AM (ar_ HB.out);refine start_ (n:=13) (S:=fun w'=>w'.cell? ⟨j,0,none⟩=some (.string m)∧w'.cell? ⟨j,1,none⟩=some (.int .i64 o)∧w'.cell? ⟨j,2,none⟩=some (.int .i64 x)∧w'.cell? ⟨j,3,none⟩=some (.string y)∧w'.cell? ⟨l,0,none⟩=some (.string p)∧w'.cell? ⟨l,1,none⟩=some (.int .i64 q)∧w'.cell? ⟨l,2,none⟩=some (.int .i64 z)∧w'.cell? ⟨l,3,none⟩=some (.string A)) (ds:=[]) (mL 13 0) KR rfl KR ⟨bc 0 c,bc 1 c,bc 2 c,bc 3 c,bc 0 g,bc 1 g,bc 2 g,bc 3 g⟩ (fun hHeld=>?_);refine bg_ bQ_.tab1 bQ_.bits1 (fun HT_ HW_=>?_);generalize w7.drew=w8 at c g HB hHeld ⊢;refine pB 0 rfl rfl ?_;refine pB 2 rfl rfl ?_;refine pB 5 rfl rfl ?_;refine pB 7 rfl rfl ?_;refine tB 1 hHeld rfl rfl ?_;refine tB 3 hHeld rfl rfl ?_;refine tB 6 hHeld rfl rfl ?_;refine tB 8 hHeld rfl rfl ?_
 refine oB 4 rfl rfl fun K hK=>?_
 refine gB Tryz.func146 #[.string m,.string p] rfl rfl ?_
 with_reducible refine(impl_compareNames.calls _ _ _ _ _ A3.out).mono ?_
 rintro e w9 ⟨rfl,hb⟩;refine⟨_,rfl,?_⟩;replace c:=KB c hb;replace g:=KB g hb;replace HB:=BS hb;clear hb;refine hK.out _ _ ⟨bc 0 c,bc 1 c,bc 2 c,bc 3 c,bc 0 g,bc 1 g,bc 2 g,bc 3 g⟩ (fun hHeld=>?_);clear hK K;refine nA ?_
 refine oB 9 rfl rfl fun K hK=>?_
 refine gB Tryz.func126 #[.int .i64 o,.int .i64 q] rfl rfl ?_
 with_reducible refine(cO_.calls _ _ _ _ A4.out).mono ?_
 rintro e w' ⟨rfl,⟨nd,rfl⟩⟩;refine⟨_,rfl,?_⟩;refine hK.out _ _ ⟨bc 0 c,bc 1 c,bc 2 c,bc 3 c,bc 0 g,bc 1 g,bc 2 g,bc 3 g⟩ (fun hHeld=>?_);clear hK K;refine nA ?_
 refine oB 10 rfl rfl fun K hK=>?_
 refine Kd.R_lit_step (Kd.int .i64) _ 3 ?hg (N:=15) ?hd (xs:=([s,t]:List Int)) (inner:=[.int .i64 s,.int .i64 t]) (ok:=fun _=>True) (okp:=fun _=>True) ?hr ?hp (fun _ hk=>hk) trivial (Below.refl _ _) (Nat.le_refl _) (by simp) ?_;(case hd=>rfl);(case hg=>rfl);(case hr=>first|(go_simp;done)|(go_simp;rfl));(case hp=>exact(Reps.one (show Kd.M (Kd.int .i64) _ _ _ s [.int .i64 s] from rfl) (Reps.one (show Kd.M (Kd.int .i64) _ _ _ t [.int .i64 t] from rfl) (Reps.none _ _))));intro I J u hb hg_ hnew_;clear hg_ hnew_;(first|rw[←Ny579.out] at u|(simp only[Int.reduceToNat] at u;rw[←Ny579.out] at u));have v:=RL u;replace c:=KB c hb;replace g:=KB g hb;replace HB:=BS hb;clear hb u;obtain⟨F,G,eo12⟩:=Kd.ap_ v.out;(first|subst eo12|(injection eo12 with f1_ f2_ f3_;have f4_:=f1_.symm;have f5_:=f3_.symm;clear f1_ f2_ f3_;subst f4_;subst f5_));refine hK.out _ _ ⟨bc 0 c,bc 1 c,bc 2 c,bc 3 c,bc 0 g,bc 1 g,bc 2 g,bc 3 g⟩ (fun hHeld=>?_);clear hK K;refine nA ?_
 refine oB 11 rfl rfl fun K hK=>?_
 refine gB Tryz.func122 #[.slice F B.length G] rfl rfl ?_
 with_reducible refine(cf_.calls _ _ _ _ _ _ ?side1 ?side2 A5.out).mono ?_
 (case side1=>exact CW ((Kd.ag_ v.out).2.2));(case side2=>exact RI v);rintro e w' ⟨rfl,⟨nd,rfl⟩⟩;refine⟨_,rfl,?_⟩;refine hK.out _ _ ⟨bc 0 c,bc 1 c,bc 2 c,bc 3 c,bc 0 g,bc 1 g,bc 2 g,bc 3 g⟩ (fun hHeld=>?_);clear hK K;refine nA ?_;refine pB 12 rfl rfl ?_;refine done_ (bz_ HT_.out KR) ?_
 try go_wp2
 go_ret;exact⟨TE,TB⟩
end
section
def cW_.f (k:Nat) (a0:Int) (a1:ByteArray):Option (ByteArray):=(aF_.f k a0 a1).bind fun bt583=>(if bt583.2=true then(some bt583.1) else(some (⟨#[]⟩:ByteArray)))
theorem cW_.calls (k:Nat) (a0:Int) (a1:ByteArray) (r:ByteArray) (w:World) (hG_:Glob w) (h:cW_.f k a0 a1=some r) :
  Calls Tryz.prog 125 #[.int .i64 a0,.string a1] w fun e w'=>e=.returned (.string r)∧Below w.heap.size w w':=by
 have HGL:=AM hG_;clear hG_;have HB:=BZ w;have H:=h;clear h;unfold cW_.f at H;obtain⟨⟨g,c⟩,A3,H⟩:=bnd H
 try dsimp only at H
 by_cases c4:c=true
 ·subst c4;replace H:=ift H;obtain rfl:=Option.some.inj H;go_enter Tryz.func125,Tryz.ntmps125;go_wp2_with (first|(refine gL 10 rfl Tryz.func134 #[.int .i64 a0,.string a1] rfl TA ?_;(with_reducible refine(aF_.calls _ _ _ _ _ _ ?side1 A3.out).mono ?_);(case side1=>exact GW HGL);rintro e w5 ⟨rfl,hb⟩;refine⟨_,rfl,?_⟩;replace HB:=BS hb;clear hb));go_ret;exact⟨TE,TB⟩
 ·replace c4:=Bool.eq_false_iff.mpr c4;subst c4;replace H:=iff' H;obtain rfl:=Option.some.inj H;go_enter Tryz.func125,Tryz.ntmps125;go_wp2_with (first|(refine gL 10 rfl Tryz.func134 #[.int .i64 a0,.string a1] rfl TA ?_;(with_reducible refine(aF_.calls _ _ _ _ _ _ ?side1 A3.out).mono ?_);(case side1=>exact GW HGL);rintro e w6 ⟨rfl,hb⟩;refine⟨_,rfl,?_⟩;replace HB:=BS hb;clear hb));go_ret;exact⟨TE,TB⟩
end
section
def strings_Compare.f (a0:ByteArray) (a1:ByteArray):Option (Int):=some (Go.Lib.compareBytes a0.data.toList a1.data.toList)
theorem strings_Compare.calls (a0:ByteArray) (a1:ByteArray) (r:Int) (w:World) (h:strings_Compare.f a0 a1=some r) :
  Calls Tryz.prog 124 #[.string a0,.string a1] w fun e w'=>e=.returned (.int .i64 r)∧Drawn0 w w':=by
 unfold strings_Compare.f at h;obtain rfl:=Option.some.inj h
 exact(Go.Proofs.Any.strings_Compare Go.Proofs.Tryz.lays106 a0 a1 w).mono fun e w' hh=>⟨hh.1,hh.2 ▸ Drawn0.refl _⟩
end
section
def a9_.f (k:Nat) (m:ByteArray) (c:Int) (g:Int) (h:ByteArray) (n:ByteArray) (i:Int) (j:Int) (l:ByteArray):Option (Int):=(bQ_.f k m c g h n i j l).bind fun o=>((cW_.f k c h).bind fun p=>((cW_.f k i l).bind fun q=>((strings_Compare.f p q).bind fun s=>((cO_.f g j).bind fun t=>((cf_.f k (([o,s,t]:List Int))).bind fun u=>(some u))))))
def a9_.T1:Bool × List (List Nat × List Nat):=(true,[([],[]),([],[]),([0,1],[0,1]),([],[]),([3],[3]),([],[]),([5],[5]),([4,6,2],[4,6]),([],[]),([8],[8]),([],[]),([10],[10]),([9,11,7],[9,11]),([7,12,12],[7,12]),([],[]),([14],[14]),([],[]),([16],[16]),([15,17,13],[15,17]),([2,13,18],[2,13,18]),([19,18],[19]),([20,20,0,1,2,3,4,5,6,7,8,9,10,11,12,13,14,15,16,17,18,19,20],[20])])
def a9_.B1:List Nat:=[0,0,3,0,8,0,32,127,0,256,0,1024,4095,8191,0,16384,0,65536,262143,524287,1048575,2097151]
theorem a9_.tab1:rtab .any (opsOf Tryz.f101 1)=a9_.T1:=by kernel_rfl
theorem a9_.bits1:waitsOk a9_.T1.2 a9_.B1=true:=by kernel_rfl
theorem a9_.calls (k:Nat) (u:ByteArray) (j:Int) (l:Int) (m:ByteArray) (v:ByteArray) (o:Int) (p:Int) (q:ByteArray) (r:Int) (w:World) (hG_:Glob w) (h:a9_.f k u j l m v o p q=some r) :
  Calls Tryz.prog 101 #[.agg #[.string u,.int .i64 j,.int .i64 l,.string m],.agg #[.string v,.int .i64 o,.int .i64 p,.string q]] w fun e w'=>e=.returned (.int .i64 r)∧Below w.heap.size w w':=by
 have hu71:=Tryz.underlying71;have HGL:=AM hG_;clear hG_;have HB:=BZ w;have H:=h;clear h;unfold a9_.f at H;obtain⟨x,A3,H⟩:=bnd H;obtain⟨G,A4,H⟩:=bnd H;obtain⟨I,A5,H⟩:=bnd H;obtain⟨y,A6,H⟩:=bnd H;obtain⟨z,A7,H⟩:=bnd H;obtain⟨C,i⟩:∃y_:List Int,y_=(([x,y,z]:List Int)):=⟨_,rfl⟩
 replace H:((cf_.f k C).bind fun D=>(some D))=some r:=by first|(rw[i];with_reducible exact H)|(have H2_:=(Option.bind_some _ _).symm.trans H;rw[i];with_reducible exact H2_)|(have H2_:=(Option.bind_some _ _).symm.trans H;with_reducible exact H2_)|with_reducible exact H|(rw[i];exact H)|exact H
 have Ny592:=AM i;clear i;obtain⟨D,A8,H⟩:=bnd H;obtain rfl:=Option.some.inj H;go_enter Tryz.func101,Tryz.ntmps101
 try go_wp2_with (first|(refine gD 2 rfl ?_;refine bE 2 #[.string u,.int .i64 j,.int .i64 l,.string m] 71 ?_;intro s hg w9 hbox hb;have c:=AM (hbox);replace HB:=BS hb;clear hb hbox hg)|(refine gD 3 rfl ?_;refine bE 3 #[.string v,.int .i64 o,.int .i64 p,.string q] 71 ?_;intro t hg R hbox hb;have g:=AM (hbox);replace HB:=BS hb;have E:=bN c hg;have F:=bM c hg;replace c:=KB c hb;clear hb hbox hg))
 replace c:=AM (ai_ c.out);replace g:=AM (ai_ g.out);replace HB:=AM (ar_ HB.out);refine start_ (n:=22) (S:=fun w'=>w'.cell? ⟨s,0,none⟩=some (.string u)∧w'.cell? ⟨s,1,none⟩=some (.int .i64 j)∧w'.cell? ⟨s,2,none⟩=some (.int .i64 l)∧w'.cell? ⟨s,3,none⟩=some (.string m)∧w'.cell? ⟨t,0,none⟩=some (.string v)∧w'.cell? ⟨t,1,none⟩=some (.int .i64 o)∧w'.cell? ⟨t,2,none⟩=some (.int .i64 p)∧w'.cell? ⟨t,3,none⟩=some (.string q)) (ds:=[]) (mL 22 0) KR rfl KR ⟨bc 0 c,bc 1 c,bc 2 c,bc 3 c,bc 0 g,bc 1 g,bc 2 g,bc 3 g⟩ (fun hHeld=>?_);refine bg_ a9_.tab1 a9_.bits1 (fun HT_ HW_=>?_);generalize R.drew=V at c g HB hHeld ⊢;refine pB 3 rfl rfl ?_;refine pB 5 rfl rfl ?_;refine pB 8 rfl rfl ?_;refine pB 10 rfl rfl ?_;refine pB 14 rfl rfl ?_;refine pB 16 rfl rfl ?_;refine tB 0 hHeld rfl rfl ?_;refine tB 1 hHeld rfl rfl ?_;refine tB 4 hHeld rfl rfl ?_;refine tB 6 hHeld rfl rfl ?_;refine tB 9 hHeld rfl rfl ?_;refine tB 11 hHeld rfl rfl ?_;refine tB 15 hHeld rfl rfl ?_;refine tB 17 hHeld rfl rfl ?_
 refine oB 2 rfl rfl fun K hK=>?_
 refine gB Tryz.func123 #[.agg #[.string u,.int .i64 j,.int .i64 l,.string m],.agg #[.string v,.int .i64 o,.int .i64 p,.string q]] rfl rfl ?_
 with_reducible refine(bQ_.calls _ _ _ _ _ _ _ _ _ _ _ A3.out).mono ?_
 rintro e W ⟨rfl,hb⟩;refine⟨_,rfl,?_⟩;replace c:=KB c hb;replace g:=KB g hb;replace HB:=BS hb;clear hb;refine hK.out _ _ ⟨bc 0 c,bc 1 c,bc 2 c,bc 3 c,bc 0 g,bc 1 g,bc 2 g,bc 3 g⟩ (fun hHeld=>?_);clear hK K;refine nA ?_
 refine oB 7 rfl rfl fun K hK=>?_
 refine gB Tryz.func125 #[.int .i64 j,.string m] rfl rfl ?_
 with_reducible refine(cW_.calls _ _ _ _ _ ?side1 A4.out).mono ?_
 (case side1=>exact GW HGL);rintro e X ⟨rfl,hb⟩;refine⟨_,rfl,?_⟩;replace c:=KB c hb;replace g:=KB g hb;replace HB:=BS hb;clear hb;refine hK.out _ _ ⟨bc 0 c,bc 1 c,bc 2 c,bc 3 c,bc 0 g,bc 1 g,bc 2 g,bc 3 g⟩ (fun hHeld=>?_);clear hK K;refine nA ?_
 refine oB 12 rfl rfl fun K hK=>?_
 refine gB Tryz.func125 #[.int .i64 o,.string q] rfl rfl ?_
 with_reducible refine(cW_.calls _ _ _ _ _ ?side1 A5.out).mono ?_
 (case side1=>exact GW HGL);rintro e Y ⟨rfl,hb⟩;refine⟨_,rfl,?_⟩;replace c:=KB c hb;replace g:=KB g hb;replace HB:=BS hb;clear hb;refine hK.out _ _ ⟨bc 0 c,bc 1 c,bc 2 c,bc 3 c,bc 0 g,bc 1 g,bc 2 g,bc 3 g⟩ (fun hHeld=>?_);clear hK K;refine nA ?_
 refine oB 13 rfl rfl fun K hK=>?_
 refine gB Tryz.func124 #[.string G,.string I] rfl rfl ?_
 with_reducible refine(strings_Compare.calls _ _ _ _ A6.out).mono ?_
 rintro e w' ⟨rfl,⟨nd,rfl⟩⟩;refine⟨_,rfl,?_⟩;refine hK.out _ _ ⟨bc 0 c,bc 1 c,bc 2 c,bc 3 c,bc 0 g,bc 1 g,bc 2 g,bc 3 g⟩ (fun hHeld=>?_);clear hK K;refine nA ?_
 refine oB 18 rfl rfl fun K hK=>?_
 refine gB Tryz.func126 #[.int .i64 l,.int .i64 p] rfl rfl ?_
 with_reducible refine(cO_.calls _ _ _ _ A7.out).mono ?_
 rintro e w' ⟨rfl,⟨nd,rfl⟩⟩;refine⟨_,rfl,?_⟩;refine hK.out _ _ ⟨bc 0 c,bc 1 c,bc 2 c,bc 3 c,bc 0 g,bc 1 g,bc 2 g,bc 3 g⟩ (fun hHeld=>?_);clear hK K;refine nA ?_
 refine oB 19 rfl rfl fun K hK=>?_
 refine Kd.R_lit_step (Kd.int .i64) _ 3 ?hg (N:=24) ?hd (xs:=([x,y,z]:List Int)) (inner:=[.int .i64 x,.int .i64 y,.int .i64 z]) (ok:=fun _=>True) (okp:=fun _=>True) ?hr ?hp (fun _ hk=>hk) trivial (Below.refl _ _) (Nat.le_refl _) (by simp) ?_;(case hd=>rfl);(case hg=>rfl);(case hr=>first|(go_simp;done)|(go_simp;rfl));(case hp=>exact(Reps.one (show Kd.M (Kd.int .i64) _ _ _ x [.int .i64 x] from rfl) (Reps.one (show Kd.M (Kd.int .i64) _ _ _ y [.int .i64 y] from rfl) (Reps.one (show Kd.M (Kd.int .i64) _ _ _ z [.int .i64 z] from rfl) (Reps.none _ _)))));intro U Z A hb hg_ hnew_;clear hg_ hnew_;(first|rw[←Ny592.out] at A|(simp only[Int.reduceToNat] at A;rw[←Ny592.out] at A));have B:=RL A;replace c:=KB c hb;replace g:=KB g hb;replace HB:=BS hb;clear hb A;obtain⟨J,O,eo17⟩:=Kd.ap_ B.out;(first|subst eo17|(injection eo17 with f1_ f2_ f3_;have f4_:=f1_.symm;have f5_:=f3_.symm;clear f1_ f2_ f3_;subst f4_;subst f5_));refine hK.out _ _ ⟨bc 0 c,bc 1 c,bc 2 c,bc 3 c,bc 0 g,bc 1 g,bc 2 g,bc 3 g⟩ (fun hHeld=>?_);clear hK K;refine nA ?_
 refine oB 20 rfl rfl fun K hK=>?_
 refine gB Tryz.func122 #[.slice J C.length O] rfl rfl ?_
 with_reducible refine(cf_.calls _ _ _ _ _ _ ?side1 ?side2 A8.out).mono ?_
 (case side1=>exact CW ((Kd.ag_ B.out).2.2));(case side2=>exact RI B);rintro e w' ⟨rfl,⟨nd,rfl⟩⟩;refine⟨_,rfl,?_⟩;refine hK.out _ _ ⟨bc 0 c,bc 1 c,bc 2 c,bc 3 c,bc 0 g,bc 1 g,bc 2 g,bc 3 g⟩ (fun hHeld=>?_);clear hK K;refine nA ?_;refine pB 21 rfl rfl ?_;refine done_ (bz_ HT_.out KR) ?_
 try go_wp2
 go_ret;exact⟨TE,TB⟩
end
section
def aS_.l0:Nat→List (aa_)→List (aa_)→Int→Int→Option (Bool)
 | 0,_,_,_,_=>none
 | k+1,x0,x5,x6,x7=>if x7<x6 then(if 0≤x7 then(if x7<(x5.length:Int) then((cN_.f k ((a_ x5 x7).f0) ((a_ x5 x7).f1) ((a_ x5 x7).f2) ((a_ x5 x7).f3)).bind fun c=>(if c=true then(if x7 > 0 then(if 0≤(wrap64 (x7 - 1)) then(if (wrap64 (x7 - 1))<(x0.length:Int) then((a9_.f k ((a_ x0 (wrap64 (x7 - 1))).f0) ((a_ x0 (wrap64 (x7 - 1))).f1) ((a_ x0 (wrap64 (x7 - 1))).f2) ((a_ x0 (wrap64 (x7 - 1))).f3) ((a_ x5 x7).f0) ((a_ x5 x7).f1) ((a_ x5 x7).f2) ((a_ x5 x7).f3)).bind fun g=>(if g≥0 then(some false) else(aS_.l0 k x0 x5 x6 (wrap64 (x7+1))))) else(none)) else(none)) else(aS_.l0 k x0 x5 x6 (wrap64 (x7+1)))) else(some false))) else(none)) else(none)) else(some true)
def aS_.f (k:Nat) (l0:List (aa_)):Option (Bool):=aS_.l0 k l0 l0 (l0.length:Int) 0
def aS_.T4:Bool × List (List Nat × List Nat):=(true,[([],[]),([0],[0]),([1],[1]),([2,1],[2]),([3],[3]),([4,3],[3,4]),([5,3,3],[3,5]),([6],[6]),([6],[6]),([8,6],[6,8]),([7,9,6],[6,7,9]),([10,6],[6,10]),([6],[6]),([11,12,6,6],[6,11,12]),([13,6],[6,13]),([6,14,3],[3,6,14]),([3,15],[3,15])])
def aS_.B4:List Nat:=[0,1,3,7,15,31,63,127,127,383,1023,2047,127,8191,16383,32767,65535]
theorem aS_.tab4:rtab .any (opsOf Tryz.f90 4)=aS_.T4:=by kernel_rfl
theorem aS_.bits4:waitsOk aS_.T4.2 aS_.B4=true:=by kernel_rfl
theorem aS_.calls (k:Nat) (A0:Option Addr) (c0:Nat) (l0:List (aa_)) (r:Bool) (w:World) (X:Kd.C af_ w A0 l0.length l0) (Y:l0.length≤c0) (hG_:Glob w) (h:aS_.f k l0=some r) :
  Calls Tryz.prog 90 #[.slice A0 l0.length c0] w fun e w'=>e=.returned (.bool r)∧Below w.heap.size w w':=by
 have hu71:=Tryz.underlying71;have N:=AM X;have ao:=AM Y;clear X Y;have HGL:=AM hG_;clear hG_;have HB:=BZ w;have H:(aS_.l0 k l0 l0 (l0.length:Int) 0)=some r:=h;clear h;have H':=AM H;clear H;go_enter Tryz.func90,Tryz.ntmps90;go_wp2;go_loopg [7] k (fun kq v7 w'=>∃(c:Int),v7=.int .i64 c∧Aside0 (aS_.l0 kq l0 l0 (l0.length:Int) c=some r)∧Aside0 (kq≤k)∧Aside0 (Below w.heap.size w w'))
 case atStart=>exact⟨(0),TF,H',NL,⟨TB⟩⟩
 case round =>
  clear H';obtain⟨c,rfl,HA,HK1,HB⟩:=hrel
  cases gk with
  | zero=>exact absurd HA.out (by simp[aS_.l0])
  | succ k1 =>
   have H:=HA.out;clear HA;simp only[aS_.l0] at H;by_cases c2:c<(l0.length:Int)
   ·rw[if_pos c2] at H;have Z:=decide_eq_true c2;clear c2;obtain⟨al,H⟩:=dn H;obtain⟨am,H⟩:=dn H;obtain⟨aa,A5,H⟩:=bnd H;by_cases c6:aa=true
    ·subst c6;replace H:=ift H;by_cases c7:c > 0
     ·rw[if_pos c7] at H;have ab:=decide_eq_true c7;clear c7;obtain⟨j,hji8⟩:∃j_:Int,(wrap64 (c - 1))=j_:=⟨_,rfl⟩
      replace H:(if 0≤(j) then(if (j)<(l0.length:Int) then((a9_.f k1 ((a_ l0 (j)).f0) ((a_ l0 (j)).f1) ((a_ l0 (j)).f2) ((a_ l0 (j)).f3) ((a_ l0 c).f0) ((a_ l0 c).f1) ((a_ l0 c).f2) ((a_ l0 c).f3)).bind fun G=>(if G≥0 then(some false) else(aS_.l0 k1 l0 l0 (l0.length:Int) (wrap64 (c+1))))) else(none)) else(none))=some r:=by first|(rw[hji8] at H;exact H)|(simp only[hji8] at H ⊢;exact H)
      (try rw[hji8] at A5);have hji8w:(IntKind.i64.wrap (c - 1))=j:=(b6_ _).trans hji8;obtain⟨an,H⟩:=dn H;obtain⟨ad,H⟩:=dn H;obtain⟨G,ae,H⟩:=bnd H;have HX_:=AM H;clear H;have m:0≤(c:Int):=TD;have o:c<(l0.length:Int):=TD;obtain⟨l,z,A,B,D,E⟩:=aw_ (Kd.ae_ N.out HB.out) c m o;cases z;replace m:=eq_true m;replace o:=eq_true o
      try go_wp2_with (first|(refine gD 4 rfl ?_;refine bE 4 #[.string (⟨#[]⟩:ByteArray),.int .i64 0,.int .i64 0,.string (⟨#[]⟩:ByteArray)] 71 ?_;intro g hg O hbox hb;have i:=AM (hbox);have I:=bG hg;replace HB:=BS hb;clear hb hbox hg;have af:=cz4 i))
      have n0_:Aside0 (((((O.setCell ⟨g,0,none⟩ (.string ((a_ l0 c).f0))).setCell ⟨g,1,none⟩ (.int .i64 ((a_ l0 c).f1))).setCell ⟨g,2,none⟩ (.int .i64 ((a_ l0 c).f2))).setCell ⟨g,3,none⟩ (.string ((a_ l0 c).f3))).heap[g]? = some (.cells #[.string ((a_ l0 c).f0),.int .i64 ((a_ l0 c).f1),.int .i64 ((a_ l0 c).f2),.string ((a_ l0 c).f3)] 71 (0,0))):=⟨TS⟩;have n1_:Aside0 (Below w.heap.size w ((((O.setCell ⟨g,0,none⟩ (.string ((a_ l0 c).f0))).setCell ⟨g,1,none⟩ (.int .i64 ((a_ l0 c).f1))).setCell ⟨g,2,none⟩ (.int .i64 ((a_ l0 c).f2))).setCell ⟨g,3,none⟩ (.string ((a_ l0 c).f3)))):=⟨TB⟩;generalize ((((O.setCell ⟨g,0,none⟩ (.string ((a_ l0 c).f0))).setCell ⟨g,1,none⟩ (.int .i64 ((a_ l0 c).f1))).setCell ⟨g,2,none⟩ (.int .i64 ((a_ l0 c).f2))).setCell ⟨g,3,none⟩ (.string ((a_ l0 c).f3)))=ag at n0_ n1_ ⊢;have i:=n0_;have HB:=n1_;clear n0_ n1_;replace i:=AM (ai_ i.out);replace HB:=AM (ar_ HB.out);have J:0≤((j):Int):=TD;have M:(j)<(l0.length:Int):=TD;obtain⟨R,ac,p,q,s,t⟩:=aw_ N.out (j) J M;have u:=t;have v:=s;have x:=q;have y:=p;obtain rfl:l=R:=(by injection ac);replace p:=hBc HB p;replace q:=hBc HB q;replace s:=hBc HB s;replace t:=hBc HB t;replace J:=eq_true J;replace M:=eq_true M;refine start_ (n:=17) (S:=fun w'=>w'.cell? ⟨g,0,none⟩=some (.string ((a_ l0 c).f0))∧w'.cell? ⟨g,1,none⟩=some (.int .i64 ((a_ l0 c).f1))∧w'.cell? ⟨g,2,none⟩=some (.int .i64 ((a_ l0 c).f2))∧w'.cell? ⟨g,3,none⟩=some (.string ((a_ l0 c).f3))∧w'.cell? (l.add (((j)).toNat * 4))=some (.string ((a_ l0 (j)).f0))∧w'.cell? ⟨(l.add (((j)).toNat * 4)).block,(l.add (((j)).toNat * 4)).off+1,none⟩=some (.int .i64 ((a_ l0 (j)).f1))∧w'.cell? ⟨(l.add (((j)).toNat * 4)).block,(l.add (((j)).toNat * 4)).off+2,none⟩=some (.int .i64 ((a_ l0 (j)).f2))∧w'.cell? ⟨(l.add (((j)).toNat * 4)).block,(l.add (((j)).toNat * 4)).off+3,none⟩=some (.string ((a_ l0 (j)).f3))) (ds:=[]) (mL 17 0) KR rfl KR ⟨bc 0 i,bc 1 i,bc 2 i,bc 3 i,(hBc HB y),(hBc HB x),(hBc HB v),(hBc HB u)⟩ (fun hHeld=>?_);refine bg_ aS_.tab4 aS_.bits4 (fun HT_ HW_=>?_);generalize ag.drew=ap at i HB p q s t hHeld ⊢;refine tB 0 hHeld rfl rfl ?_
      refine oB 1 rfl rfl fun K hK=>?_
      refine gB Tryz.func111 #[.agg #[.string ((a_ l0 c).f0),.int .i64 ((a_ l0 c).f1),.int .i64 ((a_ l0 c).f2),.string ((a_ l0 c).f3)]] rfl rfl ?_
      with_reducible refine(cN_.calls _ _ _ _ _ _ _ ?side1 A5.out).mono ?_
      (case side1=>exact GW HGL);rintro e aq ⟨rfl,hb⟩;refine⟨_,rfl,?_⟩;replace i:=KB i hb;replace HB:=BS hb;clear hb;refine hK.out _ _ ⟨bc 0 i,bc 1 i,bc 2 i,bc 3 i,(hBc HB y),(hBc HB x),(hBc HB v),(hBc HB u)⟩ (fun hHeld=>?_);clear hK K;refine nA ?_;refine pB 2 rfl rfl ?_;refine pB 3 rfl rfl ?_;refine pB 4 rfl rfl ?_;refine pB 5 rfl rfl ?_;refine pB 6 rfl rfl ?_;refine pB 7 rfl rfl ?_;refine pB 8 rfl rfl ?_;refine pB 9 rfl rfl ?_;refine pB 10 rfl rfl ?_;refine tB 11 hHeld rfl rfl ?_;refine tB 12 hHeld rfl rfl ?_
      refine oB 13 rfl rfl fun K hK=>?_
      refine goes_ Tryz.func101 KR rfl #[.agg #[.string ((a_ l0 (j)).f0),.int .i64 ((a_ l0 (j)).f1),.int .i64 ((a_ l0 (j)).f2),.string ((a_ l0 (j)).f3)],.agg #[.string ((a_ l0 c).f0),.int .i64 ((a_ l0 c).f1),.int .i64 ((a_ l0 c).f2),.string ((a_ l0 c).f3)]] (by rfl) rfl rfl (by(try simp only[List.map_toArray,List.map_cons,List.map_nil]);first|done|(simp only[hji8];rfl)|rfl|(simp only[List.length_drop,List.length_take];rfl)) ?_
      with_reducible refine(a9_.calls _ _ _ _ _ _ _ _ _ _ _ ?side1 ae.out).mono ?_
      (case side1=>exact GW HGL);rintro e ar ⟨rfl,hb⟩;refine⟨_,rfl,?_⟩;replace i:=KB i hb;replace HB:=BS hb;clear hb;refine hK.out _ _ ⟨bc 0 i,bc 1 i,bc 2 i,bc 3 i,(hBc HB y),(hBc HB x),(hBc HB v),(hBc HB u)⟩ (fun hHeld=>?_);clear hK K;refine nA ?_;refine pB 14 rfl rfl ?_;refine pB 15 rfl rfl ?_;refine pB 16 rfl rfl ?_;refine done_ (bz_ HT_.out KR) ?_;have H:=HX_.out;clear HX_;by_cases F:G≥0
      ·rw[if_pos F] at H;have U:=decide_eq_true F;clear F;obtain rfl:=Option.some.inj H
       try go_simp
       try go_wp2
       go_ret;exact⟨by first|rfl|(simp[av_,au_]<;>rfl)|(simp only[←hji8];first|rfl|(simp[av_,au_]<;>rfl))|(simp[*,av_,au_]<;>rfl),TB⟩
      ·rw[if_neg F] at H;have U:=decide_eq_false F;clear F;have H':=AM H;clear H
       try go_simp
       try go_wp2
       go_roundg k1
       case measure=>exact TM
       case rel=>exact⟨(wrap64 (c+1)),TF,H',⟨TM⟩,⟨TB⟩⟩
     ·rw[if_neg c7] at H;have ab:=decide_eq_false c7;clear c7;have H':=AM H;clear H;have m:0≤(c:Int):=TD;have o:c<(l0.length:Int):=TD;obtain⟨l,z,A,B,D,E⟩:=aw_ (Kd.ae_ N.out HB.out) c m o;cases z;replace m:=eq_true m;replace o:=eq_true o
      try go_wp2_with (first|(refine gD 4 rfl ?_;refine bE 4 #[.string (⟨#[]⟩:ByteArray),.int .i64 0,.int .i64 0,.string (⟨#[]⟩:ByteArray)] 71 ?_;intro g hg V hbox hb;have i:=AM (hbox);have I:=bG hg;replace HB:=BS hb;clear hb hbox hg;have ah:=cz4 i))
      have n0_:Aside0 (((((V.setCell ⟨g,0,none⟩ (.string ((a_ l0 c).f0))).setCell ⟨g,1,none⟩ (.int .i64 ((a_ l0 c).f1))).setCell ⟨g,2,none⟩ (.int .i64 ((a_ l0 c).f2))).setCell ⟨g,3,none⟩ (.string ((a_ l0 c).f3))).heap[g]? = some (.cells #[.string ((a_ l0 c).f0),.int .i64 ((a_ l0 c).f1),.int .i64 ((a_ l0 c).f2),.string ((a_ l0 c).f3)] 71 (0,0))):=⟨TS⟩;have n1_:Aside0 (Below w.heap.size w ((((V.setCell ⟨g,0,none⟩ (.string ((a_ l0 c).f0))).setCell ⟨g,1,none⟩ (.int .i64 ((a_ l0 c).f1))).setCell ⟨g,2,none⟩ (.int .i64 ((a_ l0 c).f2))).setCell ⟨g,3,none⟩ (.string ((a_ l0 c).f3)))):=⟨TB⟩;generalize ((((V.setCell ⟨g,0,none⟩ (.string ((a_ l0 c).f0))).setCell ⟨g,1,none⟩ (.int .i64 ((a_ l0 c).f1))).setCell ⟨g,2,none⟩ (.int .i64 ((a_ l0 c).f2))).setCell ⟨g,3,none⟩ (.string ((a_ l0 c).f3)))=ai at n0_ n1_ ⊢;have i:=n0_;have HB:=n1_;clear n0_ n1_;replace i:=AM (ai_ i.out);replace HB:=AM (ar_ HB.out);refine start_ (n:=17) (S:=fun w'=>w'.cell? ⟨g,0,none⟩=some (.string ((a_ l0 c).f0))∧w'.cell? ⟨g,1,none⟩=some (.int .i64 ((a_ l0 c).f1))∧w'.cell? ⟨g,2,none⟩=some (.int .i64 ((a_ l0 c).f2))∧w'.cell? ⟨g,3,none⟩=some (.string ((a_ l0 c).f3))) (ds:=[]) (mL 17 0) KR rfl KR ⟨bc 0 i,bc 1 i,bc 2 i,bc 3 i⟩ (fun hHeld=>?_);refine bg_ aS_.tab4 aS_.bits4 (fun HT_ HW_=>?_);generalize ai.drew=au at i HB hHeld ⊢;refine tB 0 hHeld rfl rfl ?_
      refine oB 1 rfl rfl fun K hK=>?_
      refine gB Tryz.func111 #[.agg #[.string ((a_ l0 c).f0),.int .i64 ((a_ l0 c).f1),.int .i64 ((a_ l0 c).f2),.string ((a_ l0 c).f3)]] rfl rfl ?_
      with_reducible refine(cN_.calls _ _ _ _ _ _ _ ?side1 A5.out).mono ?_
      (case side1=>exact GW HGL);rintro e av ⟨rfl,hb⟩;refine⟨_,rfl,?_⟩;replace i:=KB i hb;replace HB:=BS hb;clear hb;refine hK.out _ _ ⟨bc 0 i,bc 1 i,bc 2 i,bc 3 i⟩ (fun hHeld=>?_);clear hK K;refine nA ?_;refine pB 2 rfl rfl ?_;refine pB 3 rfl rfl ?_;refine pB 4 rfl rfl ?_;refine pB 5 rfl rfl ?_;refine pB 6 rfl rfl ?_;refine uB 7 rfl rfl ?_;refine uB 8 rfl rfl ?_;refine uB 9 rfl rfl ?_;refine uB 10 rfl rfl ?_;refine uB 11 rfl rfl ?_;refine uB 12 rfl rfl ?_;refine uB 13 rfl rfl ?_;refine uB 14 rfl rfl ?_;refine pB 15 rfl rfl ?_;refine pB 16 rfl rfl ?_;refine done_ (bz_ HT_.out KR) ?_
      try go_wp2
      go_roundg k1
      case measure=>exact TM
      case rel=>exact⟨(wrap64 (c+1)),TF,H',⟨TM⟩,⟨TB⟩⟩
    ·replace c6:=Bool.eq_false_iff.mpr c6;subst c6;replace H:=iff' H;obtain rfl:=Option.some.inj H;have m:0≤(c:Int):=TD;have o:c<(l0.length:Int):=TD;obtain⟨l,z,A,B,D,E⟩:=aw_ (Kd.ae_ N.out HB.out) c m o;cases z;replace m:=eq_true m;replace o:=eq_true o
     try go_wp2_with (first|(refine gD 4 rfl ?_;refine bE 4 #[.string (⟨#[]⟩:ByteArray),.int .i64 0,.int .i64 0,.string (⟨#[]⟩:ByteArray)] 71 ?_;intro g hg W hbox hb;have i:=AM (hbox);have I:=bG hg;replace HB:=BS hb;clear hb hbox hg;have aj:=cz4 i))
     have n0_:Aside0 (((((W.setCell ⟨g,0,none⟩ (.string ((a_ l0 c).f0))).setCell ⟨g,1,none⟩ (.int .i64 ((a_ l0 c).f1))).setCell ⟨g,2,none⟩ (.int .i64 ((a_ l0 c).f2))).setCell ⟨g,3,none⟩ (.string ((a_ l0 c).f3))).heap[g]? = some (.cells #[.string ((a_ l0 c).f0),.int .i64 ((a_ l0 c).f1),.int .i64 ((a_ l0 c).f2),.string ((a_ l0 c).f3)] 71 (0,0))):=⟨TS⟩;have n1_:Aside0 (Below w.heap.size w ((((W.setCell ⟨g,0,none⟩ (.string ((a_ l0 c).f0))).setCell ⟨g,1,none⟩ (.int .i64 ((a_ l0 c).f1))).setCell ⟨g,2,none⟩ (.int .i64 ((a_ l0 c).f2))).setCell ⟨g,3,none⟩ (.string ((a_ l0 c).f3)))):=⟨TB⟩;generalize ((((W.setCell ⟨g,0,none⟩ (.string ((a_ l0 c).f0))).setCell ⟨g,1,none⟩ (.int .i64 ((a_ l0 c).f1))).setCell ⟨g,2,none⟩ (.int .i64 ((a_ l0 c).f2))).setCell ⟨g,3,none⟩ (.string ((a_ l0 c).f3)))=ak at n0_ n1_ ⊢;have i:=n0_;have HB:=n1_;clear n0_ n1_;replace i:=AM (ai_ i.out);replace HB:=AM (ar_ HB.out);refine start_ (n:=17) (S:=fun w'=>w'.cell? ⟨g,0,none⟩=some (.string ((a_ l0 c).f0))∧w'.cell? ⟨g,1,none⟩=some (.int .i64 ((a_ l0 c).f1))∧w'.cell? ⟨g,2,none⟩=some (.int .i64 ((a_ l0 c).f2))∧w'.cell? ⟨g,3,none⟩=some (.string ((a_ l0 c).f3))) (ds:=[]) (mL 17 0) KR rfl KR ⟨bc 0 i,bc 1 i,bc 2 i,bc 3 i⟩ (fun hHeld=>?_);refine bg_ aS_.tab4 aS_.bits4 (fun HT_ HW_=>?_);generalize ak.drew=aw at i HB hHeld ⊢;refine tB 0 hHeld rfl rfl ?_
     refine oB 1 rfl rfl fun K hK=>?_
     refine gB Tryz.func111 #[.agg #[.string ((a_ l0 c).f0),.int .i64 ((a_ l0 c).f1),.int .i64 ((a_ l0 c).f2),.string ((a_ l0 c).f3)]] rfl rfl ?_
     with_reducible refine(cN_.calls _ _ _ _ _ _ _ ?side1 A5.out).mono ?_
     (case side1=>exact GW HGL);rintro e ax ⟨rfl,hb⟩;refine⟨_,rfl,?_⟩;replace i:=KB i hb;replace HB:=BS hb;clear hb;refine hK.out _ _ ⟨bc 0 i,bc 1 i,bc 2 i,bc 3 i⟩ (fun hHeld=>?_);clear hK K;refine nA ?_;refine pB 2 rfl rfl ?_;refine pB 3 rfl rfl ?_;refine uB 4 rfl rfl ?_;refine uB 5 rfl rfl ?_;refine uB 6 rfl rfl ?_;refine uB 7 rfl rfl ?_;refine uB 8 rfl rfl ?_;refine uB 9 rfl rfl ?_;refine uB 10 rfl rfl ?_;refine uB 11 rfl rfl ?_;refine uB 12 rfl rfl ?_;refine uB 13 rfl rfl ?_;refine uB 14 rfl rfl ?_;refine uB 15 rfl rfl ?_;refine pB 16 rfl rfl ?_;refine done_ (bz_ HT_.out KR) ?_
     try go_wp2
     go_ret;exact⟨TE,TB⟩
   ·rw[if_neg c2] at H;have Z:=decide_eq_false c2;clear c2;obtain rfl:=Option.some.inj H;go_wp2;go_ret;exact⟨TE,TB⟩
end
section
def impl_isWhole.f (k:Nat) (a0:ByteArray) (l1:List (aa_)):Option (Bool):=(impl_isApex.f k a0).bind fun t601=>(if t601=true then(if (l1.length:Int)≤40 then((aS_.f k l1).bind fun t602=>(some t602)) else(some false)) else(some false))
theorem impl_isWhole.calls (k:Nat) (a0:ByteArray) (A1:Option Addr) (c1:Nat) (l1:List (aa_)) (r:Bool) (w:World) (c:Kd.C af_ w A1 l1.length l1) (g:l1.length≤c1) (hG_:Glob w) (h:impl_isWhole.f k a0 l1=some r) :
  Calls Tryz.prog 69 #[.string a0,.slice A1 l1.length c1] w fun e w'=>e=.returned (.bool r)∧Below w.heap.size w w':=by
 have m:=AM c;have n:=AM g;clear c g;have HGL:=AM hG_;clear hG_;have HB:=BZ w;have H:=h;clear h;unfold impl_isWhole.f at H;obtain⟨i,A3,H⟩:=bnd H;by_cases c4:i=true
 ·subst c4;replace H:=ift H;by_cases c5:(l1.length:Int)≤40
  ·rw[if_pos c5] at H;have j:=decide_eq_true c5;have l:decide (l1.length≤40)=true:=decide_eq_true (by omega);clear c5;obtain⟨o,A6,H⟩:=bnd H;obtain rfl:=Option.some.inj H;go_enter Tryz.func69,Tryz.ntmps69;go_wp2_with (first|(refine gL 6 rfl Tryz.func89 #[.string a0] rfl TA ?_;(with_reducible refine(impl_isApex.calls _ _ _ _ A3.out).mono ?_);rintro e w7 ⟨rfl,hb⟩;refine⟨_,rfl,?_⟩;replace HB:=BS hb;clear hb)|(go_at_call 90;(with_reducible refine(aS_.calls _ _ _ _ _ _ ?side1 ?side2 ?side3 A6.out).mono ?_);(case side1=>exact CW ((Kd.ae_ m.out HB.out)));(case side2=>exact n.out);(case side3=>exact GW HGL);rintro e w8 ⟨rfl,hb⟩;replace HB:=BS hb;clear hb));go_ret;exact⟨TE,TB⟩
  ·rw[if_neg c5] at H;have j:=decide_eq_false c5;have l:decide (l1.length≤40)=false:=decide_eq_false (by omega);clear c5;obtain rfl:=Option.some.inj H;go_enter Tryz.func69,Tryz.ntmps69;go_wp2_with (first|(refine gL 6 rfl Tryz.func89 #[.string a0] rfl TA ?_;(with_reducible refine(impl_isApex.calls _ _ _ _ A3.out).mono ?_);rintro e w9 ⟨rfl,hb⟩;refine⟨_,rfl,?_⟩;replace HB:=BS hb;clear hb));go_ret;exact⟨TE,TB⟩
 ·replace c4:=Bool.eq_false_iff.mpr c4;subst c4;replace H:=iff' H;obtain rfl:=Option.some.inj H;go_enter Tryz.func69,Tryz.ntmps69;go_wp2_with (first|(refine gL 6 rfl Tryz.func89 #[.string a0] rfl TA ?_;(with_reducible refine(impl_isApex.calls _ _ _ _ A3.out).mono ?_);rintro e p ⟨rfl,hb⟩;refine⟨_,rfl,?_⟩;replace HB:=BS hb;clear hb));go_ret;exact⟨TE,TB⟩
end
section
def cH_.f (a0:ByteArray) (a1:ByteArray):Option (Bool):=if (a0.size:Int)≥(a1.size:Int) then(if 0≤(wrap64 ((a0.size:Int) - (a1.size:Int))) then(if (wrap64 ((a0.size:Int) - (a1.size:Int)))≤(a0.size:Int) then(some ((a0.extract ((wrap64 ((a0.size:Int) - (a1.size:Int))):Int).toNat a0.size).toList==a1.toList)) else(none)) else(none)) else(some false)
theorem cH_.calls (a0:ByteArray) (a1:ByteArray) (r:Bool) (w:World) (h:cH_.f a0 a1=some r) :
  Calls Tryz.prog 135 #[.string a0,.string a1] w fun e w'=>e=.returned (.bool r)∧Drawn0 w w':=by
 have H:=h;clear h;unfold cH_.f at H;by_cases c3:(a0.size:Int)≥(a1.size:Int)
 ·rw[if_pos c3] at H;have g:=decide_eq_true c3;have i:decide (a1.size≤a0.size)=true:=decide_eq_true (Int.ofNat_le.mp c3);clear c3;obtain⟨c,hji4⟩:∃j_:Int,(wrap64 ((a0.size:Int) - (a1.size:Int)))=j_:=⟨_,rfl⟩
  replace H:(if 0≤(c) then(if (c)≤(a0.size:Int) then(some ((a0.extract ((c):Int).toNat a0.size).toList==a1.toList)) else(none)) else(none))=some r:=by first|(rw[hji4] at H;exact H)|(simp only[hji4] at H ⊢;exact H)
  have hji4w:(IntKind.i64.wrap ((a0.size:Int) - (a1.size:Int)))=c:=(b6_ _).trans hji4;obtain⟨c5,H⟩:=ifn H;have j:=eq_true c5;have l:=decide_eq_true c5;clear c5;obtain⟨c6,H⟩:=ifn H;have m:=eq_true c6;have n:=decide_eq_true c6;clear c6;obtain rfl:=Option.some.inj H;go_enter Tryz.func135,Tryz.ntmps135;go_wp2;go_ret;exact⟨by first|rfl|(simp;done)|(simp only[←hji4]<;>(first|rfl|simp))|(simp[*];done),TN⟩
 ·rw[if_neg c3] at H;have g:=decide_eq_false c3;have i:decide (a1.size≤a0.size)=false:=decide_eq_false (fun h=>c3 (Int.ofNat_le.mpr h));clear c3;obtain rfl:=Option.some.inj H;go_enter Tryz.func135,Tryz.ntmps135;go_wp2;go_ret;exact⟨TF,TN⟩
end
section
def strings_HasSuffix.f (a0:ByteArray) (a1:ByteArray):Option (Bool):=(cH_.f a0 a1).bind fun t603=>(some t603)
theorem strings_HasSuffix.calls (a0:ByteArray) (a1:ByteArray) (r:Bool) (w:World) (h:strings_HasSuffix.f a0 a1=some r) :
  Calls Tryz.prog 112 #[.string a0,.string a1] w fun e w'=>e=.returned (.bool r)∧Drawn0 w w':=by
 have H:((cH_.f a0 a1).bind fun c=>(some c))=some r:=h;clear h;obtain⟨c,A3,H⟩:=bnd H;obtain rfl:=Option.some.inj H;go_enter Tryz.func112,Tryz.ntmps112;go_wp2_with (first|(refine gL 7 rfl Tryz.func135 #[.string a0,.string a1] rfl TA ?_;(with_reducible refine(cH_.calls _ _ _ _ A3.out).mono ?_);rintro e w' ⟨rfl,⟨nd,rfl⟩⟩;refine⟨_,rfl,?_⟩));go_ret;exact⟨TF,TN⟩
end
section
def cE_.f (a0:ByteArray) (a1:ByteArray):Option (Bool):=if a0.toList=a1.toList then(some true) else(if a1.toList=([]:List UInt8) then(some true) else(if 1+a1.size≤9223372036854775807 then((strings_HasSuffix.f a0 ((⟨#[46]⟩:ByteArray)++a1)).bind fun t604=>(some t604)) else(none)))
theorem cE_.calls (a0:ByteArray) (a1:ByteArray) (r:Bool) (w:World) (h:cE_.f a0 a1=some r) :
  Calls Tryz.prog 92 #[.string a0,.string a1] w fun e w'=>e=.returned (.bool r)∧Drawn0 w w':=by
 have H:=h;clear h;unfold cE_.f at H;by_cases c3:a0.toList=a1.toList
 ·replace H:=qP c3 H;obtain⟨c,g,H⟩:=H;clear c3;obtain rfl:=Option.some.inj H;go_enter Tryz.func92,Tryz.ntmps92;go_wp2;go_ret;exact⟨TF,TN⟩
 ·replace H:=qN c3 H;obtain⟨c,g,H⟩:=H;by_cases c4:a1.toList=([]:List UInt8)
  ·replace H:=qP c4 H;obtain⟨i,j,H⟩:=H;clear c4;obtain rfl:=Option.some.inj H;go_enter Tryz.func92,Tryz.ntmps92;go_wp2;go_ret;exact⟨TF,TN⟩
  ·replace H:=qN c4 H;obtain⟨i,j,H⟩:=H;obtain⟨c5,H⟩:=ifn H;have l:=eq_true c5;have m:=decide_eq_true c5
   try have n:(9223372036854775807<1+a1.size)=False:=eq_false (Nat.not_lt.2 c5)
   obtain⟨o,A6,H⟩:=bnd H;obtain rfl:=Option.some.inj H;go_enter Tryz.func92,Tryz.ntmps92;go_wp2_with (first|(go_at_call 112;(with_reducible refine(strings_HasSuffix.calls _ _ _ _ A6.out).mono ?_);rintro e w' ⟨rfl,⟨nd,rfl⟩⟩));go_ret;exact⟨TF,TN⟩
end
section
attribute [local go_sem high] eqARecord
def impl_breaks_1.f (a0_0:ByteArray) (a0_1:Int) (a0_2:Int) (a0_3:ByteArray) (a1_0:ByteArray) (a1_1:Int) (a1_2:Int) (a1_3:ByteArray):Option (Bool):=if a0_2=a1_2 then(if a0_3.toList=a1_3.toList then(some (!(a0_0.toList==a1_0.toList)||(!(a0_1==a1_1)||(!(a0_2==a1_2)||(!(a0_3.toList==a1_3.toList)))))) else(some false)) else(some true)
theorem impl_breaks_1.calls (l:ByteArray) (m:Int) (g:Int) (i:ByteArray) (g1_:Nat) (q:ByteArray) (s:Int) (n:Int) (o:ByteArray) (r:Bool) (w:World) (hkg1_:w.heap[g1_]? = some (.cells #[.string q,.int .i64 s,.int .i64 n,.string o] 71 (0,0))) (h:impl_breaks_1.f l m g i q s n o=some r) :
  Calls Tryz.prog 93 #[.agg #[.string l,.int .i64 m,.int .i64 g,.string i],.pointer (some ⟨g1_,0,none⟩)] w fun e w'=>e=.returned (.bool r)∧Below w.heap.size w w':=by
 have hu71:=Tryz.underlying71;have BKrg1_:=AM hkg1_;clear hkg1_;have HB:=BZ w;have H:(if g=n then(if i.toList=o.toList then(some (!(l.toList==q.toList)||(!(m==s)||(!(g==n)||(!(i.toList==o.toList)))))) else(some false)) else(some true))=some r:=h;clear h;by_cases c3:g=n
 ·replace H:=qP c3 H;obtain⟨v,x,H⟩:=H;clear c3;by_cases c4:i.toList=o.toList
  ·replace H:=qP c4 H;obtain⟨y,z,H⟩:=H;clear c4;obtain rfl:=Option.some.inj H;go_enter Tryz.func93,Tryz.ntmps93;go_wp2_with (first|((with_reducible refine ax_ (N:=2) rfl ?_);refine bE 2 #[.string l,.int .i64 m,.int .i64 g,.string i] 71 ?_;intro t hg w5 hbox hb;have j:=AM (hbox);have u:=bG hg;replace HB:=BS hb;have p:=bN BKrg1_ hg;have c:=bM BKrg1_ hg;replace BKrg1_:=KB BKrg1_ hb;clear hb hbox hg;obtain⟨J,K⟩:=nn c;have M:=cz4 j;have O:=cz4 BKrg1_));go_ret;exact⟨TE,TB⟩
  ·replace H:=qN c4 H;obtain⟨y,z,H⟩:=H;obtain rfl:=Option.some.inj H;go_enter Tryz.func93,Tryz.ntmps93;go_wp2_with (first|((with_reducible refine ax_ (N:=2) rfl ?_);refine bE 2 #[.string l,.int .i64 m,.int .i64 g,.string i] 71 ?_;intro t hg w9 hbox hb;have j:=AM (hbox);have u:=bG hg;replace HB:=BS hb;have p:=bN BKrg1_ hg;have c:=bM BKrg1_ hg;replace BKrg1_:=KB BKrg1_ hb;clear hb hbox hg;obtain⟨A,B⟩:=nn c;have C:=cz4 j;have D:=cz4 BKrg1_));go_ret;exact⟨TE,TB⟩
 ·replace H:=qN c3 H;obtain⟨v,x,H⟩:=H;obtain rfl:=Option.some.inj H;go_enter Tryz.func93,Tryz.ntmps93;go_wp2_with (first|((with_reducible refine ax_ (N:=2) rfl ?_);refine bE 2 #[.string l,.int .i64 m,.int .i64 g,.string i] 71 ?_;intro t hg R hbox hb;have j:=AM (hbox);have u:=bG hg;replace HB:=BS hb;have p:=bN BKrg1_ hg;have c:=bM BKrg1_ hg;replace BKrg1_:=KB BKrg1_ hb;clear hb hbox hg;obtain⟨E,F⟩:=nn c;have G:=cz4 j;have I:=cz4 BKrg1_));go_ret;exact⟨TE,TB⟩
end
section
def ao_.l0:Nat→List (aa_)→Int→Int→ByteArray→Int→Int→ByteArray→Option (Int)
 | 0,_,_,_,_,_,_,_=>none
 | k+1,x0,x7,x8,c,g,h,i=>if x8<x7 then(if 0≤x8 then(if x8<(x0.length:Int) then((impl_breaks_1.f ((a_ x0 x8).f0) ((a_ x0 x8).f1) ((a_ x0 x8).f2) ((a_ x0 x8).f3) c g h i).bind fun j=>(if j=true then(some x8) else(ao_.l0 k x0 x7 (wrap64 (x8+1)) c g h i))) else(none)) else(none)) else(some (-1))
def ao_.f (k:Nat) (l0:List (aa_)) (a1_0:ByteArray) (a1_1:Int) (a1_2:Int) (a1_3:ByteArray):Option (Int):=ao_.l0 k l0 (l0.length:Int) 0 a1_0 a1_1 a1_2 a1_3
theorem ao_.calls (k:Nat) (A0:Option Addr) (c0:Nat) (l0:List (aa_)) (g1_0_:Nat) (j:ByteArray) (l:Int) (m:Int) (n:ByteArray) (r:Int) (w:World) (v:Kd.C af_ w A0 l0.length l0) (x:l0.length≤c0) (hkg1_0_:w.heap[g1_0_]? = some (.cells #[.string j,.int .i64 l,.int .i64 m,.string n] 71 (0,0))) (h:ao_.f k l0 j l m n=some r) :
  Calls Tryz.prog 91 #[.slice A0 l0.length c0,.func (.func 93) #[] #[.pointer (some ⟨g1_0_,0,none⟩)]] w fun e w'=>e=.returned (.int .i64 r)∧Below w.heap.size w w':=by
 have hu71:=Tryz.underlying71;have y:=AM v;have E:=AM x;clear v x;have BKrg1_0_:=AM hkg1_0_;clear hkg1_0_;have HB:=BZ w;have H:=h;clear h;unfold ao_.f at H;have H':=AM H;clear H;go_enter Tryz.func91,Tryz.ntmps91;go_wp2;go_loopg [8] k (fun kq v8 w'=>∃(c:Int),v8=.int .i64 c∧Aside0 (ao_.l0 kq l0 (l0.length:Int) c j l m n=some r)∧Aside0 (kq≤k)∧Aside0 (w'.heap[g1_0_]? = some (.cells #[.string j,.int .i64 l,.int .i64 m,.string n] 71 (0,0)))∧Aside0 (Below w.heap.size w w'))
 case atStart=>exact⟨(0),TF,H',NL,KW BKrg1_0_,⟨TB⟩⟩
 case round =>
  clear H';obtain⟨c,rfl,HA,HK1,BKrg1_0_,HB⟩:=hrel
  cases gk with
  | zero=>exact absurd HA.out (by simp[ao_.l0])
  | succ k1 =>
   have H:=HA.out;clear HA;simp only[ao_.l0] at H;by_cases c3:c<(l0.length:Int)
   ·rw[if_pos c3] at H;have z:=decide_eq_true c3;clear c3;obtain⟨B,H⟩:=dn H;obtain⟨D,H⟩:=dn H;obtain⟨A,A6,H⟩:=bnd H;by_cases c7:A=true
    ·subst c7;replace H:=ift H;obtain rfl:=Option.some.inj H;have g:0≤(c:Int):=TD;have i:c<(l0.length:Int):=TD;obtain⟨u,o,p,q,s,t⟩:=aw_ (Kd.ae_ y.out HB.out) c g i;cases o;replace g:=eq_true g;replace i:=eq_true i;go_wp2_with (first|(go_at_call 93;(with_reducible refine(impl_breaks_1.calls ((a_ l0 c).f0) ((a_ l0 c).f1) ((a_ l0 c).f2) ((a_ l0 c).f3) g1_0_ j l m n true _ ?side1 A6.out).mono ?_);(case side1=>exact(KW BKrg1_0_).out);rintro e w8 ⟨rfl,hb⟩;replace BKrg1_0_:=KB BKrg1_0_ hb;replace HB:=BS hb;clear hb));go_ret;exact⟨TE,TB⟩
    ·replace c7:=Bool.eq_false_iff.mpr c7;subst c7;replace H:=iff' H;have H':=AM H;clear H;have g:0≤(c:Int):=TD;have i:c<(l0.length:Int):=TD;obtain⟨u,o,p,q,s,t⟩:=aw_ (Kd.ae_ y.out HB.out) c g i;cases o;replace g:=eq_true g;replace i:=eq_true i;go_wp2_with (first|(go_at_call 93;(with_reducible refine(impl_breaks_1.calls ((a_ l0 c).f0) ((a_ l0 c).f1) ((a_ l0 c).f2) ((a_ l0 c).f3) g1_0_ j l m n false _ ?side1 A6.out).mono ?_);(case side1=>exact(KW BKrg1_0_).out);rintro e w9 ⟨rfl,hb⟩;replace BKrg1_0_:=KB BKrg1_0_ hb;replace HB:=BS hb;clear hb));go_roundg k1
     case measure=>exact TM
     case rel=>exact⟨(wrap64 (c+1)),TF,H',⟨TM⟩,KW BKrg1_0_,⟨TB⟩⟩
   ·rw[if_neg c3] at H;have z:=decide_eq_false c3;clear c3;obtain rfl:=Option.some.inj H;go_wp2;go_ret;exact⟨TE,TB⟩
end
section
def aR_.f (k:Nat) (l0:List (aa_)) (a1_0:ByteArray) (a1_1:Int) (a1_2:Int) (a1_3:ByteArray):Option (Bool):=(ao_.f k l0 a1_0 a1_1 a1_2 a1_3).bind fun t619=>(some (decide (t619≥0)))
theorem aR_.calls (k:Nat) (A0:Option Addr) (c0:Nat) (l0:List (aa_)) (g1_0_:Nat) (c:ByteArray) (g:Int) (i:Int) (j:ByteArray) (r:Bool) (w:World) (l:Kd.C af_ w A0 l0.length l0) (m:l0.length≤c0) (hkg1_0_:w.heap[g1_0_]? = some (.cells #[.string c,.int .i64 g,.int .i64 i,.string j] 71 (0,0))) (h:aR_.f k l0 c g i j=some r) :
  Calls Tryz.prog 70 #[.slice A0 l0.length c0,.func (.func 93) #[] #[.pointer (some ⟨g1_0_,0,none⟩)]] w fun e w'=>e=.returned (.bool r)∧Below w.heap.size w w':=by
 have o:=AM l;have p:=AM m;clear l m;have BKrg1_0_:=AM hkg1_0_;clear hkg1_0_;have HB:=BZ w;have H:=h;clear h;unfold aR_.f at H;obtain⟨n,A3,H⟩:=bnd H;obtain rfl:=Option.some.inj H;go_enter Tryz.func70,Tryz.ntmps70;go_wp2_with (first|(refine gL 7 rfl Tryz.func91 #[.slice A0 l0.length c0,.func (.func 93) #[] #[.pointer (some ⟨g1_0_,0,none⟩)]] rfl TA ?_;(with_reducible refine(ao_.calls k _ _ l0 g1_0_ c g i j n _ ?side1 ?side2 ?side3 A3.out).mono ?_);(case side1=>exact CW (o.out));(case side2=>exact p.out);(case side3=>exact(KW BKrg1_0_).out);rintro e w4 ⟨rfl,hb⟩;refine⟨_,rfl,?_⟩;replace BKrg1_0_:=KB BKrg1_0_ hb;replace HB:=BS hb;clear hb));go_ret;exact⟨TE,TB⟩
end
section
def impl_breaks_2.f (c:ByteArray) (i:Int) (m:Int) (n:ByteArray) (j:ByteArray) (g:ByteArray) (h:Int) (o:Int) (p:ByteArray):Option (Bool):=if i=2 then(if c.toList=j.toList then(some false) else((cE_.f g c).bind fun l=>(if l=true then(if h=1 then(some false) else(if h=2 then(some (!(g.toList==c.toList))) else(some (!false)))) else(some false)))) else(some false)
theorem impl_breaks_2.calls (j:ByteArray) (n:Int) (o:Int) (p:ByteArray) (g1_:Nat) (u:ByteArray) (g2_:Nat) (v:ByteArray) (t:Int) (A:Int) (B:ByteArray) (r:Bool) (w:World) (hkg1_:w.heap[g1_]? = some (.cells #[.string u] 9 (0,0))) (hkg2_:w.heap[g2_]? = some (.cells #[.string v,.int .i64 t,.int .i64 A,.string B] 71 (0,0))) (h:impl_breaks_2.f j n o p u v t A B=some r) :
  Calls Tryz.prog 94 #[.agg #[.string j,.int .i64 n,.int .i64 o,.string p],.pointer (some ⟨g1_,0,none⟩),.pointer (some ⟨g2_,0,none⟩)] w fun e w'=>e=.returned (.bool r)∧Below w.heap.size w w':=by
 have hu71:=Tryz.underlying71;have BKrg1_:=AM hkg1_;clear hkg1_;have BKrg2_:=AM hkg2_;clear hkg2_;have HB:=BZ w;have H:(if n=2 then(if j.toList=u.toList then(some false) else((cE_.f v j).bind fun x=>(if x=true then(if t=1 then(some false) else(if t=2 then(some (!(v.toList==j.toList))) else(some (!false)))) else(some false)))) else(some false))=some r:=h;clear h;by_cases c4:n=2
 ·replace H:=qP c4 H;obtain⟨J,K,H⟩:=H;clear c4;by_cases c5:j.toList=u.toList
  ·replace H:=qP c5 H;obtain⟨M,O,H⟩:=H;clear c5;obtain rfl:=Option.some.inj H;go_enter Tryz.func94,Tryz.ntmps94;go_wp2_with (first|((with_reducible refine ax_ (N:=3) rfl ?_);refine bE 3 #[.string j,.int .i64 n,.int .i64 o,.string p] 71 ?_;intro q hg w6 hbox hb;have i:=AM (hbox);have s:=bG hg;replace HB:=BS hb;have l:=bN BKrg1_ hg;have c:=bM BKrg1_ hg;replace BKrg1_:=KB BKrg1_ hb;have m:=bN BKrg2_ hg;have g:=bM BKrg2_ hg;replace BKrg2_:=KB BKrg2_ hb;clear hb hbox hg;obtain⟨aD,aE⟩:=nn c;obtain⟨aF,aG⟩:=nn g;have aH:=cz4 i;have R:=cz1 BKrg1_));go_ret;exact⟨TE,TB⟩
  ·replace H:=qN c5 H;obtain⟨M,O,H⟩:=H;obtain⟨x,y,H⟩:=bnd H;by_cases z:x=true
   ·subst z;replace H:=ift H;by_cases C:t=1
    ·replace H:=qP C H;obtain⟨D,E,H⟩:=H;clear C;obtain rfl:=Option.some.inj H;go_enter Tryz.func94,Tryz.ntmps94;go_wp2_with (first|((with_reducible refine ax_ (N:=3) rfl ?_);refine bE 3 #[.string j,.int .i64 n,.int .i64 o,.string p] 71 ?_;intro q hg aI hbox hb;have i:=AM (hbox);have s:=bG hg;replace HB:=BS hb;have l:=bN BKrg1_ hg;have c:=bM BKrg1_ hg;replace BKrg1_:=KB BKrg1_ hb;have m:=bN BKrg2_ hg;have g:=bM BKrg2_ hg;replace BKrg2_:=KB BKrg2_ hb;clear hb hbox hg;obtain⟨U,V⟩:=nn c;obtain⟨W,X⟩:=nn g;have Y:=cz4 i;have Z:=cz1 BKrg1_;have aa:=cz4 BKrg2_)|(go_at_call 92;(with_reducible refine(cE_.calls _ _ _ _ y.out).mono ?_);rintro e w' ⟨rfl,⟨nd,rfl⟩⟩));go_ret;exact⟨TE,TB⟩
    ·replace H:=qN C H;obtain⟨D,E,H⟩:=H;by_cases F:t=2
     ·replace H:=qP F H;obtain⟨G,I,H⟩:=H;clear F;obtain rfl:=Option.some.inj H;go_enter Tryz.func94,Tryz.ntmps94;go_wp2_with (first|((with_reducible refine ax_ (N:=3) rfl ?_);refine bE 3 #[.string j,.int .i64 n,.int .i64 o,.string p] 71 ?_;intro q hg aJ hbox hb;have i:=AM (hbox);have s:=bG hg;replace HB:=BS hb;have l:=bN BKrg1_ hg;have c:=bM BKrg1_ hg;replace BKrg1_:=KB BKrg1_ hb;have m:=bN BKrg2_ hg;have g:=bM BKrg2_ hg;replace BKrg2_:=KB BKrg2_ hb;clear hb hbox hg;obtain⟨ab,ac⟩:=nn c;obtain⟨ad,ae⟩:=nn g;have af:=cz4 i;have ag:=cz1 BKrg1_;have ah:=cz4 BKrg2_)|(go_at_call 92;(with_reducible refine(cE_.calls _ _ _ _ y.out).mono ?_);rintro e w' ⟨rfl,⟨nd,rfl⟩⟩));go_ret;exact⟨TE,TB⟩
     ·replace H:=qN F H;obtain⟨G,I,H⟩:=H;obtain rfl:=Option.some.inj H;go_enter Tryz.func94,Tryz.ntmps94;go_wp2_with (first|((with_reducible refine ax_ (N:=3) rfl ?_);refine bE 3 #[.string j,.int .i64 n,.int .i64 o,.string p] 71 ?_;intro q hg aK hbox hb;have i:=AM (hbox);have s:=bG hg;replace HB:=BS hb;have l:=bN BKrg1_ hg;have c:=bM BKrg1_ hg;replace BKrg1_:=KB BKrg1_ hb;have m:=bN BKrg2_ hg;have g:=bM BKrg2_ hg;replace BKrg2_:=KB BKrg2_ hb;clear hb hbox hg;obtain⟨ai,aj⟩:=nn c;obtain⟨ak,al⟩:=nn g;have am:=cz4 i;have an:=cz1 BKrg1_;have ao:=cz4 BKrg2_)|(go_at_call 92;(with_reducible refine(cE_.calls _ _ _ _ y.out).mono ?_);rintro e w' ⟨rfl,⟨nd,rfl⟩⟩));go_ret;exact⟨TE,TB⟩
   ·replace z:=Bool.eq_false_iff.mpr z;subst z;replace H:=iff' H;obtain rfl:=Option.some.inj H;go_enter Tryz.func94,Tryz.ntmps94;go_wp2_with (first|((with_reducible refine ax_ (N:=3) rfl ?_);refine bE 3 #[.string j,.int .i64 n,.int .i64 o,.string p] 71 ?_;intro q hg aL hbox hb;have i:=AM (hbox);have s:=bG hg;replace HB:=BS hb;have l:=bN BKrg1_ hg;have c:=bM BKrg1_ hg;replace BKrg1_:=KB BKrg1_ hb;have m:=bN BKrg2_ hg;have g:=bM BKrg2_ hg;replace BKrg2_:=KB BKrg2_ hb;clear hb hbox hg;obtain⟨ap,aq⟩:=nn c;obtain⟨ar,au⟩:=nn g;have av:=cz4 i;have aw:=cz1 BKrg1_;have ax:=cz4 BKrg2_)|(go_at_call 92;(with_reducible refine(cE_.calls _ _ _ _ y.out).mono ?_);rintro e w' ⟨rfl,⟨nd,rfl⟩⟩));go_ret;exact⟨TE,TB⟩
 ·replace H:=qN c4 H;obtain⟨J,K,H⟩:=H;obtain rfl:=Option.some.inj H;go_enter Tryz.func94,Tryz.ntmps94;go_wp2_with (first|((with_reducible refine ax_ (N:=3) rfl ?_);refine bE 3 #[.string j,.int .i64 n,.int .i64 o,.string p] 71 ?_;intro q hg aM hbox hb;have i:=AM (hbox);have s:=bG hg;replace HB:=BS hb;have l:=bN BKrg1_ hg;have c:=bM BKrg1_ hg;replace BKrg1_:=KB BKrg1_ hb;have m:=bN BKrg2_ hg;have g:=bM BKrg2_ hg;replace BKrg2_:=KB BKrg2_ hb;clear hb hbox hg;obtain⟨ay,az⟩:=nn c;obtain⟨aA,aB⟩:=nn g;have aC:=cz4 i));go_ret;exact⟨TE,TB⟩
end
section
def an_.l0:Nat→List (aa_)→Int→Int→ByteArray→ByteArray→Int→Int→ByteArray→Option (Int)
 | 0,_,_,_,_,_,_,_,_=>none
 | k+1,x0,x7,x8,c,g,h,i,j=>if x8<x7 then(if 0≤x8 then(if x8<(x0.length:Int) then((impl_breaks_2.f ((a_ x0 x8).f0) ((a_ x0 x8).f1) ((a_ x0 x8).f2) ((a_ x0 x8).f3) c g h i j).bind fun l=>(if l=true then(some x8) else(an_.l0 k x0 x7 (wrap64 (x8+1)) c g h i j))) else(none)) else(none)) else(some (-1))
def an_.f (k:Nat) (l0:List (aa_)) (a1_0:ByteArray) (a1_1:ByteArray) (a1_2:Int) (a1_3:Int) (a1_4:ByteArray):Option (Int):=an_.l0 k l0 (l0.length:Int) 0 a1_0 a1_1 a1_2 a1_3 a1_4
theorem an_.calls (k:Nat) (A0:Option Addr) (c0:Nat) (l0:List (aa_)) (g1_0_ g1_1_:Nat) (j:ByteArray) (l:ByteArray) (m:Int) (n:Int) (o:ByteArray) (r:Int) (w:World) (x:Kd.C af_ w A0 l0.length l0) (y:l0.length≤c0) (hkg1_0_:w.heap[g1_0_]? = some (.cells #[.string j] 9 (0,0))) (hkg1_1_:w.heap[g1_1_]? = some (.cells #[.string l,.int .i64 m,.int .i64 n,.string o] 71 (0,0))) (h:an_.f k l0 j l m n o=some r) :
  Calls Tryz.prog 91 #[.slice A0 l0.length c0,.func (.func 94) #[] #[.pointer (some ⟨g1_0_,0,none⟩),.pointer (some ⟨g1_1_,0,none⟩)]] w fun e w'=>e=.returned (.int .i64 r)∧Below w.heap.size w w':=by
 have hu71:=Tryz.underlying71;have z:=AM x;have F:=AM y;clear x y;have BKrg1_0_:=AM hkg1_0_;clear hkg1_0_;have BKrg1_1_:=AM hkg1_1_;clear hkg1_1_;have HB:=BZ w;have H:=h;clear h;unfold an_.f at H;have H':=AM H;clear H;go_enter Tryz.func91,Tryz.ntmps91;go_wp2;go_loopg [8] k (fun kq v8 w'=>∃(c:Int),v8=.int .i64 c∧Aside0 (an_.l0 kq l0 (l0.length:Int) c j l m n o=some r)∧Aside0 (kq≤k)∧Aside0 (w'.heap[g1_0_]? = some (.cells #[.string j] 9 (0,0)))∧Aside0 (w'.heap[g1_1_]? = some (.cells #[.string l,.int .i64 m,.int .i64 n,.string o] 71 (0,0)))∧Aside0 (Below w.heap.size w w'))
 case atStart=>exact⟨(0),TF,H',NL,KW BKrg1_0_,KW BKrg1_1_,⟨TB⟩⟩
 case round =>
  clear H';obtain⟨c,rfl,HA,HK1,BKrg1_0_,BKrg1_1_,HB⟩:=hrel
  cases gk with
  | zero=>exact absurd HA.out (by simp[an_.l0])
  | succ k1 =>
   have H:=HA.out;clear HA;simp only[an_.l0] at H;by_cases c3:c<(l0.length:Int)
   ·rw[if_pos c3] at H;have A:=decide_eq_true c3;clear c3;obtain⟨D,H⟩:=dn H;obtain⟨E,H⟩:=dn H;obtain⟨B,A6,H⟩:=bnd H;by_cases c7:B=true
    ·subst c7;replace H:=ift H;obtain rfl:=Option.some.inj H;have g:0≤(c:Int):=TD;have i:c<(l0.length:Int):=TD;obtain⟨v,p,q,s,t,u⟩:=aw_ (Kd.ae_ z.out HB.out) c g i;cases p;replace g:=eq_true g;replace i:=eq_true i;go_wp2_with (first|(go_at_call 94;(with_reducible refine(impl_breaks_2.calls ((a_ l0 c).f0) ((a_ l0 c).f1) ((a_ l0 c).f2) ((a_ l0 c).f3) g1_0_ j g1_1_ l m n o true _ ?side1 ?side2 A6.out).mono ?_);(case side1=>exact(KW BKrg1_0_).out);(case side2=>exact(KW BKrg1_1_).out);rintro e w8 ⟨rfl,hb⟩;replace BKrg1_0_:=KB BKrg1_0_ hb;replace BKrg1_1_:=KB BKrg1_1_ hb;replace HB:=BS hb;clear hb));go_ret;exact⟨TE,TB⟩
    ·replace c7:=Bool.eq_false_iff.mpr c7;subst c7;replace H:=iff' H;have H':=AM H;clear H;have g:0≤(c:Int):=TD;have i:c<(l0.length:Int):=TD;obtain⟨v,p,q,s,t,u⟩:=aw_ (Kd.ae_ z.out HB.out) c g i;cases p;replace g:=eq_true g;replace i:=eq_true i;go_wp2_with (first|(go_at_call 94;(with_reducible refine(impl_breaks_2.calls ((a_ l0 c).f0) ((a_ l0 c).f1) ((a_ l0 c).f2) ((a_ l0 c).f3) g1_0_ j g1_1_ l m n o false _ ?side1 ?side2 A6.out).mono ?_);(case side1=>exact(KW BKrg1_0_).out);(case side2=>exact(KW BKrg1_1_).out);rintro e w9 ⟨rfl,hb⟩;replace BKrg1_0_:=KB BKrg1_0_ hb;replace BKrg1_1_:=KB BKrg1_1_ hb;replace HB:=BS hb;clear hb));go_roundg k1
     case measure=>exact TM
     case rel=>exact⟨(wrap64 (c+1)),TF,H',⟨TM⟩,KW BKrg1_0_,KW BKrg1_1_,⟨TB⟩⟩
   ·rw[if_neg c3] at H;have A:=decide_eq_false c3;clear c3;obtain rfl:=Option.some.inj H;go_wp2;go_ret;exact⟨TE,TB⟩
end
section
def aP_.f (k:Nat) (l0:List (aa_)) (a1_0:ByteArray) (a1_1:ByteArray) (a1_2:Int) (a1_3:Int) (a1_4:ByteArray):Option (Bool):=(an_.f k l0 a1_0 a1_1 a1_2 a1_3 a1_4).bind fun t624=>(some (decide (t624≥0)))
theorem aP_.calls (k:Nat) (A0:Option Addr) (c0:Nat) (l0:List (aa_)) (g1_0_ g1_1_:Nat) (c:ByteArray) (g:ByteArray) (i:Int) (j:Int) (l:ByteArray) (r:Bool) (w:World) (m:Kd.C af_ w A0 l0.length l0) (n:l0.length≤c0) (hkg1_0_:w.heap[g1_0_]? = some (.cells #[.string c] 9 (0,0))) (hkg1_1_:w.heap[g1_1_]? = some (.cells #[.string g,.int .i64 i,.int .i64 j,.string l] 71 (0,0))) (h:aP_.f k l0 c g i j l=some r) :
  Calls Tryz.prog 70 #[.slice A0 l0.length c0,.func (.func 94) #[] #[.pointer (some ⟨g1_0_,0,none⟩),.pointer (some ⟨g1_1_,0,none⟩)]] w fun e w'=>e=.returned (.bool r)∧Below w.heap.size w w':=by
 have p:=AM m;have q:=AM n;clear m n;have BKrg1_0_:=AM hkg1_0_;clear hkg1_0_;have BKrg1_1_:=AM hkg1_1_;clear hkg1_1_;have HB:=BZ w;have H:=h;clear h;unfold aP_.f at H;obtain⟨o,A3,H⟩:=bnd H;obtain rfl:=Option.some.inj H;go_enter Tryz.func70,Tryz.ntmps70;go_wp2_with (first|(refine gL 7 rfl Tryz.func91 #[.slice A0 l0.length c0,.func (.func 94) #[] #[.pointer (some ⟨g1_0_,0,none⟩),.pointer (some ⟨g1_1_,0,none⟩)]] rfl TA ?_;(with_reducible refine(an_.calls k _ _ l0 g1_0_ g1_1_ c g i j l o _ ?side1 ?side2 ?side3 ?side4 A3.out).mono ?_);(case side1=>exact CW (p.out));(case side2=>exact q.out);(case side3=>exact(KW BKrg1_0_).out);(case side4=>exact(KW BKrg1_1_).out);rintro e w4 ⟨rfl,hb⟩;refine⟨_,rfl,?_⟩;replace BKrg1_0_:=KB BKrg1_0_ hb;replace BKrg1_1_:=KB BKrg1_1_ hb;replace HB:=BS hb;clear hb));go_ret;exact⟨TE,TB⟩
end
section
def impl_breaks.f (k:Nat) (a0:ByteArray) (l1:List (aa_)) (c:ByteArray) (g:Int) (h:Int) (i:ByteArray) (a3:Int):Option (Bool):=if a3=1 then((cE_.f c a0).bind fun j=>(some (!j))) else(if a3=2 then(if g=6 then(some (c.toList != a0.toList)) else(some false)) else(if a3=3 then((cg_.f k l1 c g).bind fun l=>((aR_.f k l c g h i).bind fun m=>(some m))) else(if a3=4 then(if g=5 then((cg_.f k l1 c 0).bind fun n=>(some (decide ((n.length:Int) > 1)))) else(some false)) else(if a3=5 then(if g=5 then(some (c.toList==a0.toList)) else(some false)) else((aP_.f k l1 a0 c g h i).bind fun o=>(some o))))))
theorem impl_breaks.calls (k:Nat) (a0:ByteArray) (A1:Option Addr) (c1:Nat) (l1:List (aa_)) (p:ByteArray) (m:Int) (q:Int) (s:ByteArray) (a3:Int) (r:Bool) (w:World) (af:Kd.C af_ w A1 l1.length l1) (ag:l1.length≤c1) (h:impl_breaks.f k a0 l1 p m q s a3=some r) :
  Calls Tryz.prog 72 #[.string a0,.slice A1 l1.length c1,.agg #[.string p,.int .i64 m,.int .i64 q,.string s],.int .i64 a3] w fun e w'=>e=.returned (.bool r)∧Below w.heap.size w w':=by
 have hu71:=Tryz.underlying71;have y:=AM af;have z:=AM ag;clear af ag;have HB:=BZ w;have H:=h;clear h;unfold impl_breaks.f at H;by_cases c5:a3=1
 ·replace H:=qP c5 H;obtain⟨ah,ai,H⟩:=H;clear c5;obtain⟨aR,A6,H⟩:=bnd H;obtain rfl:=Option.some.inj H;go_enter Tryz.func72,Tryz.ntmps72;go_wp2_with (first|((with_reducible refine ax_ (N:=4) rfl ?_);(try (refine aQ_ (by rfl) ?_;dsimp only));refine bE 4 #[.string a0] 9 ?_;intro t hg w7 hbox hb;have c:=AM (hbox);have u:=bG hg;replace HB:=BS hb;clear hb hbox hg)|((with_reducible refine ax_ (N:=6) rfl ?_);(try (refine aQ_ (by rfl) ?_;dsimp only));refine bE 6 #[.string p,.int .i64 m,.int .i64 q,.string s] 71 ?_;intro n hg w8 hbox hb;have j:=AM (hbox);have v:=bG hg;replace HB:=BS hb;have l:=bN c hg;have i:=bM c hg;replace c:=KB c hb;clear hb hbox hg;obtain⟨aS,aT⟩:=nn i;have am:=cz4 j;have an:=cz1 c)|(refine gL 15 rfl Tryz.func92 #[.string p,.string a0] rfl TA ?_;(with_reducible refine(cE_.calls _ _ _ _ A6.out).mono ?_);rintro e w' ⟨rfl,⟨nd,rfl⟩⟩;refine⟨_,rfl,?_⟩));go_ret;exact⟨TE,TB⟩
 ·replace H:=qN c5 H;obtain⟨ah,ai,H⟩:=H;by_cases A:a3=2
  ·replace H:=qP A H;obtain⟨B,D,H⟩:=H;clear A;by_cases E:m=6
   ·replace H:=qP E H;obtain⟨F,G,H⟩:=H;clear E;obtain rfl:=Option.some.inj H;go_enter Tryz.func72,Tryz.ntmps72;go_wp2_with (first|((with_reducible refine ax_ (N:=4) rfl ?_);(try (refine aQ_ (by rfl) ?_;dsimp only));refine bE 4 #[.string a0] 9 ?_;intro t hg a2 hbox hb;have c:=AM (hbox);have u:=bG hg;replace HB:=BS hb;clear hb hbox hg)|((with_reducible refine ax_ (N:=6) rfl ?_);(try (refine aQ_ (by rfl) ?_;dsimp only));refine bE 6 #[.string p,.int .i64 m,.int .i64 q,.string s] 71 ?_;intro n hg a4 hbox hb;have j:=AM (hbox);have v:=bG hg;replace HB:=BS hb;have l:=bN c hg;have i:=bM c hg;replace c:=KB c hb;clear hb hbox hg;obtain⟨ao,ap⟩:=nn i;have aq:=cz4 j;have ar:=cz1 c));go_ret;exact⟨TE,TB⟩
   ·replace H:=qN E H;obtain⟨F,G,H⟩:=H;obtain rfl:=Option.some.inj H;go_enter Tryz.func72,Tryz.ntmps72;go_wp2_with (first|((with_reducible refine ax_ (N:=4) rfl ?_);(try (refine aQ_ (by rfl) ?_;dsimp only));refine bE 4 #[.string a0] 9 ?_;intro t hg a5 hbox hb;have c:=AM (hbox);have u:=bG hg;replace HB:=BS hb;clear hb hbox hg)|((with_reducible refine ax_ (N:=6) rfl ?_);(try (refine aQ_ (by rfl) ?_;dsimp only));refine bE 6 #[.string p,.int .i64 m,.int .i64 q,.string s] 71 ?_;intro n hg a6 hbox hb;have j:=AM (hbox);have v:=bG hg;replace HB:=BS hb;have l:=bN c hg;have i:=bM c hg;replace c:=KB c hb;clear hb hbox hg;obtain⟨au,av⟩:=nn i;have aw:=cz4 j));go_ret;exact⟨TE,TB⟩
  ·replace H:=qN A H;obtain⟨B,D,H⟩:=H;by_cases I:a3=3
   ·replace H:=qP I H;obtain⟨J,K,H⟩:=H;clear I;obtain⟨aj,ax,H⟩:=bnd H;obtain⟨aU,ay,H⟩:=bnd H;obtain rfl:=Option.some.inj H;go_enter Tryz.func72,Tryz.ntmps72;go_wp2_with (first|((with_reducible refine ax_ (N:=4) rfl ?_);(try (refine aQ_ (by rfl) ?_;dsimp only));refine bE 4 #[.string a0] 9 ?_;intro t hg a7 hbox hb;have c:=AM (hbox);have u:=bG hg;replace HB:=BS hb;clear hb hbox hg)|((with_reducible refine ax_ (N:=6) rfl ?_);(try (refine aQ_ (by rfl) ?_;dsimp only));refine bE 6 #[.string p,.int .i64 m,.int .i64 q,.string s] 71 ?_;intro n hg a8 hbox hb;have j:=AM (hbox);have v:=bG hg;replace HB:=BS hb;have l:=bN c hg;have i:=bM c hg;replace c:=KB c hb;clear hb hbox hg;obtain⟨az,aA⟩:=nn i;have aB:=cz4 j)|(refine gL 35 rfl Tryz.func48 #[.slice A1 l1.length c1,.string p,.int .i64 m] rfl TA ?_;(with_reducible refine(cg_.calls _ _ _ _ _ _ _ _ ?side1 ?side2 ax.out).mono ?_);(case side1=>exact CW ((Kd.ae_ y.out HB.out)));(case side2=>exact z.out);rintro e a9 ⟨aV,rfl,M,hb⟩;refine⟨_,rfl,?_⟩;have x:=AM (Kd.R_lower (Kd.R_newB M (g:=n) (o:=.cells #[.string p,.int .i64 m,.int .i64 q,.string s] 71 (0,0)) (KW j).out) (bh_ TB));replace c:=KB c hb;replace j:=KB j hb;replace HB:=BS hb;clear hb;obtain⟨ak,al,eo31⟩:=Kd.ap_ x.out;subst eo31)|(refine gL 37 rfl Tryz.func70 #[.slice ak aj.length al,.func (.func 93) #[] #[.pointer (some ⟨n,0,none⟩)]] rfl TA ?_;(with_reducible refine(aR_.calls _ _ _ _ _ _ _ _ _ _ _ ?side1 ?side2 ?side3 ay.out).mono ?_);(case side1=>exact CW ((Kd.ag_ x.out).2.2));(case side2=>exact RI x);(case side3=>exact(KW j).out);rintro e ba ⟨rfl,hb⟩;refine⟨_,rfl,?_⟩;replace x:=RB x hb;replace c:=KB c hb;replace j:=KB j hb;replace HB:=BS hb;clear hb));go_ret;exact⟨TE,TB⟩
   ·replace H:=qN I H;obtain⟨J,K,H⟩:=H;by_cases O:a3=4
    ·replace H:=qP O H;obtain⟨R,U,H⟩:=H;clear O;by_cases V:m=5
     ·replace H:=qP V H;obtain⟨W,X,H⟩:=H;clear V;obtain⟨aW,aC,H⟩:=bnd H;obtain rfl:=Option.some.inj H;go_enter Tryz.func72,Tryz.ntmps72;go_wp2_with (first|((with_reducible refine ax_ (N:=4) rfl ?_);(try (refine aQ_ (by rfl) ?_;dsimp only));refine bE 4 #[.string a0] 9 ?_;intro t hg bb hbox hb;have c:=AM (hbox);have u:=bG hg;replace HB:=BS hb;clear hb hbox hg)|((with_reducible refine ax_ (N:=6) rfl ?_);(try (refine aQ_ (by rfl) ?_;dsimp only));refine bE 6 #[.string p,.int .i64 m,.int .i64 q,.string s] 71 ?_;intro n hg bd hbox hb;have j:=AM (hbox);have v:=bG hg;replace HB:=BS hb;have l:=bN c hg;have i:=bM c hg;replace c:=KB c hb;clear hb hbox hg;obtain⟨aD,aE⟩:=nn i;have aF:=cz4 j)|(go_at_call 48;(with_reducible refine(cg_.calls _ _ _ _ _ _ _ _ ?side1 ?side2 aC.out).mono ?_);(case side1=>exact CW ((Kd.ae_ y.out HB.out)));(case side2=>exact z.out);rintro e be ⟨aX,rfl,M,hb⟩;have Y:=AM (Kd.R_lower (Kd.R_newB M (g:=n) (o:=.cells #[.string p,.int .i64 m,.int .i64 q,.string s] 71 (0,0)) (KW j).out) (bh_ TB));replace c:=KB c hb;replace j:=KB j hb;replace HB:=BS hb;clear hb;obtain⟨aY,aZ,eo41⟩:=Kd.ap_ Y.out;subst eo41));go_ret;exact⟨TE,TB⟩
     ·replace H:=qN V H;obtain⟨W,X,H⟩:=H;obtain rfl:=Option.some.inj H;go_enter Tryz.func72,Tryz.ntmps72;go_wp2_with (first|((with_reducible refine ax_ (N:=4) rfl ?_);(try (refine aQ_ (by rfl) ?_;dsimp only));refine bE 4 #[.string a0] 9 ?_;intro t hg bf hbox hb;have c:=AM (hbox);have u:=bG hg;replace HB:=BS hb;clear hb hbox hg)|((with_reducible refine ax_ (N:=6) rfl ?_);(try (refine aQ_ (by rfl) ?_;dsimp only));refine bE 6 #[.string p,.int .i64 m,.int .i64 q,.string s] 71 ?_;intro n hg bg hbox hb;have j:=AM (hbox);have v:=bG hg;replace HB:=BS hb;have l:=bN c hg;have i:=bM c hg;replace c:=KB c hb;clear hb hbox hg;obtain⟨aG,aH⟩:=nn i;have aI:=cz4 j));go_ret;exact⟨TE,TB⟩
    ·replace H:=qN O H;obtain⟨R,U,H⟩:=H;by_cases Z:a3=5
     ·replace H:=qP Z H;obtain⟨aa,ab,H⟩:=H;clear Z;by_cases ac:m=5
      ·replace H:=qP ac H;obtain⟨ad,ae,H⟩:=H;clear ac;obtain rfl:=Option.some.inj H;go_enter Tryz.func72,Tryz.ntmps72;go_wp2_with (first|((with_reducible refine ax_ (N:=4) rfl ?_);(try (refine aQ_ (by rfl) ?_;dsimp only));refine bE 4 #[.string a0] 9 ?_;intro t hg bh hbox hb;have c:=AM (hbox);have u:=bG hg;replace HB:=BS hb;clear hb hbox hg)|((with_reducible refine ax_ (N:=6) rfl ?_);(try (refine aQ_ (by rfl) ?_;dsimp only));refine bE 6 #[.string p,.int .i64 m,.int .i64 q,.string s] 71 ?_;intro n hg bi hbox hb;have j:=AM (hbox);have v:=bG hg;replace HB:=BS hb;have l:=bN c hg;have i:=bM c hg;replace c:=KB c hb;clear hb hbox hg;obtain⟨aJ,aK⟩:=nn i;have aL:=cz4 j;have aM:=cz1 c));go_ret;exact⟨TE,TB⟩
      ·replace H:=qN ac H;obtain⟨ad,ae,H⟩:=H;obtain rfl:=Option.some.inj H;go_enter Tryz.func72,Tryz.ntmps72;go_wp2_with (first|((with_reducible refine ax_ (N:=4) rfl ?_);(try (refine aQ_ (by rfl) ?_;dsimp only));refine bE 4 #[.string a0] 9 ?_;intro t hg bj hbox hb;have c:=AM (hbox);have u:=bG hg;replace HB:=BS hb;clear hb hbox hg)|((with_reducible refine ax_ (N:=6) rfl ?_);(try (refine aQ_ (by rfl) ?_;dsimp only));refine bE 6 #[.string p,.int .i64 m,.int .i64 q,.string s] 71 ?_;intro n hg bk hbox hb;have j:=AM (hbox);have v:=bG hg;replace HB:=BS hb;have l:=bN c hg;have i:=bM c hg;replace c:=KB c hb;clear hb hbox hg;obtain⟨aN,aO⟩:=nn i;have aP:=cz4 j));go_ret;exact⟨TE,TB⟩
     ·replace H:=qN Z H;obtain⟨aa,ab,H⟩:=H;obtain⟨a1,aQ,H⟩:=bnd H;obtain rfl:=Option.some.inj H;go_enter Tryz.func72,Tryz.ntmps72;go_wp2_with (first|((with_reducible refine ax_ (N:=4) rfl ?_);(try (refine aQ_ (by rfl) ?_;dsimp only));refine bE 4 #[.string a0] 9 ?_;intro t hg bl hbox hb;have c:=AM (hbox);have u:=bG hg;replace HB:=BS hb;clear hb hbox hg)|((with_reducible refine ax_ (N:=6) rfl ?_);(try (refine aQ_ (by rfl) ?_;dsimp only));refine bE 6 #[.string p,.int .i64 m,.int .i64 q,.string s] 71 ?_;intro n hg bm hbox hb;have j:=AM (hbox);have v:=bG hg;replace HB:=BS hb;have l:=bN c hg;have i:=bM c hg;replace c:=KB c hb;clear hb hbox hg)|(refine gL 64 rfl Tryz.func70 #[.slice A1 l1.length c1,.func (.func 94) #[] #[.pointer (some ⟨t,0,none⟩),.pointer (some ⟨n,0,none⟩)]] rfl TA ?_;(with_reducible refine(aP_.calls _ _ _ _ _ _ _ _ _ _ _ _ _ ?side1 ?side2 ?side3 ?side4 aQ.out).mono ?_);(case side1=>exact CW ((Kd.ae_ y.out HB.out)));(case side2=>exact z.out);(case side3=>exact(KW c).out);(case side4=>exact(KW j).out);rintro e bn ⟨rfl,hb⟩;refine⟨_,rfl,?_⟩;replace c:=KB c hb;replace j:=KB j hb;replace HB:=BS hb;clear hb));go_ret;exact⟨TE,TB⟩
end
section
def impl_RuleOf_1.f (k:Nat) (a0_0:ByteArray) (a0_1:Int) (a0_2:Int) (a0_3:ByteArray) (a1_0:ByteArray) (l2_0:List (aa_)) (a3_0:Int):Option (Bool):=(impl_breaks.f k a1_0 l2_0 a0_0 a0_1 a0_2 a0_3 a3_0).bind fun t637=>(some t637)
theorem impl_RuleOf_1.calls (k:Nat) (g:ByteArray) (i:Int) (j:Int) (l:ByteArray) (g1_:Nat) (n:ByteArray) (g2_:Nat) (p:Option Addr) (q:Nat) (c:List (aa_)) (g3_:Nat) (o:Int) (r:Bool) (w:World) (s:Kd.C af_ w p c.length c) (t:c.length≤q) (hkg1_:w.heap[g1_]? = some (.cells #[.string n] 9 (0,0))) (hkg2_:w.heap[g2_]? = some (.cells #[.slice p c.length q] 30 (0,0))) (hkg3_:w.heap[g3_]? = some (.cells #[.int .i64 o] 3 (0,0))) (h:impl_RuleOf_1.f k g i j l n c o=some r) :
  Calls Tryz.prog 71 #[.agg #[.string g,.int .i64 i,.int .i64 j,.string l],.pointer (some ⟨g1_,0,none⟩),.pointer (some ⟨g2_,0,none⟩),.pointer (some ⟨g3_,0,none⟩)] w fun e w'=>e=.returned (.bool r)∧Below w.heap.size w w':=by
 have hu71:=Tryz.underlying71;have z:=AM s;have A:=AM t;clear s t;have BKrg1_:=AM hkg1_;clear hkg1_;have BKrg2_:=AM hkg2_;clear hkg2_;have BKrg3_:=AM hkg3_;clear hkg3_;have HB:=BZ w;have H:((impl_breaks.f k n c g i j l o).bind fun y=>(some y))=some r:=h;clear h;obtain⟨y,A5,H⟩:=bnd H;obtain rfl:=Option.some.inj H;go_enter Tryz.func71,Tryz.ntmps71;go_wp2_with (first|(refine gD 4 rfl ?_;refine bE 4 #[.string g,.int .i64 i,.int .i64 j,.string l] 71 ?_;intro F hg w6 hbox hb;have m:=AM (hbox);replace HB:=BS hb;have u:=bN BKrg1_ hg;have B:=bM BKrg1_ hg;replace BKrg1_:=KB BKrg1_ hb;have v:=bN BKrg2_ hg;have D:=bM BKrg2_ hg;replace BKrg2_:=KB BKrg2_ hb;have E:=bN BKrg3_ hg;have x:=bM BKrg3_ hg;replace BKrg3_:=KB BKrg3_ hb;clear hb hbox hg;obtain⟨N,O⟩:=nn u;have R:=cz1 BKrg1_;obtain⟨U,V⟩:=nn v;have G:=cz1 BKrg2_;obtain⟨I,J⟩:=nn x;have K:=cz4 m;have M:=cz1 BKrg3_)|((with_reducible refine bH_ (f:=72) rfl ?_);refine goesL_ (some 10) rfl rfl Tryz.func72 KR rfl #[.string n,.slice p c.length q,.agg #[.string g,.int .i64 i,.int .i64 j,.string l],.int .i64 o] rfl TA ?_;(with_reducible refine(impl_breaks.calls _ _ _ _ _ _ _ _ _ _ _ _ ?side1 ?side2 A5.out).mono ?_);(case side1=>exact CW ((Kd.ae_ z.out HB.out)));(case side2=>exact A.out);rintro e W ⟨rfl,hb⟩;refine⟨_,rfl,?_⟩;replace BKrg1_:=KB BKrg1_ hb;replace BKrg2_:=KB BKrg2_ hb;replace BKrg3_:=KB BKrg3_ hb;replace m:=KB m hb;replace HB:=BS hb;clear hb));go_ret;exact⟨TE,TB⟩
end
section
def aj_.l0:Nat→List (aa_)→Int→Int→ByteArray→List (aa_)→Int→Option (Int)
 | 0,_,_,_,_,_,_=>none
 | k+1,x0,x7,x8,c,g,h=>if x8<x7 then(if 0≤x8 then(if x8<(x0.length:Int) then((impl_RuleOf_1.f k ((a_ x0 x8).f0) ((a_ x0 x8).f1) ((a_ x0 x8).f2) ((a_ x0 x8).f3) c g h).bind fun i=>(if i=true then(some x8) else(aj_.l0 k x0 x7 (wrap64 (x8+1)) c g h))) else(none)) else(none)) else(some (-1))
def aj_.f (k:Nat) (l0:List (aa_)) (a1_0:ByteArray) (l1_1:List (aa_)) (a1_2:Int):Option (Int):=aj_.l0 k l0 (l0.length:Int) 0 a1_0 l1_1 a1_2
theorem aj_.calls (k:Nat) (A0:Option Addr) (c0:Nat) (l0:List (aa_)) (g1_0_ g1_1_ g1_2_:Nat) (i:ByteArray) (n:Option Addr) (o:Nat) (g:List (aa_)) (j:Int) (r:Int) (w:World) (B:Kd.C af_ w A0 l0.length l0) (D:l0.length≤c0) (p:Kd.C af_ w n g.length g) (q:g.length≤o) (hkg1_0_:w.heap[g1_0_]? = some (.cells #[.string i] 9 (0,0))) (hkg1_1_:w.heap[g1_1_]? = some (.cells #[.slice n g.length o] 30 (0,0))) (hkg1_2_:w.heap[g1_2_]? = some (.cells #[.int .i64 j] 3 (0,0))) (h:aj_.f k l0 i g j=some r) :
  Calls Tryz.prog 91 #[.slice A0 l0.length c0,.func (.func 71) #[] #[.pointer (some ⟨g1_0_,0,none⟩),.pointer (some ⟨g1_1_,0,none⟩),.pointer (some ⟨g1_2_,0,none⟩)]] w fun e w'=>e=.returned (.int .i64 r)∧Below w.heap.size w w':=by
 have hu71:=Tryz.underlying71;have E:=AM B;have K:=AM D;clear B D;have s:=AM p;have t:=AM q;clear p q;have BKrg1_0_:=AM hkg1_0_;clear hkg1_0_;have BKrg1_1_:=AM hkg1_1_;clear hkg1_1_;have BKrg1_2_:=AM hkg1_2_;clear hkg1_2_;have HB:=BZ w;have H:(aj_.l0 k l0 (l0.length:Int) 0 i g j)=some r:=h;clear h;have H':=AM H;clear H;go_enter Tryz.func91,Tryz.ntmps91;go_wp2;go_loopg [8] k (fun kq v8 w'=>∃(c:Int),v8=.int .i64 c∧Aside0 (aj_.l0 kq l0 (l0.length:Int) c i g j=some r)∧Aside0 (kq≤k)∧Aside0 (w'.heap[g1_0_]? = some (.cells #[.string i] 9 (0,0)))∧Aside0 (w'.heap[g1_1_]? = some (.cells #[(.slice n g.length o)] 30 (0,0)))∧Aside0 (w'.heap[g1_2_]? = some (.cells #[.int .i64 j] 3 (0,0)))∧Aside0 (Below w.heap.size w w'))
 case atStart=>exact⟨(0),TF,H',NL,KW BKrg1_0_,KW BKrg1_1_,KW BKrg1_2_,⟨TB⟩⟩
 case round =>
  clear H';obtain⟨c,rfl,HA,HK1,BKrg1_0_,BKrg1_1_,BKrg1_2_,HB⟩:=hrel
  cases gk with
  | zero=>exact absurd HA.out (by simp[aj_.l0])
  | succ k1 =>
   have H:=HA.out;clear HA;simp only[aj_.l0] at H;by_cases c3:c<(l0.length:Int)
   ·rw[if_pos c3] at H;have F:=decide_eq_true c3;clear c3;obtain⟨I,H⟩:=dn H;obtain⟨J,H⟩:=dn H;obtain⟨G,A6,H⟩:=bnd H;by_cases c7:G=true
    ·subst c7;replace H:=ift H;obtain rfl:=Option.some.inj H;have l:0≤(c:Int):=TD;have m:c<(l0.length:Int):=TD;obtain⟨A,u,v,x,y,z⟩:=aw_ (Kd.ae_ E.out HB.out) c l m;cases u;replace l:=eq_true l;replace m:=eq_true m;go_wp2_with (first|(go_at_call 71;(with_reducible refine(impl_RuleOf_1.calls k1 ((a_ l0 c).f0) ((a_ l0 c).f1) ((a_ l0 c).f2) ((a_ l0 c).f3) g1_0_ i g1_1_ n o g g1_2_ j true _ ?side1 ?side2 ?side3 ?side4 ?side5 A6.out).mono ?_);(case side1=>exact CW ((Kd.ae_ s.out HB.out)));(case side2=>exact t.out);(case side3=>exact(KW BKrg1_0_).out);(case side4=>exact(KW BKrg1_1_).out);(case side5=>exact(KW BKrg1_2_).out);rintro e w8 ⟨rfl,hb⟩;replace BKrg1_0_:=KB BKrg1_0_ hb;replace BKrg1_1_:=KB BKrg1_1_ hb;replace BKrg1_2_:=KB BKrg1_2_ hb;replace HB:=BS hb;clear hb));go_ret;exact⟨TE,TB⟩
    ·replace c7:=Bool.eq_false_iff.mpr c7;subst c7;replace H:=iff' H;have H':=AM H;clear H;have l:0≤(c:Int):=TD;have m:c<(l0.length:Int):=TD;obtain⟨A,u,v,x,y,z⟩:=aw_ (Kd.ae_ E.out HB.out) c l m;cases u;replace l:=eq_true l;replace m:=eq_true m;go_wp2_with (first|(go_at_call 71;(with_reducible refine(impl_RuleOf_1.calls k1 ((a_ l0 c).f0) ((a_ l0 c).f1) ((a_ l0 c).f2) ((a_ l0 c).f3) g1_0_ i g1_1_ n o g g1_2_ j false _ ?side1 ?side2 ?side3 ?side4 ?side5 A6.out).mono ?_);(case side1=>exact CW ((Kd.ae_ s.out HB.out)));(case side2=>exact t.out);(case side3=>exact(KW BKrg1_0_).out);(case side4=>exact(KW BKrg1_1_).out);(case side5=>exact(KW BKrg1_2_).out);rintro e w9 ⟨rfl,hb⟩;replace BKrg1_0_:=KB BKrg1_0_ hb;replace BKrg1_1_:=KB BKrg1_1_ hb;replace BKrg1_2_:=KB BKrg1_2_ hb;replace HB:=BS hb;clear hb));go_roundg k1
     case measure=>exact TM
     case rel=>exact⟨(wrap64 (c+1)),TF,H',⟨TM⟩,KW BKrg1_0_,KW BKrg1_1_,KW BKrg1_2_,⟨TB⟩⟩
   ·rw[if_neg c3] at H;have F:=decide_eq_false c3;clear c3;obtain rfl:=Option.some.inj H;go_wp2;go_ret;exact⟨TE,TB⟩
end
section
def aE_.f (k:Nat) (l0:List (aa_)) (a1_0:ByteArray) (l1_1:List (aa_)) (a1_2:Int):Option (Bool):=(aj_.f k l0 a1_0 l1_1 a1_2).bind fun t640=>(some (decide (t640≥0)))
theorem aE_.calls (k:Nat) (A0:Option Addr) (c0:Nat) (l0:List (aa_)) (g1_0_ g1_1_ g1_2_:Nat) (g:ByteArray) (j:Option Addr) (l:Nat) (c:List (aa_)) (i:Int) (r:Bool) (w:World) (s:Kd.C af_ w A0 l0.length l0) (t:l0.length≤c0) (m:Kd.C af_ w j c.length c) (n:c.length≤l) (hkg1_0_:w.heap[g1_0_]? = some (.cells #[.string g] 9 (0,0))) (hkg1_1_:w.heap[g1_1_]? = some (.cells #[.slice j c.length l] 30 (0,0))) (hkg1_2_:w.heap[g1_2_]? = some (.cells #[.int .i64 i] 3 (0,0))) (h:aE_.f k l0 g c i=some r) :
  Calls Tryz.prog 70 #[.slice A0 l0.length c0,.func (.func 71) #[] #[.pointer (some ⟨g1_0_,0,none⟩),.pointer (some ⟨g1_1_,0,none⟩),.pointer (some ⟨g1_2_,0,none⟩)]] w fun e w'=>e=.returned (.bool r)∧Below w.heap.size w w':=by
 have u:=AM s;have v:=AM t;clear s t;have p:=AM m;have q:=AM n;clear m n;have BKrg1_0_:=AM hkg1_0_;clear hkg1_0_;have BKrg1_1_:=AM hkg1_1_;clear hkg1_1_;have BKrg1_2_:=AM hkg1_2_;clear hkg1_2_;have HB:=BZ w;have H:((aj_.f k l0 g c i).bind fun o=>(some (decide (o≥0))))=some r:=h;clear h;obtain⟨o,A3,H⟩:=bnd H;obtain rfl:=Option.some.inj H;go_enter Tryz.func70,Tryz.ntmps70;go_wp2_with (first|((with_reducible refine bH_ (f:=91) rfl ?_);refine goesL_ (some 7) rfl rfl Tryz.func91 KR rfl #[.slice A0 l0.length c0,.func (.func 71) #[] #[.pointer (some ⟨g1_0_,0,none⟩),.pointer (some ⟨g1_1_,0,none⟩),.pointer (some ⟨g1_2_,0,none⟩)]] rfl TA ?_;(with_reducible refine(aj_.calls k _ _ l0 g1_0_ g1_1_ g1_2_ g j l c i o _ ?side1 ?side2 ?side3 ?side4 ?side5 ?side6 ?side7 A3.out).mono ?_);(case side1=>exact CW (u.out));(case side2=>exact v.out);(case side3=>exact CW (p.out));(case side4=>exact q.out);(case side5=>exact(KW BKrg1_0_).out);(case side6=>exact(KW BKrg1_1_).out);(case side7=>exact(KW BKrg1_2_).out);rintro e w4 ⟨rfl,hb⟩;refine⟨_,rfl,?_⟩;replace BKrg1_0_:=KB BKrg1_0_ hb;replace BKrg1_1_:=KB BKrg1_1_ hb;replace BKrg1_2_:=KB BKrg1_2_ hb;replace HB:=BS hb;clear hb));go_ret;exact⟨TE,TB⟩
end
section
def bL_.l0:Nat→ByteArray→List (aa_)→Int→Option (Int)
 | 0,_,_,_=>none
 | k+1,h,g,c=>if c≤6 then((aE_.f k g h g c).bind fun i=>(if i=true then(some c) else(if c=2 then((cg_.f k g h 6).bind fun j=>(if (j.length:Int)=1 then(bL_.l0 k h g (wrap64 (c+1))) else(some c))) else(bL_.l0 k h g (wrap64 (c+1)))))) else(some 0)
def bL_.f (k:Nat) (a0:ByteArray) (l1:List (aa_)):Option (Int):=(impl_isWhole.f k a0 l1).bind fun t643=>(if t643=true then(bL_.l0 k a0 l1 1) else(some 9))
theorem bL_.calls (k:Nat) (a0:ByteArray) (A1:Option Addr) (c1:Nat) (l1:List (aa_)) (r:Int) (w:World) (ai:Kd.C af_ w A1 l1.length l1) (aj:l1.length≤c1) (hG_:Glob w) (h:bL_.f k a0 l1=some r) :
  Calls Tryz.prog 47 #[.string a0,.slice A1 l1.length c1] w fun e w'=>e=.returned (.int .i64 r)∧Below w.heap.size w w':=by
 have u:=AM ai;have v:=AM aj;clear ai aj;have HGL:=AM hG_;clear hG_;have HB:=BZ w;have H:((impl_isWhole.f k a0 l1).bind fun M=>(if M=true then(bL_.l0 k a0 l1 1) else(some 9)))=some r:=h;clear h;obtain⟨M,A3,H⟩:=bnd H;by_cases c4:M=true
 ·subst c4;replace H:=ift H;have H':=AM H;clear H;go_enter Tryz.func47,Tryz.ntmps47;go_wp2_with (first|((with_reducible refine ax_ (N:=2) rfl ?_);(try (refine aQ_ (by rfl) ?_;dsimp only));refine bE 2 #[.string a0] 9 ?_;intro q hg w5 hbox hb;have c:=AM (hbox);have V:=bG hg;replace HB:=BS hb;clear hb hbox hg)|((with_reducible refine ax_ (N:=3) rfl ?_);(try (refine aQ_ (by rfl) ?_;dsimp only));refine bE 3 #[.slice A1 l1.length c1] 30 ?_;intro s hg w6 hbox hb;have g:=AM (hbox);have W:=bG hg;replace HB:=BS hb;have n:=bN c hg;have t:=bM c hg;replace c:=KB c hb;clear hb hbox hg;obtain⟨bI,bJ⟩:=nn n;have bK:=cz1 c;have bL:=cz1 g)|((with_reducible refine bH_ (f:=69) rfl ?_);refine goesL_ (some 8) rfl rfl Tryz.func69 KR rfl #[.string a0,.slice A1 l1.length c1] rfl TA ?_;(with_reducible refine(impl_isWhole.calls _ _ _ _ _ _ _ ?side1 ?side2 ?side3 A3.out).mono ?_);(case side1=>exact CW ((Kd.ae_ u.out HB.out)));(case side2=>exact v.out);(case side3=>exact GW HGL);rintro e bS ⟨rfl,hb⟩;refine⟨_,rfl,?_⟩;replace c:=KB c hb;replace g:=KB g hb;replace HB:=BS hb;clear hb)|((with_reducible refine ax_ (N:=5) rfl ?_);(try (refine aQ_ (by rfl) ?_;dsimp only));refine bE 5 #[.int .i64 0] 3 ?_;intro m hg bT hbox hb;have i:=AM (hbox);have ao:=bG hg;replace HB:=BS hb;have j:=bN c hg;have o:=bM c hg;replace c:=KB c hb;have l:=bN g hg;have p:=bM g hg;replace g:=KB g hb;clear hb hbox hg;obtain⟨ap,aq⟩:=nn o;obtain⟨ar,au⟩:=nn p;have av:=cz1 i));go_loopg [5] k (fun kq v5 w'=>∃(m:Nat) (xb:Int),v5=.pointer (some ⟨m,0,none⟩)∧Aside0 (bL_.l0 kq a0 l1 xb=some r)∧Aside0 (kq≤k)∧Aside0 (w'.heap[q]? = some (.cells #[.string a0] 9 (0,0)))∧Aside0 (w'.heap[s]? = some (.cells #[(.slice A1 l1.length c1)] 30 (0,0)))∧Aside0 (w'.heap[m]? = some (.cells #[.int .i64 xb] 3 (0,0)))∧Aside0 (q≠m)∧Aside0 (s≠m)∧Aside0 (Below w.heap.size w w'))
  case atStart=>exact⟨_,_,rfl,H',NL,⟨TS⟩,⟨TS⟩,⟨TS⟩,j,l,⟨TB⟩⟩
  case round =>
   clear H';obtain⟨m,xb,hv_,HA,HK1,c,g,i,j,l,HB⟩:=hrel;subst hv_;have o:Aside0 (m≠q):=⟨j.out.symm⟩;have p:Aside0 (m≠s):=⟨l.out.symm⟩
   cases gk with
   | zero=>exact absurd HA.out (by simp[bL_.l0])
   | succ k1 =>
    have H:=HA.out;clear HA;simp only[bL_.l0] at H;by_cases K:xb≤6
    ·rw[if_pos K] at H;have X:=decide_eq_true K;clear K;obtain⟨ak,R,H⟩:=bnd H;by_cases U:ak=true
     ·subst U;replace H:=ift H;obtain rfl:=Option.some.inj H;have aw:=o.out;have ax:=j.out;have ay:=p.out;have az:=l.out;have aA:=cz1 i;have aB:=t.out;have aC:=n.out;have aD:=cz1 g;go_wp2_with (first|((with_reducible refine bH_ (f:=70) rfl ?_);refine goesL_ (some 16) rfl rfl Tryz.func70 KR rfl #[.slice A1 l1.length c1,.func (.func 71) #[] #[.pointer (some ⟨q,0,none⟩),.pointer (some ⟨s,0,none⟩),.pointer (some ⟨m,0,none⟩)]] rfl TA ?_;(with_reducible refine(aE_.calls k1 _ _ l1 q s m a0 A1 c1 l1 xb true _ ?side1 ?side2 ?side3 ?side4 ?side5 ?side6 ?side7 R.out).mono ?_);(case side1=>exact CW ((Kd.ae_ u.out HB.out)));(case side2=>exact v.out);(case side3=>exact CW ((Kd.ae_ u.out HB.out)));(case side4=>exact v.out);(case side5=>exact(KW c).out);(case side6=>exact(KW g).out);(case side7=>exact(KW i).out);rintro e bU ⟨rfl,hb⟩;refine⟨_,rfl,?_⟩;replace c:=KB c hb;replace g:=KB g hb;replace i:=KB i hb;replace HB:=BS hb;clear hb;have aE:=cz1 i));go_ret;exact⟨TE,TB⟩
     ·replace U:=Bool.eq_false_iff.mpr U;subst U;replace H:=iff' H;by_cases Y:xb=2
      ·replace H:=qP Y H;obtain⟨Z,aa,H⟩:=H;clear Y;obtain⟨al,am,H⟩:=bnd H;by_cases ab:(al.length:Int)=1
       ·replace H:=qP ab H;obtain⟨ac,ad,H⟩:=H;clear ab;have H':=AM H;clear H;have aF:=o.out;have aG:=j.out;have aH:=p.out;have aI:=l.out;have aJ:=cz1 i;have aK:=t.out;have aL:=n.out;have aM:=cz1 g;go_wp2_with (first|((with_reducible refine bH_ (f:=70) rfl ?_);refine goesL_ (some 16) rfl rfl Tryz.func70 KR rfl #[.slice A1 l1.length c1,.func (.func 71) #[] #[.pointer (some ⟨q,0,none⟩),.pointer (some ⟨s,0,none⟩),.pointer (some ⟨m,0,none⟩)]] rfl TA ?_;(with_reducible refine(aE_.calls k1 _ _ l1 q s m a0 A1 c1 l1 xb false _ ?side1 ?side2 ?side3 ?side4 ?side5 ?side6 ?side7 R.out).mono ?_);(case side1=>exact CW ((Kd.ae_ u.out HB.out)));(case side2=>exact v.out);(case side3=>exact CW ((Kd.ae_ u.out HB.out)));(case side4=>exact v.out);(case side5=>exact(KW c).out);(case side6=>exact(KW g).out);(case side7=>exact(KW i).out);rintro e bV ⟨rfl,hb⟩;refine⟨_,rfl,?_⟩;replace c:=KB c hb;replace g:=KB g hb;replace i:=KB i hb;replace HB:=BS hb;clear hb;have aN:=cz1 i;have aO:=cz1 g;have aP:=cz1 c)|(go_at_call 48;(with_reducible refine(cg_.calls _ _ _ _ _ _ _ _ ?side1 ?side2 am.out).mono ?_);(case side1=>exact CW ((Kd.ae_ u.out HB.out)));(case side2=>exact v.out);rintro e bW ⟨an,rfl,O,hb⟩;have x:=RL O;replace c:=KB c hb;replace g:=KB g hb;replace i:=KB i hb;replace HB:=BS hb;clear hb;(try clear O);obtain⟨bO,bP,eo38⟩:=Kd.ap_ x.out;subst eo38;have aQ:=cz1 i)|((with_reducible refine ax_ (N:=5) rfl ?_);(try (refine aQ_ (by rfl) ?_;dsimp only));refine bE 5 #[.int .i64 0] 3 ?_;intro aR hg bX hbox hb;replace x:=RB x hb;have ae:=AM (hbox);have aS:=bG hg;replace HB:=BS hb;have y:=bN c hg;have z:=bM c hg;replace c:=KB c hb;have A:=bN g hg;have B:=bM g hg;replace g:=KB g hb;have af:=bN i hg;have D:=bM i hg;replace i:=KB i hb;clear hb hbox hg;obtain⟨aT,aU⟩:=nn z;obtain⟨aV,aW⟩:=nn B;obtain⟨aX,aY⟩:=nn D;have aZ:=cz1 ae));go_roundg k1
        case measure=>exact TM
        case rel=>exact⟨_,_,rfl,H',⟨TM⟩,⟨TS⟩,⟨TS⟩,⟨TS⟩,y,A,⟨TB⟩⟩
       ·replace H:=qN ab H;obtain⟨ac,ad,H⟩:=H;obtain rfl:=Option.some.inj H;have a1:=o.out;have a2:=j.out;have a3:=p.out;have a4:=l.out;have a5:=cz1 i;have a6:=t.out;have a7:=n.out;have a8:=cz1 g;go_wp2_with (first|((with_reducible refine bH_ (f:=70) rfl ?_);refine goesL_ (some 16) rfl rfl Tryz.func70 KR rfl #[.slice A1 l1.length c1,.func (.func 71) #[] #[.pointer (some ⟨q,0,none⟩),.pointer (some ⟨s,0,none⟩),.pointer (some ⟨m,0,none⟩)]] rfl TA ?_;(with_reducible refine(aE_.calls k1 _ _ l1 q s m a0 A1 c1 l1 xb false _ ?side1 ?side2 ?side3 ?side4 ?side5 ?side6 ?side7 R.out).mono ?_);(case side1=>exact CW ((Kd.ae_ u.out HB.out)));(case side2=>exact v.out);(case side3=>exact CW ((Kd.ae_ u.out HB.out)));(case side4=>exact v.out);(case side5=>exact(KW c).out);(case side6=>exact(KW g).out);(case side7=>exact(KW i).out);rintro e bY ⟨rfl,hb⟩;refine⟨_,rfl,?_⟩;replace c:=KB c hb;replace g:=KB g hb;replace i:=KB i hb;replace HB:=BS hb;clear hb;have a9:=cz1 i;have ba:=cz1 g;have bb:=cz1 c)|(go_at_call 48;(with_reducible refine(cg_.calls _ _ _ _ _ _ _ _ ?side1 ?side2 am.out).mono ?_);(case side1=>exact CW ((Kd.ae_ u.out HB.out)));(case side2=>exact v.out);rintro e bZ ⟨an,rfl,O,hb⟩;have x:=RL O;replace c:=KB c hb;replace g:=KB g hb;replace i:=KB i hb;replace HB:=BS hb;clear hb;(try clear O);obtain⟨bQ,bR,eo55⟩:=Kd.ap_ x.out;subst eo55;have bd:=cz1 i));go_ret;exact⟨TE,TB⟩
      ·replace H:=qN Y H;obtain⟨Z,aa,H⟩:=H;have H':=AM H;clear H;have be:=o.out;have bf:=j.out;have bg:=p.out;have bh:=l.out;have bi:=cz1 i;have bj:=t.out;have bk:=n.out;have bl:=cz1 g;go_wp2_with (first|((with_reducible refine bH_ (f:=70) rfl ?_);refine goesL_ (some 16) rfl rfl Tryz.func70 KR rfl #[.slice A1 l1.length c1,.func (.func 71) #[] #[.pointer (some ⟨q,0,none⟩),.pointer (some ⟨s,0,none⟩),.pointer (some ⟨m,0,none⟩)]] rfl TA ?_;(with_reducible refine(aE_.calls k1 _ _ l1 q s m a0 A1 c1 l1 xb false _ ?side1 ?side2 ?side3 ?side4 ?side5 ?side6 ?side7 R.out).mono ?_);(case side1=>exact CW ((Kd.ae_ u.out HB.out)));(case side2=>exact v.out);(case side3=>exact CW ((Kd.ae_ u.out HB.out)));(case side4=>exact v.out);(case side5=>exact(KW c).out);(case side6=>exact(KW g).out);(case side7=>exact(KW i).out);rintro e b0 ⟨rfl,hb⟩;refine⟨_,rfl,?_⟩;replace c:=KB c hb;replace g:=KB g hb;replace i:=KB i hb;replace HB:=BS hb;clear hb;have bm:=cz1 i)|((with_reducible refine ax_ (N:=5) rfl ?_);(try (refine aQ_ (by rfl) ?_;dsimp only));refine bE 5 #[.int .i64 0] 3 ?_;intro bn hg w64 hbox hb;have ag:=AM (hbox);have bo:=bG hg;replace HB:=BS hb;have E:=bN c hg;have F:=bM c hg;replace c:=KB c hb;have G:=bN g hg;have I:=bM g hg;replace g:=KB g hb;have ah:=bN i hg;have J:=bM i hg;replace i:=KB i hb;clear hb hbox hg;obtain⟨bp,bq⟩:=nn F;obtain⟨br,bs⟩:=nn I;obtain⟨bt,bu⟩:=nn J;have bv:=cz1 ag));go_roundg k1
       case measure=>exact TM
       case rel=>exact⟨_,_,rfl,H',⟨TM⟩,⟨TS⟩,⟨TS⟩,⟨TS⟩,E,G,⟨TB⟩⟩
    ·rw[if_neg K] at H;have X:=decide_eq_false K;clear K;obtain rfl:=Option.some.inj H;have bw:=o.out;have bx:=j.out;have bz:=p.out;have bA:=l.out;have bB:=cz1 i;go_wp2;go_ret;exact⟨TE,TB⟩
 ·replace c4:=Bool.eq_false_iff.mpr c4;subst c4;replace H:=iff' H;obtain rfl:=Option.some.inj H;go_enter Tryz.func47,Tryz.ntmps47;go_wp2_with (first|((with_reducible refine ax_ (N:=2) rfl ?_);(try (refine aQ_ (by rfl) ?_;dsimp only));refine bE 2 #[.string a0] 9 ?_;intro q hg b1 hbox hb;have c:=AM (hbox);have V:=bG hg;replace HB:=BS hb;clear hb hbox hg)|((with_reducible refine ax_ (N:=3) rfl ?_);(try (refine aQ_ (by rfl) ?_;dsimp only));refine bE 3 #[.slice A1 l1.length c1] 30 ?_;intro s hg b2 hbox hb;have g:=AM (hbox);have W:=bG hg;replace HB:=BS hb;have n:=bN c hg;have t:=bM c hg;replace c:=KB c hb;clear hb hbox hg;obtain⟨bC,bD⟩:=nn n;have bF:=cz1 c;have bH:=cz1 g)|((with_reducible refine bH_ (f:=69) rfl ?_);refine goesL_ (some 8) rfl rfl Tryz.func69 KR rfl #[.string a0,.slice A1 l1.length c1] rfl TA ?_;(with_reducible refine(impl_isWhole.calls _ _ _ _ _ _ _ ?side1 ?side2 ?side3 A3.out).mono ?_);(case side1=>exact CW ((Kd.ae_ u.out HB.out)));(case side2=>exact v.out);(case side3=>exact GW HGL);rintro e b3 ⟨rfl,hb⟩;refine⟨_,rfl,?_⟩;replace c:=KB c hb;replace g:=KB g hb;replace HB:=BS hb;clear hb));go_ret;exact⟨TE,TB⟩
end
section
def strconv_Itoa.f (a0:Int):Option (ByteArray):=if -9223372036854775808≤a0∧a0≤9223372036854775807 then some ⟨(Go.Lib.itoa a0).toArray⟩ else none
theorem strconv_Itoa.calls (a0:Int) (r:ByteArray) (w:World) (hG_:Glob w) (h:strconv_Itoa.f a0=some r) :
  Calls Tryz.prog 73 #[.int .i64 a0] w fun e w'=>e=.returned (.string r)∧Below w.heap.size w w':=by
 unfold strconv_Itoa.f at h;split at h
 ·rename_i h1;obtain rfl:=Option.some.inj h;exact num_itoa a0 h1.1 h1.2 w hG_
 ·cases h
end
section
def impl_serialText.f (a0:Int):Option (ByteArray):=(strconv_Itoa.f (Int.tmod a0 4294967296)).bind fun t651=>(some t651)
theorem impl_serialText.calls (a0:Int) (r:ByteArray) (w:World) (hG_:Glob w) (h:impl_serialText.f a0=some r) :
  Calls Tryz.prog 49 #[.int .i64 a0] w fun e w'=>e=.returned (.string r)∧Below w.heap.size w w':=by
 have HGL:=AM hG_;clear hG_;have HB:=BZ w;have H:=h;clear h;unfold impl_serialText.f at H;obtain⟨c,A2,H⟩:=bnd H;obtain rfl:=Option.some.inj H;go_enter Tryz.func49,Tryz.ntmps49;go_wp2_with (first|(refine gL 5 rfl Tryz.func73 #[.int .i64 (Int.tmod a0 4294967296)] rfl TA ?_;(with_reducible refine(strconv_Itoa.calls _ _ _ ?side1 A2.out).mono ?_);(case side1=>exact GW HGL);rintro e w3 ⟨rfl,hb⟩;refine⟨_,rfl,?_⟩;replace HB:=BS hb;clear hb));go_ret;exact⟨TE,TB⟩
end
section
def bf_.f (k:Nat) (c:ByteArray) (g:Int) (h:List (aa_)):Option (Bool):=(bd_.f g).bind fun j=>(if j=true then((bL_.f k c h).bind fun l=>(if l=0 then((cg_.f k h c 6).bind fun i=>(if 0<(i.length:Int) then((impl_serialText.f g).bind fun m=>(some (((a_ i 0).f3).toList==m.toList))) else(none))) else(some false))) else(some false))
def bf_.T1:Bool × List (List Nat × List Nat):=(true,[([],[]),([0],[0]),([1],[1]),([2,2],[2]),([3],[3]),([4,3],[3,4]),([3],[3]),([6,3],[3,6]),([5,7,3,3],[3,5,7]),([8,3],[3,8]),([3,9],[3,9]),([10,8],[10]),([11],[11]),([12,11],[11,12]),([11],[11]),([14,11],[11,14]),([13,15,11,11],[11,13,15]),([16,11],[11,16]),([17,11],[11,17]),([18,11],[11,18]),([11],[11]),([20,11],[11,20]),([21,16,11],[11,21]),([19,22,11],[11,19,22]),([11,23],[11,23]),([24,22,0,1,2,3,4,5,6,7,8,9,10,11,12,13,14,15,16,17,18,19,20,21,22,23,24],[24])])
def bf_.B1:List Nat:=[0,1,3,7,15,31,15,79,255,511,1023,2047,4095,8191,4095,20479,65535,131071,262143,524287,4095,1052671,3276799,8388607,16777215,33554431]
theorem bf_.tab1:rtab .any (opsOf Tryz.f23 1)=bf_.T1:=by kernel_rfl
theorem bf_.bits1:waitsOk bf_.T1.2 bf_.B1=true:=by kernel_rfl
theorem bf_.calls (k:Nat) (l:ByteArray) (j:Int) (m:Option Addr) (o:Nat) (i:List (aa_)) (r:Bool) (w:World) (A:Kd.C af_ w m i.length i) (B:i.length≤o) (hG_:Glob w) (h:bf_.f k l j i=some r) :
  Calls Tryz.prog 23 #[.agg #[.string l,.int .i64 j,.slice m i.length o]] w fun e w'=>e=.returned (.bool r)∧Below w.heap.size w w':=by
 have hu32:=Tryz.underlying32;have y:=AM A;have z:=AM B;clear A B;have HGL:=AM hG_;clear hG_;have HB:=BZ w;have H:=h;clear h;unfold bf_.f at H;obtain⟨F,A2,H⟩:=bnd H;by_cases c3:F=true
 ·subst c3;replace H:=ift H;obtain⟨G,A4,H⟩:=bnd H;by_cases c5:G=0
  ·replace H:=qP c5 H;obtain⟨I,J,H⟩:=H;clear c5;obtain⟨v,A6,H⟩:=bnd H;obtain⟨c7,H⟩:=ifn H;have U:=decide_eq_true c7;have V:decide (0<v.length)=true:=decide_eq_true (by omega);clear c7;obtain⟨W,A8,H⟩:=bnd H;obtain rfl:=Option.some.inj H;go_enter Tryz.func23,Tryz.ntmps23
   try go_wp2_with (first|(refine gD 1 rfl ?_;refine bE 1 #[.string l,.int .i64 j,.slice m i.length o] 32 ?_;intro g hg w9 hbox hb;have c:=AM (hbox);replace HB:=BS hb;clear hb hbox hg))
   replace c:=AM (ai_ c.out);replace HB:=AM (ar_ HB.out);refine start_ (n:=26) (S:=fun w'=>w'.cell? ⟨g,0,none⟩=some (.string l)∧w'.cell? ⟨g,1,none⟩=some (.int .i64 j)∧w'.cell? ⟨g,2,none⟩=some (.slice m i.length o)) (ds:=[]) (mL 26 0) KR rfl KR ⟨bc 0 c,bc 1 c,bc 2 c⟩ (fun hHeld=>?_);refine bg_ bf_.tab1 bf_.bits1 (fun HT_ HW_=>?_);generalize w9.drew=aa at c HB hHeld ⊢;refine pB 0 rfl rfl ?_;refine tB 1 hHeld rfl rfl ?_
   refine oB 2 rfl rfl fun K hK=>?_
   refine gB Tryz.func46 #[.int .i64 j] rfl rfl ?_
   with_reducible refine(bd_.calls _ _ _ A2.out).mono ?_
   rintro e w' ⟨rfl,⟨nd,rfl⟩⟩;refine⟨_,rfl,?_⟩;refine hK.out _ _ ⟨bc 0 c,bc 1 c,bc 2 c⟩ (fun hHeld=>?_);clear hK K;refine nA ?_;refine pB 3 rfl rfl ?_;refine pB 4 rfl rfl ?_;refine pB 6 rfl rfl ?_;refine tB 5 hHeld rfl rfl ?_;refine tB 7 hHeld rfl rfl ?_
   refine oB 8 rfl rfl fun K hK=>?_
   refine gB Tryz.func47 #[.string l,.slice m i.length o] rfl rfl ?_
   with_reducible refine(bL_.calls _ _ _ _ _ _ _ ?side1 ?side2 ?side3 A4.out).mono ?_
   (case side1=>exact CW ((Kd.ae_ y.out TB)));(case side2=>exact z.out);(case side3=>exact GW HGL);rintro e ab ⟨rfl,hb⟩;refine⟨_,rfl,?_⟩;replace c:=KB c hb;replace HB:=BS hb;clear hb;refine hK.out _ _ ⟨bc 0 c,bc 1 c,bc 2 c⟩ (fun hHeld=>?_);clear hK K;refine nA ?_;refine pB 9 rfl rfl ?_;refine pB 10 rfl rfl ?_;refine pB 11 rfl rfl ?_;refine pB 12 rfl rfl ?_;refine pB 14 rfl rfl ?_;refine pB 20 rfl rfl ?_;refine tB 13 hHeld rfl rfl ?_;refine tB 15 hHeld rfl rfl ?_;refine tB 21 hHeld rfl rfl ?_
   refine oB 16 rfl rfl fun K hK=>?_
   refine gB Tryz.func48 #[.slice m i.length o,.string l,.int .i64 6] rfl rfl ?_
   with_reducible refine(cg_.calls _ _ _ _ _ _ _ _ ?side1 ?side2 A6.out).mono ?_
   (case side1=>exact CW ((Kd.ae_ y.out HB.out)));(case side2=>exact z.out);rintro e ac ⟨X,rfl,M,hb⟩;refine⟨_,rfl,?_⟩;have x:=RL M;replace c:=KB c hb;replace HB:=BS hb;clear hb M;obtain⟨Y,Z,eo13⟩:=Kd.ap_ x.out;(first|subst eo13|(injection eo13 with f1_ f2_ f3_;have f4_:=f1_.symm;have f5_:=f3_.symm;clear f1_ f2_ f3_;subst f4_;subst f5_));have D:0≤(0:Int):=(by omega);have E:0<(v.length:Int):=TD;obtain⟨p,N,q,s,t,u⟩:=aw_ (Kd.ag_ x.out).2.2 0 D E;cases N;have qi658:(0<v.length)=True:=eq_true (by omega);(try rw[show((0:Int)).toNat=0 from rfl] at q);(try rw[show 0 * 4=0 from rfl] at q);(try rw[Addr.add_zero'] at q);(try rw[show((0:Int)).toNat=0 from rfl] at s);(try rw[show 0 * 4=0 from rfl] at s);(try rw[Addr.add_zero'] at s);(try rw[show((0:Int)).toNat=0 from rfl] at t);(try rw[show 0 * 4=0 from rfl] at t);(try rw[Addr.add_zero'] at t);(try rw[show((0:Int)).toNat=0 from rfl] at u);(try rw[show 0 * 4=0 from rfl] at u);(try rw[Addr.add_zero'] at u);replace D:=eq_true D;replace E:=eq_true E;refine hK.out _ _ ⟨bc 0 c,bc 1 c,bc 2 c⟩ (fun hHeld=>?_);clear hK K;refine nA ?_;refine more_ (fun w'=>w'.cell? ⟨g,0,none⟩=some (.string l)∧w'.cell? ⟨g,1,none⟩=some (.int .i64 j)∧w'.cell? ⟨g,2,none⟩=some (.slice m i.length o)∧w'.cell? p=some (.string ((a_ v 0).f0))∧w'.cell? ⟨p.block,p.off+1,none⟩=some (.int .i64 ((a_ v 0).f1))∧w'.cell? ⟨p.block,p.off+2,none⟩=some (.int .i64 ((a_ v 0).f2))∧w'.cell? ⟨p.block,p.off+3,none⟩=some (.string ((a_ v 0).f3))) (fun w' h=>⟨h.1,h.2.1,h.2.2.1⟩) ⟨bc 0 c,bc 1 c,bc 2 c,q,s,t,u⟩ (fun hHeld=>?_);refine pB 17 rfl rfl ?_;refine pB 18 rfl rfl ?_;refine tB 19 hHeld rfl rfl ?_
   refine oB 22 rfl rfl fun K hK=>?_
   refine gB Tryz.func49 #[.int .i64 j] rfl rfl ?_
   with_reducible refine(impl_serialText.calls _ _ _ ?side1 A8.out).mono ?_
   (case side1=>exact GW HGL);rintro e ad ⟨rfl,hb⟩;have HS3_:=hS hb (hHeld.2.2.2.1);have HS4_:=hS hb (hHeld.2.2.2.2.1);have HS5_:=hS hb (hHeld.2.2.2.2.2.1);have HS6_:=hS hb (hHeld.2.2.2.2.2.2);refine⟨_,rfl,?_⟩;replace x:=RB x hb;replace c:=KB c hb;replace HB:=BS hb;clear hb;refine hK.out _ _ ⟨bc 0 c,bc 1 c,bc 2 c,HS3_,HS4_,HS5_,HS6_⟩ (fun hHeld=>?_);clear hK K;refine nA ?_;refine pB 23 rfl rfl ?_;refine pB 24 rfl rfl ?_;refine pB 25 rfl rfl ?_;refine done_ (bz_ HT_.out KR) ?_
   try go_wp2
   go_ret;exact⟨TE,TB⟩
  ·replace H:=qN c5 H;obtain⟨I,J,H⟩:=H;obtain rfl:=Option.some.inj H;go_enter Tryz.func23,Tryz.ntmps23
   try go_wp2_with (first|(refine gD 1 rfl ?_;refine bE 1 #[.string l,.int .i64 j,.slice m i.length o] 32 ?_;intro g hg O hbox hb;have c:=AM (hbox);replace HB:=BS hb;clear hb hbox hg))
   replace c:=AM (ai_ c.out);replace HB:=AM (ar_ HB.out);refine start_ (n:=26) (S:=fun w'=>w'.cell? ⟨g,0,none⟩=some (.string l)∧w'.cell? ⟨g,1,none⟩=some (.int .i64 j)∧w'.cell? ⟨g,2,none⟩=some (.slice m i.length o)) (ds:=[]) (mL 26 0) KR rfl KR ⟨bc 0 c,bc 1 c,bc 2 c⟩ (fun hHeld=>?_);refine bg_ bf_.tab1 bf_.bits1 (fun HT_ HW_=>?_);generalize O.drew=ae at c HB hHeld ⊢;refine pB 0 rfl rfl ?_;refine tB 1 hHeld rfl rfl ?_
   refine oB 2 rfl rfl fun K hK=>?_
   refine gB Tryz.func46 #[.int .i64 j] rfl rfl ?_
   with_reducible refine(bd_.calls _ _ _ A2.out).mono ?_
   rintro e w' ⟨rfl,⟨nd,rfl⟩⟩;refine⟨_,rfl,?_⟩;refine hK.out _ _ ⟨bc 0 c,bc 1 c,bc 2 c⟩ (fun hHeld=>?_);clear hK K;refine nA ?_;refine pB 3 rfl rfl ?_;refine pB 4 rfl rfl ?_;refine pB 6 rfl rfl ?_;refine tB 5 hHeld rfl rfl ?_;refine tB 7 hHeld rfl rfl ?_
   refine oB 8 rfl rfl fun K hK=>?_
   refine gB Tryz.func47 #[.string l,.slice m i.length o] rfl rfl ?_
   with_reducible refine(bL_.calls _ _ _ _ _ _ _ ?side1 ?side2 ?side3 A4.out).mono ?_
   (case side1=>exact CW ((Kd.ae_ y.out TB)));(case side2=>exact z.out);(case side3=>exact GW HGL);rintro e af ⟨rfl,hb⟩;refine⟨_,rfl,?_⟩;replace c:=KB c hb;replace HB:=BS hb;clear hb;refine hK.out _ _ ⟨bc 0 c,bc 1 c,bc 2 c⟩ (fun hHeld=>?_);clear hK K;refine nA ?_;refine pB 9 rfl rfl ?_;refine pB 10 rfl rfl ?_;refine pB 11 rfl rfl ?_;refine uB 12 rfl rfl ?_;refine uB 13 rfl rfl ?_;refine uB 14 rfl rfl ?_;refine uB 15 rfl rfl ?_;refine uB 16 rfl rfl ?_;refine uB 17 rfl rfl ?_;refine uB 18 rfl rfl ?_;refine uB 19 rfl rfl ?_;refine uB 20 rfl rfl ?_;refine uB 21 rfl rfl ?_;refine uB 22 rfl rfl ?_;refine uB 23 rfl rfl ?_;refine pB 24 rfl rfl ?_;refine pB 25 rfl rfl ?_;refine done_ (bz_ HT_.out KR) ?_
   try go_wp2
   go_ret;exact⟨TE,TB⟩
 ·replace c3:=Bool.eq_false_iff.mpr c3;subst c3;replace H:=iff' H;obtain rfl:=Option.some.inj H;go_enter Tryz.func23,Tryz.ntmps23
  try go_wp2_with (first|(refine gD 1 rfl ?_;refine bE 1 #[.string l,.int .i64 j,.slice m i.length o] 32 ?_;intro g hg R hbox hb;have c:=AM (hbox);replace HB:=BS hb;clear hb hbox hg))
  replace c:=AM (ai_ c.out);replace HB:=AM (ar_ HB.out);refine start_ (n:=26) (S:=fun w'=>w'.cell? ⟨g,0,none⟩=some (.string l)∧w'.cell? ⟨g,1,none⟩=some (.int .i64 j)∧w'.cell? ⟨g,2,none⟩=some (.slice m i.length o)) (ds:=[]) (mL 26 0) KR rfl KR ⟨bc 0 c,bc 1 c,bc 2 c⟩ (fun hHeld=>?_);refine bg_ bf_.tab1 bf_.bits1 (fun HT_ HW_=>?_);generalize R.drew=ag at c HB hHeld ⊢;refine pB 0 rfl rfl ?_;refine tB 1 hHeld rfl rfl ?_
  refine oB 2 rfl rfl fun K hK=>?_
  refine gB Tryz.func46 #[.int .i64 j] rfl rfl ?_
  with_reducible refine(bd_.calls _ _ _ A2.out).mono ?_
  rintro e w' ⟨rfl,⟨nd,rfl⟩⟩;refine⟨_,rfl,?_⟩;refine hK.out _ _ ⟨bc 0 c,bc 1 c,bc 2 c⟩ (fun hHeld=>?_);clear hK K;refine nA ?_;refine pB 3 rfl rfl ?_;refine uB 4 rfl rfl ?_;refine uB 5 rfl rfl ?_;refine uB 6 rfl rfl ?_;refine uB 7 rfl rfl ?_;refine uB 8 rfl rfl ?_;refine uB 9 rfl rfl ?_;refine pB 10 rfl rfl ?_;refine pB 11 rfl rfl ?_;refine uB 12 rfl rfl ?_;refine uB 13 rfl rfl ?_;refine uB 14 rfl rfl ?_;refine uB 15 rfl rfl ?_;refine uB 16 rfl rfl ?_;refine uB 17 rfl rfl ?_;refine uB 18 rfl rfl ?_;refine uB 19 rfl rfl ?_;refine uB 20 rfl rfl ?_;refine uB 21 rfl rfl ?_;refine uB 22 rfl rfl ?_;refine uB 23 rfl rfl ?_;refine pB 24 rfl rfl ?_;refine pB 25 rfl rfl ?_;refine done_ (bz_ HT_.out KR) ?_
  try go_wp2
  go_ret;exact⟨TE,TB⟩
end
section
def impl_isDiff.f (k:Nat) (c:Int) (g:Int) (h:List (aa_)) (i:List (aa_)):Option (Bool):=(bd_.f c).bind fun j=>(if j=true then((bd_.f g).bind fun l=>(if l=true then(if c=g then(some false) else(if (h.length:Int)≤40 then(if (i.length:Int)≤40 then((aS_.f k h).bind fun m=>(if m=true then((aS_.f k i).bind fun n=>(some n)) else(some false))) else(some false)) else(some false))) else(some false))) else(some false))
theorem impl_isDiff.calls (k:Nat) (g:Int) (l:Int) (m:Option Addr) (n:Nat) (i:List (aa_)) (o:Option Addr) (p:Nat) (j:List (aa_)) (r:Bool) (w:World) (s:Kd.C af_ w m i.length i) (t:i.length≤n) (u:Kd.C af_ w o j.length j) (v:j.length≤p) (hG_:Glob w) (h:impl_isDiff.f k g l i j=some r) :
  Calls Tryz.prog 78 #[.agg #[.int .i64 g,.int .i64 l,.slice m i.length n,.slice o j.length p]] w fun e w'=>e=.returned (.bool r)∧Below w.heap.size w w':=by
 have hu52:=Tryz.underlying52;have x:=AM s;have y:=AM t;clear s t;have A:=AM u;have B:=AM v;clear u v;have HGL:=AM hG_;clear hG_;have HB:=BZ w;have H:=h;clear h;unfold impl_isDiff.f at H;obtain⟨F,A2,H⟩:=bnd H;by_cases c3:F=true
 ·subst c3;replace H:=ift H;obtain⟨G,A4,H⟩:=bnd H;by_cases c5:G=true
  ·subst c5;replace H:=ift H;by_cases c6:g=l
   ·replace H:=qP c6 H;obtain⟨I,J,H⟩:=H;clear c6;obtain rfl:=Option.some.inj H;go_enter Tryz.func78,Tryz.ntmps78;go_wp2_with (first|((with_reducible refine ax_ (N:=1) rfl ?_);(try (refine aQ_ (by rfl) ?_;dsimp only));refine bE 1 #[.int .i64 g,.int .i64 l,.slice m i.length n,.slice o j.length p] 52 ?_;intro q hg w7 hbox hb;have c:=AM (hbox);replace HB:=BS hb;clear hb hbox hg;have ac:=cz4 c)|(refine gL 5 rfl Tryz.func46 #[.int .i64 g] rfl TA ?_;(with_reducible refine(bd_.calls _ _ _ A2.out).mono ?_);rintro e w' ⟨rfl,⟨nd,rfl⟩⟩;refine⟨_,rfl,?_⟩)|(go_at_call 46;(with_reducible refine(bd_.calls _ _ _ A4.out).mono ?_);rintro e w' ⟨rfl,⟨nd,rfl⟩⟩));go_ret;exact⟨TE,TB⟩
   ·replace H:=qN c6 H;obtain⟨I,J,H⟩:=H;by_cases c9:(i.length:Int)≤40
    ·rw[if_pos c9] at H;have K:=decide_eq_true c9;have M:decide (i.length≤40)=true:=decide_eq_true (by omega);clear c9;by_cases c10:(j.length:Int)≤40
     ·rw[if_pos c10] at H;have D:=decide_eq_true c10;have E:decide (j.length≤40)=true:=decide_eq_true (by omega);clear c10;obtain⟨O,R,H⟩:=bnd H;by_cases z:O=true
      ·subst z;replace H:=ift H;obtain⟨ad,U,H⟩:=bnd H;obtain rfl:=Option.some.inj H;go_enter Tryz.func78,Tryz.ntmps78;go_wp2_with (first|((with_reducible refine ax_ (N:=1) rfl ?_);(try (refine aQ_ (by rfl) ?_;dsimp only));refine bE 1 #[.int .i64 g,.int .i64 l,.slice m i.length n,.slice o j.length p] 52 ?_;intro q hg ae hbox hb;have c:=AM (hbox);replace HB:=BS hb;clear hb hbox hg;have V:=cz4 c)|(refine gL 5 rfl Tryz.func46 #[.int .i64 g] rfl TA ?_;(with_reducible refine(bd_.calls _ _ _ A2.out).mono ?_);rintro e w' ⟨rfl,⟨nd,rfl⟩⟩;refine⟨_,rfl,?_⟩)|(go_at_call 46;(with_reducible refine(bd_.calls _ _ _ A4.out).mono ?_);rintro e w' ⟨rfl,⟨nd,rfl⟩⟩)|(go_at_call 90;(with_reducible refine(aS_.calls _ _ _ _ _ _ ?side1 ?side2 ?side3 R.out).mono ?_);(case side1=>exact CW ((Kd.ae_ x.out TB)));(case side2=>exact y.out);(case side3=>exact GW HGL);rintro e af ⟨rfl,hb⟩;replace c:=KB c hb;replace HB:=BS hb;clear hb;have W:=cz4 c)|(go_at_call 90;(with_reducible refine(aS_.calls _ _ _ _ _ _ ?side1 ?side2 ?side3 U.out).mono ?_);(case side1=>exact CW ((Kd.ae_ A.out HB.out)));(case side2=>exact B.out);(case side3=>exact GW HGL);rintro e ag ⟨rfl,hb⟩;replace c:=KB c hb;replace HB:=BS hb;clear hb));go_ret;exact⟨TE,TB⟩
      ·replace z:=Bool.eq_false_iff.mpr z;subst z;replace H:=iff' H;obtain rfl:=Option.some.inj H;go_enter Tryz.func78,Tryz.ntmps78;go_wp2_with (first|((with_reducible refine ax_ (N:=1) rfl ?_);(try (refine aQ_ (by rfl) ?_;dsimp only));refine bE 1 #[.int .i64 g,.int .i64 l,.slice m i.length n,.slice o j.length p] 52 ?_;intro q hg ah hbox hb;have c:=AM (hbox);replace HB:=BS hb;clear hb hbox hg;have X:=cz4 c)|(refine gL 5 rfl Tryz.func46 #[.int .i64 g] rfl TA ?_;(with_reducible refine(bd_.calls _ _ _ A2.out).mono ?_);rintro e w' ⟨rfl,⟨nd,rfl⟩⟩;refine⟨_,rfl,?_⟩)|(go_at_call 46;(with_reducible refine(bd_.calls _ _ _ A4.out).mono ?_);rintro e w' ⟨rfl,⟨nd,rfl⟩⟩)|(go_at_call 90;(with_reducible refine(aS_.calls _ _ _ _ _ _ ?side1 ?side2 ?side3 R.out).mono ?_);(case side1=>exact CW ((Kd.ae_ x.out TB)));(case side2=>exact y.out);(case side3=>exact GW HGL);rintro e ai ⟨rfl,hb⟩;replace c:=KB c hb;replace HB:=BS hb;clear hb));go_ret;exact⟨TE,TB⟩
     ·rw[if_neg c10] at H;have D:=decide_eq_false c10;have E:decide (j.length≤40)=false:=decide_eq_false (by omega);clear c10;obtain rfl:=Option.some.inj H;go_enter Tryz.func78,Tryz.ntmps78;go_wp2_with (first|((with_reducible refine ax_ (N:=1) rfl ?_);(try (refine aQ_ (by rfl) ?_;dsimp only));refine bE 1 #[.int .i64 g,.int .i64 l,.slice m i.length n,.slice o j.length p] 52 ?_;intro q hg aj hbox hb;have c:=AM (hbox);replace HB:=BS hb;clear hb hbox hg;have Y:=cz4 c)|(refine gL 5 rfl Tryz.func46 #[.int .i64 g] rfl TA ?_;(with_reducible refine(bd_.calls _ _ _ A2.out).mono ?_);rintro e w' ⟨rfl,⟨nd,rfl⟩⟩;refine⟨_,rfl,?_⟩)|(go_at_call 46;(with_reducible refine(bd_.calls _ _ _ A4.out).mono ?_);rintro e w' ⟨rfl,⟨nd,rfl⟩⟩));go_ret;exact⟨TE,TB⟩
    ·rw[if_neg c9] at H;have K:=decide_eq_false c9;have M:decide (i.length≤40)=false:=decide_eq_false (by omega);clear c9;obtain rfl:=Option.some.inj H;go_enter Tryz.func78,Tryz.ntmps78;go_wp2_with (first|((with_reducible refine ax_ (N:=1) rfl ?_);(try (refine aQ_ (by rfl) ?_;dsimp only));refine bE 1 #[.int .i64 g,.int .i64 l,.slice m i.length n,.slice o j.length p] 52 ?_;intro q hg ak hbox hb;have c:=AM (hbox);replace HB:=BS hb;clear hb hbox hg;have Z:=cz4 c)|(refine gL 5 rfl Tryz.func46 #[.int .i64 g] rfl TA ?_;(with_reducible refine(bd_.calls _ _ _ A2.out).mono ?_);rintro e w' ⟨rfl,⟨nd,rfl⟩⟩;refine⟨_,rfl,?_⟩)|(go_at_call 46;(with_reducible refine(bd_.calls _ _ _ A4.out).mono ?_);rintro e w' ⟨rfl,⟨nd,rfl⟩⟩));go_ret;exact⟨TE,TB⟩
  ·replace c5:=Bool.eq_false_iff.mpr c5;subst c5;replace H:=iff' H;obtain rfl:=Option.some.inj H;go_enter Tryz.func78,Tryz.ntmps78;go_wp2_with (first|((with_reducible refine ax_ (N:=1) rfl ?_);(try (refine aQ_ (by rfl) ?_;dsimp only));refine bE 1 #[.int .i64 g,.int .i64 l,.slice m i.length n,.slice o j.length p] 52 ?_;intro q hg al hbox hb;have c:=AM (hbox);replace HB:=BS hb;clear hb hbox hg;have aa:=cz4 c)|(refine gL 5 rfl Tryz.func46 #[.int .i64 g] rfl TA ?_;(with_reducible refine(bd_.calls _ _ _ A2.out).mono ?_);rintro e w' ⟨rfl,⟨nd,rfl⟩⟩;refine⟨_,rfl,?_⟩)|(go_at_call 46;(with_reducible refine(bd_.calls _ _ _ A4.out).mono ?_);rintro e w' ⟨rfl,⟨nd,rfl⟩⟩));go_ret;exact⟨TE,TB⟩
 ·replace c3:=Bool.eq_false_iff.mpr c3;subst c3;replace H:=iff' H;obtain rfl:=Option.some.inj H;go_enter Tryz.func78,Tryz.ntmps78;go_wp2_with (first|((with_reducible refine ax_ (N:=1) rfl ?_);(try (refine aQ_ (by rfl) ?_;dsimp only));refine bE 1 #[.int .i64 g,.int .i64 l,.slice m i.length n,.slice o j.length p] 52 ?_;intro q hg am hbox hb;have c:=AM (hbox);replace HB:=BS hb;clear hb hbox hg;have ab:=cz4 c)|(refine gL 5 rfl Tryz.func46 #[.int .i64 g] rfl TA ?_;(with_reducible refine(bd_.calls _ _ _ A2.out).mono ?_);rintro e w' ⟨rfl,⟨nd,rfl⟩⟩;refine⟨_,rfl,?_⟩));go_ret;exact⟨TE,TB⟩
end
section
attribute [local go_sem high] eqARecord
def aI_.l0:Nat→List (aa_)→Int→Int→ByteArray→Int→Int→ByteArray→Option (Int)
 | 0,_,_,_,_,_,_,_=>none
 | k+1,x0,x7,x8,c,f,g,h=>if x8<x7 then(if 0≤x8 then(if x8<(x0.length:Int) then(if (c.toList==(((a_ x0 x8).f0).toList)&&(f==((a_ x0 x8).f1)&&(g==((a_ x0 x8).f2)&&(h.toList==(((a_ x0 x8).f3).toList)))))=true then(some x8) else(aI_.l0 k x0 x7 (wrap64 (x8+1)) c f g h)) else(none)) else(none)) else(some (-1))
def aI_.f (k:Nat) (l0:List (aa_)) (a1_0:ByteArray) (a1_1:Int) (a1_2:Int) (a1_3:ByteArray):Option (Int):=aI_.l0 k l0 (l0.length:Int) 0 a1_0 a1_1 a1_2 a1_3
theorem aI_.calls (k:Nat) (A0:Option Addr) (c0:Nat) (l0:List (aa_)) (g:ByteArray) (i:Int) (j:Int) (l:ByteArray) (r:Int) (w:World) (y:Kd.C af_ w A0 l0.length l0) (z:l0.length≤c0) (h:aI_.f k l0 g i j l=some r) :
  Calls Tryz.prog 99 #[.slice A0 l0.length c0,.agg #[.string g,.int .i64 i,.int .i64 j,.string l]] w fun e w'=>e=.returned (.int .i64 r)∧Below w.heap.size w w':=by
 have hu71:=Tryz.underlying71;have A:=AM y;have N:=AM z;clear y z;have HB:=BZ w;have H:=h;clear h;unfold aI_.f at H;have H':=AM H;clear H;go_enter Tryz.func99,Tryz.ntmps99;go_wp2_with (first|(refine gD 3 rfl ?_;refine bE 3 #[.string g,.int .i64 i,.int .i64 j,.string l] 71 ?_;intro v hg w3 hbox hb;have m:=AM (hbox);replace HB:=BS hb;clear hb hbox hg)|((with_reducible refine gQ ?_);go_quiet (fail)));go_loopg [8] k (fun kq v8 w'=>∃(c:Int),v8=.int .i64 c∧Aside0 (aI_.l0 kq l0 (l0.length:Int) c g i j l=some r)∧Aside0 (kq≤k)∧Aside0 (w'.heap[v]? = some (.cells #[.string g,.int .i64 i,.int .i64 j,.string l] 71 (0,0)))∧Aside0 (Below w.heap.size w w'))
 case atStart=>exact⟨(0),TF,H',NL,KW m,⟨TB⟩⟩
 case round =>
  clear H';obtain⟨c,rfl,HA,HK1,m,HB⟩:=hrel
  cases gk with
  | zero=>exact absurd HA.out (by simp[aI_.l0])
  | succ k1 =>
   have H:=HA.out;clear HA;simp only[aI_.l0] at H;by_cases c4:c<(l0.length:Int)
   ·rw[if_pos c4] at H;have B:=decide_eq_true c4;clear c4;obtain⟨G,H⟩:=dn H;obtain⟨I,H⟩:=dn H;by_cases c7:(g.toList==(((a_ l0 c).f0).toList)&&(i==((a_ l0 c).f1)&&(j==((a_ l0 c).f2)&&(l.toList==(((a_ l0 c).f3).toList)))))=true
    ·rw[if_pos c7] at H;have D:(g.toList==(((a_ l0 c).f0).toList)&&(i==((a_ l0 c).f1)&&(j==((a_ l0 c).f2)&&(l.toList==(((a_ l0 c).f3).toList)))))=true:=c7;(try (have E:decide (g.toList=(((a_ l0 c).f0).toList)&&(i==((a_ l0 c).f1)&&(j==((a_ l0 c).f2)&&(l.toList==(((a_ l0 c).f3).toList)))))=true:=by simpa using c7));(try (have F:(g.toList==(((a_ l0 c).f0).toList)&&(i==((a_ l0 c).f1)&&(j==((a_ l0 c).f2)&&(l.toList==(((a_ l0 c).f3).toList)))))=true:=by simpa using c7));clear c7;obtain rfl:=Option.some.inj H;have J:=cz4 m;have n:0≤(c:Int):=TD;have o:c<(l0.length:Int):=TD;obtain⟨x,p,q,s,t,u⟩:=aw_ (Kd.ae_ A.out HB.out) c n o;cases p;replace n:=eq_true n;replace o:=eq_true o;go_wp2
     repeat (go_quiet (fail);try go_wp2)
     go_ret;exact⟨TE,TB⟩
    ·rw[if_neg c7] at H
     have D:(g.toList==(((a_ l0 c).f0).toList)&&(i==((a_ l0 c).f1)&&(j==((a_ l0 c).f2)&&(l.toList==(((a_ l0 c).f3).toList)))))=false:=by simpa using c7
     (try (have E:decide (g.toList=(((a_ l0 c).f0).toList)&&(i==((a_ l0 c).f1)&&(j==((a_ l0 c).f2)&&(l.toList==(((a_ l0 c).f3).toList)))))=false:=by simpa using c7));(try (have F:(g.toList==(((a_ l0 c).f0).toList)&&(i==((a_ l0 c).f1)&&(j==((a_ l0 c).f2)&&(l.toList==(((a_ l0 c).f3).toList)))))=false:=by simpa using c7));(try (have K:¬(g.toList=(((a_ l0 c).f0).toList)&&(i==((a_ l0 c).f1)&&(j==((a_ l0 c).f2)&&(l.toList==(((a_ l0 c).f3).toList))))):=by simpa using c7));clear c7;have H':=AM H;clear H;have M:=cz4 m;have n:0≤(c:Int):=TD;have o:c<(l0.length:Int):=TD;obtain⟨x,p,q,s,t,u⟩:=aw_ (Kd.ae_ A.out HB.out) c n o;cases p;replace n:=eq_true n;replace o:=eq_true o;go_wp2
     repeat (go_quiet (fail);try go_wp2)
     go_roundg k1
     case measure=>exact TM
     case rel=>exact⟨(wrap64 (c+1)),TF,H',⟨TM⟩,KW m,⟨TB⟩⟩
   ·rw[if_neg c4] at H;have B:=decide_eq_false c4;clear c4;obtain rfl:=Option.some.inj H;go_wp2
    repeat (go_quiet (fail);try go_wp2)
    go_ret;exact⟨TE,TB⟩
end
section
def ba_.f (k:Nat) (l0:List (aa_)) (a1_0:ByteArray) (a1_1:Int) (a1_2:Int) (a1_3:ByteArray):Option (Bool):=(aI_.f k l0 a1_0 a1_1 a1_2 a1_3).bind fun t668=>(some (decide (t668≥0)))
theorem ba_.calls (k:Nat) (A0:Option Addr) (c0:Nat) (l0:List (aa_)) (g:ByteArray) (i:Int) (j:Int) (l:ByteArray) (r:Bool) (w:World) (m:Kd.C af_ w A0 l0.length l0) (n:l0.length≤c0) (h:ba_.f k l0 g i j l=some r) :
  Calls Tryz.prog 80 #[.slice A0 l0.length c0,.agg #[.string g,.int .i64 i,.int .i64 j,.string l]] w fun e w'=>e=.returned (.bool r)∧Below w.heap.size w w':=by
 have hu71:=Tryz.underlying71;have o:=AM m;have p:=AM n;clear m n;have HB:=BZ w;have H:=h;clear h;unfold ba_.f at H;obtain⟨s,A3,H⟩:=bnd H;obtain rfl:=Option.some.inj H;go_enter Tryz.func80,Tryz.ntmps80;go_wp2_with (first|(refine gD 3 rfl ?_;refine bE 3 #[.string g,.int .i64 i,.int .i64 j,.string l] 71 ?_;intro q hg w4 hbox hb;have c:=AM (hbox);replace HB:=BS hb;clear hb hbox hg;have t:=cz4 c)|(refine gL 7 rfl Tryz.func99 #[.slice A0 l0.length c0,.agg #[.string g,.int .i64 i,.int .i64 j,.string l]] rfl TA ?_;(with_reducible refine(aI_.calls _ _ _ _ _ _ _ _ _ _ ?side1 ?side2 A3.out).mono ?_);(case side1=>exact CW ((Kd.ae_ o.out HB.out)));(case side2=>exact p.out);rintro e w6 ⟨rfl,hb⟩;refine⟨_,rfl,?_⟩;replace c:=KB c hb;replace HB:=BS hb;clear hb));go_ret;exact⟨TE,TB⟩
end
section
def cQ_.f (k:Nat) (a0_0:ByteArray) (a0_1:Int) (a0_2:Int) (a0_3:ByteArray) (a1_0:Int) (a1_1:Int) (l1_2:List (aa_)) (l1_3:List (aa_)):Option (Bool):=(ba_.f k l1_3 a0_0 a0_1 a0_2 a0_3).bind fun t670=>(some t670)
theorem cQ_.calls (k:Nat) (j:ByteArray) (l:Int) (m:Int) (n:ByteArray) (g1_:Nat) (x:Int) (y:Int) (z:Option Addr) (A:Nat) (g:List (aa_)) (o:Option Addr) (p:Nat) (c:List (aa_)) (r:Bool) (w:World) (q:Kd.C af_ w z g.length g) (s:g.length≤A) (t:Kd.C af_ w o c.length c) (u:c.length≤p) (hkg1_:w.heap[g1_]? = some (.cells #[.int .i64 x,.int .i64 y,.slice z g.length A,.slice o c.length p] 52 (0,0))) (h:cQ_.f k j l m n x y g c=some r) :
  Calls Tryz.prog 79 #[.agg #[.string j,.int .i64 l,.int .i64 m,.string n],.pointer (some ⟨g1_,0,none⟩)] w fun e w'=>e=.returned (.bool r)∧Below w.heap.size w w':=by
 have hu71:=Tryz.underlying71;have F:=AM q;have G:=AM s;clear q s;have B:=AM t;have D:=AM u;clear t u;have BKrg1_:=AM hkg1_;clear hkg1_;have HB:=BZ w;have H:=h;clear h;unfold cQ_.f at H;obtain⟨J,A3,H⟩:=bnd H;obtain rfl:=Option.some.inj H;go_enter Tryz.func79,Tryz.ntmps79;go_wp2_with (first|(refine gD 2 rfl ?_;refine bE 2 #[.string j,.int .i64 l,.int .i64 m,.string n] 71 ?_;intro I hg w4 hbox hb;have i:=AM (hbox);replace HB:=BS hb;have v:=bN BKrg1_ hg;have E:=bM BKrg1_ hg;replace BKrg1_:=KB BKrg1_ hb;clear hb hbox hg;obtain⟨K,M⟩:=nn v;have N:=cz4 BKrg1_;have O:=cz4 i)|(refine gL 7 rfl Tryz.func80 #[.slice o c.length p,.agg #[.string j,.int .i64 l,.int .i64 m,.string n]] rfl TA ?_;(with_reducible refine(ba_.calls _ _ _ _ _ _ _ _ _ _ ?side1 ?side2 A3.out).mono ?_);(case side1=>exact CW ((Kd.ae_ B.out HB.out)));(case side2=>exact D.out);rintro e w8 ⟨rfl,hb⟩;refine⟨_,rfl,?_⟩;replace BKrg1_:=KB BKrg1_ hb;replace i:=KB i hb;replace HB:=BS hb;clear hb));go_ret;exact⟨TE,TB⟩
end
section
def ak_.l0:Nat→List (aa_)→Int→Int→Int→Int→List (aa_)→List (aa_)→Option (Int)
 | 0,_,_,_,_,_,_,_=>none
 | k+1,x0,x7,x8,c,g,h,i=>if x8<x7 then(if 0≤x8 then(if x8<(x0.length:Int) then((cQ_.f k ((a_ x0 x8).f0) ((a_ x0 x8).f1) ((a_ x0 x8).f2) ((a_ x0 x8).f3) c g h i).bind fun j=>(if j=true then(some x8) else(ak_.l0 k x0 x7 (wrap64 (x8+1)) c g h i))) else(none)) else(none)) else(some (-1))
def ak_.f (k:Nat) (l0:List (aa_)) (a1_0:Int) (a1_1:Int) (l1_2:List (aa_)) (l1_3:List (aa_)):Option (Int):=ak_.l0 k l0 (l0.length:Int) 0 a1_0 a1_1 l1_2 l1_3
theorem ak_.calls (k:Nat) (A0:Option Addr) (c0:Nat) (l0:List (aa_)) (g1_0_:Nat) (m:Int) (n:Int) (o:Option Addr) (p:Nat) (g:List (aa_)) (q:Option Addr) (s:Nat) (i:List (aa_)) (r:Int) (w:World) (K:Kd.C af_ w A0 l0.length l0) (M:l0.length≤c0) (t:Kd.C af_ w o g.length g) (u:g.length≤p) (v:Kd.C af_ w q i.length i) (x:i.length≤s) (hkg1_0_:w.heap[g1_0_]? = some (.cells #[.int .i64 m,.int .i64 n,.slice o g.length p,.slice q i.length s] 52 (0,0))) (h:ak_.f k l0 m n g i=some r) :
  Calls Tryz.prog 91 #[.slice A0 l0.length c0,.func (.func 79) #[] #[.pointer (some ⟨g1_0_,0,none⟩)]] w fun e w'=>e=.returned (.int .i64 r)∧Below w.heap.size w w':=by
 have hu71:=Tryz.underlying71;have N:=AM K;have W:=AM M;clear K M;have y:=AM t;have z:=AM u;clear t u;have A:=AM v;have B:=AM x;clear v x;have BKrg1_0_:=AM hkg1_0_;clear hkg1_0_;have HB:=BZ w;have H:=h;clear h;unfold ak_.f at H;have H':=AM H;clear H;go_enter Tryz.func91,Tryz.ntmps91;go_wp2;go_loopg [8] k (fun kq v8 w'=>∃(c:Int),v8=.int .i64 c∧Aside0 (ak_.l0 kq l0 (l0.length:Int) c m n g i=some r)∧Aside0 (kq≤k)∧Aside0 (w'.heap[g1_0_]? = some (.cells #[.int .i64 m,.int .i64 n,(.slice o g.length p),(.slice q i.length s)] 52 (0,0)))∧Aside0 (Below w.heap.size w w'))
 case atStart=>exact⟨(0),TF,H',NL,KW BKrg1_0_,⟨TB⟩⟩
 case round =>
  clear H';obtain⟨c,rfl,HA,HK1,BKrg1_0_,HB⟩:=hrel
  cases gk with
  | zero=>exact absurd HA.out (by simp[ak_.l0])
  | succ k1 =>
   have H:=HA.out;clear HA;simp only[ak_.l0] at H;by_cases c3:c<(l0.length:Int)
   ·rw[if_pos c3] at H;have O:=decide_eq_true c3;clear c3;obtain⟨U,H⟩:=dn H;obtain⟨V,H⟩:=dn H;obtain⟨R,A6,H⟩:=bnd H;by_cases c7:R=true
    ·subst c7;replace H:=ift H;obtain rfl:=Option.some.inj H;have j:0≤(c:Int):=TD;have l:c<(l0.length:Int):=TD;obtain⟨J,D,E,F,G,I⟩:=aw_ (Kd.ae_ N.out HB.out) c j l;cases D;replace j:=eq_true j;replace l:=eq_true l;go_wp2_with (first|(go_at_call 79;(with_reducible refine(cQ_.calls k1 ((a_ l0 c).f0) ((a_ l0 c).f1) ((a_ l0 c).f2) ((a_ l0 c).f3) g1_0_ m n o p g q s i true _ ?side1 ?side2 ?side3 ?side4 ?side5 A6.out).mono ?_);(case side1=>exact CW ((Kd.ae_ y.out HB.out)));(case side2=>exact z.out);(case side3=>exact CW ((Kd.ae_ A.out HB.out)));(case side4=>exact B.out);(case side5=>exact(KW BKrg1_0_).out);rintro e w8 ⟨rfl,hb⟩;replace BKrg1_0_:=KB BKrg1_0_ hb;replace HB:=BS hb;clear hb));go_ret;exact⟨TE,TB⟩
    ·replace c7:=Bool.eq_false_iff.mpr c7;subst c7;replace H:=iff' H;have H':=AM H;clear H;have j:0≤(c:Int):=TD;have l:c<(l0.length:Int):=TD;obtain⟨J,D,E,F,G,I⟩:=aw_ (Kd.ae_ N.out HB.out) c j l;cases D;replace j:=eq_true j;replace l:=eq_true l;go_wp2_with (first|(go_at_call 79;(with_reducible refine(cQ_.calls k1 ((a_ l0 c).f0) ((a_ l0 c).f1) ((a_ l0 c).f2) ((a_ l0 c).f3) g1_0_ m n o p g q s i false _ ?side1 ?side2 ?side3 ?side4 ?side5 A6.out).mono ?_);(case side1=>exact CW ((Kd.ae_ y.out HB.out)));(case side2=>exact z.out);(case side3=>exact CW ((Kd.ae_ A.out HB.out)));(case side4=>exact B.out);(case side5=>exact(KW BKrg1_0_).out);rintro e w9 ⟨rfl,hb⟩;replace BKrg1_0_:=KB BKrg1_0_ hb;replace HB:=BS hb;clear hb));go_roundg k1
     case measure=>exact TM
     case rel=>exact⟨(wrap64 (c+1)),TF,H',⟨TM⟩,KW BKrg1_0_,⟨TB⟩⟩
   ·rw[if_neg c3] at H;have O:=decide_eq_false c3;clear c3;obtain rfl:=Option.some.inj H;go_wp2;go_ret;exact⟨TE,TB⟩
end
section
def aN_.f (k:Nat) (l0:List (aa_)) (a1_0:Int) (a1_1:Int) (l1_2:List (aa_)) (l1_3:List (aa_)):Option (Bool):=(ak_.f k l0 a1_0 a1_1 l1_2 l1_3).bind fun t673=>(some (decide (t673≥0)))
theorem aN_.calls (k:Nat) (A0:Option Addr) (c0:Nat) (l0:List (aa_)) (g1_0_:Nat) (i:Int) (j:Int) (l:Option Addr) (m:Nat) (c:List (aa_)) (n:Option Addr) (o:Nat) (g:List (aa_)) (r:Bool) (w:World) (z:Kd.C af_ w A0 l0.length l0) (A:l0.length≤c0) (p:Kd.C af_ w l c.length c) (q:c.length≤m) (s:Kd.C af_ w n g.length g) (t:g.length≤o) (hkg1_0_:w.heap[g1_0_]? = some (.cells #[.int .i64 i,.int .i64 j,.slice l c.length m,.slice n g.length o] 52 (0,0))) (h:aN_.f k l0 i j c g=some r) :
  Calls Tryz.prog 70 #[.slice A0 l0.length c0,.func (.func 79) #[] #[.pointer (some ⟨g1_0_,0,none⟩)]] w fun e w'=>e=.returned (.bool r)∧Below w.heap.size w w':=by
 have D:=AM z;have E:=AM A;clear z A;have u:=AM p;have v:=AM q;clear p q;have x:=AM s;have y:=AM t;clear s t;have BKrg1_0_:=AM hkg1_0_;clear hkg1_0_;have HB:=BZ w;have H:=h;clear h;unfold aN_.f at H;obtain⟨B,A3,H⟩:=bnd H;obtain rfl:=Option.some.inj H;go_enter Tryz.func70,Tryz.ntmps70;go_wp2_with (first|(refine gL 7 rfl Tryz.func91 #[.slice A0 l0.length c0,.func (.func 79) #[] #[.pointer (some ⟨g1_0_,0,none⟩)]] rfl TA ?_;(with_reducible refine(ak_.calls k _ _ l0 g1_0_ i j l m c n o g B _ ?side1 ?side2 ?side3 ?side4 ?side5 ?side6 ?side7 A3.out).mono ?_);(case side1=>exact CW (D.out));(case side2=>exact E.out);(case side3=>exact CW (u.out));(case side4=>exact v.out);(case side5=>exact CW (x.out));(case side6=>exact y.out);(case side7=>exact(KW BKrg1_0_).out);rintro e w4 ⟨rfl,hb⟩;refine⟨_,rfl,?_⟩;replace BKrg1_0_:=KB BKrg1_0_ hb;replace HB:=BS hb;clear hb));go_ret;exact⟨TE,TB⟩
end
section
def ch_.f (k:Nat) (a0_0:Int) (a0_1:Int) (l0_2:List (aa_)) (l0_3:List (aa_)):Option (Bool):=(impl_isDiff.f k a0_0 a0_1 l0_2 l0_3).bind fun t675=>(if t675=true then((aN_.f k l0_2 a0_0 a0_1 l0_2 l0_3).bind fun t676=>(some (!t676))) else(some false))
theorem ch_.calls (k:Nat) (j:Int) (l:Int) (m:Option Addr) (n:Nat) (g:List (aa_)) (o:Option Addr) (p:Nat) (i:List (aa_)) (r:Bool) (w:World) (v:Kd.C af_ w m g.length g) (x:g.length≤n) (y:Kd.C af_ w o i.length i) (z:i.length≤p) (hG_:Glob w) (h:ch_.f k j l g i=some r) :
  Calls Tryz.prog 51 #[.agg #[.int .i64 j,.int .i64 l,.slice m g.length n,.slice o i.length p]] w fun e w'=>e=.returned (.bool r)∧Below w.heap.size w w':=by
 have hu52:=Tryz.underlying52;have q:=AM v;have s:=AM x;clear v x;have t:=AM y;have u:=AM z;clear y z;have HGL:=AM hG_;clear hG_;have HB:=BZ w;have H:=h;clear h;unfold ch_.f at H;obtain⟨B,A2,H⟩:=bnd H;by_cases c3:B=true
 ·subst c3;replace H:=ift H;obtain⟨D,A4,H⟩:=bnd H;obtain rfl:=Option.some.inj H;go_enter Tryz.func51,Tryz.ntmps51;go_wp2_with (first|(refine gD 1 rfl ?_;refine bE 1 #[.int .i64 j,.int .i64 l,.slice m g.length n,.slice o i.length p] 52 ?_;intro A hg w5 hbox hb;have c:=AM (hbox);replace HB:=BS hb;clear hb hbox hg;have F:=cz4 c)|(refine gL 4 rfl Tryz.func78 #[.agg #[.int .i64 j,.int .i64 l,.slice m g.length n,.slice o i.length p]] rfl TA ?_;(with_reducible refine(impl_isDiff.calls _ _ _ _ _ _ _ _ _ _ _ ?side1 ?side2 ?side3 ?side4 ?side5 A2.out).mono ?_);(case side1=>exact CW ((Kd.ae_ q.out HB.out)));(case side2=>exact s.out);(case side3=>exact CW ((Kd.ae_ t.out HB.out)));(case side4=>exact u.out);(case side5=>exact GW HGL);rintro e w7 ⟨rfl,hb⟩;refine⟨_,rfl,?_⟩;replace c:=KB c hb;replace HB:=BS hb;clear hb;have G:=cz4 c)|(go_at_call 70;(with_reducible refine(aN_.calls k _ _ g A j l m n g o p i D _ ?side1 ?side2 ?side3 ?side4 ?side5 ?side6 ?side7 A4.out).mono ?_);(case side1=>exact CW ((Kd.ae_ q.out HB.out)));(case side2=>exact s.out);(case side3=>exact CW ((Kd.ae_ q.out HB.out)));(case side4=>exact s.out);(case side5=>exact CW ((Kd.ae_ t.out HB.out)));(case side6=>exact u.out);(case side7=>exact(KW c).out);rintro e w9 ⟨rfl,hb⟩;replace c:=KB c hb;replace HB:=BS hb;clear hb));go_ret;exact⟨TE,TB⟩
 ·replace c3:=Bool.eq_false_iff.mpr c3;subst c3;replace H:=iff' H;obtain rfl:=Option.some.inj H;go_enter Tryz.func51,Tryz.ntmps51;go_wp2_with (first|(refine gD 1 rfl ?_;refine bE 1 #[.int .i64 j,.int .i64 l,.slice m g.length n,.slice o i.length p] 52 ?_;intro A hg I hbox hb;have c:=AM (hbox);replace HB:=BS hb;clear hb hbox hg;have E:=cz4 c)|(refine gL 4 rfl Tryz.func78 #[.agg #[.int .i64 j,.int .i64 l,.slice m g.length n,.slice o i.length p]] rfl TA ?_;(with_reducible refine(impl_isDiff.calls _ _ _ _ _ _ _ _ _ _ _ ?side1 ?side2 ?side3 ?side4 ?side5 A2.out).mono ?_);(case side1=>exact CW ((Kd.ae_ q.out HB.out)));(case side2=>exact s.out);(case side3=>exact CW ((Kd.ae_ t.out HB.out)));(case side4=>exact u.out);(case side5=>exact GW HGL);rintro e J ⟨rfl,hb⟩;refine⟨_,rfl,?_⟩;replace c:=KB c hb;replace HB:=BS hb;clear hb));go_ret;exact⟨TE,TB⟩
end
section
mutual
def aZ_.j0:Nat→Bool→ByteArray→Int→List (ah_)→Option (Bool)
 | 0,_,_,_,_=>none
 | k+1,x21,x678000,x678001,x678002=>if x21=true then(some false) else(aZ_.l0 k x678001 x678002 (x678002.length:Int) 0)
def aZ_.l0:Nat→Int→List (ah_)→Int→Int→Option (Bool)
 | 0,_,_,_,_=>none
 | k+1,x3,g,h,c=>if c<h then(if 0≤c then(if c<(g.length:Int) then((ch_.f k ((ad_ g c).f0) ((ad_ g c).f1) ((ad_ g c).f2) ((ad_ g c).f3)).bind fun i=>(if i=true then(if ((ad_ g c).f0)=x3 then(if ((ad_ g c).f1)≤x3 then(some false) else(aZ_.l0 k ((ad_ g c).f1) g h (wrap64 (c+1)))) else(some false)) else(some false))) else(none)) else(none)) else(some true)
end
def aZ_.f (k:Nat) (c:ByteArray) (g:Int) (h:List (ah_)):Option (Bool):=(bP_.f k c).bind fun i=>(if i=true then((bd_.f g).bind fun j=>(if j=true then(aZ_.j0 k (decide ((h.length:Int) > 12)) c g h) else(aZ_.j0 k true c g h))) else(aZ_.j0 k true c g h))
theorem aZ_.calls (k:Nat) (J:ByteArray) (K:Int) (U:Option Addr) (V:Nat) (i:List (ah_)) (r:Bool) (w:World) (ac:Kd.C a8_ w U i.length i) (ad:i.length≤V) (hG_:Glob w) (h:aZ_.f k J K i=some r) :
  Calls Tryz.prog 24 #[.agg #[.string J,.int .i64 K,.slice U i.length V]] w fun e w'=>e=.returned (.bool r)∧Below w.heap.size w w':=by
 have hu38:=Tryz.underlying38;have hu52:=Tryz.underlying52;have O:=AM ac;have au:=AM ad;clear ac ad;have HGL:=AM hG_;clear hG_;have HB:=BZ w;have H:=h;clear h;unfold aZ_.f at H;have ai:=AM H;clear H;go_enter Tryz.func24,Tryz.ntmps24
 go_upto_region 1 with (first|((with_reducible refine ax_ (N:=1) rfl ?_);(try (refine aQ_ (by rfl) ?_;dsimp only));refine bE 1 #[.string J,.int .i64 K,.slice U i.length V] 38 ?_;intro ae hg w3 hbox hb;have g:=AM (hbox);replace HB:=BS hb;clear hb hbox hg))
 (try simp only[Act.put,List.setIfInBounds_toArray,List.set_cons_zero,List.set_cons_succ]);go_cut [21] (fun av wc=>∃(kq:Nat) (R:Bool),av=.bool R∧Aside0 (aZ_.j0 kq R J K i=some r)∧Aside0 (kq≤k)∧Aside0 (wc.heap[ae]? = some (.cells #[.string J,.int .i64 K,(.slice U i.length V)] 38 (0,0)))∧Aside0 (Below w.heap.size w wc))
 case first =>
  have H:=ai.out;clear ai;obtain⟨ao,A4,H⟩:=bnd H;by_cases c5:ao=true
  ·subst c5;replace H:=ift H;obtain⟨ap,A6,H⟩:=bnd H;by_cases c7:ap=true
   ·subst c7;replace H:=ift H;have H':=AM H;clear H;have aT:=cz3 g;go_wp2_with (first|(refine gL 8 rfl Tryz.func50 #[.string J] rfl TA ?_;(with_reducible refine(bP_.calls _ _ _ _ A4.out).mono ?_);rintro e w9 ⟨rfl,hb⟩;refine⟨_,rfl,?_⟩;replace g:=KB g hb;replace HB:=BS hb;clear hb;have aw:=cz3 g)|(go_at_call 46;(with_reducible refine(bd_.calls _ _ _ A6.out).mono ?_);rintro e w' ⟨rfl,⟨nd,rfl⟩⟩));go_meet
    case rel=>exact⟨_,(decide ((i.length:Int) > 12)),TF,H',⟨by first|omega|exact Nat.le_refl _⟩,KW g,⟨TB⟩⟩
   ·replace c7:=Bool.eq_false_iff.mpr c7;subst c7;replace H:=iff' H;have H':=AM H;clear H;have ax:=cz3 g;go_wp2_with (first|(refine gL 8 rfl Tryz.func50 #[.string J] rfl TA ?_;(with_reducible refine(bP_.calls _ _ _ _ A4.out).mono ?_);rintro e aU ⟨rfl,hb⟩;refine⟨_,rfl,?_⟩;replace g:=KB g hb;replace HB:=BS hb;clear hb;have ay:=cz3 g)|(go_at_call 46;(with_reducible refine(bd_.calls _ _ _ A6.out).mono ?_);rintro e w' ⟨rfl,⟨nd,rfl⟩⟩));go_meet
    case rel=>exact⟨_,(true),TF,H',⟨by first|omega|exact Nat.le_refl _⟩,KW g,⟨TB⟩⟩
  ·replace c5:=Bool.eq_false_iff.mpr c5;subst c5;replace H:=iff' H;have H':=AM H;clear H;have az:=cz3 g;go_wp2_with (first|(refine gL 8 rfl Tryz.func50 #[.string J] rfl TA ?_;(with_reducible refine(bP_.calls _ _ _ _ A4.out).mono ?_);rintro e aV ⟨rfl,hb⟩;refine⟨_,rfl,?_⟩;replace g:=KB g hb;replace HB:=BS hb;clear hb));go_meet
   case rel=>exact⟨_,(true),TF,H',⟨by first|omega|exact Nat.le_refl _⟩,KW g,⟨TB⟩⟩
 case rest =>
  clear ai;obtain⟨kq,R,rfl,HA,HJ1,g,HB⟩:=hcut
  cases kq with
  | zero=>exact absurd HA.out (by simp[aZ_.j0])
  | succ aq =>
   have H:=HA.out;clear HA;simp only[aZ_.j0] at H;by_cases af:R=true
   ·subst af;replace H:=ift H;obtain rfl:=Option.some.inj H;go_wp2;go_ret;exact⟨TE,TB⟩
   ·replace af:=Bool.eq_false_iff.mpr af;subst af;replace H:=iff' H;have H':=AM H;clear H;have aA:=cz3 g;go_wp2;go_loopg [3,27] aq (fun kq v3 aB w'=>∃(W:Int) (c:Int),v3=.int .i64 W∧aB=.int .i64 c∧Aside0 (aZ_.l0 kq W i (i.length:Int) c=some r)∧Aside0 (kq≤aq)∧Aside0 (w'.heap[ae]? = some (.cells #[.string J,.int .i64 K,(.slice U i.length V)] 38 (0,0)))∧Aside0 (Below w.heap.size w w'))
    case atStart=>exact⟨(K),(0),TF,TF,H',NL,KW g,⟨TB⟩⟩
    case round =>
     clear H';obtain⟨W,c,rfl,rfl,HA,HK2,g,HB⟩:=hrel
     cases gk with
     | zero=>exact absurd HA.out (by simp[aZ_.l0])
     | succ k2 =>
      have H:=HA.out;clear HA;simp only[aZ_.l0] at H;by_cases aa:c<(i.length:Int)
      ·rw[if_pos aa] at H;have aj:=decide_eq_true aa;clear aa;obtain⟨aC,H⟩:=dn H;obtain⟨aD,H⟩:=dn H;obtain⟨ar,ag,H⟩:=bnd H;by_cases ah:ar=true
       ·subst ah;replace H:=ift H;by_cases ak:((ad_ i c).f0)=W
        ·replace H:=qP ak H;obtain⟨al,am,H⟩:=H;clear ak;by_cases ab:((ad_ i c).f1)≤W
         ·rw[if_pos ab] at H;have an:=decide_eq_true ab;clear ab;obtain rfl:=Option.some.inj H;have A:0≤(c:Int):=TD;have B:c<(i.length:Int):=TD;obtain⟨X,v,x,y,z,M,l,m,n,o,p,q,s,t⟩:=cC_ O.out c A B;cases M;replace l:=hBc HB l;replace m:=hBc HB m;replace n:=hBc HB n;replace o:=hBc HB o;have D:=AM q;have E:=AM p;clear q p;have F:=AM t;have G:=AM s;clear t s;replace A:=eq_true A;replace B:=eq_true B;go_wp2_with (first|((with_reducible refine ax_ (N:=5) rfl ?_);(try (refine aQ_ (by rfl) ?_;dsimp only));refine bE 5 #[.int .i64 0,.int .i64 0,.slice none 0 0,.slice none 0 0] 52 ?_;intro Y hg aW hbox hb;have j:=AM (hbox);have Z:=bG hg;replace HB:=BS hb;have I:=bN g hg;have u:=bM g hg;replace g:=KB g hb;clear hb hbox hg;obtain⟨aE,aF⟩:=nn u;have aG:=cz4 j)|(refine gL 32 rfl Tryz.func51 #[.agg #[.int .i64 ((ad_ i c).f0),.int .i64 ((ad_ i c).f1),.slice v ((ad_ i c).f2).length x,.slice y ((ad_ i c).f3).length z]] rfl TA ?_;(with_reducible refine(ch_.calls _ _ _ _ _ _ _ _ _ _ _ ?side1 ?side2 ?side3 ?side4 ?side5 ag.out).mono ?_);(case side1=>exact Kd.ae_ D.out TB);(case side2=>exact E.out);(case side3=>exact Kd.ae_ F.out TB);(case side4=>exact G.out);(case side5=>exact GW HGL);rintro e aX ⟨rfl,hb⟩;refine⟨_,rfl,?_⟩;replace g:=KF g hb;replace j:=KP j #[.int .i64 ((ad_ i c).f0),.int .i64 ((ad_ i c).f1),.slice v ((ad_ i c).f2).length x,.slice y ((ad_ i c).f3).length z] hb;replace HB:=BS hb;clear hb;have aH:=cz4 j));go_ret;exact⟨TE,TB⟩
         ·rw[if_neg ab] at H;have an:=decide_eq_false ab;clear ab;have H':=AM H;clear H;have A:0≤(c:Int):=TD;have B:c<(i.length:Int):=TD;obtain⟨X,v,x,y,z,M,l,m,n,o,p,q,s,t⟩:=cC_ O.out c A B;cases M;replace l:=hBc HB l;replace m:=hBc HB m;replace n:=hBc HB n;replace o:=hBc HB o;have D:=AM q;have E:=AM p;clear q p;have F:=AM t;have G:=AM s;clear t s;replace A:=eq_true A;replace B:=eq_true B;go_wp2_with (first|((with_reducible refine ax_ (N:=5) rfl ?_);(try (refine aQ_ (by rfl) ?_;dsimp only));refine bE 5 #[.int .i64 0,.int .i64 0,.slice none 0 0,.slice none 0 0] 52 ?_;intro Y hg aY hbox hb;have j:=AM (hbox);have Z:=bG hg;replace HB:=BS hb;have I:=bN g hg;have u:=bM g hg;replace g:=KB g hb;clear hb hbox hg;obtain⟨aI,aJ⟩:=nn u;have aK:=cz4 j)|(refine gL 32 rfl Tryz.func51 #[.agg #[.int .i64 ((ad_ i c).f0),.int .i64 ((ad_ i c).f1),.slice v ((ad_ i c).f2).length x,.slice y ((ad_ i c).f3).length z]] rfl TA ?_;(with_reducible refine(ch_.calls _ _ _ _ _ _ _ _ _ _ _ ?side1 ?side2 ?side3 ?side4 ?side5 ag.out).mono ?_);(case side1=>exact Kd.ae_ D.out TB);(case side2=>exact E.out);(case side3=>exact Kd.ae_ F.out TB);(case side4=>exact G.out);(case side5=>exact GW HGL);rintro e aZ ⟨rfl,hb⟩;refine⟨_,rfl,?_⟩;replace g:=KF g hb;replace j:=KP j #[.int .i64 ((ad_ i c).f0),.int .i64 ((ad_ i c).f1),.slice v ((ad_ i c).f2).length x,.slice y ((ad_ i c).f3).length z] hb;replace HB:=BS hb;clear hb;have aL:=cz4 j));go_roundg k2
          case measure=>have:=HJ1.out;have:=HK2.out;omega
          case rel=>exact⟨((ad_ i c).f1),(wrap64 (c+1)),TF,TF,H',⟨by have:=HJ1.out;have:=HK2.out;omega⟩,KW g,⟨TB⟩⟩
        ·replace H:=qN ak H;obtain⟨al,am,H⟩:=H;obtain rfl:=Option.some.inj H;have A:0≤(c:Int):=TD;have B:c<(i.length:Int):=TD;obtain⟨X,v,x,y,z,M,l,m,n,o,p,q,s,t⟩:=cC_ O.out c A B;cases M;replace l:=hBc HB l;replace m:=hBc HB m;replace n:=hBc HB n;replace o:=hBc HB o;have D:=AM q;have E:=AM p;clear q p;have F:=AM t;have G:=AM s;clear t s;replace A:=eq_true A;replace B:=eq_true B;go_wp2_with (first|((with_reducible refine ax_ (N:=5) rfl ?_);(try (refine aQ_ (by rfl) ?_;dsimp only));refine bE 5 #[.int .i64 0,.int .i64 0,.slice none 0 0,.slice none 0 0] 52 ?_;intro Y hg a0 hbox hb;have j:=AM (hbox);have Z:=bG hg;replace HB:=BS hb;have I:=bN g hg;have u:=bM g hg;replace g:=KB g hb;clear hb hbox hg;obtain⟨aM,aN⟩:=nn u;have aO:=cz4 j)|(refine gL 32 rfl Tryz.func51 #[.agg #[.int .i64 ((ad_ i c).f0),.int .i64 ((ad_ i c).f1),.slice v ((ad_ i c).f2).length x,.slice y ((ad_ i c).f3).length z]] rfl TA ?_;(with_reducible refine(ch_.calls _ _ _ _ _ _ _ _ _ _ _ ?side1 ?side2 ?side3 ?side4 ?side5 ag.out).mono ?_);(case side1=>exact Kd.ae_ D.out TB);(case side2=>exact E.out);(case side3=>exact Kd.ae_ F.out TB);(case side4=>exact G.out);(case side5=>exact GW HGL);rintro e a1 ⟨rfl,hb⟩;refine⟨_,rfl,?_⟩;replace g:=KF g hb;replace j:=KP j #[.int .i64 ((ad_ i c).f0),.int .i64 ((ad_ i c).f1),.slice v ((ad_ i c).f2).length x,.slice y ((ad_ i c).f3).length z] hb;replace HB:=BS hb;clear hb;have aP:=cz4 j));go_ret;exact⟨TE,TB⟩
       ·replace ah:=Bool.eq_false_iff.mpr ah;subst ah;replace H:=iff' H;obtain rfl:=Option.some.inj H;have A:0≤(c:Int):=TD;have B:c<(i.length:Int):=TD;obtain⟨X,v,x,y,z,M,l,m,n,o,p,q,s,t⟩:=cC_ O.out c A B;cases M;replace l:=hBc HB l;replace m:=hBc HB m;replace n:=hBc HB n;replace o:=hBc HB o;have D:=AM q;have E:=AM p;clear q p;have F:=AM t;have G:=AM s;clear t s;replace A:=eq_true A;replace B:=eq_true B;go_wp2_with (first|((with_reducible refine ax_ (N:=5) rfl ?_);(try (refine aQ_ (by rfl) ?_;dsimp only));refine bE 5 #[.int .i64 0,.int .i64 0,.slice none 0 0,.slice none 0 0] 52 ?_;intro Y hg a2 hbox hb;have j:=AM (hbox);have Z:=bG hg;replace HB:=BS hb;have I:=bN g hg;have u:=bM g hg;replace g:=KB g hb;clear hb hbox hg;obtain⟨aQ,aR⟩:=nn u;have aS:=cz4 j)|(refine gL 32 rfl Tryz.func51 #[.agg #[.int .i64 ((ad_ i c).f0),.int .i64 ((ad_ i c).f1),.slice v ((ad_ i c).f2).length x,.slice y ((ad_ i c).f3).length z]] rfl TA ?_;(with_reducible refine(ch_.calls _ _ _ _ _ _ _ _ _ _ _ ?side1 ?side2 ?side3 ?side4 ?side5 ag.out).mono ?_);(case side1=>exact Kd.ae_ D.out TB);(case side2=>exact E.out);(case side3=>exact Kd.ae_ F.out TB);(case side4=>exact G.out);(case side5=>exact GW HGL);rintro e a3 ⟨rfl,hb⟩;refine⟨_,rfl,?_⟩;replace g:=KF g hb;replace j:=KP j #[.int .i64 ((ad_ i c).f0),.int .i64 ((ad_ i c).f1),.slice v ((ad_ i c).f2).length x,.slice y ((ad_ i c).f3).length z] hb;replace HB:=BS hb;clear hb));go_ret;exact⟨TE,TB⟩
      ·rw[if_neg aa] at H;have aj:=decide_eq_false aa;clear aa;obtain rfl:=Option.some.inj H;go_wp2;go_ret;exact⟨TE,TB⟩
end
section
def aH_.f (l0:List (aa_)):Option ((List (aa_))):=(some (([]:List (aa_)):List (aa_))).bind fun y683=>(if y683.length+l0.length<2932031007402 then(some (y683++l0)) else(none))
theorem aH_.calls (A0:Option Addr) (c0:Nat) (l0:List (aa_)) (r:List (aa_)) (w:World) (m:Kd.C af_ w A0 l0.length l0) (n:l0.length≤c0) (h:aH_.f l0=some r) :
  Calls Tryz.prog 55 #[.slice A0 l0.length c0] w fun e w'=>∃v0_:Value,e=.returned (v0_)∧Kd.R af_ 71 w' w.heap.size (fun _=>True) v0_ r∧Below w.heap.size w w':=by
 have o:=AM m;have t:=AM n;clear m n;have HB:=BZ w;have H:=h;clear h;unfold aH_.f at H
 cases A0 with
 | none =>
  have hz_:l0=[]:=Kd.C_none_nil o.out;subst hz_
  have hnq_:∀W,(Go.binOp .eql 30 (.slice none 0 c0) (.slice none 0 0)).run Tryz.prog W=.ok (.bool true) W:=fun W=>Go.Lib.run_eql_slice_nil W 30 71 none 0 c0 0 0 Tryz.underlying30
  replace H:(some ([]:List (aa_)))=some r:=by simpa using H
  obtain rfl:=Option.some.inj H;go_enter Tryz.func55,Tryz.ntmps55;go_wp2;go_ret;exact⟨_,TE,TZ,TB⟩
 | some adq_ =>
  have hnq_:∀W,(Go.binOp .eql 30 (.slice (some adq_) l0.length c0) (.slice none 0 0)).run Tryz.prog W=.ok (.bool false) W:=fun W=>Go.Lib.run_eql_slice_nil W 30 71 (some adq_) l0.length c0 0 0 Tryz.underlying30
  obtain⟨j,Ny683,H⟩:=nm H;obtain⟨c2,H⟩:=ifn H;have LMc2:=AM c2;clear c2;obtain⟨p,c⟩:∃y_:List (aa_),y_=(j++l0):=⟨_,rfl⟩
  replace H:(some p)=some r:=by first|(rw[c];with_reducible exact H)|(have H2_:=(Option.bind_some _ _).symm.trans H;rw[c];with_reducible exact H2_)|(have H2_:=(Option.bind_some _ _).symm.trans H;with_reducible exact H2_)|with_reducible exact H|(rw[c];exact H)|exact H
  have Ny686:=AM c;clear c;obtain rfl:=Option.some.inj H;go_enter Tryz.func55,Tryz.ntmps55;go_wp2_with (first|((with_reducible refine ax_ (N:=5) rfl ?_);refine Kd.R_lit af_ _ 71 ?hg (N:=5) ?hd (xs:=([]:List (aa_))) (inner:=[]) (ok:=fun _=>True) (okp:=fun _=>True) ?hr ?hp (fun _ hk=>hk) trivial (Below.refl _ _) (Nat.le_refl _) (by simp) ?_;(case hd=>rfl);(case hg=>rfl);(case hr=>first|(go_simp;done)|(go_simp;rfl));(case hp=>exact(Reps.none _ _));intro q w3 g hb hg_ hnew_;clear hg_ hnew_;(first|rw[←Ny683.out] at g|(simp only[Int.reduceToNat] at g;rw[←Ny683.out] at g));have i:=RL g;replace HB:=BS hb;clear hb g)|((with_reducible refine bN_ (b:=.append) (xs:=#[.tmp 5,.tmp 6]) rfl ?_);at_builtin;refine Kd.cK_ af_ (w0:=w) w.heap.size rfl (.tmp 5) (.tmp 6) 30 71 (.agg #[(.string ⟨#[]⟩),(.int .i64 0),(.int .i64 0),(.string ⟨#[]⟩)]) 48 rfl Tryz.underlying30 info71 rfl (by decide) (by omega) q j l0 _ _ _ (fun _=>True) (fun _=>False) rfl rfl ?aO ?aR (fun _ _ h=>h) (fun _ h=>h.elim) ?aF ?aB ?aS ?aL ?_;(case aR=>repeat (first|exact(Kd.ae_ o.out HB.out)|(with_reducible refine Kd.C_alloc ?_ _)|(with_reducible refine Kd.C_drewN ?_ _)|(with_reducible refine Kd.C_drew ?_)));(case aB=>exact TB);(case aF=>exact(fun _ _=>trivial));(case aO=>exact(RW i).out);(case aS=>exact(bh_ TB));(case aL=>have:=LMc2.out;omega);intro s w5 ho hb hg hat;rw[←Ny686.out] at ho;have n0_:=AM (hb);have n1_:=AM (ho);clear HB i;have HB:=n0_;have l:=n1_;clear n0_ n1_ ho hb hg hat));go_ret;exact⟨_,TE,(RW l).out,TB⟩
end
section
def cj_.f (a0_0:Int) (a0_1:Int) (l0_2:List (aa_)) (l0_3:List (aa_)):Option (Int × Int × (List (aa_)) × (List (aa_))):=(aH_.f l0_2).bind fun t691=>((aH_.f l0_3).bind fun t694=>(some (a0_0,a0_1,t691,t694)))
def cj_.T1:Bool × List (List Nat × List Nat):=(true,[([],[]),([0],[0]),([1],[1]),([],[]),([3],[3]),([4,2],[4]),([0,1,2,3,4],[]),([6,2,5,0,1,2,3,4],[2,6]),([0,1,2,3,4,5,6,7],[]),([8,5,7,0,1,2,3,4,5,6,7],[5,8])])
def cj_.B1:List Nat:=[0,1,3,0,8,31,31,127,255,511]
theorem cj_.tab1:rtab .any (opsOf Tryz.f81 1)=cj_.T1:=by kernel_rfl
theorem cj_.bits1:waitsOk cj_.T1.2 cj_.B1=true:=by kernel_rfl
theorem cj_.calls (t:Int) (u:Int) (x:Option Addr) (y:Nat) (q:List (aa_)) (z:Option Addr) (A:Nat) (s:List (aa_)) (r1:Int) (r2:Int) (r3:List (aa_)) (r4:List (aa_)) (w:World) (I:Kd.C af_ w x q.length q) (J:q.length≤y) (M:Kd.C af_ w z s.length s) (O:s.length≤A) (h:cj_.f t u q s=some (r1,r2,r3,r4)) :
  Calls Tryz.prog 81 #[.agg #[.int .i64 t,.int .i64 u,.slice x q.length y,.slice z s.length A]] w fun e w'=>∃v2_ v3_:Value,e=.returned (.agg #[.int .i64 r1,.int .i64 r2,v2_,v3_])∧Kd.R af_ 71 w' w.heap.size (fun k_=>some k_≠(v3_:Value).ownBlock) v2_ r3∧Kd.R af_ 71 w' w.heap.size (fun k_=>some k_≠(v2_:Value).ownBlock) v3_ r4∧Below w.heap.size w w':=by
 have hu52:=Tryz.underlying52;have X:=AM I;have Y:=AM J;clear I J;have Z:=AM M;have aa:=AM O;clear M O;have HB:=BZ w;have H:=h;clear h;unfold cj_.f at H;obtain⟨B,A2,H⟩:=bnd H;obtain⟨D,A3,H⟩:=bnd H;simp only[Option.some.injEq,Prod.mk.injEq] at H;obtain⟨rfl,rfl,rfl,rfl⟩:=H;go_enter Tryz.func81,Tryz.ntmps81
 try go_wp2_with (first|(refine gD 1 rfl ?_;refine bE 1 #[.int .i64 t,.int .i64 u,.slice x q.length y,.slice z s.length A] 52 ?_;intro m hg w4 hbox hb;have c:=AM (hbox);have ab:=bG hg;replace HB:=BS hb;clear hb hbox hg)|(refine gD 2 rfl ?_;refine bE 2 #[.int .i64 0,.int .i64 0,.slice none 0 0,.slice none 0 0] 52 ?_;intro j hg w5 hbox hb;have g:=AM (hbox);have ac:=bG hg;replace HB:=BS hb;have o:=bN c hg;have l:=bM c hg;replace c:=KB c hb;clear hb hbox hg))
 replace c:=AM (ai_ c.out);replace g:=AM (ai_ g.out);replace HB:=AM (ar_ HB.out);refine start_ (n:=10) (S:=fun w'=>w'.cell? ⟨m,0,none⟩=some (.int .i64 t)∧w'.cell? ⟨m,1,none⟩=some (.int .i64 u)∧w'.cell? ⟨m,2,none⟩=some (.slice x q.length y)∧w'.cell? ⟨m,3,none⟩=some (.slice z s.length A)) (ds:=[7,9]) (mL 10 0) KR rfl KR ⟨bc 0 c,bc 1 c,bc 2 c,bc 3 c⟩ (fun hHeld=>?_);refine bg_ cj_.tab1 cj_.bits1 (fun HT_ HW_=>?_);generalize w5.drew=w6 at c g HB hHeld ⊢;refine pB 0 rfl rfl ?_;refine pB 3 rfl rfl ?_;refine tB 1 hHeld rfl rfl ?_;refine tB 4 hHeld rfl rfl ?_
 refine oB 2 rfl rfl fun K hK=>?_
 refine gB Tryz.func55 #[.slice x q.length y] rfl rfl ?_
 with_reducible refine(aH_.calls _ _ _ _ _ ?side1 ?side2 A2.out).mono ?_
 (case side1=>exact CW ((Kd.ae_ X.out HB.out)));(case side2=>exact Y.out);rintro e w7 ⟨ah,rfl,G,hb⟩;refine⟨_,rfl,?_⟩;have v:=RL G;replace c:=KB c hb;replace g:=KB g hb;replace HB:=BS hb;clear hb G;refine hK.out _ _ ⟨bc 0 c,bc 1 c,bc 2 c,bc 3 c⟩ (fun hHeld=>?_);clear hK K;refine nA ?_;refine pB 6 rfl rfl ?_
 refine oB 5 rfl rfl fun K hK=>?_
 refine gB Tryz.func55 #[.slice z s.length A] rfl rfl ?_
 with_reducible refine(aH_.calls _ _ _ _ _ ?side1 ?side2 A3.out).mono ?_
 (case side1=>exact CW ((Kd.ae_ Z.out HB.out)));(case side2=>exact aa.out);rintro e w8 ⟨ai,rfl,G,hb⟩;refine⟨_,rfl,?_⟩;have U:=RL (NW G v);replace v:=EL v G hb;replace c:=KB c hb;replace g:=KB g hb;replace HB:=BS hb;clear hb G;obtain⟨V,W,eo9⟩:=Kd.ap_ v.out;(first|subst eo9|(injection eo9 with f1_ f2_ f3_;have f4_:=f1_.symm;have f5_:=f3_.symm;clear f1_ f2_ f3_;subst f4_;subst f5_));obtain⟨E,F,eo11⟩:=Kd.ap_ U.out;(first|subst eo11|(injection eo11 with f1_ f2_ f3_;have f4_:=f1_.symm;have f5_:=f3_.symm;clear f1_ f2_ f3_;subst f4_;subst f5_));refine hK.out _ _ ⟨bc 0 c,bc 1 c,bc 2 c,bc 3 c⟩ (fun hHeld=>?_);clear hK K;refine nA ?_;refine last_ (i:=7) (N:=none) (mL 10 255) rfl rfl (one_of HT_.out KR) (by decide) (fun K hK=>?_);have hs10:=bc 2 c;have hfs10:=cu_ c.out 2;have hns10_1:=l.out;have hms10_1:=o.out;refine skip_ (w1:=?_) (by rfl) rfl ?_ ?_;rotate_left
 ·go_simp;rfl
 refine hK.out _ _ ?_;clear hK K;refine pB 8 rfl rfl ?_;refine last_ (i:=9) (N:=none) (mL 10 1023) rfl rfl (one_of HT_.out KR) (by decide) (fun K hK=>?_);have hs12:=bc 3 c;have hfs12:=cu_ c.out 3;have hns12_1:=l.out;have hms12_1:=o.out;refine skip_ (w1:=?_) (by rfl) rfl ?_ ?_;rotate_left
 ·go_simp;rfl
 refine hK.out _ _ ?_;clear hK K;refine done_ (bz_ HT_.out KR) ?_;have ad:=o.out;have ae:=l.out;have af:=cz4 c;have ag:=cz4 g
 try go_wp2
 refine bodyPost_ret (results_cell_row rfl _ _ j 52 #[.int .i64 t,.int .i64 u,.slice V B.length W,.slice E D.length F] (0,0) _ rfl (by(with_reducible repeat (first|refine blk_drewN ?_ _|refine ai_ ?_|refine blk_alloc ?_ _));apply PF4;(with_reducible repeat (first|refine blk_drewN ?_ _|refine ai_ ?_|refine blk_alloc ?_ _));refine FF2 ?_ l.out;exact(KW g).out) Tryz.underlying52 rfl KR) rfl ?_;exact⟨_,_,TE,by(with_reducible repeat (first|apply Kd.R_alloc|apply Kd.R_drewN|apply Kd.bC_));exact Kd.aM_ (Kd.a6_ (p:=⟨j,3,none⟩) (Kd.a6_ (p:=⟨j,2,none⟩) (Kd.a6_ (p:=⟨j,1,none⟩) (Kd.a6_ (p:=⟨j,0,none⟩) (Kd.a6_ (p:=⟨m,3,none⟩) (Kd.a6_ (p:=⟨m,2,none⟩) (Kd.bS_ (Kd.bS_ v.out c.out (by decide)) g.out (by decide)) (fun _ hk=>hk.1.2) (.slice V B.length W)) (fun _ hk=>hk.1.2) (.slice E D.length F)) (fun _ hk=>hk.2) (.int .i64 t)) (fun _ hk=>hk.2) (.int .i64 u)) (fun _ hk=>hk.2) (.slice V B.length W)) (fun _ hk=>hk.2) (.slice E D.length F)) (fun _ hk=>hk.1.1.2),by(with_reducible repeat (first|apply Kd.R_alloc|apply Kd.R_drewN|apply Kd.bC_));exact Kd.aM_ (Kd.a6_ (p:=⟨j,3,none⟩) (Kd.a6_ (p:=⟨j,2,none⟩) (Kd.a6_ (p:=⟨j,1,none⟩) (Kd.a6_ (p:=⟨j,0,none⟩) (Kd.a6_ (p:=⟨m,3,none⟩) (Kd.a6_ (p:=⟨m,2,none⟩) (Kd.bS_ (Kd.bS_ U.out c.out (by decide)) g.out (by decide)) (fun _ hk=>hk.1.2) (.slice V B.length W)) (fun _ hk=>hk.1.2) (.slice E D.length F)) (fun _ hk=>hk.2) (.int .i64 t)) (fun _ hk=>hk.2) (.int .i64 u)) (fun _ hk=>hk.2) (.slice V B.length W)) (fun _ hk=>hk.2) (.slice E D.length F)) (fun _ hk=>hk.1.1.2),TB⟩
end
section
def bD_.l0:Nat→List (ah_)→List (ah_)→Int→Int→Option ((List (ah_)))
 | 0,_,_,_,_=>none
 | k+1,x3,x7,x8,x9=>if x9<x8 then(if 0≤x9 then(if x9<(x7.length:Int) then((cj_.f ((ad_ x7 x9).f0) ((ad_ x7 x9).f1) ((ad_ x7 x9).f2) ((ad_ x7 x9).f3)).bind fun bt702=>(if x3.length<2199023255552 then(bD_.l0 k (x3++[(⟨bt702.1,bt702.2.1,bt702.2.2.1,bt702.2.2.2⟩:ah_)]) x7 x8 (wrap64 (x9+1))) else(none))) else(none)) else(none)) else(some x3)
def bD_.f (k:Nat) (l0:List (ah_)):Option ((List (ah_))):=bD_.l0 k (([]:List (ah_))) l0 (l0.length:Int) 0
theorem bD_.calls (k:Nat) (A0:Option Addr) (c0:Nat) (l0:List (ah_)) (r:List (ah_)) (w:World) (ai:Kd.C a8_ w A0 l0.length l0) (aj:l0.length≤c0) (h:bD_.f k l0=some r) :
  Calls Tryz.prog 52 #[.slice A0 l0.length c0] w fun e w'=>∃v0_:Value,e=.returned (v0_)∧Kd.S a8_ 52 w' w.heap.size (fun _=>True) v0_ r∧Below w.heap.size w w':=by
 have hu52:=Tryz.underlying52;have ao:=AM ai;have aA:=AM aj;clear ai aj;have HB:=BZ w;have H:(bD_.l0 k (([]:List (ah_))) l0 (l0.length:Int) 0)=some r:=h;clear h;obtain⟨aa,t⟩:∃y_:List (ah_),y_=(([]:List (ah_))):=⟨_,rfl⟩
 replace H:(bD_.l0 k aa l0 (l0.length:Int) 0)=some r:=by first|(rw[t];with_reducible exact H)|(have H2_:=(Option.bind_some _ _).symm.trans H;rw[t];with_reducible exact H2_)|(have H2_:=(Option.bind_some _ _).symm.trans H;with_reducible exact H2_)|with_reducible exact H|(rw[t];exact H)|exact H
 have Ny697:=AM t;clear t;have H':=AM H;clear H;go_enter Tryz.func52,Tryz.ntmps52;go_wp2_with (first|((with_reducible refine ax_ (N:=6) rfl ?_);refine Kd.S_lit a8_ _ 52 ?hg (N:=6) ?hd (xs:=([]:List (ah_))) (inner:=[]) (ok:=fun _=>True) (okp:=fun _=>True) ?hr ?hp (fun _ hk=>hk) trivial (Below.refl _ _) (Nat.le_refl _) (by simp) ?_;(case hd=>rfl);(case hg=>rfl);(case hr=>first|(go_simp;done)|(go_simp;rfl));(case hp=>exact(Reps.none _ _));intro au w2 R hb hg_ hnew_;clear hg_ hnew_;(first|rw[←Ny697.out] at R|(simp only[Int.reduceToNat] at R;rw[←Ny697.out] at R));have ag:=AM (Kd.S_lower R (bh_ TB));replace HB:=BS hb;clear hb R));go_loopg [3,9] k (fun kq v3 v9 w'=>∃(y:List (ah_)) (c:Int),v9=.int .i64 c∧Aside0 (bD_.l0 kq y l0 (l0.length:Int) c=some r)∧Aside0 (kq≤k)∧Aside0 (Kd.S a8_ 52 w' w.heap.size (fun _=>True) v3 y)∧Aside0 (Below w.heap.size w w'))
 case atStart=>exact⟨(aa),(0),TF,H',NL,⟨by(with_reducible repeat (first|apply Kd.S_alloc|apply Kd.S_drewN|apply Kd.bn_));exact ag.out⟩,⟨TB⟩⟩
 case round =>
  clear H';obtain⟨y,c,rfl,HA,HK1,l,HB⟩:=hrel
  cases gk with
  | zero=>exact absurd HA.out (by simp[bD_.l0])
  | succ k1 =>
   have H:=HA.out;clear HA;simp only[bD_.l0] at H;by_cases c4:c<(l0.length:Int)
   ·rw[if_pos c4] at H;have ak:=decide_eq_true c4;clear c4;obtain⟨av,H⟩:=dn H;obtain⟨aw,H⟩:=dn H;obtain⟨⟨M,O,z,A⟩,A7,H⟩:=bnd H
    try dsimp only at H
    obtain⟨c8,H⟩:=ifn H;have LMc8:=AM c8;clear c8;obtain⟨ab,u⟩:∃y_:List (ah_),y_=(y++[(⟨M,O,z,A⟩:ah_)]):=⟨_,rfl⟩
    replace H:(bD_.l0 k1 ab l0 (l0.length:Int) (wrap64 (c+1)))=some r:=by first|(rw[u];with_reducible exact H)|(have H2_:=(Option.bind_some _ _).symm.trans H;rw[u];with_reducible exact H2_)|(have H2_:=(Option.bind_some _ _).symm.trans H;with_reducible exact H2_)|with_reducible exact H|(rw[u];exact H)|exact H
    have Ny710:=AM u;clear u;have H':=AM H;clear H;have U:0≤(c:Int):=TD;have V:c<(l0.length:Int):=TD;obtain⟨ap,m,n,q,s,al,B,D,E,F,G,I,J,K⟩:=cC_ ao.out c U V;cases al;replace B:=hBc HB B;replace D:=hBc HB D;replace E:=hBc HB E;replace F:=hBc HB F;have W:=AM I;have X:=AM G;clear I G;have Y:=AM K;have Z:=AM J;clear K J;replace U:=eq_true U;replace V:=eq_true V;go_wp2_with (first|(refine gD 5 rfl ?_;refine bE 5 #[.int .i64 0,.int .i64 0,.slice none 0 0,.slice none 0 0] 52 ?_;intro i hg w9 hbox hb;replace l:=AM (Kd.cy_ (Kd.S_elderB (by(with_reducible repeat (first|apply Kd.S_alloc|apply Kd.S_drewN|apply Kd.bn_));exact l.out) i (Nat.le_of_eq hg.symm)) hb);have j:=AM (hbox);have aq:=bG hg;replace HB:=BS hb;clear hb hbox hg;have ar:=cz4 j)|(refine gL 15 rfl Tryz.func81 #[.agg #[.int .i64 ((ad_ l0 c).f0),.int .i64 ((ad_ l0 c).f1),.slice m ((ad_ l0 c).f2).length n,.slice q ((ad_ l0 c).f3).length s]] rfl TA ?_;(with_reducible refine(cj_.calls _ _ _ _ _ _ _ _ _ _ _ _ _ ?side1 ?side2 ?side3 ?side4 A7.out).mono ?_);(case side1=>exact Kd.ae_ W.out TB);(case side2=>exact X.out);(case side3=>exact Kd.ae_ Y.out TB);(case side4=>exact Z.out);rintro e aC ⟨ax,ay,rfl,am,an,hb⟩;refine⟨_,rfl,?_⟩;replace l:=AM (Kd.bK_ (Kd.S_told (Kd.S_told (Kd.S_old (by(with_reducible repeat (first|apply Kd.S_alloc|apply Kd.S_drewN|apply Kd.bn_));exact(Kd.bK_ (Kd.bk_ (p:=⟨i,3,none⟩) (Kd.bk_ (p:=⟨i,2,none⟩) (Kd.bk_ (p:=⟨i,1,none⟩) (Kd.bk_ (p:=⟨i,0,none⟩) (Kd.bK_ l.out (fun k_ hk=>(⟨hk,hk.2⟩:_∧k_≠i))) (fun _ hk=>hk.2) (.int .i64 ((ad_ l0 c).f0))) (fun _ hk=>hk.2) (.int .i64 ((ad_ l0 c).f1))) (fun _ hk=>hk.2) (.slice m ((ad_ l0 c).f2).length n)) (fun _ hk=>hk.2) (.slice q ((ad_ l0 c).f3).length s)) (fun _ h_=>h_.1))) hb) (Kd.cD_ am)) (Kd.cD_ an)) (fun _ h_=>h_.1));have v:=RL am;have x:=RL an;replace j:=KP j #[.int .i64 ((ad_ l0 c).f0),.int .i64 ((ad_ l0 c).f1),.slice m ((ad_ l0 c).f2).length n,.slice q ((ad_ l0 c).f3).length s] hb;replace HB:=BS hb;clear hb;obtain⟨ac,ad,eo13⟩:=Kd.ap_ v.out;subst eo13;obtain⟨ae,af,eo14⟩:=Kd.ap_ x.out;subst eo14)|((with_reducible refine bN_ (b:=.append) (xs:=#[.tmp 13,.tmp 16]) rfl ?_);at_builtin;refine Kd.S_append a8_ (w0:=w) w.heap.size rfl (.tmp 13) (.tmp 16) 36 52 (.agg #[(.int .i64 0),(.int .i64 0),(.slice none 0 0),(.slice none 0 0)]) 64 rfl Tryz.underlying36 info52 rfl (by decide) (by omega) u3 y (⟨M,O,z,A⟩:ah_) [.int .i64 M,.int .i64 O,.slice ac z.length ad,.slice ae A.length af] (fun k_=>k_≠i) (fun k_=>some k_=(.slice ac z.length ad:Value).ownBlock∨some k_=(.slice ae A.length af:Value).ownBlock) rfl rfl ?aP (fun k_ hk_=>hk_.elim (fun h_=>((Kd.aM_ (ok':=fun k_=>((fun k_=>k_≠i)) k_∧some k_≠(u3:Value).ownBlock) (Kd.bS_ (Kd.R_apart' (v.out) (Kd.S_typed l.out) (by decide)) j.out (by decide)) (fun k_ hk=>⟨hk.2,hk.1.2⟩))).1 k_ h_.symm) (fun h_=>((Kd.aM_ (ok':=fun k_=>((fun k_=>k_≠i)) k_∧some k_≠(u3:Value).ownBlock) (Kd.bS_ (Kd.R_apart' (x.out) (Kd.S_typed l.out) (by decide)) j.out (by decide)) (fun k_ hk=>⟨hk.2,hk.1.2⟩))).1 k_ h_.symm)) ?aF ?aO ?aB ?aS ?aL ?_;(case aP=>exact k_Diff_mkM _ _ _ (⟨M,O,z,A⟩:ah_) (Kd.aM_ (Kd.R_tight rfl (Kd.aM_ (ok':=fun k_=>((fun k_=>k_≠i)) k_∧some k_≠(u3:Value).ownBlock) (Kd.bS_ (Kd.R_apart' (v.out) (Kd.S_typed l.out) (by decide)) j.out (by decide)) (fun k_ hk=>⟨hk.2,hk.1.2⟩))) (fun _ h_=>Or.inl h_)) (Kd.aM_ (Kd.R_tight rfl (Kd.aM_ (ok':=fun k_=>((fun k_=>k_≠i)) k_∧some k_≠(u3:Value).ownBlock) (Kd.bS_ (Kd.R_apart' (x.out) (Kd.S_typed l.out) (by decide)) j.out (by decide)) (fun k_ hk=>⟨hk.2,hk.1.2⟩))) (fun _ h_=>Or.inr (h_))) (by intro k_ h1_ h2_;have h3_:=v.out.1 k_ h1_;first|exact h3_ h2_.symm|exact h3_.1 h2_.symm|exact h3_.2 h2_.symm|exact h3_.1.1 h2_.symm|exact h3_.1.2 h2_.symm));(case aB=>exact TB);(case aF=>exact(fun k_ hk=>Kd.freshB (g:=i) (o:=.cells #[.int .i64 ((ad_ l0 c).f0),.int .i64 ((ad_ l0 c).f1),.slice m ((ad_ l0 c).f2).length n,.slice q ((ad_ l0 c).f3).length s] 52 (0,0)) (KW j).out k_ hk));(case aO=>exact(by(with_reducible repeat (first|apply Kd.S_alloc|apply Kd.S_drewN|apply Kd.bn_));exact Kd.bK_ l.out (fun k_ hk=>⟨hk.1.1.2,fun e_=>e_.elim (fun h_=>hk.1.2 h_) (fun h_=>hk.2 h_)⟩)));(case aS=>exact(bh_ TB));(case aL=>have:=LMc8.out;omega);intro az aD ho hb hg hat;rw[←Ny710.out] at ho;have n0_:=AM (cz_ (g:=i) (o:=.cells #[.int .i64 ((ad_ l0 c).f0),.int .i64 ((ad_ l0 c).f1),.slice m ((ad_ l0 c).f2).length n,.slice q ((ad_ l0 c).f3).length s] 52 (0,0)) (KW j).out hg (Kd.S_away l.out (fun _ hk=>hk.1.1.2)));have n1_:=AM (hb);have n2_:=AM (ho);clear j HB l v x;have j:=n0_;have HB:=n1_;have ah:=n2_;clear n0_ n1_ n2_ ho hb hg hat));go_roundg k1
    case measure=>exact TM
    case rel=>exact⟨(ab),(wrap64 (c+1)),TF,H',⟨TM⟩,⟨by(with_reducible repeat (first|apply Kd.S_alloc|apply Kd.S_drewN|apply Kd.bn_));exact Kd.bK_ ah.out (fun _ hk=>trivial)⟩,⟨TB⟩⟩
   ·rw[if_neg c4] at H;have ak:=decide_eq_false c4;clear c4;obtain rfl:=Option.some.inj H;go_wp2;go_ret;exact⟨_,TE,by(with_reducible repeat (first|apply Kd.S_alloc|apply Kd.S_drewN|apply Kd.bn_));exact l.out,TB⟩
end
section
def impl_diffsFrom_1.f (a0_0:Int) (a0_1:Int) (l0_2:List (aa_)) (l0_3:List (aa_)) (a1_0:Int):Option (Bool):=some (a0_1==a1_0)
theorem impl_diffsFrom_1.calls (j:Int) (i:Int) (l:Option Addr) (m:Nat) (c:List (aa_)) (n:Option Addr) (o:Nat) (g:List (aa_)) (g1_:Nat) (p:Int) (r:Bool) (w:World) (q:Kd.C af_ w l c.length c) (s:c.length≤m) (t:Kd.C af_ w n g.length g) (u:g.length≤o) (hkg1_:w.heap[g1_]? = some (.cells #[.int .i64 p] 3 (0,0))) (h:impl_diffsFrom_1.f j i c g p=some r) :
  Calls Tryz.prog 54 #[.agg #[.int .i64 j,.int .i64 i,.slice l c.length m,.slice n g.length o],.pointer (some ⟨g1_,0,none⟩)] w fun e w'=>e=.returned (.bool r)∧Below w.heap.size w w':=by
 have hu52:=Tryz.underlying52;have z:=AM q;have A:=AM s;clear q s;have B:=AM t;have D:=AM u;clear t u;have BKrg1_:=AM hkg1_;clear hkg1_;have HB:=BZ w;have H:(some (i==p))=some r:=h;clear h;obtain rfl:=Option.some.inj H;go_enter Tryz.func54,Tryz.ntmps54;go_wp2_with (first|(refine gD 2 rfl ?_;refine bE 2 #[.int .i64 j,.int .i64 i,.slice l c.length m,.slice n g.length o] 52 ?_;intro E hg w3 hbox hb;have x:=AM (hbox);replace HB:=BS hb;have y:=bN BKrg1_ hg;have v:=bM BKrg1_ hg;replace BKrg1_:=KB BKrg1_ hb;clear hb hbox hg;obtain⟨F,G⟩:=nn v;have I:=cz4 x;have J:=cz1 BKrg1_));go_ret;exact⟨TE,TB⟩
end
section
def am_.l0:Nat→List (ah_)→Int→Int→Int→Option (Int)
 | 0,_,_,_,_=>none
 | k+1,x0,x7,x8,c=>if x8<x7 then(if 0≤x8 then(if x8<(x0.length:Int) then((impl_diffsFrom_1.f ((ad_ x0 x8).f0) ((ad_ x0 x8).f1) ((ad_ x0 x8).f2) ((ad_ x0 x8).f3) c).bind fun g=>(if g=true then(some x8) else(am_.l0 k x0 x7 (wrap64 (x8+1)) c))) else(none)) else(none)) else(some (-1))
def am_.f (k:Nat) (l0:List (ah_)) (a1_0:Int):Option (Int):=am_.l0 k l0 (l0.length:Int) 0 a1_0
theorem am_.calls (k:Nat) (A0:Option Addr) (c0:Nat) (l0:List (ah_)) (g1_0_:Nat) (y:Int) (r:Int) (w:World) (G:Kd.C a8_ w A0 l0.length l0) (I:l0.length≤c0) (hkg1_0_:w.heap[g1_0_]? = some (.cells #[.int .i64 y] 3 (0,0))) (h:am_.f k l0 y=some r) :
  Calls Tryz.prog 53 #[.slice A0 l0.length c0,.func (.func 54) #[] #[.pointer (some ⟨g1_0_,0,none⟩)]] w fun e w'=>e=.returned (.int .i64 r)∧Below w.heap.size w w':=by
 have hu52:=Tryz.underlying52;have J:=AM G;have R:=AM I;clear G I;have BKrg1_0_:=AM hkg1_0_;clear hkg1_0_;have HB:=BZ w;have H:=h;clear h;unfold am_.f at H;have H':=AM H;clear H;go_enter Tryz.func53,Tryz.ntmps53;go_wp2;go_loopg [8] k (fun kq v8 w'=>∃(c:Int),v8=.int .i64 c∧Aside0 (am_.l0 kq l0 (l0.length:Int) c y=some r)∧Aside0 (kq≤k)∧Aside0 (w'.heap[g1_0_]? = some (.cells #[.int .i64 y] 3 (0,0)))∧Aside0 (Below w.heap.size w w'))
 case atStart=>exact⟨(0),TF,H',NL,KW BKrg1_0_,⟨TB⟩⟩
 case round =>
  clear H';obtain⟨c,rfl,HA,HK1,BKrg1_0_,HB⟩:=hrel
  cases gk with
  | zero=>exact absurd HA.out (by simp[am_.l0])
  | succ k1 =>
   have H:=HA.out;clear HA;simp only[am_.l0] at H;by_cases c3:c<(l0.length:Int)
   ·rw[if_pos c3] at H;have K:=decide_eq_true c3;clear c3;obtain⟨N,H⟩:=dn H;obtain⟨O,H⟩:=dn H;obtain⟨M,A6,H⟩:=bnd H;by_cases c7:M=true
    ·subst c7;replace H:=ift H;obtain rfl:=Option.some.inj H;have q:0≤(c:Int):=TD;have s:c<(l0.length:Int):=TD;obtain⟨F,A,B,D,E,z,g,i,j,l,m,n,o,p⟩:=cC_ J.out c q s;cases z;replace g:=hBc HB g;replace i:=hBc HB i;replace j:=hBc HB j;replace l:=hBc HB l;have t:=AM n;have u:=AM m;clear n m;have v:=AM p;have x:=AM o;clear p o;replace q:=eq_true q;replace s:=eq_true s;go_wp2_with (first|(go_at_call 54;(with_reducible refine(impl_diffsFrom_1.calls ((ad_ l0 c).f0) ((ad_ l0 c).f1) _ _ ((ad_ l0 c).f2) _ _ ((ad_ l0 c).f3) g1_0_ y true _ ?side1 ?side2 ?side3 ?side4 ?side5 A6.out).mono ?_);(case side1=>exact CW ((Kd.ae_ t.out HB.out)));(case side2=>exact u.out);(case side3=>exact CW ((Kd.ae_ v.out HB.out)));(case side4=>exact x.out);(case side5=>exact(KW BKrg1_0_).out);rintro e w8 ⟨rfl,hb⟩;replace BKrg1_0_:=KB BKrg1_0_ hb;replace HB:=BS hb;clear hb));go_ret;exact⟨TE,TB⟩
    ·replace c7:=Bool.eq_false_iff.mpr c7;subst c7;replace H:=iff' H;have H':=AM H;clear H;have q:0≤(c:Int):=TD;have s:c<(l0.length:Int):=TD;obtain⟨F,A,B,D,E,z,g,i,j,l,m,n,o,p⟩:=cC_ J.out c q s;cases z;replace g:=hBc HB g;replace i:=hBc HB i;replace j:=hBc HB j;replace l:=hBc HB l;have t:=AM n;have u:=AM m;clear n m;have v:=AM p;have x:=AM o;clear p o;replace q:=eq_true q;replace s:=eq_true s;go_wp2_with (first|(go_at_call 54;(with_reducible refine(impl_diffsFrom_1.calls ((ad_ l0 c).f0) ((ad_ l0 c).f1) _ _ ((ad_ l0 c).f2) _ _ ((ad_ l0 c).f3) g1_0_ y false _ ?side1 ?side2 ?side3 ?side4 ?side5 A6.out).mono ?_);(case side1=>exact CW ((Kd.ae_ t.out HB.out)));(case side2=>exact u.out);(case side3=>exact CW ((Kd.ae_ v.out HB.out)));(case side4=>exact x.out);(case side5=>exact(KW BKrg1_0_).out);rintro e w9 ⟨rfl,hb⟩;replace BKrg1_0_:=KB BKrg1_0_ hb;replace HB:=BS hb;clear hb));go_roundg k1
     case measure=>exact TM
     case rel=>exact⟨(wrap64 (c+1)),TF,H',⟨TM⟩,KW BKrg1_0_,⟨TB⟩⟩
   ·rw[if_neg c3] at H;have K:=decide_eq_false c3;clear c3;obtain rfl:=Option.some.inj H;go_wp2;go_ret;exact⟨TE,TB⟩
end
section
def impl_diffsFrom.f (k:Nat) (l:ByteArray) (h:Int) (c:List (ah_)) (a1:Int):Option ((List (ah_)) × Bool):=if a1=h then((bD_.f k c).bind fun i=>(some (i,true))) else((am_.f k c a1).bind fun g=>(if g<0 then(some (([]:List (ah_)),false)) else(if 0≤(wrap64 (g+1)) then(if (wrap64 (g+1))≤(c.length:Int) then((bD_.f k (c.drop ((wrap64 (g+1)):Int).toNat)).bind fun j=>(some (j,true))) else(none)) else(none))))
theorem impl_diffsFrom.calls (k:Nat) (z:ByteArray) (u:Int) (p:Option Addr) (o:Nat) (i:List (ah_)) (a1:Int) (r1:List (ah_)) (r2:Bool) (w:World) (F:Kd.C a8_ w p i.length i) (G:i.length≤o) (h:impl_diffsFrom.f k z u i a1=some (r1,r2)) :
  Calls Tryz.prog 25 #[.agg #[.string z,.int .i64 u,.slice p i.length o],.int .i64 a1] w fun e w'=>∃v0_:Value,e=.returned (.tuple #[v0_,.bool r2])∧Kd.S a8_ 52 w' w.heap.size (fun _=>True) v0_ r1∧Below w.heap.size w w':=by
 have hu38:=Tryz.underlying38;have v:=AM F;have x:=AM G;clear F G;have HB:=BZ w;have H:=h;clear h;unfold impl_diffsFrom.f at H;by_cases c3:a1=u
 ·replace H:=qP c3 H;obtain⟨ac,ad,H⟩:=H;clear c3;obtain⟨ax,A4,H⟩:=bnd H;simp only[Option.some.injEq,Prod.mk.injEq] at H;obtain⟨rfl,rfl⟩:=H;go_enter Tryz.func25,Tryz.ntmps25;go_wp2_with (first|(refine gD 2 rfl ?_;refine bE 2 #[.string z,.int .i64 u,.slice p i.length o] 38 ?_;intro I hg w5 hbox hb;have g:=AM (hbox);replace HB:=BS hb;clear hb hbox hg)|(refine gD 3 rfl ?_;refine bE 3 #[.int .i64 a1] 3 ?_;intro y hg w6 hbox hb;have j:=AM (hbox);have J:=bG hg;replace HB:=BS hb;have q:=bN g hg;have l:=bM g hg;replace g:=KB g hb;clear hb hbox hg;obtain⟨ay,az⟩:=nn l;have aA:=cz1 j;have aB:=cz3 g)|(refine gL 13 rfl Tryz.func52 #[.slice p i.length o] rfl TA ?_;(with_reducible refine(bD_.calls _ _ _ _ _ _ ?side1 ?side2 A4.out).mono ?_);(case side1=>exact CW ((Kd.ae_ v.out HB.out)));(case side2=>exact x.out);rintro e aF ⟨aC,rfl,O,hb⟩;refine⟨_,rfl,?_⟩;have R:=AM (Kd.S_lower O (bh_ TB));replace g:=KB g hb;replace j:=KB j hb;replace HB:=BS hb;clear hb));go_ret2;exact⟨_,TE,by(with_reducible repeat (first|apply Kd.S_alloc|apply Kd.S_drewN|apply Kd.bn_));exact R.out,TB⟩
 ·replace H:=qN c3 H;obtain⟨ac,ad,H⟩:=H;obtain⟨K,U,H⟩:=bnd H;by_cases E:K<0
  ·rw[if_pos E] at H;have V:=decide_eq_true E;clear E;simp only[Option.some.injEq,Prod.mk.injEq] at H;obtain⟨rfl,rfl⟩:=H;go_enter Tryz.func25,Tryz.ntmps25;go_wp2_with (first|(refine gD 2 rfl ?_;refine bE 2 #[.string z,.int .i64 u,.slice p i.length o] 38 ?_;intro I hg aG hbox hb;have g:=AM (hbox);replace HB:=BS hb;clear hb hbox hg)|(refine gD 3 rfl ?_;refine bE 3 #[.int .i64 a1] 3 ?_;intro y hg aH hbox hb;have j:=AM (hbox);have J:=bG hg;replace HB:=BS hb;have q:=bN g hg;have l:=bM g hg;replace g:=KB g hb;clear hb hbox hg;obtain⟨ah,ai⟩:=nn l;have aj:=cz1 j;have ak:=cz3 g)|(refine gL 17 rfl Tryz.func53 #[.slice p i.length o,.func (.func 54) #[] #[.pointer (some ⟨y,0,none⟩)]] rfl TA ?_;(with_reducible refine(am_.calls _ _ _ _ _ _ _ _ ?side1 ?side2 ?side3 U.out).mono ?_);(case side1=>exact CW ((Kd.ae_ v.out HB.out)));(case side2=>exact x.out);(case side3=>exact(KW j).out);rintro e aI ⟨rfl,hb⟩;refine⟨_,rfl,?_⟩;replace g:=KB g hb;replace j:=KB j hb;replace HB:=BS hb;clear hb));go_ret2;exact⟨_,TE,by first|exact Kd.S_nil _ _ _ _ _|exact Kd.N_nil _ _ _ _ _|exact Kd.V_nil _ _ _ _ _|exact Kd.Q_nil _ _ _ _ _|exact Kd.R_nil _ _ _ _ _,TB⟩
  ·rw[if_neg E] at H;have V:=decide_eq_false E;clear E;obtain⟨n,hji19⟩:∃j_:Int,(wrap64 (K+1))=j_:=⟨_,rfl⟩
   replace H:(if 0≤(n) then(if (n)≤(i.length:Int) then((bD_.f k (i.drop ((n):Int).toNat)).bind fun B=>(some (B,true))) else(none)) else(none))=some (r1,r2):=by first|(rw[hji19] at H;exact H)|(simp only[hji19] at H ⊢;exact H)
   (try rw[hji19] at U);have hji19w:(IntKind.i64.wrap (K+1))=n:=(b6_ _).trans hji19;obtain⟨W,H⟩:=ifn H;have al:=eq_true W;have am:=decide_eq_true W;clear W;obtain⟨X,H⟩:=ifn H;have an:=eq_true X;have ao:=decide_eq_true X;clear X;obtain⟨s,t⟩:∃y_:List (ah_),y_=(i.drop ((n):Int).toNat):=⟨_,rfl⟩
   replace H:((bD_.f k s).bind fun B=>(some (B,true)))=some (r1,r2):=by first|(rw[t];with_reducible exact H)|(have H2_:=(Option.bind_some _ _).symm.trans H;rw[t];with_reducible exact H2_)|(have H2_:=(Option.bind_some _ _).symm.trans H;with_reducible exact H2_)|with_reducible exact H|(rw[t];exact H)|exact H
   have Ny722:=AM t;clear t;obtain⟨B,ap,H⟩:=bnd H;simp only[Option.some.injEq,Prod.mk.injEq] at H;obtain⟨rfl,rfl⟩:=H;go_enter Tryz.func25,Tryz.ntmps25;go_wp2_with (first|(refine gD 2 rfl ?_;refine bE 2 #[.string z,.int .i64 u,.slice p i.length o] 38 ?_;intro I hg aJ hbox hb;have g:=AM (hbox);replace HB:=BS hb;clear hb hbox hg)|(refine gD 3 rfl ?_;refine bE 3 #[.int .i64 a1] 3 ?_;intro y hg aK hbox hb;have j:=AM (hbox);have J:=bG hg;replace HB:=BS hb;have q:=bN g hg;have l:=bM g hg;replace g:=KB g hb;clear hb hbox hg;obtain⟨aq,ar⟩:=nn l;have au:=cz1 j;have av:=cz3 g)|(refine gL 17 rfl Tryz.func53 #[.slice p i.length o,.func (.func 54) #[] #[.pointer (some ⟨y,0,none⟩)]] rfl TA ?_;(with_reducible refine(am_.calls _ _ _ _ _ _ _ _ ?side1 ?side2 ?side3 U.out).mono ?_);(case side1=>exact CW ((Kd.ae_ v.out HB.out)));(case side2=>exact x.out);(case side3=>exact(KW j).out);rintro e aL ⟨rfl,hb⟩;refine⟨_,rfl,?_⟩;replace g:=KB g hb;replace j:=KB j hb;replace HB:=BS hb;clear hb;have aw:=cz3 g;have Y:((n):Int)≤((i.length:Int):Int):=TD;obtain⟨aD,M,_,hsz30,_⟩:=info_parts info52;have hroom30:i.length≤o:=x.out;have hC30:Kd.C a8_ _ p i.length i:=v.out;have ae:(0:Int)≤((n):Int):=TD;have hcut30:=cut_from (P:=Tryz.prog) 36 52 .i64 Tryz.underlying36 M 4 hsz30 p i.length o (n) ae Y;have A:=Kd.C_drop (m:=((n):Int).toNat) (c:=o) hC30 (by omega) hroom30;obtain⟨af,hA30⟩:∃A1,A1=(if o=((n):Int).toNat then p else(p:Option Addr).map (·.add (((n):Int).toNat * 4))):=⟨_,rfl⟩;obtain⟨ag,N⟩:∃c1,c1=o - ((n):Int).toNat:=⟨_,rfl⟩;have D:s.length=i.length - ((n):Int).toNat:=(by rw[Ny722.out,List.length_drop]<;>omega);rw[show(i).drop ((n):Int).toNat=s from Ny722.out.symm] at A;replace A:Kd.C a8_ _ af s.length s:=(by rw[hA30];exact A);rw[←D,←hA30,←N] at hcut30;have Z:=AM A;have aa:=AM (show s.length≤ag from by rw[D,N];exact Nat.sub_le_sub_right hroom30 _);clear A hC30 hroom30 M hsz30 N;have KY30:=AM D;have KA30:=AM hA30;clear D hA30;replace Y:=eq_true Y)|(refine gL 25 rfl Tryz.func52 #[.slice af s.length ag] rfl TA ?_;(with_reducible refine(bD_.calls _ _ _ _ _ _ ?side1 ?side2 ap.out).mono ?_);(case side1=>exact CW ((Kd.ae_ Z.out HB.out)));(case side2=>exact aa.out);rintro e aM ⟨aE,rfl,O,hb⟩;refine⟨_,rfl,?_⟩;have ab:=AM (Kd.S_lower O (bh_ TB));replace g:=KB g hb;replace j:=KB j hb;replace HB:=BS hb;clear hb));go_ret2;exact⟨_,by first|rfl|(simp[av_,au_]<;>rfl)|(simp only[←hji19];first|rfl|(simp[av_,au_]<;>rfl))|(simp[*,av_,au_]<;>rfl),by(with_reducible repeat (first|apply Kd.S_alloc|apply Kd.S_drewN|apply Kd.bn_));exact ab.out,TB⟩
end
section
def impl_ownZone.f (a0_0:ByteArray) (a0_1:Int) (l0_2:List (aa_)):Option (ByteArray × Int × (List (aa_))):=(aH_.f l0_2).bind fun t731=>(some (a0_0,a0_1,t731))
theorem impl_ownZone.calls (l:ByteArray) (m:Int) (q:Option Addr) (s:Nat) (g:List (aa_)) (r1:ByteArray) (r2:Int) (r3:List (aa_)) (w:World) (t:Kd.C af_ w q g.length g) (u:g.length≤s) (h:impl_ownZone.f l m g=some (r1,r2,r3)) :
  Calls Tryz.prog 26 #[.agg #[.string l,.int .i64 m,.slice q g.length s]] w fun e w'=>∃v2_:Value,e=.returned (.agg #[.string r1,.int .i64 r2,v2_])∧Kd.R af_ 71 w' w.heap.size (fun _=>True) v2_ r3∧Below w.heap.size w w':=by
 have hu32:=Tryz.underlying32;have y:=AM t;have z:=AM u;clear t u;have HB:=BZ w;have H:=h;clear h;unfold impl_ownZone.f at H;obtain⟨v,A2,H⟩:=bnd H;simp only[Option.some.injEq,Prod.mk.injEq] at H;obtain⟨rfl,rfl,rfl⟩:=H;go_enter Tryz.func26,Tryz.ntmps26;go_wp2_with (first|(refine gD 1 rfl ?_;refine bE 1 #[.string l,.int .i64 m,.slice q g.length s] 32 ?_;intro A hg w3 hbox hb;have c:=AM (hbox);have E:=bG hg;replace HB:=BS hb;clear hb hbox hg)|(refine gD 2 rfl ?_;refine bE 2 #[.string (⟨#[]⟩:ByteArray),.int .i64 0,.slice none 0 0] 32 ?_;intro j hg w4 hbox hb;have i:=AM (hbox);have F:=bG hg;replace HB:=BS hb;have n:=bN c hg;have o:=bM c hg;replace c:=KB c hb;clear hb hbox hg;obtain⟨J,K⟩:=nn n;have M:=cz3 c)|(refine gL 5 rfl Tryz.func55 #[.slice q g.length s] rfl TA ?_;(with_reducible refine(aH_.calls _ _ _ _ _ ?side1 ?side2 A2.out).mono ?_);(case side1=>exact CW ((Kd.ae_ y.out HB.out)));(case side2=>exact z.out);rintro e w7 ⟨N,rfl,G,hb⟩;refine⟨_,rfl,?_⟩;have x:=RL G;replace c:=KB c hb;replace i:=KB i hb;replace HB:=BS hb;clear hb;obtain⟨B,D,eo8⟩:=Kd.ap_ x.out;subst eo8;have O:=cz3 c;have I:=cz3 i));refine bodyPost_ret (results_cell_row rfl _ _ j 32 #[.string l,.int .i64 m,.slice B v.length D] (0,0) _ rfl (by(with_reducible repeat (first|refine blk_drewN ?_ _|refine ai_ ?_|refine blk_alloc ?_ _));apply PF3;(with_reducible repeat (first|refine blk_drewN ?_ _|refine ai_ ?_|refine blk_alloc ?_ _));refine FF1 ?_ o.out;exact(KW i).out) Tryz.underlying32 rfl KR) rfl ?_;exact⟨_,TE,by(with_reducible repeat (first|apply Kd.R_alloc|apply Kd.R_drewN|apply Kd.bC_));exact Kd.aM_ (Kd.a6_ (p:=⟨j,2,none⟩) (Kd.a6_ (p:=⟨j,1,none⟩) (Kd.a6_ (p:=⟨j,0,none⟩) (Kd.a6_ (p:=⟨A,2,none⟩) (Kd.bS_ (Kd.bS_ x.out c.out (by decide)) i.out (by decide)) (fun _ hk=>hk.1.2) (.slice B v.length D)) (fun _ hk=>hk.2) (.string l)) (fun _ hk=>hk.2) (.int .i64 m)) (fun _ hk=>hk.2) (.slice B v.length D)) (fun _ hk=>trivial),TB⟩
end
section
def bu_.l0:Nat→List (aa_)→List (aa_)→List (aa_)→Int→Int→Option ((List (aa_)))
 | 0,_,_,_,_,_=>none
 | k+1,x1,x5,x9,g,c=>if c<g then(if 0≤c then(if c<(x9.length:Int) then((ba_.f k x1 ((a_ x9 c).f0) ((a_ x9 c).f1) ((a_ x9 c).f2) ((a_ x9 c).f3)).bind fun h=>(if h=true then(bu_.l0 k x1 x5 x9 g (wrap64 (c+1))) else(if x5.length<2932031007402 then(bu_.l0 k x1 (x5++[(⟨(a_ x9 c).f0,(a_ x9 c).f1,(a_ x9 c).f2,(a_ x9 c).f3⟩:aa_)]) x9 g (wrap64 (c+1))) else(none)))) else(none)) else(none)) else(some x5)
def bu_.f (k:Nat) (l0:List (aa_)) (l1:List (aa_)):Option ((List (aa_))):=bu_.l0 k l1 (([]:List (aa_))) l0 (l0.length:Int) 0
theorem bu_.calls (k:Nat) (A0:Option Addr) (c0:Nat) (l0:List (aa_)) (A1:Option Addr) (c1:Nat) (l1:List (aa_)) (r:List (aa_)) (w:World) (J:Kd.C af_ w A0 l0.length l0) (K:l0.length≤c0) (M:Kd.C af_ w A1 l1.length l1) (O:l1.length≤c1) (h:bu_.f k l0 l1=some r) :
  Calls Tryz.prog 56 #[.slice A0 l0.length c0,.slice A1 l1.length c1] w fun e w'=>∃v0_:Value,e=.returned (v0_)∧Kd.R af_ 71 w' w.heap.size (fun _=>True) v0_ r∧Below w.heap.size w w':=by
 have hu71:=Tryz.underlying71;have U:=AM J;have ai:=AM K;clear J K;have V:=AM M;have W:=AM O;clear M O;have HB:=BZ w;have H:=h;clear h;unfold bu_.f at H;obtain⟨B,m⟩:∃y_:List (aa_),y_=(([]:List (aa_))):=⟨_,rfl⟩
 replace H:(bu_.l0 k l1 B l0 (l0.length:Int) 0)=some r:=by first|(rw[m];with_reducible exact H)|(have H2_:=(Option.bind_some _ _).symm.trans H;rw[m];with_reducible exact H2_)|(have H2_:=(Option.bind_some _ _).symm.trans H;with_reducible exact H2_)|with_reducible exact H|(rw[m];exact H)|exact H
 have Ny734:=AM m;clear m;have H':=AM H;clear H;go_enter Tryz.func56,Tryz.ntmps56;go_wp2_with (first|((with_reducible refine ax_ (N:=8) rfl ?_);refine Kd.R_lit af_ _ 71 ?hg (N:=8) ?hd (xs:=([]:List (aa_))) (inner:=[]) (ok:=fun _=>True) (okp:=fun _=>True) ?hr ?hp (fun _ hk=>hk) trivial (Below.refl _ _) (Nat.le_refl _) (by simp) ?_;(case hd=>rfl);(case hg=>rfl);(case hr=>first|(go_simp;done)|(go_simp;rfl));(case hp=>exact(Reps.none _ _));intro ae w3 u hb hg_ hnew_;clear hg_ hnew_;(first|rw[←Ny734.out] at u|(simp only[Int.reduceToNat] at u;rw[←Ny734.out] at u));have E:=RL u;replace HB:=BS hb;clear hb u));go_loopg [5,11] k (fun kq v5 aa w'=>∃(t:List (aa_)) (c:Int),aa=.int .i64 c∧Aside0 (bu_.l0 kq l1 t l0 (l0.length:Int) c=some r)∧Aside0 (kq≤k)∧Aside0 (Kd.R af_ 71 w' w.heap.size (fun _=>True) v5 t)∧Aside0 (Below w.heap.size w w'))
 case atStart=>exact⟨(B),(0),TF,H',NL,RW E,⟨TB⟩⟩
 case round =>
  clear H';obtain⟨t,c,rfl,HA,HK1,l,HB⟩:=hrel
  cases gk with
  | zero=>exact absurd HA.out (by simp[bu_.l0])
  | succ k1 =>
   have H:=HA.out;clear HA;simp only[bu_.l0] at H;by_cases c5:c<(l0.length:Int)
   ·rw[if_pos c5] at H;have X:=decide_eq_true c5;clear c5;obtain⟨af,H⟩:=dn H;obtain⟨ag,H⟩:=dn H;obtain⟨Y,A8,H⟩:=bnd H;by_cases c9:Y=true
    ·subst c9;replace H:=ift H;have H':=AM H;clear H;have n:0≤(c:Int):=TD;have q:c<(l0.length:Int):=TD;obtain⟨F,v,x,y,z,A⟩:=aw_ (Kd.ae_ U.out HB.out) c n q;cases v;replace n:=eq_true n;replace q:=eq_true q;go_wp2_with (first|(refine gD 7 rfl ?_;refine bE 7 #[.string (⟨#[]⟩:ByteArray),.int .i64 0,.int .i64 0,.string (⟨#[]⟩:ByteArray)] 71 ?_;intro i hg aj hbox hb;replace l:=AM (Kd.cn_ (Kd.R_elderB (RW l).out i (Nat.le_of_eq hg.symm)) hb);have j:=AM (hbox);have G:=bG hg;replace HB:=BS hb;clear hb hbox hg;have ab:=cz4 j)|(refine gL 17 rfl Tryz.func80 #[.slice A1 l1.length c1,.agg #[.string ((a_ l0 c).f0),.int .i64 ((a_ l0 c).f1),.int .i64 ((a_ l0 c).f2),.string ((a_ l0 c).f3)]] rfl TA ?_;(with_reducible refine(ba_.calls _ _ _ _ _ _ _ _ _ _ ?side1 ?side2 A8.out).mono ?_);(case side1=>exact Kd.ae_ V.out TB);(case side2=>exact W.out);rintro e ak ⟨rfl,hb⟩;refine⟨_,rfl,?_⟩;replace l:=AM (Kd.cn_ (by(with_reducible repeat (first|apply Kd.R_alloc|apply Kd.R_drewN|apply Kd.bC_));exact(Kd.aM_ (Kd.a6_ (p:=⟨i,3,none⟩) (Kd.a6_ (p:=⟨i,2,none⟩) (Kd.a6_ (p:=⟨i,1,none⟩) (Kd.a6_ (p:=⟨i,0,none⟩) (Kd.aM_ l.out (fun k_ hk=>(⟨hk,hk.2⟩:_∧k_≠i))) (fun _ hk=>hk.2) (.string ((a_ l0 c).f0))) (fun _ hk=>hk.2) (.int .i64 ((a_ l0 c).f1))) (fun _ hk=>hk.2) (.int .i64 ((a_ l0 c).f2))) (fun _ hk=>hk.2) (.string ((a_ l0 c).f3))) (fun _ h_=>h_.1))) hb);replace j:=KP j #[.string ((a_ l0 c).f0),.int .i64 ((a_ l0 c).f1),.int .i64 ((a_ l0 c).f2),.string ((a_ l0 c).f3)] hb;replace HB:=BS hb;clear hb));go_roundg k1
     case measure=>exact TM
     case rel=>exact⟨(t),(wrap64 (c+1)),TF,H',⟨TM⟩,⟨by(with_reducible repeat (first|apply Kd.R_alloc|apply Kd.R_drewN|apply Kd.bC_));exact Kd.aM_ l.out (fun _ hk=>trivial)⟩,⟨TB⟩⟩
    ·replace c9:=Bool.eq_false_iff.mpr c9;subst c9;replace H:=iff' H;obtain⟨Z,H⟩:=ifn H;have LMc13:=AM Z;clear Z;obtain⟨D,s⟩:∃y_:List (aa_),y_=(t++[(⟨(a_ l0 c).f0,(a_ l0 c).f1,(a_ l0 c).f2,(a_ l0 c).f3⟩:aa_)]):=⟨_,rfl⟩
     replace H:(bu_.l0 k1 l1 D l0 (l0.length:Int) (wrap64 (c+1)))=some r:=by first|(rw[s];with_reducible exact H)|(have H2_:=(Option.bind_some _ _).symm.trans H;rw[s];with_reducible exact H2_)|(have H2_:=(Option.bind_some _ _).symm.trans H;with_reducible exact H2_)|with_reducible exact H|(rw[s];exact H)|exact H
     have Ny740:=AM s;clear s;have H':=AM H;clear H;have n:0≤(c:Int):=TD;have q:c<(l0.length:Int):=TD;obtain⟨F,v,x,y,z,A⟩:=aw_ (Kd.ae_ U.out HB.out) c n q;cases v;replace n:=eq_true n;replace q:=eq_true q;go_wp2_with (first|(refine gD 7 rfl ?_;refine bE 7 #[.string (⟨#[]⟩:ByteArray),.int .i64 0,.int .i64 0,.string (⟨#[]⟩:ByteArray)] 71 ?_;intro i hg al hbox hb;replace l:=AM (Kd.cn_ (Kd.R_elderB (RW l).out i (Nat.le_of_eq hg.symm)) hb);have j:=AM (hbox);have G:=bG hg;replace HB:=BS hb;clear hb hbox hg;have ac:=cz4 j)|(refine gL 17 rfl Tryz.func80 #[.slice A1 l1.length c1,.agg #[.string ((a_ l0 c).f0),.int .i64 ((a_ l0 c).f1),.int .i64 ((a_ l0 c).f2),.string ((a_ l0 c).f3)]] rfl TA ?_;(with_reducible refine(ba_.calls _ _ _ _ _ _ _ _ _ _ ?side1 ?side2 A8.out).mono ?_);(case side1=>exact Kd.ae_ V.out TB);(case side2=>exact W.out);rintro e am ⟨rfl,hb⟩;refine⟨_,rfl,?_⟩;replace l:=AM (Kd.cn_ (by(with_reducible repeat (first|apply Kd.R_alloc|apply Kd.R_drewN|apply Kd.bC_));exact(Kd.aM_ (Kd.a6_ (p:=⟨i,3,none⟩) (Kd.a6_ (p:=⟨i,2,none⟩) (Kd.a6_ (p:=⟨i,1,none⟩) (Kd.a6_ (p:=⟨i,0,none⟩) (Kd.aM_ l.out (fun k_ hk=>(⟨hk,hk.2⟩:_∧k_≠i))) (fun _ hk=>hk.2) (.string ((a_ l0 c).f0))) (fun _ hk=>hk.2) (.int .i64 ((a_ l0 c).f1))) (fun _ hk=>hk.2) (.int .i64 ((a_ l0 c).f2))) (fun _ hk=>hk.2) (.string ((a_ l0 c).f3))) (fun _ h_=>h_.1))) hb);replace j:=KP j #[.string ((a_ l0 c).f0),.int .i64 ((a_ l0 c).f1),.int .i64 ((a_ l0 c).f2),.string ((a_ l0 c).f3)] hb;replace HB:=BS hb;clear hb;have ad:=cz4 j)|((with_reducible refine bN_ (b:=.append) (xs:=#[.tmp 19,.tmp 21]) rfl ?_);at_builtin;refine Kd.R_append af_ (w0:=w) w.heap.size rfl (.tmp 19) (.tmp 21) 30 71 (.agg #[(.string ⟨#[]⟩),(.int .i64 0),(.int .i64 0),(.string ⟨#[]⟩)]) 48 rfl Tryz.underlying30 info71 rfl (by decide) (by omega) u5 t (⟨(a_ l0 c).f0,(a_ l0 c).f1,(a_ l0 c).f2,(a_ l0 c).f3⟩:aa_) [.string ((a_ l0 c).f0),.int .i64 ((a_ l0 c).f1),.int .i64 ((a_ l0 c).f2),.string ((a_ l0 c).f3)] (fun k_=>k_≠i) (fun _=>False) rfl rfl ?aP (fun _ hk=>hk.elim) ?aF ?aO ?aB ?aS ?aL ?_;(case aP=>exact ct_ _ _ _ (⟨(a_ l0 c).f0,(a_ l0 c).f1,(a_ l0 c).f2,(a_ l0 c).f3⟩:aa_));(case aB=>exact TB);(case aF=>exact(fun k_ hk=>Kd.freshB (g:=i) (o:=.cells #[.string ((a_ l0 c).f0),.int .i64 ((a_ l0 c).f1),.int .i64 ((a_ l0 c).f2),.string ((a_ l0 c).f3)] 71 (0,0)) (KW j).out k_ hk));(case aO=>exact(MO l).out);(case aS=>exact(bh_ TB));(case aL=>have:=LMc13.out;omega);intro ah an ho hb hg hat;rw[←Ny740.out] at ho;have n0_:=AM (cz_ (g:=i) (o:=.cells #[.string ((a_ l0 c).f0),.int .i64 ((a_ l0 c).f1),.int .i64 ((a_ l0 c).f2),.string ((a_ l0 c).f3)] 71 (0,0)) (KW j).out hg (Kd.R_away l.out (fun _ hk=>hk.2)));have n1_:=AM (hb);have n2_:=AM (ho);clear j HB l;have j:=n0_;have HB:=n1_;have I:=n2_;clear n0_ n1_ n2_ ho hb hg hat));go_roundg k1
     case measure=>exact TM
     case rel=>exact⟨(D),(wrap64 (c+1)),TF,H',⟨TM⟩,⟨by(with_reducible repeat (first|apply Kd.R_alloc|apply Kd.R_drewN|apply Kd.bC_));exact Kd.aM_ I.out (fun _ hk=>trivial)⟩,⟨TB⟩⟩
   ·rw[if_neg c5] at H;have X:=decide_eq_false c5;clear c5;obtain rfl:=Option.some.inj H;go_wp2;go_ret;exact⟨_,TE,(RW l).out,TB⟩
end
section
def ac_.l0:Nat→List (aa_)→Int→Int→Int→ByteArray→Int→Int→ByteArray→Option (Int × Bool)
 | 0,_,_,_,_,_,_,_,_=>none
 | k+1,x0,x8,x9,j,c,g,h,i=>if x9<j then(if 0≤(wrap64 ((IntKind.u64.wrap (wrap64 (x9+j))) / 2)) then(if (wrap64 ((IntKind.u64.wrap (wrap64 (x9+j))) / 2))<(x0.length:Int) then((a9_.f k ((a_ x0 (wrap64 ((IntKind.u64.wrap (wrap64 (x9+j))) / 2))).f0) ((a_ x0 (wrap64 ((IntKind.u64.wrap (wrap64 (x9+j))) / 2))).f1) ((a_ x0 (wrap64 ((IntKind.u64.wrap (wrap64 (x9+j))) / 2))).f2) ((a_ x0 (wrap64 ((IntKind.u64.wrap (wrap64 (x9+j))) / 2))).f3) c g h i).bind fun l=>(if l<0 then(ac_.l0 k x0 x8 (wrap64 ((wrap64 ((IntKind.u64.wrap (wrap64 (x9+j))) / 2))+1)) j c g h i) else(ac_.l0 k x0 x8 x9 (wrap64 ((IntKind.u64.wrap (wrap64 (x9+j))) / 2)) c g h i))) else(none)) else(none)) else(if x9<x8 then(if 0≤x9 then(if x9<(x0.length:Int) then((a9_.f k ((a_ x0 x9).f0) ((a_ x0 x9).f1) ((a_ x0 x9).f2) ((a_ x0 x9).f3) c g h i).bind fun m=>(some (x9,(m==0)))) else(none)) else(none)) else(some (x9,false)))
def ac_.f (k:Nat) (l0:List (aa_)) (a1_0:ByteArray) (a1_1:Int) (a1_2:Int) (a1_3:ByteArray)  : Option (Int × Bool):=ac_.l0 k l0 (l0.length:Int) 0 (l0.length:Int) a1_0 a1_1 a1_2 a1_3
def ac_.T5:Bool × List (List Nat × List Nat):=(true,[([],[]),([],[]),([],[]),([1,2],[1,2]),([3],[3]),([],[]),([0,4,5],[0,4,5]),([6],[6])])
def ac_.B5:List Nat:=[0,0,0,6,14,0,63,127]
theorem ac_.tab5:rtab .any (opsOf Tryz.f100 5)=ac_.T5:=by kernel_rfl
theorem ac_.bits5:waitsOk ac_.T5.2 ac_.B5=true:=by kernel_rfl
def ac_.T8:Bool × List (List Nat × List Nat):=(true,[([],[]),([],[]),([],[]),([1,2],[1,2]),([3],[3]),([4],[4]),([4],[4]),([4],[4]),([6,7,4],[4,6,7]),([8,4],[4,8]),([4],[4]),([5,9,10,4,4],[4,5,9,10]),([11,4],[4,11]),([4,12],[4,12]),([0,11,0],[0]),([13,14,0,1,2,3,4,5,6,7,8,9,10,11,12,13,14],[13])])
def ac_.B8:List Nat:=[0,0,0,6,14,30,30,30,222,478,30,2046,4094,8190,4095,32767]
theorem ac_.tab8:rtab .any (opsOf Tryz.f100 8)=ac_.T8:=by kernel_rfl
theorem ac_.bits8:waitsOk ac_.T8.2 ac_.B8=true:=by kernel_rfl
theorem ac_.calls (k:Nat) (A0:Option Addr) (c0:Nat) (l0:List (aa_)) (l:ByteArray) (m:Int) (o:Int) (p:ByteArray)  (r1:Int) (r2:Bool) (w:World) (ab:Kd.C af_ w A0 l0.length l0) (ac:l0.length≤c0) (hG_:Glob w) (h:ac_.f k l0 l m o p=some (r1,r2)) :
  Calls Tryz.prog 100 #[.slice A0 l0.length c0,.agg #[.string l,.int .i64 m,.int .i64 o,.string p],.func (.func 101) #[] #[]] w fun e w'=>e=.returned (.tuple #[.int .i64 r1,.bool r2])∧Below w.heap.size w w':=by
 have hu71:=Tryz.underlying71;have ad:=AM ab;have ao:=AM ac;clear ab ac;have HGL:=AM hG_;clear hG_;have HB:=BZ w;have H:=h;clear h;unfold ac_.f at H;have H':=AM H;clear H;go_enter Tryz.func100,Tryz.ntmps100;go_wp2_with (first|(refine gD 4 rfl ?_;refine bE 4 #[.string l,.int .i64 m,.int .i64 o,.string p] 71 ?_;intro j hg w4 hbox hb;have c:=AM (hbox);replace HB:=BS hb;clear hb hbox hg));go_loopg [9,10] k (fun kq v9 ah w'=>∃(g:Int) (q:Int),v9=.int .i64 g∧ah=.int .i64 q∧Aside0 (ac_.l0 kq l0 (l0.length:Int) g q l m o p=some (r1,r2))∧Aside0 (kq≤k)∧Aside0 (w'.heap[j]? = some (.cells #[.string l,.int .i64 m,.int .i64 o,.string p] 71 (0,0)))∧Aside0 (Below w.heap.size w w'))
 case atStart=>exact⟨(0),((l0.length:Int)),TF,TF,H',NL,KW c,⟨TB⟩⟩
 case round =>
  clear H';obtain⟨g,q,rfl,rfl,HA,HK1,c,HB⟩:=hrel
  cases gk with
  | zero=>exact absurd HA.out (by simp[ac_.l0])
  | succ k1 =>
   have H:=HA.out;clear HA;simp only[ac_.l0] at H;by_cases c5:g<q
   ·rw[if_pos c5] at H;have ae:=decide_eq_true c5;clear c5;obtain⟨i,hji6⟩:∃j_:Int,(wrap64 ((IntKind.u64.wrap (wrap64 (g+q))) / 2))=j_:=⟨_,rfl⟩
    replace H:(if 0≤(i) then(if (i)<(l0.length:Int) then((a9_.f k1 ((a_ l0 (i)).f0) ((a_ l0 (i)).f1) ((a_ l0 (i)).f2) ((a_ l0 (i)).f3) l m o p).bind fun U=>(if U<0 then(ac_.l0 k1 l0 (l0.length:Int) (wrap64 ((i)+1)) q l m o p) else(ac_.l0 k1 l0 (l0.length:Int) g i l m o p))) else(none)) else(none))=some (r1,r2):=by first|(rw[hji6] at H;exact H)|(simp only[hji6] at H ⊢;exact H)
    have hji6w:(IntKind.i64.wrap ((IntKind.u64.wrap (wrap64 (g+q))) / 2))=i:=(b6_ _).trans hji6;obtain⟨al,H⟩:=dn H;obtain⟨am,H⟩:=dn H;obtain⟨U,A9,H⟩:=bnd H;have HX_:=AM H;clear H
    try go_wp2
    replace c:=AM (ai_ c.out);replace HB:=AM (ar_ HB.out);have V:0≤((i):Int):=TD;have W:(i)<(l0.length:Int):=TD;obtain⟨s,af,u,v,x,y⟩:=aw_ ad.out (i) V W;have E:=y;have F:=x;have G:=v;have I:=u;cases af;replace u:=hBc HB u;replace v:=hBc HB v;replace x:=hBc HB x;replace y:=hBc HB y;replace V:=eq_true V;replace W:=eq_true W;refine start_ (n:=8) (S:=fun w'=>w'.cell? ⟨j,0,none⟩=some (.string l)∧w'.cell? ⟨j,1,none⟩=some (.int .i64 m)∧w'.cell? ⟨j,2,none⟩=some (.int .i64 o)∧w'.cell? ⟨j,3,none⟩=some (.string p)∧w'.cell? (s.add (((i)).toNat * 4))=some (.string ((a_ l0 (i)).f0))∧w'.cell? ⟨(s.add (((i)).toNat * 4)).block,(s.add (((i)).toNat * 4)).off+1,none⟩=some (.int .i64 ((a_ l0 (i)).f1))∧w'.cell? ⟨(s.add (((i)).toNat * 4)).block,(s.add (((i)).toNat * 4)).off+2,none⟩=some (.int .i64 ((a_ l0 (i)).f2))∧w'.cell? ⟨(s.add (((i)).toNat * 4)).block,(s.add (((i)).toNat * 4)).off+3,none⟩=some (.string ((a_ l0 (i)).f3))) (ds:=[]) (mL 8 0) KR rfl KR ⟨bc 0 c,bc 1 c,bc 2 c,bc 3 c,(hBc HB I),(hBc HB G),(hBc HB F),(hBc HB E)⟩ (fun hHeld=>?_);refine bg_ ac_.tab5 ac_.bits5 (fun HT_ HW_=>?_);generalize wr.drew=ap at c HB u v x y hHeld ⊢;refine pB 0 rfl rfl ?_;refine pB 1 rfl rfl ?_;refine pB 2 rfl rfl ?_;refine pB 3 rfl rfl ?_;refine tB 4 hHeld rfl rfl ?_;refine tB 5 hHeld rfl rfl ?_
    refine oB 6 rfl rfl fun K hK=>?_
    refine goesF_ ?hv Tryz.func101 KR rfl #[.agg #[.string ((a_ l0 (i)).f0),.int .i64 ((a_ l0 (i)).f1),.int .i64 ((a_ l0 (i)).f2),.string ((a_ l0 (i)).f3)],.agg #[.string l,.int .i64 m,.int .i64 o,.string p]] (by rfl) rfl rfl (by(try simp only[List.map_toArray,List.map_cons,List.map_nil]);first|done|(simp only[hji6];rfl)|rfl|(simp only[List.length_drop,List.length_take];rfl)) ?_
    case hv=>rfl
    with_reducible refine(a9_.calls _ _ _ _ _ _ _ _ _ _ _ ?side1 A9.out).mono ?_
    (case side1=>exact GW HGL);rintro e aq ⟨rfl,hb⟩;refine⟨_,rfl,?_⟩;replace c:=KB c hb;replace HB:=BS hb;clear hb;refine hK.out _ _ ⟨bc 0 c,bc 1 c,bc 2 c,bc 3 c,(hBc HB I),(hBc HB G),(hBc HB F),(hBc HB E)⟩ (fun hHeld=>?_);clear hK K;refine nA ?_;refine pB 7 rfl rfl ?_;refine done_ (bz_ HT_.out KR) ?_;have H:=HX_.out;clear HX_;by_cases c10:U<0
    ·rw[if_pos c10] at H;have Z:=decide_eq_true c10;clear c10;have H':=AM H;clear H
     try go_simp
     try go_wp2
     go_roundg k1
     case measure=>exact TM
     case rel=>exact⟨(wrap64 ((i)+1)),(q),(by first|rfl|(simp;done)|(simp only[←hji6]<;>(first|rfl|simp))|(simp[*];done)),TF,H',⟨TM⟩,KW c,⟨TB⟩⟩
    ·rw[if_neg c10] at H;have Z:=decide_eq_false c10;clear c10;have H':=AM H;clear H
     try go_simp
     try go_wp2
     go_roundg k1
     case measure=>exact TM
     case rel=>exact⟨(g),(i),TF,(by first|rfl|(simp;done)|(simp only[←hji6]<;>(first|rfl|simp))|(simp[*];done)),H',⟨TM⟩,KW c,⟨TB⟩⟩
   ·rw[if_neg c5] at H;have ae:=decide_eq_false c5;clear c5;by_cases R:g<(l0.length:Int)
    ·rw[if_pos R] at H;have aa:=decide_eq_true R;clear R;obtain⟨ai,H⟩:=dn H;obtain⟨aj,H⟩:=dn H;obtain⟨an,ak,H⟩:=bnd H;simp only[Option.some.injEq,Prod.mk.injEq] at H;obtain⟨rfl,rfl⟩:=H
     try go_wp2
     replace c:=AM (ai_ c.out);replace HB:=AM (ar_ HB.out);have X:0≤(g:Int):=TD;have Y:g<(l0.length:Int):=TD;obtain⟨t,ag,z,A,B,D⟩:=aw_ ad.out g X Y;have J:=D;have M:=B;have N:=A;have O:=z;cases ag;replace z:=hBc HB z;replace A:=hBc HB A;replace B:=hBc HB B;replace D:=hBc HB D;replace X:=eq_true X;replace Y:=eq_true Y;refine start_ (n:=16) (S:=fun w'=>w'.cell? ⟨j,0,none⟩=some (.string l)∧w'.cell? ⟨j,1,none⟩=some (.int .i64 m)∧w'.cell? ⟨j,2,none⟩=some (.int .i64 o)∧w'.cell? ⟨j,3,none⟩=some (.string p)∧w'.cell? (t.add ((g).toNat * 4))=some (.string ((a_ l0 g).f0))∧w'.cell? ⟨(t.add ((g).toNat * 4)).block,(t.add ((g).toNat * 4)).off+1,none⟩=some (.int .i64 ((a_ l0 g).f1))∧w'.cell? ⟨(t.add ((g).toNat * 4)).block,(t.add ((g).toNat * 4)).off+2,none⟩=some (.int .i64 ((a_ l0 g).f2))∧w'.cell? ⟨(t.add ((g).toNat * 4)).block,(t.add ((g).toNat * 4)).off+3,none⟩=some (.string ((a_ l0 g).f3))) (ds:=[]) (mL 16 0) KR rfl KR ⟨bc 0 c,bc 1 c,bc 2 c,bc 3 c,(hBc HB O),(hBc HB N),(hBc HB M),(hBc HB J)⟩ (fun hHeld=>?_);refine bg_ ac_.tab8 ac_.bits8 (fun HT_ HW_=>?_);generalize wr.drew=ar at c HB z A B D hHeld ⊢;refine pB 0 rfl rfl ?_;refine pB 1 rfl rfl ?_;refine pB 2 rfl rfl ?_;refine pB 3 rfl rfl ?_;refine pB 4 rfl rfl ?_;refine pB 5 rfl rfl ?_;refine pB 6 rfl rfl ?_;refine pB 7 rfl rfl ?_;refine pB 8 rfl rfl ?_;refine tB 9 hHeld rfl rfl ?_;refine tB 10 hHeld rfl rfl ?_
     refine oB 11 rfl rfl fun K hK=>?_
     refine goesF_ ?hv Tryz.func101 KR rfl #[.agg #[.string ((a_ l0 g).f0),.int .i64 ((a_ l0 g).f1),.int .i64 ((a_ l0 g).f2),.string ((a_ l0 g).f3)],.agg #[.string l,.int .i64 m,.int .i64 o,.string p]] (by rfl) rfl rfl TA ?_
     case hv=>rfl
     with_reducible refine(a9_.calls _ _ _ _ _ _ _ _ _ _ _ ?side1 ak.out).mono ?_
     (case side1=>exact GW HGL);rintro e au ⟨rfl,hb⟩;refine⟨_,rfl,?_⟩;replace c:=KB c hb;replace HB:=BS hb;clear hb;refine hK.out _ _ ⟨bc 0 c,bc 1 c,bc 2 c,bc 3 c,(hBc HB O),(hBc HB N),(hBc HB M),(hBc HB J)⟩ (fun hHeld=>?_);clear hK K;refine nA ?_;refine pB 12 rfl rfl ?_;refine pB 13 rfl rfl ?_;refine pB 14 rfl rfl ?_;refine pB 15 rfl rfl ?_;refine done_ (bz_ HT_.out KR) ?_
     try go_wp2
     go_ret2;exact⟨TE,TB⟩
    ·rw[if_neg R] at H;have aa:=decide_eq_false R;clear R;simp only[Option.some.injEq,Prod.mk.injEq] at H;obtain⟨rfl,rfl⟩:=H
     try go_wp2
     replace c:=AM (ai_ c.out);replace HB:=AM (ar_ HB.out);refine start_ (n:=16) (S:=fun w'=>True) (ds:=[]) (mL 16 0) KR rfl KR trivial (fun hHeld=>?_);refine bg_ ac_.tab8 ac_.bits8 (fun HT_ HW_=>?_);generalize wr.drew=av at c HB hHeld ⊢;refine pB 0 rfl rfl ?_;refine pB 1 rfl rfl ?_;refine pB 2 rfl rfl ?_;refine pB 3 rfl rfl ?_;refine pB 4 rfl rfl ?_;refine uB 5 rfl rfl ?_;refine uB 6 rfl rfl ?_;refine uB 7 rfl rfl ?_;refine uB 8 rfl rfl ?_;refine uB 9 rfl rfl ?_;refine uB 10 rfl rfl ?_;refine uB 11 rfl rfl ?_;refine uB 12 rfl rfl ?_;refine pB 13 rfl rfl ?_;refine pB 14 rfl rfl ?_;refine pB 15 rfl rfl ?_;refine done_ (bz_ HT_.out KR) ?_
     try go_wp2
     go_ret2;exact⟨TE,TB⟩
end
section
theorem run_copy_rowK {P:Program} (w:World) (dT sT ty elem:TypeId) (k g o dLen dCap:Nat) (a:Addr) (sLen sCap:Nat) (cur:Array Value) (t:TypeId) (cs:List Value)
  (hu:P.underlying dT=some (.slice elem)) (hs:(P.info? elem).map (·.size)=some k)
  (hg:w.heap[g]? = some (.cells cur t (0,0))) (hn:cs.length=Nat.min sLen dLen * k)
  (hsrc:∀j v,cs[j]? = some v→w.cell? (a.add j)=some v) (hfit:o+cs.length≤cur.size) (h1:∀v∈cs,v.oneCell'=true) :
  (Builtin.copy_ #[dT,sT] ty #[.slice (some ⟨g,o,none⟩) dLen dCap,.slice (some a) sLen sCap]).run P w =
   .ok (goInt (Nat.min sLen dLen)) (w.setRow g (cur.toList.take o++cs++cur.toList.drop (o+cs.length)).toArray):=by
 have hl:=run_loadCells_list (P:=P) w a cs hsrc;have hst:=run_storeCells_at P g o t cs 0 cur w hg (by simpa using hfit) h1
 cases hq:P.info? elem with
 | none=>simp[hq] at hs
 | some i =>
  have hi:i.size=k:=by simpa[hq] using hs
  simp[Builtin.copy_,run_underlying hu,Builtin.lenOf,Builtin.firstCells,sizeOf,typeInfo,hq,hi,←hn,hl,hst]
def ins_T15:Bool × List (List Nat × List Nat):=(true,[([],[]),([],[]),([],[]),([1,2],[1,2]),([0,3],[0,3]),([],[]),([],[]),([5,6],[5,6]),([4,7],[4,7])])
def ins_B15:List Nat:=[0,0,0,6,15,0,0,96,255]
theorem ins_tab15:rtab .any (opsOf Tryz.f102 15)=ins_T15:=by kernel_rfl
theorem ins_bits15:waitsOk ins_T15.2 ins_B15=true:=by kernel_rfl
theorem ins_list (n c i:Nat) (cur:Array Value) (xs vs:List Value) (A1 A2:Array Value) (hcur:cur.size=c * 4) (hx:cur.toList.take (n * 4)=xs) (hxl:xs.length=n * 4) (hi:i<n) (hroom:n+1≤c) (hvl:vs.length=4)
  (hA1:A1=(cur.toList.take ((i+1) * 4)++xs.drop (i * 4)++cur.toList.drop ((i+1) * 4+(xs.drop (i * 4)).length)).toArray) (hA2:A2=(A1.toList.take (i * 4)++vs++A1.toList.drop (i * 4+vs.length)).toArray) :
  A2.toList.take ((n+1) * 4)=xs.take (i * 4)++vs++xs.drop (i * 4):=by
 have hl:(cur.toList.take ((i+1) * 4)).length=(i+1) * 4:=by rw[List.length_take,Array.length_toList];omega
 have hd:(xs.drop (i * 4)).length=(n - i) * 4:=by rw[List.length_drop,hxl];omega
 have e0:A1.toList=cur.toList.take ((i+1) * 4)++(xs.drop (i * 4)++cur.toList.drop ((i+1) * 4+(xs.drop (i * 4)).length)):=by rw[hA1,List.append_assoc]
 have e1:A1.toList.take (i * 4)=xs.take (i * 4):=by
  rw[e0,List.take_append_of_le_length (by omega),List.take_take,←hx,List.take_take];congr 1;omega
 have e2:A1.toList.drop (i * 4+vs.length)=xs.drop (i * 4)++cur.toList.drop ((i+1) * 4+(xs.drop (i * 4)).length):=by
  rw[e0];exact List.drop_left' (by rw[hl,hvl];omega)
 have h3:(xs.take (i * 4)).length=i * 4:=by rw[List.length_take,hxl];omega
 rw[hA2,e1,e2];show((xs.take (i * 4)++vs)++(xs.drop (i * 4)++_)).take ((n+1) * 4)=_;rw[←List.append_assoc];exact List.take_left' (by simp only[List.length_append,h3,hvl,hd];omega)
theorem ins_shift (g n c i:Nat) (cur:Array Value) (xs vs:List Value) (w:World) (ad:Addr) (c2:Nat)
  (hg:w.heap[g]? = some (.cells cur 71 (0,0))) (hcur:cur.size=c * 4) (hx:cur.toList.take (n * 4)=xs) (hxl:xs.length=n * 4) (hi:i<n) (hroom:n+1≤c) (hc:c≤maxLen)
  (hvl:vs.length=4) (hvs:∀j v,vs[j]? = some v→w.cell? (ad.add j)=some v) (hne:ad.block≠g) (h1x:∀v∈xs,v.oneCell'=true) (h1v:∀v∈vs,v.oneCell'=true)
  (hov:∀(a':Addr) lb cb,a'.block=g→(callFunc 127 #[.slice (some ad) 1 c2,.slice (some a') lb cb]).run Tryz.prog w=.ok (.value (.bool false)) w) :
  Calls Tryz.prog 102 #[.slice (some ⟨g,0,none⟩) n c,.int .i64 i,.slice (some ad) 1 c2] w fun e w'=>e=.returned (.slice (some ⟨g,0,none⟩) (n+1) c) ∧
   ∃cur':Array Value,w'=(w.drew.setRow g cur')∧cur'.size=cur.size∧cur'.toList.take ((n+1) * 4)=xs.take (i * 4)++vs++xs.drop (i * 4):=by
 have hu27:=Tryz.underlying30
 have hz1:¬((1:Int)=0):=by omega
 have hz2:¬((i:Int)=(n:Int)):=by omega
 have hm:maxLen=9223372036854775807:=rfl
 have l:IntKind.i64.wrap ((i:Int)+(1:Int))=(i:Int)+(1:Int):=by rw[IntKind.wrap_i64];omega
 have m:IntKind.i64.wrap ((n:Int)+(1:Int))=(n:Int)+(1:Int):=by rw[IntKind.wrap_i64];omega
 have hb1:(0:Int)≤(i:Int)+(1:Int):=by omega
 have hin:i≤n:=by omega
 have hb2:¬(c=i+1):=by omega
 have hb3:(i:Int)≤(n:Int)+1:=by omega
 have hb4:¬(c=i):=by omega
 have hov':=fun o lb cb=>hov ⟨g,o,none⟩ lb cb rfl
 obtain⟨A1,hA1⟩:∃A1:Array Value,A1=(cur.toList.take ((i+1) * 4)++xs.drop (i * 4)++cur.toList.drop ((i+1) * 4+(xs.drop (i * 4)).length)).toArray:=⟨_,rfl⟩;obtain⟨A2,hA2⟩:∃A2:Array Value,A2=(A1.toList.take (i * 4)++vs++A1.toList.drop (i * 4+vs.length)).toArray:=⟨_,rfl⟩
 have hd1:(xs.drop (i * 4)).length=(n - i) * 4:=by rw[List.length_drop,hxl];omega
 have f:A1.size=cur.size:=by
  rw[hA1,List.size_toArray];simp only[List.length_append,List.length_take,List.length_drop,Array.length_toList];omega
 have hcp1:∀ty dc sc,(Builtin.copy_ #[30,30] ty #[.slice (some ⟨g,(i+1) * 4,none⟩) (n+1 - (i+1)) dc,.slice (some ⟨g,i * 4,none⟩) (n+1 - i) sc]).run Tryz.prog w.drew=.ok (goInt (Nat.min (n+1 - i) (n+1 - (i+1)))) (w.drew.setRow g A1):=fun ty dc sc=>by
  rw[hA1];refine run_copy_rowK w.drew 30 30 ty 71 4 g ((i+1) * 4) (n+1 - (i+1)) dc ⟨g,i * 4,none⟩ (n+1 - i) sc cur 71 (xs.drop (i * 4)) hu27 KR hg ?_ ?_ ?_ (fun v hv=>h1x v (List.mem_of_mem_drop hv))
  ·rw[hd1]
   have:Nat.min (n+1 - i) (n+1 - (i+1))=n - i:=by simp only[Nat.min_def];split<;>omega
   rw[this]
  ·intro j v hj
   have h2:cur[i * 4+j]? = some v:=by
    rw[List.getElem?_drop,←hx,List.getElem?_take] at hj;split at hj
    ·simpa using hj
    ·cases hj
   rw[Addr.add_lit];exact(blk_cell (w:=w) hg (i * 4+j)).trans h2
  ·rw[hd1];omega
 have hcp2:∀ty dc sc,(Builtin.copy_ #[30,30] ty #[.slice (some ⟨g,i * 4,none⟩) (n+1 - i) dc,.slice (some ad) 1 sc]).run Tryz.prog (w.drew.setRow g A1)=.ok (goInt (Nat.min 1 (n+1 - i))) ((w.drew.setRow g A1).setRow g A2):=fun ty dc sc=>by
  rw[hA2];refine run_copy_rowK (w.drew.setRow g A1) 30 30 ty 71 4 g (i * 4) (n+1 - i) dc ad 1 sc A1 71 vs hu27 KR (setRow_heap w.drew g cur A1 71 (0,0) hg) ?_ ?_ ?_ h1v
  ·have:Nat.min 1 (n+1 - i)=1:=by simp only[Nat.min_def];split<;>omega
   rw[this,hvl]
  ·intro j v hj
   have hb:(ad.add j).block≠g:=by rw[add_block];exact hne
   have h2:=hvs j v hj
   have hk:(w.drew.setRow g A1).heap[(ad.add j).block]? = w.heap[(ad.add j).block]?:=by
    simp only[World.setRow,World.drew,Array.getElem?_modify];rw[if_neg (fun h=>hb h.symm)]
   exact(World.cell?_of_block hk).trans h2
  ·rw[f];omega
 have HA1:=AM hA1;have HA2:=AM hA2;have HL1:=AM f;have HX:=AM hx;have HXL:=AM hxl;have HVL:=AM hvl;have HCUR:=AM hcur;clear hA1 hA2 f hd1 hx hxl hvl hcur;go_enter Tryz.func102,Tryz.ntmps102;go_wp2_with (simp only[hov']);refine start_ (n:=9) (S:=fun _=>True) (ds:=[]) (mL 9 0) KR rfl KR trivial (fun hHeld=>?_);refine bg_ ins_tab15 ins_bits15 (fun HT_ HW_=>?_);refine pB 0 rfl rfl ?_;refine pB 1 rfl rfl ?_;refine pB 2 rfl rfl ?_;refine pB 3 rfl rfl ?_;refine pB 4 rfl rfl ?_;refine pB 5 rfl rfl ?_;refine pB 6 rfl rfl ?_;refine pB 7 rfl rfl ?_
 refine oB 8 rfl rfl fun K hK=>?_
 refine step_copy_runI rfl _ _ 30 30 rfl (.slice (some ⟨g,(i+1) * 4,none⟩) (n+1 - (i+1)) (c - (i+1))) (.slice (some ⟨g,i * 4,none⟩) (n+1 - i) (c - i)) ?hd ?hx (hcp1 _ _ _) ?_
 case hd=>go_simp
 case hx=>go_simp
 refine hK.out _ _ trivial (fun hHeld=>?_);clear hK K;refine nA ?_;refine done_ (bz_ HT_.out KR) ?_;go_wp2_with (at_builtin;refine wpList_copy_runI _ rfl _ _ 30 30 rfl (.slice (some ⟨g,i * 4,none⟩) (n+1 - i) (c - i)) (.slice (some ad) 1 c2) ?hd ?hs (hcp2 _ _ _) ?_;(case hd=>go_simp);(case hs=>go_simp));go_ret;refine⟨by go_simp,A2,setRow_setRow _ _ _ _,?_,?_⟩
 ·rw[HA2.out,List.size_toArray];have:=HL1.out;simp only[List.length_append,List.length_take,List.length_drop,Array.length_toList,HVL.out];have:=HCUR.out;omega
 ·exact ins_list n c i cur xs vs A1 A2 HCUR.out HX.out HXL.out hi hroom HVL.out HA1.out HA2.out
def ins_T11:Bool × List (List Nat × List Nat):=(true,[([],[]),([],[]),([],[]),([1,2],[1,2]),([0,3],[0,3]),([],[]),([],[]),([5,6],[5,6]),([4,7],[4,7])])
theorem ins_tab11:rtab .any (opsOf Tryz.f102 11)=ins_T11:=by kernel_rfl
theorem ins_bits11:waitsOk ins_T11.2 ins_B15=true:=by kernel_rfl
theorem ins_glist (n i:Nat) (ROW:Array Value) (xs vs:List Value) (A1 A2:Array Value) (hx:ROW.toList.take (i * 4)=xs.take (i * 4)) (hR:(n+1) * 4≤ROW.size) (hxl:xs.length=n * 4) (hi:i<n) (hvl:vs.length=4)
  (hA1:A1=(ROW.toList.take (i * 4)++vs++ROW.toList.drop (i * 4+vs.length)).toArray) (hA2:A2=(A1.toList.take ((i+1) * 4)++xs.drop (i * 4)++A1.toList.drop ((i+1) * 4+(xs.drop (i * 4)).length)).toArray) :
  A2.toList.take ((n+1) * 4)=xs.take (i * 4)++vs++xs.drop (i * 4):=by
 have hd:(xs.drop (i * 4)).length=(n - i) * 4:=by rw[List.length_drop,hxl];omega
 have h3:(xs.take (i * 4)).length=i * 4:=by rw[List.length_take,hxl];omega
 have e0:A1.toList=(xs.take (i * 4)++vs)++ROW.toList.drop (i * 4+vs.length):=by rw[hA1,hx]
 have e1:A1.toList.take ((i+1) * 4)=xs.take (i * 4)++vs:=by
  rw[e0];exact List.take_left' (by simp only[List.length_append,h3,hvl];omega)
 rw[hA2,e1];exact List.take_left' (by simp only[List.length_append,h3,hvl,hd];omega)
theorem below_setRow {w W:World} {N:Nat} {cs:Array Value} (h:Below N w W):Below N w (W.setRow N cs) :=
 ⟨h.os,h.tape,h.output,by simpa[World.setRow] using h.size,fun k hk=>by
  have h0:=h.block k hk
  rw[←h0]
  simp only[World.setRow,Array.getElem?_modify]
  rw[if_neg (by omega)]⟩
theorem ins_grow (g n c i:Nat) (cur:Array Value) (xs vs:List Value) (w:World) (ad:Addr) (c2:Nat)
  (hg:w.heap[g]? = some (.cells cur 71 (0,0))) (hcur:cur.size=c * 4) (hx:cur.toList.take (n * 4)=xs) (hxl:xs.length=n * 4) (hi:i<n) (hnc:n≤c) (hroom:c<n+1) (hbig:(n+1) * 48≤140737488355328)
  (hvl:vs.length=4) (hvs:∀j v,vs[j]? = some v→w.cell? (ad.add j)=some v) (h1x:∀v∈xs,v.oneCell'=true) (h1v:∀v∈vs,v.oneCell'=true) :
  Calls Tryz.prog 102 #[.slice (some ⟨g,0,none⟩) n c,.int .i64 i,.slice (some ad) 1 c2] w fun e w'=>e=.returned (.slice (some ⟨w.heap.size,0,none⟩) (n+1) (grownCap w (n+1) c 71)) ∧
   Below w.heap.size w w'∧∃cur':Array Value,w'.heap[w.heap.size]? = some (.cells cur' 71 (0,0))∧cur'.size=grownCap w (n+1) c 71 * 4∧cur'.toList.take ((n+1) * 4)=xs.take (i * 4)++vs++xs.drop (i * 4):=by
 have hu27:=Tryz.underlying30;have hu3:=Tryz.underlying3;obtain⟨i0,m,hz0,hzs,hzb⟩:=info_parts info71
 have hz1:¬((1:Int)=0):=by omega
 have hz2:¬((i:Int)=(n:Int)):=by omega
 have hz3:(c:Int)<(n:Int)+(1:Int):=by omega
 have hm:maxLen=9223372036854775807:=rfl
 have p:IntKind.i64.wrap ((i:Int)+(1:Int))=(i:Int)+(1:Int):=by rw[IntKind.wrap_i64];omega
 have q:IntKind.i64.wrap ((n:Int)+(1:Int))=(n:Int)+(1:Int):=by rw[IntKind.wrap_i64];omega
 have s:IntKind.i64.wrap ((n:Int)+(1:Int) - (i:Int))=(n:Int)+(1:Int) - (i:Int):=by rw[IntKind.wrap_i64];omega
 have hb1:(0:Int)≤(i:Int)+(1:Int):=by omega
 have hin:i≤n:=by omega
 have hb3:(i:Int)≤(n:Int):=by omega
 have hkk:(n:Int)+1 - (i:Int)=((n+1 - i:Nat):Int):=by omega
 have hik:i+(n+1 - i)=n+1:=by omega
 have hgl:g<w.heap.size:=blk_lt hg
 have hcell:∀j v,xs[j]? = some v→w.cell? ⟨g,j,none⟩=some v:=fun j v hj=>by
  have h2:cur[j]? = some v:=by
   rw[←hx,List.getElem?_take] at hj;split at hj
   ·simpa using hj
   ·cases hj
  exact(blk_cell (w:=w) hg j).trans h2
 have hold:(Builtin.firstCells i0.size i (.slice (some ⟨g,0,none⟩) i c)).run Tryz.prog w.drew=.ok (xs.take (i * 4)).toArray w.drew:=by
  rw[hzs]
  exact run_firstCells_some w.drew 4 i ⟨g,0,none⟩ i c (xs.take (i * 4)) (by rw[List.length_take];omega) (fun j v hj=>by
   rw[Addr.add_lit,Nat.zero_add];rw[List.getElem?_take] at hj;split at hj
   ·exact hcell j v hj
   ·cases hj)
 obtain⟨G,hG⟩:∃G,G=grownCap w (n+1) c 71:=⟨_,rfl⟩;obtain⟨ROW,hROW⟩:∃ROW:Array Value,ROW=(xs.take (i * 4)).toArray++Builtin.zeroCells (Value.agg #[(.string ⟨#[]⟩),(.int .i64 0),(.int .i64 0),(.string ⟨#[]⟩)]).cells (n+1 - i)++Builtin.zeroCells (Value.agg #[(.string ⟨#[]⟩),(.int .i64 0),(.int .i64 0),(.string ⟨#[]⟩)]).cells (G - (n+1)):=⟨_,rfl⟩
 have hGn:n+1≤G:=by rw[hG];exact grownCap_ge w _ _ _
 have hG63:G≤9223372036854775807:=by
  have:=grownCap_le_maxLen w (n+1) c 71 (by unfold maxLen;omega);rw[←hG] at this;unfold maxLen at this;omega
 have hzc:(Value.agg #[(.string ⟨#[]⟩),(.int .i64 0),(.int .i64 0),(.string ⟨#[]⟩)]).cells.size=4:=rfl
 have hRl:ROW.size=G * 4:=by
  rw[hROW];simp only[Array.size_append,List.size_toArray,size_zeroCells,hzc,List.length_take];omega
 have hRt:ROW.toList.take (i * 4)=xs.take (i * 4):=by
  rw[hROW];simp only[Array.toList_append,List.append_assoc];exact List.take_left' (by rw[List.length_take];omega)
 have hrz:∀ty,(Builtin.append_ #[30,3] ty #[.slice (some ⟨g,0,none⟩) i c,.int .i64 ((n:Int)+(1:Int) - (i:Int))]).run Tryz.prog w=.ok (.slice (some ⟨w.heap.size,0,none⟩) (n+1) G) (w.drew.alloc (.cells ROW 71)):=fun ty=>by
  have h:=Go.Lib.run_append_grow_zeros w 30 3 ty 71 i0 _ .i64 .i64 hu27 hu3 m hz0 (some ⟨g,0,none⟩) i c (xs.take (i * 4)) hold (n+1 - i) (by omega) (by rw[hzs];omega) (by omega) (by omega) (by rw[hzb];omega) (by rw[hzb,hik];exact growslice_fits hroom hbig);rw[hik] at h;rw[hkk,hROW,hG];exact h
 obtain⟨N,hN⟩:∃N,N=w.heap.size:=⟨_,rfl⟩;obtain⟨W0,hW0⟩:∃W0,W0=w.drew.alloc (.cells ROW 71):=⟨_,rfl⟩;rw[←hW0,←hN] at hrz
 have hB0:Below w.heap.size w W0:=by rw[hW0];exact bb_ (below_drew (Below.refl _ _)) _
 have hN0:W0.heap[N]? = some (.cells ROW 71 (0,0)):=by rw[hW0,hN];exact heap_alloc_new w.drew _
 obtain⟨A1,hA1⟩:∃A1:Array Value,A1=(ROW.toList.take (i * 4)++vs++ROW.toList.drop (i * 4+vs.length)).toArray:=⟨_,rfl⟩;obtain⟨A2,hA2⟩:∃A2:Array Value,A2=(A1.toList.take ((i+1) * 4)++xs.drop (i * 4)++A1.toList.drop ((i+1) * 4+(xs.drop (i * 4)).length)).toArray:=⟨_,rfl⟩
 have hd1:(xs.drop (i * 4)).length=(n - i) * 4:=by rw[List.length_drop,hxl];omega
 have f:A1.size=G * 4:=by
  rw[hA1,List.size_toArray];simp only[List.length_append,List.length_take,List.length_drop,Array.length_toList];omega
 have l:A2.size=G * 4:=by
  rw[hA2,List.size_toArray];simp only[List.length_append,List.length_take,List.length_drop,Array.length_toList];omega
 have hN1:(W0.setRow N A1).heap[N]? = some (.cells A1 71 (0,0)):=setRow_heap W0 N ROW A1 71 (0,0) hN0
 have hfar:∀(cs:Array Value) (a:Addr) (u:Value),w.cell? a=some u→(W0.setRow N cs).cell? a=some u:=fun cs a u h=>by
  have hlt:=World.block_lt_of_cell? w a h
  have hk:(W0.setRow N cs).heap[a.block]? = w.heap[a.block]?:=by
   have h0:=hB0.block a.block hlt;rw[←h0];simp only[World.setRow,Array.getElem?_modify];rw[if_neg (by omega)]
  exact(World.cell?_of_block hk).trans h
 have hfar0:∀(a:Addr) (u:Value),w.cell? a=some u→W0.cell? a=some u:=fun a u h=>(hB0.cell (World.block_lt_of_cell? w a h)).trans h
 have hcpA:∀ty dc sc,(Builtin.copy_ #[30,30] ty #[.slice (some ⟨N,i * 4,none⟩) (n+1 - i) dc,.slice (some ad) 1 sc]).run Tryz.prog W0=.ok (goInt (Nat.min 1 (n+1 - i))) (W0.setRow N A1):=fun ty dc sc=>by
  rw[hA1];refine run_copy_rowK W0 30 30 ty 71 4 N (i * 4) (n+1 - i) dc ad 1 sc ROW 71 vs hu27 KR hN0 ?_ (fun j v hj=>hfar0 _ _ (hvs j v hj)) ?_ h1v
  ·have:Nat.min 1 (n+1 - i)=1:=by simp only[Nat.min_def];split<;>omega
   rw[this,hvl]
  ·rw[hRl];omega
 have hcpB:∀ty dc sc,(Builtin.copy_ #[30,30] ty #[.slice (some ⟨N,(i+1) * 4,none⟩) (n+1 - (i+1)) dc,.slice (some ⟨g,i * 4,none⟩) (n - i) sc]).run Tryz.prog (W0.setRow N A1).drew=.ok (goInt (Nat.min (n - i) (n+1 - (i+1)))) ((W0.setRow N A1).drew.setRow N A2):=fun ty dc sc=>by
  rw[hA2];refine run_copy_rowK (W0.setRow N A1).drew 30 30 ty 71 4 N ((i+1) * 4) (n+1 - (i+1)) dc ⟨g,i * 4,none⟩ (n - i) sc A1 71 (xs.drop (i * 4)) hu27 KR hN1 ?_ ?_ ?_ (fun v hv=>h1x v (List.mem_of_mem_drop hv))
  ·rw[hd1]
   have:Nat.min (n - i) (n+1 - (i+1))=n - i:=by simp only[Nat.min_def];split<;>omega
   rw[this]
  ·intro j v hj;rw[List.getElem?_drop] at hj;rw[Addr.add_lit];exact hfar A1 ⟨g,i * 4+j,none⟩ v (hcell _ v hj)
  ·rw[hd1,f];omega
 have hGi:¬(G=i):=by omega
 have hGim:¬(G=i+1):=by omega
 have hci:¬(c=i):=by omega
 have hres:A2.toList.take ((n+1) * 4)=xs.take (i * 4)++vs++xs.drop (i * 4):=ins_glist n i ROW xs vs A1 A2 hRt (by omega) hxl hi hvl hA1 hA2;have HRES:=AM hres;have HB0:=AM hB0;have t:=AM hN0;have HN:=AM hN;have HL2:=AM l;have x:=AM hW0;have HGG:=AM hG;have o:=AM hN1;clear hres hB0 hN0 hN f l hA1 hA2 hd1 hRt hRl hzc hROW hold hfar hfar0 hW0 hG hx hxl hvl hcur hcell hgl hkk hik hN1 hbig hG63;go_enter Tryz.func102,Tryz.ntmps102
 go_wp2_with (first
  | (at_builtin;refine Go.Lib.wpList_append_run _ rfl _ _ _ _ rfl (.slice (some ⟨g,0,none⟩) i c) (.int .i64 ((n:Int)+(1:Int) - (i:Int))) ?hd ?hs _ _ (hrz _) ?_;(case hd=>go_simp);(case hs=>go_simp))
  | (at_builtin;refine wpList_copy_runI _ rfl _ _ 30 30 rfl (.slice (some ⟨N,i * 4,none⟩) (n+1 - i) (G - i)) (.slice (some ad) 1 c2) ?hd ?hs (hcpA _ _ _) ?_;(case hd=>go_simp);(case hs=>go_simp)))
 refine start_ (n:=9) (S:=fun _=>True) (ds:=[]) (mL 9 0) KR rfl KR trivial (fun hHeld=>?_);refine bg_ ins_tab11 ins_bits11 (fun HT_ HW_=>?_);refine pB 0 rfl rfl ?_;refine pB 1 rfl rfl ?_;refine pB 2 rfl rfl ?_;refine pB 3 rfl rfl ?_;refine pB 4 rfl rfl ?_;refine pB 5 rfl rfl ?_;refine pB 6 rfl rfl ?_;refine pB 7 rfl rfl ?_
 refine oB 8 rfl rfl fun K hK=>?_
 refine step_copy_runI rfl _ _ 30 30 rfl (.slice (some ⟨N,(i+1) * 4,none⟩) (n+1 - (i+1)) (G - (i+1))) (.slice (some ⟨g,i * 4,none⟩) (n - i) (c - i)) ?hd ?hx (hcpB _ _ _) ?_
 case hd=>go_simp
 case hx=>go_simp
 refine hK.out _ _ trivial (fun hHeld=>?_);clear hK K;refine nA ?_;refine done_ (bz_ HT_.out KR) ?_;go_wp2;go_ret;refine⟨by rw[←HGG.out,←HN.out];go_simp,?_,A2,?_,by rw[HL2.out,HGG.out],HRES.out⟩
 ·have hs:=HB0.out;rw[←HN.out] at hs ⊢;exact below_setRow (ar_ (below_setRow hs))
 ·rw[←HN.out];exact setRow_heap (W0.setRow N A1).drew N A1 A2 71 (0,0) o.out
theorem ins_hov (vb g c2:Nat) (vcur cur:Array Value) (w:World) (hv:w.heap[vb]? = some (.cells vcur 71 (0,0))) (hg:w.heap[g]? = some (.cells cur 71 (0,0))) (hcs:cur.size≠0) (hne:vb≠g) :
  ∀(a':Addr) (lb cb:Nat),a'.block=g→(callFunc 127 #[.slice (some ⟨vb,0,none⟩) 1 c2,.slice (some a') lb cb]).run Tryz.prog w=.ok (.value (.bool false)) w:=by
 intro a' lb cb ha;obtain⟨i0,c,hz0,hzs,hzb⟩:=info_parts info71
 have hz:∀w,(Go.sizeOf 71).run Tryz.prog w=.ok 4 w:=fun w=>by simp[sizeOf,typeInfo,c,hzs]
 rw[run_callFunc_extern Tryz.func127 KR KR KR (e:=Extern.SlicesOverlaps.overlaps #[30,30] #[4]) KR,
  Go.Lib.run_overlaps_apart w 30 4 71 Tryz.underlying30 4 hz ⟨vb,0,none⟩ a' 1 c2 lb cb (by rw[ha];exact hne) 71 71 vcur.size cur.size (by simp[World.shape?,hv]) (by rw[ha];simp[World.shape?,hg]) hcs (by simp[World.frozen?,hv]) (by simp[World.frozen?,hv])]
 rfl
def encRec (r:aa_):List Value:=[.string r.f0,.int .i64 r.f1,.int .i64 r.f2,.string r.f3]
theorem ins_reads (w:World) (vb:Nat) (r:aa_) (hv:w.heap[vb]? = some (.cells (encRec r).toArray 71 (0,0))):Kd.C af_ w (some ⟨vb,0,none⟩) 1 [r]:=by
 refine⟨rfl,by omega,fun _=>⟨⟨vb,0,none⟩,rfl,fun j p hj=>⟨encRec r,rfl,?_,fun i u hu=>?_⟩⟩⟩
 ·have:p=r:=by
   cases j with
   | zero=>simpa using hj.symm
   | succ j=>simp at hj
  subst this;exact k_Record_mk w p
 ·have c:j=0:=by
   cases j with
   | zero=>rfl
   | succ j=>simp at hj
  subst c;rw[Addr.add_lit];have h2:=blk_cell (w:=w) hv (0+(0 * af_.sz+i));rw[h2];simpa using hu
theorem ins_end (l0:List aa_) (r:aa_) (u:Value) (w:World) (base:Nat) (ok:Nat→Prop) (vb:Nat)
  (HO:af_.R 71 w base ok u l0) (hv:w.heap[vb]? = some (.cells (encRec r).toArray 71 (0,0))) (hfresh:∀k,w.heap.size≤k→ok k) (hbase:base≤w.heap.size) (hbig:(l0.length+1) * 48≤140737488355328) :
  Calls Tryz.prog 102 #[u,.int .i64 (l0.length:Int),.slice (some ⟨vb,0,none⟩) 1 1] w fun e w'=>∃v',e=.returned v'∧af_.R 71 w' base ok v' (l0++[r])∧w.grownBy w' u.ownBlock:=by
 have hu27:=Tryz.underlying30;have hC:=ins_reads w vb r hv
 have hz1:¬((1:Int)=0):=by omega
 have hform:(u=.slice none 0 0∧l0.length=0)∨∃g c,u=.slice (some ⟨g,0,none⟩) l0.length c∧l0.length≤c:=by
  obtain⟨_,inner,ho,_⟩:=HO
  rcases ho.2 with ⟨h1,h2⟩|⟨g,cap,cur,h1,_,_,h4,_⟩
  ·exact Or.inl ⟨h1,h2⟩
  ·exact Or.inr ⟨g,cap,h1,h4⟩
 have HO':=AM HO;have HC:=AM hC;have HF:=AM hfresh;have HBG:=AM hbig;have HBS:=AM hbase;clear HO hC hfresh hbig hbase hv
 rcases hform with ⟨rfl,h0⟩|⟨g,c,rfl,hc⟩
 ·obtain rfl:l0=[]:=List.eq_nil_of_length_eq_zero h0;clear h0;go_enter Tryz.func102,Tryz.ntmps102;go_wp2_with ((with_reducible refine bN_ (b:=.append) (xs:=#[.tmp 23,.tmp 24]) rfl ?_);at_builtin;refine Kd.cK_ af_ (w0:=w) base rfl (.tmp 23) (.tmp 24) 30 71 (.agg #[(.string ⟨#[]⟩),(.int .i64 0),(.int .i64 0),(.string ⟨#[]⟩)]) 48 rfl Tryz.underlying30 info71 rfl (by decide) (by omega) (.slice none 0 0) ([]:List aa_) [r] _ _ _ ok (fun _=>False) rfl rfl HO'.out HC.out (fun x cs h=>by rw[k_Record_open h];exact ct_ _ _ _ x) (fun _ h=>h.elim) HF.out (Below.refl _ _) HBS.out HBG.out ?_;intro v1 w1 ho hb hg hat);go_ret;exact⟨_,rfl,ho,hg⟩
 ·have hN:((l0.length:Int))≤(c:Int):=by omega
  obtain⟨n,hn⟩:∃n,n=l0.length:=⟨_,rfl⟩;rw[←hn] at hc hN HO' ⊢;have HN:=AM hn;clear hn;go_enter Tryz.func102,Tryz.ntmps102;go_wp2_with ((with_reducible refine bN_ (b:=.append) (xs:=#[.tmp 23,.tmp 24]) rfl ?_);at_builtin;refine Kd.cK_ af_ (w0:=w) base rfl (.tmp 23) (.tmp 24) 30 71 (.agg #[(.string ⟨#[]⟩),(.int .i64 0),(.int .i64 0),(.string ⟨#[]⟩)]) 48 rfl Tryz.underlying30 info71 rfl (by decide) (by omega) (.slice (some ⟨g,0,none⟩) n c) l0 [r] _ _ _ ok (fun _=>False) rfl rfl HO'.out HC.out (fun x cs h=>by rw[k_Record_open h];exact ct_ _ _ _ x) (fun _ h=>h.elim) HF.out (Below.refl _ _) HBS.out HBG.out ?_;intro v1 w1 ho hb hg hat)
  all_goals (go_ret;exact⟨_,rfl,ho,hg⟩)
theorem rec_one (r:aa_):∀v∈encRec r,v.oneCell'=true:=by
 intro v hv;simp only[encRec,List.mem_cons,List.not_mem_nil,or_false] at hv
 rcases hv with rfl|rfl|rfl|rfl<;>rfl
theorem reps_one {w:World} {base:Nat} {ok:Nat→Prop}:∀{xs:List aa_} {cs:List Value},Reps (af_.M w base ok) 4 xs cs→cs=xs.flatMap encRec
 | [],cs,h=>List.eq_nil_of_length_eq_zero (by rw[h.1];rfl)
 | x::t,cs,h=>by
  have h1:=cG_ (h.2 0 x rfl)
  have h2:=reps_one (Kd.reps_drop (m:=1) h)
  rw[Nat.zero_mul,List.drop_zero] at h1
  have h3:cs=cs.take 4++cs.drop 4:=(List.take_append_drop 4 cs).symm
  rw[h3,h1]
  have h4:cs.drop (1 * 4)=cs.drop 4:=rfl
  rw[h4] at h2
  rw[h2]
  rfl
theorem one_reps (w:World) (base:Nat) (ok:Nat→Prop) (xs:List aa_):Reps (af_.M w base ok) 4 xs (xs.flatMap encRec):=by
 induction xs with
 | nil=>exact Reps.none _ _
 | cons x t ih =>
  have h1:Reps (af_.M w base ok) 4 [x] (encRec x):=Reps.snoc (Reps.none _ _) (ct_ w base ok x) rfl;exact Kd.reps_append h1 ih
theorem flat_one (xs:List aa_):∀v∈xs.flatMap encRec,v.oneCell'=true:=by
 intro v hv;obtain⟨x,_,hx⟩:=List.mem_flatMap.mp hv;exact rec_one x v hx
theorem flat_len (xs:List aa_):(xs.flatMap encRec).length=xs.length * 4:=by
 induction xs with
 | nil=>rfl
 | cons x t ih =>
  rw[List.flatMap_cons,List.length_append,ih,List.length_cons];have:(encRec x).length=4:=rfl;omega
theorem flat_take (xs:List aa_):∀i:Nat,(xs.flatMap encRec).take (i * 4)=(xs.take i).flatMap encRec:=by
 induction xs with
 | nil=>intro i;simp
 | cons x t ih =>
  intro i
  cases i with
  | zero=>simp
  | succ i =>
   have e:(i+1) * 4=(encRec x).length+i * 4:=by
    have:(encRec x).length=4:=rfl;omega
   rw[List.flatMap_cons,List.take_succ_cons,List.flatMap_cons,e,List.take_append,Nat.add_sub_cancel_left,ih,List.take_of_length_le (by omega)]
theorem flat_drop (xs:List aa_):∀i:Nat,(xs.flatMap encRec).drop (i * 4)=(xs.drop i).flatMap encRec:=by
 induction xs with
 | nil=>intro i;simp
 | cons x t ih =>
  intro i
  cases i with
  | zero=>simp
  | succ i =>
   have e:(i+1) * 4=(encRec x).length+i * 4:=by
    have:(encRec x).length=4:=rfl;omega
   rw[List.flatMap_cons,List.drop_succ_cons,e,List.drop_append,Nat.add_sub_cancel_left,ih,List.drop_eq_nil_of_le (by omega),List.nil_append]
theorem ins_R (l0:List aa_) (r:aa_) (u:Value) (i:Nat) (w:World) (base:Nat) (ok:Nat→Prop) (vb:Nat)
  (HO:af_.R 71 w base ok u l0) (hv:w.heap[vb]? = some (.cells (encRec r).toArray 71 (0,0))) (hne:some vb≠u.ownBlock) (hfresh:∀k,w.heap.size≤k→ok k) (hbase:base≤w.heap.size) (hbig:(l0.length+1) * 48≤140737488355328) (hi:i≤l0.length) :
  Calls Tryz.prog 102 #[u,.int .i64 (i:Int),.slice (some ⟨vb,0,none⟩) 1 1] w fun e w'=>∃v',e=.returned v'∧af_.R 71 w' base ok v' (l0.take i++r::l0.drop i)∧w.grownBy w' u.ownBlock:=by
 by_cases he:i=l0.length
 ·subst he;rw[List.take_length,List.drop_length];exact ins_end l0 r u w base ok vb HO hv hfresh hbase hbig
 ·have hlt:i<l0.length:=by omega
  obtain⟨hok,inner,ho,hr⟩:=HO;have hin:=reps_one hr
  rcases ho.2 with ⟨rfl,h0⟩|⟨g,c,cur,rfl,hb,hg,hnc,hcm,hcs,htk⟩
  ·omega
  ·have hgv:vb≠g:=fun e=>hne (by rw[e];rfl)
   have hcs':cur.size=c * 4:=hcs
   have htk':cur.toList.take (l0.length * 4)=l0.flatMap encRec:=by rw[←hin];exact htk
   have hvs:∀j v,(encRec r)[j]? = some v→w.cell? ((⟨vb,0,none⟩:Addr).add j)=some v:=fun j v hj=>by
    rw[Addr.add_lit,Nat.zero_add];exact(blk_cell (w:=w) hv j).trans (by simpa using hj)
   have hlist:(l0.flatMap encRec).take (i * 4)++encRec r++(l0.flatMap encRec).drop (i * 4)=(l0.take i++r::l0.drop i).flatMap encRec:=by
    rw[flat_take,flat_drop,List.flatMap_append,List.flatMap_cons,List.append_assoc]
   have hlen:(l0.take i++r::l0.drop i).length=l0.length+1:=by
    simp only[List.length_append,List.length_cons,List.length_take,List.length_drop];omega
   by_cases hroom:l0.length+1≤c
   ·refine(ins_shift g l0.length c i cur (l0.flatMap encRec) (encRec r) w ⟨vb,0,none⟩ 1 hg hcs' htk' (flat_len l0) hlt hroom hcm rfl hvs hgv (flat_one l0) (rec_one r) (ins_hov vb g 1 _ cur w hv hg (by omega) hgv)).mono ?_;rintro e w' ⟨rfl,cur',rfl,hs,ht⟩
    have hgrow:w.grownBy (w.drew.setRow g cur') (some g):=⟨rfl,rfl,rfl,by simp[World.setRow],fun k hk hkne=>by
     simp only[World.setRow,Array.getElem?_modify];rw[if_neg (fun h=>hkne (by rw[h]))]
     rfl⟩
    refine⟨_,rfl,⟨hok,(l0.take i++r::l0.drop i).flatMap encRec,⟨(flat_len _),Or.inr ⟨g,c,cur',by rw[hlen],hb,setRow_heap w.drew g cur cur' 71 (0,0) hg,by omega,hcm,by rw[hs];exact hcs,?_⟩⟩,one_reps _ _ _ _⟩,hgrow⟩;rw[hlen,←hlist,←ht];rfl
   ·refine(ins_grow g l0.length c i cur (l0.flatMap encRec) (encRec r) w ⟨vb,0,none⟩ 1 hg hcs' htk' (flat_len l0) hlt hnc (by omega) hbig rfl hvs (flat_one l0) (rec_one r)).mono ?_;rintro e w' ⟨rfl,hbel,cur',hg',hs,ht⟩;refine⟨_,rfl,⟨fun k hk=>hfresh k (by simp only[Value.ownBlock,Option.some.injEq] at hk;omega),(l0.take i++r::l0.drop i).flatMap encRec,⟨(flat_len _),Or.inr ⟨w.heap.size,grownCap w (l0.length+1) c 71,cur',by rw[hlen],hbase,hg',by rw[hlen];exact grownCap_ge w _ _ _,grownCap_le_maxLen w _ _ _ (by unfold maxLen;omega),hs,?_⟩⟩,one_reps _ _ _ _⟩,grown_of_below hbel _⟩;rw[hlen,←hlist,←ht];rfl
theorem sE {P:Program} {ops:Array Oper} {rest:List Oper} {o:Oper} {a:Act} {Q:Exit→Act→World→Prop} {W:World} (N:Tmp) (cs:Array Value) (t:TypeId) (n:Nat) (h:∀g,g=W.heap.size→∀w1,w1.heap[g]? = some (.cells cs t (0,0))→Below W.heap.size W w1→wpList P ops Q rest (a.put o.dst (.slice (some ⟨g,0,none⟩) n n)) w1) (hd:o.dst=some N:=by rfl) (hg:o.guard=none:=by rfl)
  (hr:(execOp a.eval o).run P W=.ok (.value (.slice (some ⟨W.heap.size,0,none⟩) n n)) (W.alloc (.cells cs t (0,0))):=by first|(go_simp;done)|(go_simp;rfl)):wpList P ops Q (o::rest) a W :=
 Kd.event_run hg hr (h _ rfl _ (heap_alloc_new W _) (bb_ (Below.refl _ _) _))
def impl_put.f (k:Nat) (l0:List (aa_)) (c:ByteArray) (g:Int) (h:Int) (i:ByteArray):Option (List (aa_)):=(ac_.f k l0 c g h i).bind fun t=>if t.2=true then some l0 else if 0≤t.1∧t.1≤(l0.length:Int)∧(l0.length+1) * 48≤140737488355328 then some (l0.take t.1.toNat++(⟨c,g,h,i⟩:aa_)::l0.drop t.1.toNat) else none
theorem impl_put.calls (k:Nat) (P0_:Nat→Prop) (u9000_:Value) (l0:List (aa_)) (g:ByteArray) (j:Int) (l:Int) (m:ByteArray) (r:List (aa_)) (w0 w:World) (hB:Below w0.heap.size w0 w) (o:Kd.R af_ 71 w w0.heap.size P0_ u9000_ l0) (hG_:Glob w) (h:impl_put.f k l0 g j l m=some r) :
 Calls Tryz.prog 82 #[u9000_,.agg #[.string g,.int .i64 j,.int .i64 l,.string m]] w fun e w'=>∃v0_:Value,e=.returned (v0_)∧Kd.R af_ 71 w' w0.heap.size (fun k_=>(P0_ k_∨w.heap.size≤k_)) v0_ r∧Below w0.heap.size w0 w'∧Kept w w' (fun k_=>P0_ k_):=by
 have hu93:=Tryz.underlying71;have hu27:=Tryz.underlying30;obtain⟨A,c,eo⟩:=Kd.ap_ o;subst eo;have hC:=Kd.ag_ o;have HC:=AM hC.2.2;have HL:=AM hC.2.1;have HO:=AM o;have HGL:=AM hG_;have HB0:=AM hB;have HB:=BZ w;clear hC o hB hG_;unfold impl_put.f at h;obtain⟨⟨t1,t2⟩,A1,H⟩:=bnd h;clear h;simp only at H
 cases t2 with
 | true =>
  replace H:=ift H;obtain rfl:=Option.some.inj H;go_enter Tryz.func82,Tryz.ntmps82;go_wp2_with (first|(refine gD 3 rfl ?_;refine bE 3 #[.string g,.int .i64 j,.int .i64 l,.string m] 71 ?_;intro s hg w3 hbox hb;have n:=AM (hbox);replace HB:=BS hb;clear hb hbox hg;have p:=cz4 n)|(refine gL 10 rfl Tryz.func100 #[.slice A l0.length c,.agg #[.string g,.int .i64 j,.int .i64 l,.string m],.func (.func 101) #[] #[]] rfl TA ?_;(refine(ac_.calls _ _ _ _ _ _ _ _ _ _ _ ?side1 ?side2 ?side3 A1.out).mono ?_);(case side1=>exact CW (Kd.ae_ HC.out HB.out));(case side2=>exact HL.out);(case side3=>exact GW HGL);rintro e w4 ⟨rfl,hb⟩;refine⟨_,rfl,?_⟩;replace n:=KB n hb;replace HB:=BS hb;clear hb));go_ret;exact⟨_,rfl,Kd.aM_ (Kd.cn_ HO.out HB.out) (fun k h=>Or.inl h),below_then HB0.out HB0.out.size HB.out,Kept.of_below HB.out _⟩
 | false =>
  replace H:=iff' H;obtain⟨⟨h1,h2,h3⟩,H⟩:=ifn H;obtain rfl:=Option.some.inj H;obtain⟨i,rfl⟩:∃i:Nat,t1=(i:Int):=⟨t1.toNat,by omega⟩;have HI:=AM (show i≤l0.length by omega);have HBG:=AM h3
  have hne_:∀{W:World} {gb:Nat},gb=W.heap.size→Below w.heap.size w W→some gb≠(.slice A l0.length c:Value).ownBlock:=fun hg hb he=>by
   have h5:=Kd.R_lt HO.out _ he.symm;have h6:=hb.size;omega
  rw[Int.toNat_natCast];clear h1 h2 h3;go_enter Tryz.func82,Tryz.ntmps82;go_wp2_with (first|(refine gD 3 rfl ?_;refine bE 3 #[.string g,.int .i64 j,.int .i64 l,.string m] 71 ?_;intro s hg w3 hbox hb;have n:=AM (hbox);replace HB:=BS hb;clear hb hbox hg;have p:=cz4 n)|(refine gL 10 rfl Tryz.func100 #[.slice A l0.length c,.agg #[.string g,.int .i64 j,.int .i64 l,.string m],.func (.func 101) #[] #[]] rfl TA ?_;(refine(ac_.calls _ _ _ _ _ _ _ _ _ _ _ ?side1 ?side2 ?side3 A1.out).mono ?_);(case side1=>exact CW (Kd.ae_ HC.out HB.out));(case side2=>exact HL.out);(case side3=>exact GW HGL);rintro e w4 ⟨rfl,hb⟩;refine⟨_,rfl,?_⟩;replace n:=KB n hb;replace HB:=BS hb;clear hb;have x:=cz4 n)|((with_reducible refine ax_ (N:=18) rfl ?_);refine sE 18 (encRec ⟨g,j,l,m⟩).toArray 71 1 ?_;intro q hg w5 hbox hb;have t:=AM (hbox);have u:=AM hg;have HBp:=AM HB.out;replace HB:=BS hb;have HBS:=AM hb;clear hb hbox hg)|(refine gL 19 rfl Tryz.func102 #[.slice A l0.length c,.int .i64 (i:Int),.slice (some ⟨q,0,none⟩) 1 1] rfl TA ?_;(refine(ins_R l0 ⟨g,j,l,m⟩ (.slice A l0.length c) i _ w0.heap.size (fun k_=>(P0_ k_∨w.heap.size≤k_)) q ?side1 ?side2 ?side3 ?side4 ?side5 ?side6 ?side7).mono ?_);(case side1=>exact Kd.aM_ (Kd.cn_ HO.out HB.out) (fun k h=>Or.inl h));(case side2=>exact t.out);(case side3=>exact hne_ u.out HBp.out);(case side4=>exact fun k hk=>Or.inr (Nat.le_trans HB.out.size hk));(case side5=>exact Nat.le_trans HB0.out.size HB.out.size);(case side6=>exact HBG.out);(case side7=>exact HI.out);rintro e w6 ⟨v6,rfl,v,hg6⟩;refine⟨_,rfl,?_⟩));go_ret;exact⟨_,rfl,v,pw_below_grown (below_then HB0.out HB0.out.size HB.out) _ (Nat.le_trans HB0.out.size HB.out.size) hg6 (Kd.cD_ HO.out),Kept.of_grown hg6 (Kept.of_below HB.out _) (fun k hk=>Or.inl (HO.out.1 k hk))⟩
end
section
def cl_.l0:Nat→List (aa_)→List (aa_)→Int→Int→Option ((List (aa_)))
 | 0,_,_,_,_=>none
 | k+1,x5,g,h,c=>if c<h then(if 0≤c then(if c<(g.length:Int) then((impl_put.f k x5 ((a_ g c).f0) ((a_ g c).f1) ((a_ g c).f2) ((a_ g c).f3)).bind fun i=>(cl_.l0 k i g h (wrap64 (c+1)))) else(none)) else(none)) else(some x5)
def cl_.f (k:Nat) (l0:List (aa_)) (l1:List (aa_)):Option ((List (aa_))):=(aH_.f l0).bind fun t748=>(cl_.l0 k t748 l1 (l1.length:Int) 0)
theorem cl_.calls (k:Nat) (A0:Option Addr) (c0:Nat) (l0:List (aa_)) (A1:Option Addr) (c1:Nat) (l1:List (aa_)) (r:List (aa_)) (w:World) (E:Kd.C af_ w A0 l0.length l0) (F:l0.length≤c0) (G:Kd.C af_ w A1 l1.length l1) (I:l1.length≤c1) (hG_:Glob w) (h:cl_.f k l0 l1=some r) :
  Calls Tryz.prog 57 #[.slice A0 l0.length c0,.slice A1 l1.length c1] w fun e w'=>∃v0_:Value,e=.returned (v0_)∧Kd.R af_ 71 w' w.heap.size (fun _=>True) v0_ r∧Below w.heap.size w w':=by
 have hu71:=Tryz.underlying71;have W:=AM E;have X:=AM F;clear E F;have Y:=AM G;have ah:=AM I;clear G I;have HGL:=AM hG_;clear hG_;have HB:=BZ w;have H:=h;clear h;unfold cl_.f at H;obtain⟨J,A3,H⟩:=bnd H;have H':=AM H;clear H;go_enter Tryz.func57,Tryz.ntmps57;go_wp2_with (first|(refine gL 9 rfl Tryz.func55 #[.slice A0 l0.length c0] rfl TA ?_;(with_reducible refine(aH_.calls _ _ _ _ _ ?side1 ?side2 A3.out).mono ?_);(case side1=>exact CW (W.out));(case side2=>exact X.out);rintro e w4 ⟨ad,rfl,y,hb⟩;refine⟨_,rfl,?_⟩;have z:=RL y;replace HB:=BS hb;clear hb));go_loopg [5,12] k (fun kq v5 Z w'=>∃(m:List (aa_)) (c:Int),Z=.int .i64 c∧Aside0 (cl_.l0 kq m l1 (l1.length:Int) c=some r)∧Aside0 (kq≤k)∧Aside0 (Kd.R af_ 71 w' w.heap.size (fun _=>True) v5 m)∧Aside0 (Below w.heap.size w w'))
 case atStart=>exact⟨(J),(0),TF,H',NL,RW z,⟨TB⟩⟩
 case round =>
  clear H';obtain⟨m,c,rfl,HA,HK1,l,HB⟩:=hrel
  cases gk with
  | zero=>exact absurd HA.out (by simp[cl_.l0])
  | succ k1 =>
   have H:=HA.out;clear HA;simp only[cl_.l0] at H;by_cases c5:c<(l1.length:Int)
   ·rw[if_pos c5] at H;have K:=decide_eq_true c5;clear c5;obtain⟨ae,H⟩:=dn H;obtain⟨af,H⟩:=dn H;obtain⟨x,A8,H⟩:=bnd H;have H':=AM H;clear H;have n:0≤(c:Int):=TD;have q:c<(l1.length:Int):=TD;obtain⟨aa,M,N,O,U,V⟩:=aw_ (Kd.ae_ Y.out HB.out) c n q;cases M;replace n:=eq_true n;replace q:=eq_true q;go_wp2_with (first|(refine gD 7 rfl ?_;refine bE 7 #[.string (⟨#[]⟩:ByteArray),.int .i64 0,.int .i64 0,.string (⟨#[]⟩:ByteArray)] 71 ?_;intro i hg w9 hbox hb;replace l:=AM (Kd.cn_ (Kd.R_elderB (RW l).out i (Nat.le_of_eq hg.symm)) hb);have j:=AM (hbox);have A:=bG hg;replace HB:=BS hb;clear hb hbox hg;have ab:=cz4 j)|((with_reducible refine ck_ (t:=71) (p:=7) rfl ?_);refine cb_ (t:=71) (p:=7) (v:=?vo_w11) (w1:=((((w9.setCell ⟨i,0,none⟩ (.string ((a_ l1 c).f0))).setCell ⟨i,1,none⟩ (.int .i64 ((a_ l1 c).f1))).setCell ⟨i,2,none⟩ (.int .i64 ((a_ l1 c).f2))).setCell ⟨i,3,none⟩ (.string ((a_ l1 c).f3)))) ?hg ?ho ?hn ?hr ?_;(case ho=>rfl);(case hg=>rfl);(case hn=>rfl);(case hr=>first|(go_simp;done)|(go_simp;rfl));intro B hw;have n0_:Aside0 (Kd.R af_ 71 B w.heap.size (fun k_=>k_≠i) u5 m):=⟨(by rw[hw];exact(by exact RF l i (fun k_ hk=>hk.2) (fun k_ hk_=>(fun hk=>hk.1.2) (⟨hk_,hk_.2⟩:_∧k_≠i))))⟩;have n1_:Aside0 (B.heap[i]? = some (.cells #[.string ((a_ l1 c).f0),.int .i64 ((a_ l1 c).f1),.int .i64 ((a_ l1 c).f2),.string ((a_ l1 c).f3)] 71 (0,0))):=⟨(by rw[hw];exact(by(with_reducible repeat (first|refine blk_drewN ?_ _|refine ai_ ?_|refine blk_alloc ?_ _));apply PF4;exact(KW j).out))⟩;have n2_:Aside0 (Below w.heap.size w B):=⟨(by rw[hw];exact TB)⟩;clear hw l j HB;have l:=n0_;have j:=n1_;have HB:=n2_;clear n0_ n1_ n2_;have ac:=cz4 j;obtain⟨s,u,eo13⟩:=Kd.ap_ l.out;subst eo13)|(refine gL 18 rfl Tryz.func82 #[.slice s m.length u,.agg #[.string ((a_ l1 c).f0),.int .i64 ((a_ l1 c).f1),.int .i64 ((a_ l1 c).f2),.string ((a_ l1 c).f3)]] rfl TA ?_;(with_reducible refine(impl_put.calls k1 (fun k_=>some k_=(.slice s m.length u:Value).ownBlock) (.slice s m.length u) m ((a_ l1 c).f0) ((a_ l1 c).f1) ((a_ l1 c).f2) ((a_ l1 c).f3) x w _ ?side1 ?side2 ?side3 A8.out).mono ?_);(case side1=>repeat (first|(with_reducible first|exact HB.out|apply bb_|apply aV_|apply ar_|refine bW_ ?_ A.out)|exact HB.out));(case side2=>exact Kd.R_tight rfl l.out);(case side3=>exact GW HGL);rintro e ai ⟨ag,rfl,y,hb,hkp⟩;refine⟨_,rfl,?_⟩;have n0_:=AM (blk_kept (KW j).out hkp (fun hs_=>(fun e_=>(Kd.R_away l.out (fun _ hk=>hk)) e_) hs_));have n1_:=AM (Kd.aM_ (ok':=fun k_=>k_≠i) y (fun k_ hk_=>Or.elim hk_ (fun hs_=>fun e_=>(Kd.R_away l.out (fun _ hk=>hk)) (by rw[←e_];exact hs_)) (fun hn_=>(Kd.freshB (g:=i) (o:=.cells #[.string ((a_ l1 c).f0),.int .i64 ((a_ l1 c).f1),.int .i64 ((a_ l1 c).f2),.string ((a_ l1 c).f3)] 71 (0,0)) (KW j).out k_ hn_))));have n2_:=AM (hb);clear j HB l;have j:=n0_;have D:=n1_;have HB:=n2_;clear n0_ n1_ n2_ hb));go_roundg k1
    case measure=>exact TM
    case rel=>exact⟨(x),(wrap64 (c+1)),TF,H',⟨TM⟩,⟨by(with_reducible repeat (first|apply Kd.R_alloc|apply Kd.R_drewN|apply Kd.bC_));exact Kd.aM_ D.out (fun _ hk=>trivial)⟩,⟨TB⟩⟩
   ·rw[if_neg c5] at H;have K:=decide_eq_false c5;clear c5;obtain rfl:=Option.some.inj H;go_wp2;go_ret;exact⟨_,TE,(RW l).out,TB⟩
end
section
def aD_.j0:Nat→Bool→ByteArray→Int→List (aa_)→Int→Int→List (aa_)→List (aa_)→Option (ByteArray × Int × (List (aa_)) × Bool)
 | 0,_,_,_,_,_,_,_,_=>none
 | k+1,q,c,m,h,n,g,i,j=>if q=true then(some ((⟨#[]⟩:ByteArray),0,([]:List (aa_)),false)) else((bu_.f k h i).bind fun o=>((cl_.f k o j).bind fun l=>((bf_.f k c g l).bind fun p=>(if p=true then(some (c,g,l,true)) else(some ((⟨#[]⟩:ByteArray),0,([]:List (aa_)),false))))))
def aD_.f (k:Nat) (l:ByteArray) (h:Int) (c:List (aa_)) (i:Int) (m:Int) (j:List (aa_)) (g:List (aa_)):Option (ByteArray × Int × (List (aa_)) × Bool):=(bf_.f k l h c).bind fun n=>(if n=true then((ch_.f k i m j g).bind fun o=>(if o=true then(if h=i then((bu_.f k j c).bind fun p=>(if (p.length:Int) > 0 then(aD_.j0 k true l h c i m j g) else((bu_.f k g c).bind fun q=>(aD_.j0 k (decide ((q.length:Int)<(g.length:Int))) l h c i m j g)))) else(aD_.j0 k true l h c i m j g)) else(aD_.j0 k true l h c i m j g))) else(aD_.j0 k true l h c i m j g))
def aD_.T1:Bool × List (List Nat × List Nat):=(true,[([],[]),([0],[0]),([1],[1]),([2,1],[2]),([3],[3]),([4,3,3],[3,4]),([5,3],[3,5]),([3,6],[3,6]),([7,5],[7]),([8],[8]),([9,8],[8,9]),([8],[8]),([11,8],[8,11]),([10,12,8],[8,10,12]),([8,13],[8,13]),([14,8],[14]),([15],[15]),([16,15],[15,16]),([15],[15]),([18,15],[15,18]),([17,19,15,15],[15,17,19]),([20,15],[15,20]),([21,15],[15,21]),([15,22],[15,22]),([23,20],[23]),([24],[24]),([25,24],[24,25]),([24],[24]),([27,24],[24,27]),([26,28,24,24],[24,26,28]),([29,24],[24,29]),([24],[24]),([31,24],[24,31]),([32,24],[24,32]),([30,33,24],[24,30,33]),([24,34],[24,34])])
def aD_.B1:List Nat:=[0,1,3,7,15,31,63,127,255,511,1023,511,2559,8191,16383,32767,65535,131071,65535,327679,1048575,2097151,4194303,8388607,16777215,33554431,67108863,33554431,167772159,536870911,1073741823,33554431,2181038079,6476005375,17179869183,34359738367]
theorem aD_.tab1:rtab .any (opsOf Tryz.f27 1)=aD_.T1:=by kernel_rfl
theorem aD_.bits1:waitsOk aD_.T1.2 aD_.B1=true:=by kernel_rfl
def aD_.T3:Bool × List (List Nat × List Nat):=(true,[([],[]),([0],[0]),([],[]),([2],[2]),([],[]),([4],[4]),([],[]),([6],[6]),([5,7],[5,7]),([],[]),([9],[9]),([8,10,8],[8,10]),([1,3,11],[1,3,11]),([],[]),([13,12,11,0,1,2,3,4,5,6,7,8,9,10,11,12,13],[12,13])])
def aD_.B3:List Nat:=[0,1,0,4,0,16,0,64,240,0,512,2032,4095,0,16383]
theorem aD_.tab3:rtab .any (opsOf Tryz.f27 3)=aD_.T3:=by kernel_rfl
theorem aD_.bits3:waitsOk aD_.T3.2 aD_.B3=true:=by kernel_rfl
theorem aD_.calls (k:Nat) (G:ByteArray) (Z:Int) (J:Option Addr) (M:Nat) (E:List (aa_)) (ab:Int) (O:Int) (X:Option Addr) (Y:Nat) (I:List (aa_)) (V:Option Addr) (W:Nat) (F:List (aa_)) (r1:ByteArray) (r2:Int) (r3:List (aa_)) (r4:Bool) (w:World) (aI:Kd.C af_ w J E.length E) (aJ:E.length≤M) (aK:Kd.C af_ w X I.length I) (aL:I.length≤Y) (aM:Kd.C af_ w V F.length F) (aN:F.length≤W) (hG_:Glob w) (h:aD_.f k G Z E ab O I F=some (r1,r2,r3,r4)) :
  Calls Tryz.prog 27 #[.agg #[.string G,.int .i64 Z,.slice J E.length M],.agg #[.int .i64 ab,.int .i64 O,.slice X I.length Y,.slice V F.length W]] w fun e w'=>∃v2_:Value,e=.returned (.tuple #[.agg #[.string r1,.int .i64 r2,v2_],.bool r4])∧Kd.R af_ 71 w' w.heap.size (fun _=>True) v2_ r3∧Below w.heap.size w w':=by
 have hu32:=Tryz.underlying32;have hu52:=Tryz.underlying52;have ae:=AM aI;have af:=AM aJ;clear aI aJ;have ak:=AM aK;have al:=AM aL;clear aK aL;have ai:=AM aM;have aj:=AM aN;clear aM aN;have HGL:=AM hG_;clear hG_;have HB:=BZ w;have H:=h;clear h;unfold aD_.f at H;have a2:=AM H;clear H;go_enter Tryz.func27,Tryz.ntmps27
 go_upto_region 1 with (first|((with_reducible refine ax_ (N:=2) rfl ?_);(try (refine aQ_ (by rfl) ?_;dsimp only));refine bE 2 #[.string G,.int .i64 Z,.slice J E.length M] 32 ?_;intro x hg w4 hbox hb;have g:=AM (hbox);have bl:=bG hg;replace HB:=BS hb;clear hb hbox hg)|((with_reducible refine ax_ (N:=3) rfl ?_);(try (refine aQ_ (by rfl) ?_;dsimp only));refine bE 3 #[.int .i64 ab,.int .i64 O,.slice X I.length Y,.slice V F.length W] 52 ?_;intro u hg w5 hbox hb;have c:=AM (hbox);have bm:=bG hg;replace HB:=BS hb;have a3:=bN g hg;have a4:=bM g hg;replace g:=KB g hb;clear hb hbox hg)|((with_reducible refine ax_ (N:=4) rfl ?_);(try (refine aQ_ (by rfl) ?_;dsimp only));refine bE 4 #[.string (⟨#[]⟩:ByteArray),.int .i64 0,.slice none 0 0] 32 ?_;intro aa hg w6 hbox hb;have l:=AM (hbox);have bn:=bG hg;replace HB:=BS hb;have aB:=bN g hg;have an:=bM g hg;replace g:=KB g hb;have aC:=bN c hg;have ao:=bM c hg;replace c:=KB c hb;clear hb hbox hg))
 (try simp only[Act.put,List.setIfInBounds_toArray,List.set_cons_zero,List.set_cons_succ]);go_cut [42] (fun bo wc=>∃(kq:Nat) (aw:Bool),bo=.bool aw∧Aside0 (aD_.j0 kq aw G Z E ab O I F=some (r1,r2,r3,r4))∧Aside0 (kq≤k)∧Aside0 (wc.heap[x]? = some (.cells #[.string G,.int .i64 Z,(.slice J E.length M)] 32 (0,0)))∧Aside0 (wc.heap[u]? = some (.cells #[.int .i64 ab,.int .i64 O,(.slice X I.length Y),(.slice V F.length W)] 52 (0,0)))∧Aside0 (wc.heap[aa]? = some (.cells #[.string (⟨#[]⟩:ByteArray),.int .i64 0,(.slice none 0 0)] 32 (0,0)))∧Aside0 (Below w.heap.size w wc))
 case first =>
  have H:=a2.out;clear a2;obtain⟨a9,A7,H⟩:=bnd H;by_cases c8:a9=true
  ·subst c8;replace H:=ift H;obtain⟨ba,A9,H⟩:=bnd H;by_cases c10:ba=true
   ·subst c10;replace H:=ift H;by_cases a5:Z=ab
    ·replace H:=qP a5 H;obtain⟨av,aD,H⟩:=H;clear a5;(first|rw[av]|(simp only[b6_,i32_w];rw[av])|rw[aD]|skip);obtain⟨aO,bb,H⟩:=bnd H;by_cases aG:(aO.length:Int) > 0
     ·rw[if_pos aG] at H;have a6:=decide_eq_true aG;have a7:decide (0<aO.length)=true:=decide_eq_true (by omega);clear aG;have H':=AM H;clear H
      try go_wp2
      replace g:=AM (ai_ g.out);replace c:=AM (ai_ c.out);replace l:=AM (ai_ l.out);replace HB:=AM (ar_ HB.out);refine start_ (n:=36) (S:=fun w'=>w'.cell? ⟨x,0,none⟩=some (.string G)∧w'.cell? ⟨x,1,none⟩=some (.int .i64 Z)∧w'.cell? ⟨x,2,none⟩=some (.slice J E.length M)∧w'.cell? ⟨u,0,none⟩=some (.int .i64 ab)∧w'.cell? ⟨u,1,none⟩=some (.int .i64 O)∧w'.cell? ⟨u,2,none⟩=some (.slice X I.length Y)∧w'.cell? ⟨u,3,none⟩=some (.slice V F.length W)) (ds:=[]) (mL 36 0) KR rfl KR ⟨bc 0 g,bc 1 g,bc 2 g,bc 0 c,bc 1 c,bc 2 c,bc 3 c⟩ (fun hHeld=>?_);refine bg_ aD_.tab1 aD_.bits1 (fun HT_ HW_=>?_);generalize w6.drew=cb at g c l HB hHeld ⊢;refine tB 0 hHeld rfl rfl ?_
      refine oB 1 rfl rfl fun K hK=>?_
      refine gB Tryz.func23 #[.agg #[.string G,.int .i64 Z,.slice J E.length M]] rfl rfl ?_
      with_reducible refine(bf_.calls _ _ _ _ _ _ _ _ ?side1 ?side2 ?side3 A7.out).mono ?_
      (case side1=>exact CW ((Kd.ae_ ae.out HB.out)));(case side2=>exact af.out);(case side3=>exact GW HGL);rintro e cc ⟨rfl,hb⟩;refine⟨_,rfl,?_⟩;replace g:=KB g hb;replace c:=KB c hb;replace l:=KB l hb;replace HB:=BS hb;clear hb;refine hK.out _ _ ⟨bc 0 g,bc 1 g,bc 2 g,bc 0 c,bc 1 c,bc 2 c,bc 3 c⟩ (fun hHeld=>?_);clear hK K;refine nA ?_;refine pB 2 rfl rfl ?_;refine pB 3 rfl rfl ?_;refine tB 4 hHeld rfl rfl ?_
      refine oB 5 rfl rfl fun K hK=>?_
      refine gB Tryz.func51 #[.agg #[.int .i64 ab,.int .i64 O,.slice X I.length Y,.slice V F.length W]] rfl rfl ?_
      with_reducible refine(ch_.calls _ _ _ _ _ _ _ _ _ _ _ ?side1 ?side2 ?side3 ?side4 ?side5 A9.out).mono ?_
      (case side1=>exact CW ((Kd.ae_ ak.out HB.out)));(case side2=>exact al.out);(case side3=>exact CW ((Kd.ae_ ai.out HB.out)));(case side4=>exact aj.out);(case side5=>exact GW HGL);rintro e cd ⟨rfl,hb⟩;refine⟨_,rfl,?_⟩;replace g:=KB g hb;replace c:=KB c hb;replace l:=KB l hb;replace HB:=BS hb;clear hb;refine hK.out _ _ ⟨bc 0 g,bc 1 g,bc 2 g,bc 0 c,bc 1 c,bc 2 c,bc 3 c⟩ (fun hHeld=>?_);clear hK K;refine nA ?_;refine pB 6 rfl rfl ?_;refine pB 7 rfl rfl ?_;refine pB 8 rfl rfl ?_;refine pB 9 rfl rfl ?_;refine pB 11 rfl rfl ?_;refine tB 10 hHeld rfl rfl ?_;refine tB 12 hHeld rfl rfl ?_;refine pB 13 rfl rfl ?_;refine pB 14 rfl rfl ?_;refine pB 15 rfl rfl ?_;refine pB 16 rfl rfl ?_;refine pB 18 rfl rfl ?_;refine tB 17 hHeld rfl rfl ?_;refine tB 19 hHeld rfl rfl ?_
      refine oB 20 rfl rfl fun K hK=>?_
      refine gB Tryz.func56 #[.slice X I.length Y,.slice J E.length M] rfl rfl ?_
      with_reducible refine(bu_.calls _ _ _ _ _ _ _ _ _ ?side1 ?side2 ?side3 ?side4 bb.out).mono ?_
      (case side1=>exact CW ((Kd.ae_ ak.out HB.out)));(case side2=>exact al.out);(case side3=>exact CW ((Kd.ae_ ae.out HB.out)));(case side4=>exact af.out);rintro e ce ⟨bd,rfl,U,hb⟩;refine⟨_,rfl,?_⟩;have au:=RL U;replace g:=KB g hb;replace c:=KB c hb;replace l:=KB l hb;replace HB:=BS hb;clear hb U;obtain⟨b4,b5,eo18⟩:=Kd.ap_ au.out;(first|subst eo18|(injection eo18 with f1_ f2_ f3_;have f4_:=f1_.symm;have f5_:=f3_.symm;clear f1_ f2_ f3_;subst f4_;subst f5_));refine hK.out _ _ ⟨bc 0 g,bc 1 g,bc 2 g,bc 0 c,bc 1 c,bc 2 c,bc 3 c⟩ (fun hHeld=>?_);clear hK K;refine nA ?_;refine pB 21 rfl rfl ?_;refine pB 22 rfl rfl ?_;refine pB 23 rfl rfl ?_;refine pB 24 rfl rfl ?_;refine uB 25 rfl rfl ?_;refine uB 26 rfl rfl ?_;refine uB 27 rfl rfl ?_;refine uB 28 rfl rfl ?_;refine uB 29 rfl rfl ?_;refine uB 30 rfl rfl ?_;refine uB 31 rfl rfl ?_;refine uB 32 rfl rfl ?_;refine uB 33 rfl rfl ?_;refine uB 34 rfl rfl ?_;refine pB 35 rfl rfl ?_;refine done_ (bz_ HT_.out KR) ?_
      try go_wp2
      go_meet
      case rel=>exact⟨_,(true),TF,H',⟨by first|omega|exact Nat.le_refl _⟩,KW g,KW c,KW l,⟨TB⟩⟩
     ·rw[if_neg aG] at H;have a6:=decide_eq_false aG;have a7:decide (0<aO.length)=false:=decide_eq_false (by omega);clear aG;obtain⟨be,bp,H⟩:=bnd H;have H':=AM H;clear H
      try go_wp2
      replace g:=AM (ai_ g.out);replace c:=AM (ai_ c.out);replace l:=AM (ai_ l.out);replace HB:=AM (ar_ HB.out);refine start_ (n:=36) (S:=fun w'=>w'.cell? ⟨x,0,none⟩=some (.string G)∧w'.cell? ⟨x,1,none⟩=some (.int .i64 Z)∧w'.cell? ⟨x,2,none⟩=some (.slice J E.length M)∧w'.cell? ⟨u,0,none⟩=some (.int .i64 ab)∧w'.cell? ⟨u,1,none⟩=some (.int .i64 O)∧w'.cell? ⟨u,2,none⟩=some (.slice X I.length Y)∧w'.cell? ⟨u,3,none⟩=some (.slice V F.length W)) (ds:=[]) (mL 36 0) KR rfl KR ⟨bc 0 g,bc 1 g,bc 2 g,bc 0 c,bc 1 c,bc 2 c,bc 3 c⟩ (fun hHeld=>?_);refine bg_ aD_.tab1 aD_.bits1 (fun HT_ HW_=>?_);generalize w6.drew=cf at g c l HB hHeld ⊢;refine tB 0 hHeld rfl rfl ?_
      refine oB 1 rfl rfl fun K hK=>?_
      refine gB Tryz.func23 #[.agg #[.string G,.int .i64 Z,.slice J E.length M]] rfl rfl ?_
      with_reducible refine(bf_.calls _ _ _ _ _ _ _ _ ?side1 ?side2 ?side3 A7.out).mono ?_
      (case side1=>exact CW ((Kd.ae_ ae.out HB.out)));(case side2=>exact af.out);(case side3=>exact GW HGL);rintro e cg ⟨rfl,hb⟩;refine⟨_,rfl,?_⟩;replace g:=KB g hb;replace c:=KB c hb;replace l:=KB l hb;replace HB:=BS hb;clear hb;refine hK.out _ _ ⟨bc 0 g,bc 1 g,bc 2 g,bc 0 c,bc 1 c,bc 2 c,bc 3 c⟩ (fun hHeld=>?_);clear hK K;refine nA ?_;refine pB 2 rfl rfl ?_;refine pB 3 rfl rfl ?_;refine tB 4 hHeld rfl rfl ?_
      refine oB 5 rfl rfl fun K hK=>?_
      refine gB Tryz.func51 #[.agg #[.int .i64 ab,.int .i64 O,.slice X I.length Y,.slice V F.length W]] rfl rfl ?_
      with_reducible refine(ch_.calls _ _ _ _ _ _ _ _ _ _ _ ?side1 ?side2 ?side3 ?side4 ?side5 A9.out).mono ?_
      (case side1=>exact CW ((Kd.ae_ ak.out HB.out)));(case side2=>exact al.out);(case side3=>exact CW ((Kd.ae_ ai.out HB.out)));(case side4=>exact aj.out);(case side5=>exact GW HGL);rintro e ch ⟨rfl,hb⟩;refine⟨_,rfl,?_⟩;replace g:=KB g hb;replace c:=KB c hb;replace l:=KB l hb;replace HB:=BS hb;clear hb;refine hK.out _ _ ⟨bc 0 g,bc 1 g,bc 2 g,bc 0 c,bc 1 c,bc 2 c,bc 3 c⟩ (fun hHeld=>?_);clear hK K;refine nA ?_;refine pB 6 rfl rfl ?_;refine pB 7 rfl rfl ?_;refine pB 8 rfl rfl ?_;refine pB 9 rfl rfl ?_;refine pB 11 rfl rfl ?_;refine tB 10 hHeld rfl rfl ?_;refine tB 12 hHeld rfl rfl ?_;refine pB 13 rfl rfl ?_;refine pB 14 rfl rfl ?_;refine pB 15 rfl rfl ?_;refine pB 16 rfl rfl ?_;refine pB 18 rfl rfl ?_;refine tB 17 hHeld rfl rfl ?_;refine tB 19 hHeld rfl rfl ?_
      refine oB 20 rfl rfl fun K hK=>?_
      refine gB Tryz.func56 #[.slice X I.length Y,.slice J E.length M] rfl rfl ?_
      with_reducible refine(bu_.calls _ _ _ _ _ _ _ _ _ ?side1 ?side2 ?side3 ?side4 bb.out).mono ?_
      (case side1=>exact CW ((Kd.ae_ ak.out HB.out)));(case side2=>exact al.out);(case side3=>exact CW ((Kd.ae_ ae.out HB.out)));(case side4=>exact af.out);rintro e ci ⟨bd,rfl,U,hb⟩;refine⟨_,rfl,?_⟩;have au:=RL U;replace g:=KB g hb;replace c:=KB c hb;replace l:=KB l hb;replace HB:=BS hb;clear hb U;obtain⟨b6,b7,eo24⟩:=Kd.ap_ au.out;(first|subst eo24|(injection eo24 with f1_ f2_ f3_;have f4_:=f1_.symm;have f5_:=f3_.symm;clear f1_ f2_ f3_;subst f4_;subst f5_));refine hK.out _ _ ⟨bc 0 g,bc 1 g,bc 2 g,bc 0 c,bc 1 c,bc 2 c,bc 3 c⟩ (fun hHeld=>?_);clear hK K;refine nA ?_;refine pB 21 rfl rfl ?_;refine pB 22 rfl rfl ?_;refine pB 23 rfl rfl ?_;refine pB 24 rfl rfl ?_;refine pB 25 rfl rfl ?_;refine pB 27 rfl rfl ?_;refine pB 31 rfl rfl ?_;refine tB 26 hHeld rfl rfl ?_;refine tB 28 hHeld rfl rfl ?_;refine tB 32 hHeld rfl rfl ?_;refine pB 33 rfl rfl ?_
      refine oB 29 rfl rfl fun K hK=>?_
      refine gB Tryz.func56 #[.slice V F.length W,.slice J E.length M] rfl rfl ?_
      with_reducible refine(bu_.calls _ _ _ _ _ _ _ _ _ ?side1 ?side2 ?side3 ?side4 bp.out).mono ?_
      (case side1=>exact CW ((Kd.ae_ ai.out HB.out)));(case side2=>exact aj.out);(case side3=>exact CW ((Kd.ae_ ae.out HB.out)));(case side4=>exact af.out);rintro e cj ⟨b8,rfl,U,hb⟩;refine⟨_,rfl,?_⟩;have a8:=RL (NW U au);replace au:=EL au U hb;replace g:=KB g hb;replace c:=KB c hb;replace l:=KB l hb;replace HB:=BS hb;clear hb U;obtain⟨b9,ca,eo26⟩:=Kd.ap_ a8.out;(first|subst eo26|(injection eo26 with f1_ f2_ f3_;have f4_:=f1_.symm;have f5_:=f3_.symm;clear f1_ f2_ f3_;subst f4_;subst f5_));refine hK.out _ _ ⟨bc 0 g,bc 1 g,bc 2 g,bc 0 c,bc 1 c,bc 2 c,bc 3 c⟩ (fun hHeld=>?_);clear hK K;refine nA ?_;refine pB 30 rfl rfl ?_;refine pB 34 rfl rfl ?_;refine pB 35 rfl rfl ?_;refine done_ (bz_ HT_.out KR) ?_
      try go_wp2
      go_meet
      case rel=>exact⟨_,(decide ((be.length:Int)<(F.length:Int))),TF,H',⟨by first|omega|exact Nat.le_refl _⟩,KW g,KW c,KW l,⟨TB⟩⟩
    ·replace H:=qN a5 H;obtain⟨av,aD,H⟩:=H;(first|rw[av]|(simp only[b6_,i32_w];rw[av])|rw[aD]|skip);have H':=AM H;clear H
     try go_wp2
     replace g:=AM (ai_ g.out);replace c:=AM (ai_ c.out);replace l:=AM (ai_ l.out);replace HB:=AM (ar_ HB.out);refine start_ (n:=36) (S:=fun w'=>w'.cell? ⟨x,0,none⟩=some (.string G)∧w'.cell? ⟨x,1,none⟩=some (.int .i64 Z)∧w'.cell? ⟨x,2,none⟩=some (.slice J E.length M)∧w'.cell? ⟨u,0,none⟩=some (.int .i64 ab)∧w'.cell? ⟨u,1,none⟩=some (.int .i64 O)∧w'.cell? ⟨u,2,none⟩=some (.slice X I.length Y)∧w'.cell? ⟨u,3,none⟩=some (.slice V F.length W)) (ds:=[]) (mL 36 0) KR rfl KR ⟨bc 0 g,bc 1 g,bc 2 g,bc 0 c,bc 1 c,bc 2 c,bc 3 c⟩ (fun hHeld=>?_);refine bg_ aD_.tab1 aD_.bits1 (fun HT_ HW_=>?_);generalize w6.drew=ck at g c l HB hHeld ⊢;refine tB 0 hHeld rfl rfl ?_
     refine oB 1 rfl rfl fun K hK=>?_
     refine gB Tryz.func23 #[.agg #[.string G,.int .i64 Z,.slice J E.length M]] rfl rfl ?_
     with_reducible refine(bf_.calls _ _ _ _ _ _ _ _ ?side1 ?side2 ?side3 A7.out).mono ?_
     (case side1=>exact CW ((Kd.ae_ ae.out HB.out)));(case side2=>exact af.out);(case side3=>exact GW HGL);rintro e cl ⟨rfl,hb⟩;refine⟨_,rfl,?_⟩;replace g:=KB g hb;replace c:=KB c hb;replace l:=KB l hb;replace HB:=BS hb;clear hb;refine hK.out _ _ ⟨bc 0 g,bc 1 g,bc 2 g,bc 0 c,bc 1 c,bc 2 c,bc 3 c⟩ (fun hHeld=>?_);clear hK K;refine nA ?_;refine pB 2 rfl rfl ?_;refine pB 3 rfl rfl ?_;refine tB 4 hHeld rfl rfl ?_
     refine oB 5 rfl rfl fun K hK=>?_
     refine gB Tryz.func51 #[.agg #[.int .i64 ab,.int .i64 O,.slice X I.length Y,.slice V F.length W]] rfl rfl ?_
     with_reducible refine(ch_.calls _ _ _ _ _ _ _ _ _ _ _ ?side1 ?side2 ?side3 ?side4 ?side5 A9.out).mono ?_
     (case side1=>exact CW ((Kd.ae_ ak.out HB.out)));(case side2=>exact al.out);(case side3=>exact CW ((Kd.ae_ ai.out HB.out)));(case side4=>exact aj.out);(case side5=>exact GW HGL);rintro e cm ⟨rfl,hb⟩;refine⟨_,rfl,?_⟩;replace g:=KB g hb;replace c:=KB c hb;replace l:=KB l hb;replace HB:=BS hb;clear hb;refine hK.out _ _ ⟨bc 0 g,bc 1 g,bc 2 g,bc 0 c,bc 1 c,bc 2 c,bc 3 c⟩ (fun hHeld=>?_);clear hK K;refine nA ?_;refine pB 6 rfl rfl ?_;refine pB 7 rfl rfl ?_;refine pB 8 rfl rfl ?_;refine pB 9 rfl rfl ?_;refine pB 11 rfl rfl ?_;refine tB 10 hHeld rfl rfl ?_;refine tB 12 hHeld rfl rfl ?_;refine pB 13 rfl rfl ?_;refine pB 14 rfl rfl ?_;refine pB 15 rfl rfl ?_;refine uB 16 rfl rfl ?_;refine uB 17 rfl rfl ?_;refine uB 18 rfl rfl ?_;refine uB 19 rfl rfl ?_;refine uB 20 rfl rfl ?_;refine uB 21 rfl rfl ?_;refine uB 22 rfl rfl ?_;refine pB 23 rfl rfl ?_;refine pB 24 rfl rfl ?_;refine uB 25 rfl rfl ?_;refine uB 26 rfl rfl ?_;refine uB 27 rfl rfl ?_;refine uB 28 rfl rfl ?_;refine uB 29 rfl rfl ?_;refine uB 30 rfl rfl ?_;refine uB 31 rfl rfl ?_;refine uB 32 rfl rfl ?_;refine uB 33 rfl rfl ?_;refine uB 34 rfl rfl ?_;refine pB 35 rfl rfl ?_;refine done_ (bz_ HT_.out KR) ?_
     try go_wp2
     go_meet
     case rel=>exact⟨_,(true),TF,H',⟨by first|omega|exact Nat.le_refl _⟩,KW g,KW c,KW l,⟨TB⟩⟩
   ·replace c10:=Bool.eq_false_iff.mpr c10;subst c10;replace H:=iff' H;have H':=AM H;clear H
    try go_wp2
    replace g:=AM (ai_ g.out);replace c:=AM (ai_ c.out);replace l:=AM (ai_ l.out);replace HB:=AM (ar_ HB.out);refine start_ (n:=36) (S:=fun w'=>w'.cell? ⟨x,0,none⟩=some (.string G)∧w'.cell? ⟨x,1,none⟩=some (.int .i64 Z)∧w'.cell? ⟨x,2,none⟩=some (.slice J E.length M)∧w'.cell? ⟨u,0,none⟩=some (.int .i64 ab)∧w'.cell? ⟨u,1,none⟩=some (.int .i64 O)∧w'.cell? ⟨u,2,none⟩=some (.slice X I.length Y)∧w'.cell? ⟨u,3,none⟩=some (.slice V F.length W)) (ds:=[]) (mL 36 0) KR rfl KR ⟨bc 0 g,bc 1 g,bc 2 g,bc 0 c,bc 1 c,bc 2 c,bc 3 c⟩ (fun hHeld=>?_);refine bg_ aD_.tab1 aD_.bits1 (fun HT_ HW_=>?_);generalize w6.drew=cn at g c l HB hHeld ⊢;refine tB 0 hHeld rfl rfl ?_
    refine oB 1 rfl rfl fun K hK=>?_
    refine gB Tryz.func23 #[.agg #[.string G,.int .i64 Z,.slice J E.length M]] rfl rfl ?_
    with_reducible refine(bf_.calls _ _ _ _ _ _ _ _ ?side1 ?side2 ?side3 A7.out).mono ?_
    (case side1=>exact CW ((Kd.ae_ ae.out HB.out)));(case side2=>exact af.out);(case side3=>exact GW HGL);rintro e co ⟨rfl,hb⟩;refine⟨_,rfl,?_⟩;replace g:=KB g hb;replace c:=KB c hb;replace l:=KB l hb;replace HB:=BS hb;clear hb;refine hK.out _ _ ⟨bc 0 g,bc 1 g,bc 2 g,bc 0 c,bc 1 c,bc 2 c,bc 3 c⟩ (fun hHeld=>?_);clear hK K;refine nA ?_;refine pB 2 rfl rfl ?_;refine pB 3 rfl rfl ?_;refine tB 4 hHeld rfl rfl ?_
    refine oB 5 rfl rfl fun K hK=>?_
    refine gB Tryz.func51 #[.agg #[.int .i64 ab,.int .i64 O,.slice X I.length Y,.slice V F.length W]] rfl rfl ?_
    with_reducible refine(ch_.calls _ _ _ _ _ _ _ _ _ _ _ ?side1 ?side2 ?side3 ?side4 ?side5 A9.out).mono ?_
    (case side1=>exact CW ((Kd.ae_ ak.out HB.out)));(case side2=>exact al.out);(case side3=>exact CW ((Kd.ae_ ai.out HB.out)));(case side4=>exact aj.out);(case side5=>exact GW HGL);rintro e cp ⟨rfl,hb⟩;refine⟨_,rfl,?_⟩;replace g:=KB g hb;replace c:=KB c hb;replace l:=KB l hb;replace HB:=BS hb;clear hb;refine hK.out _ _ ⟨bc 0 g,bc 1 g,bc 2 g,bc 0 c,bc 1 c,bc 2 c,bc 3 c⟩ (fun hHeld=>?_);clear hK K;refine nA ?_;refine pB 6 rfl rfl ?_;refine pB 7 rfl rfl ?_;refine pB 8 rfl rfl ?_;refine uB 9 rfl rfl ?_;refine uB 10 rfl rfl ?_;refine uB 11 rfl rfl ?_;refine uB 12 rfl rfl ?_;refine uB 13 rfl rfl ?_;refine pB 14 rfl rfl ?_;refine pB 15 rfl rfl ?_;refine uB 16 rfl rfl ?_;refine uB 17 rfl rfl ?_;refine uB 18 rfl rfl ?_;refine uB 19 rfl rfl ?_;refine uB 20 rfl rfl ?_;refine uB 21 rfl rfl ?_;refine uB 22 rfl rfl ?_;refine pB 23 rfl rfl ?_;refine pB 24 rfl rfl ?_;refine uB 25 rfl rfl ?_;refine uB 26 rfl rfl ?_;refine uB 27 rfl rfl ?_;refine uB 28 rfl rfl ?_;refine uB 29 rfl rfl ?_;refine uB 30 rfl rfl ?_;refine uB 31 rfl rfl ?_;refine uB 32 rfl rfl ?_;refine uB 33 rfl rfl ?_;refine uB 34 rfl rfl ?_;refine pB 35 rfl rfl ?_;refine done_ (bz_ HT_.out KR) ?_
    try go_wp2
    go_meet
    case rel=>exact⟨_,(true),TF,H',⟨by first|omega|exact Nat.le_refl _⟩,KW g,KW c,KW l,⟨TB⟩⟩
  ·replace c8:=Bool.eq_false_iff.mpr c8;subst c8;replace H:=iff' H;have H':=AM H;clear H
   try go_wp2
   replace g:=AM (ai_ g.out);replace c:=AM (ai_ c.out);replace l:=AM (ai_ l.out);replace HB:=AM (ar_ HB.out);refine start_ (n:=36) (S:=fun w'=>w'.cell? ⟨x,0,none⟩=some (.string G)∧w'.cell? ⟨x,1,none⟩=some (.int .i64 Z)∧w'.cell? ⟨x,2,none⟩=some (.slice J E.length M)) (ds:=[]) (mL 36 0) KR rfl KR ⟨bc 0 g,bc 1 g,bc 2 g⟩ (fun hHeld=>?_);refine bg_ aD_.tab1 aD_.bits1 (fun HT_ HW_=>?_);generalize w6.drew=cq at g c l HB hHeld ⊢;refine tB 0 hHeld rfl rfl ?_
   refine oB 1 rfl rfl fun K hK=>?_
   refine gB Tryz.func23 #[.agg #[.string G,.int .i64 Z,.slice J E.length M]] rfl rfl ?_
   with_reducible refine(bf_.calls _ _ _ _ _ _ _ _ ?side1 ?side2 ?side3 A7.out).mono ?_
   (case side1=>exact CW ((Kd.ae_ ae.out HB.out)));(case side2=>exact af.out);(case side3=>exact GW HGL);rintro e cr ⟨rfl,hb⟩;refine⟨_,rfl,?_⟩;replace g:=KB g hb;replace c:=KB c hb;replace l:=KB l hb;replace HB:=BS hb;clear hb;refine hK.out _ _ ⟨bc 0 g,bc 1 g,bc 2 g⟩ (fun hHeld=>?_);clear hK K;refine nA ?_;refine pB 2 rfl rfl ?_;refine pB 3 rfl rfl ?_;refine uB 4 rfl rfl ?_;refine uB 5 rfl rfl ?_;refine uB 6 rfl rfl ?_;refine pB 7 rfl rfl ?_;refine pB 8 rfl rfl ?_;refine uB 9 rfl rfl ?_;refine uB 10 rfl rfl ?_;refine uB 11 rfl rfl ?_;refine uB 12 rfl rfl ?_;refine uB 13 rfl rfl ?_;refine pB 14 rfl rfl ?_;refine pB 15 rfl rfl ?_;refine uB 16 rfl rfl ?_;refine uB 17 rfl rfl ?_;refine uB 18 rfl rfl ?_;refine uB 19 rfl rfl ?_;refine uB 20 rfl rfl ?_;refine uB 21 rfl rfl ?_;refine uB 22 rfl rfl ?_;refine pB 23 rfl rfl ?_;refine pB 24 rfl rfl ?_;refine uB 25 rfl rfl ?_;refine uB 26 rfl rfl ?_;refine uB 27 rfl rfl ?_;refine uB 28 rfl rfl ?_;refine uB 29 rfl rfl ?_;refine uB 30 rfl rfl ?_;refine uB 31 rfl rfl ?_;refine uB 32 rfl rfl ?_;refine uB 33 rfl rfl ?_;refine uB 34 rfl rfl ?_;refine pB 35 rfl rfl ?_;refine done_ (bz_ HT_.out KR) ?_
   try go_wp2
   go_meet
   case rel=>exact⟨_,(true),TF,H',⟨by first|omega|exact Nat.le_refl _⟩,KW g,KW c,KW l,⟨TB⟩⟩
 case rest =>
  clear a2;obtain⟨kq,aw,rfl,HA,HJ2,g,c,l,HB⟩:=hcut
  cases kq with
  | zero=>exact absurd HA.out (by simp[aD_.j0])
  | succ ct =>
   have H:=HA.out;clear HA;simp only[aD_.j0] at H;by_cases aT:aw=true
   ·subst aT;replace H:=ift H;simp only[Option.some.injEq,Prod.mk.injEq] at H;obtain⟨rfl,rfl,rfl,rfl⟩:=H;have bq:=an.out;have br:=aB.out;have bs:=ao.out;have bt:=aC.out;have bu:=cz3 l;go_wp2;refine bodyPost_ret (results_ct rfl _ _ aa 32 #[.string (⟨#[]⟩:ByteArray),.int .i64 0,.slice none 0 0] (0,0) _ rfl (by(with_reducible repeat (first|refine blk_drewN ?_ _|refine ai_ ?_|refine blk_alloc ?_ _));apply PF3;exact(KW l).out) Tryz.underlying32 rfl KR) rfl ?_;exact⟨_,TE,TZ,TB⟩
   ·replace aT:=Bool.eq_false_iff.mpr aT;subst aT;replace H:=iff' H;obtain⟨ag,aU,H⟩:=bnd H;obtain⟨ah,aH,H⟩:=bnd H;obtain⟨bf,bg,H⟩:=bnd H;by_cases aV:bf=true
    ·subst aV;replace H:=ift H;simp only[Option.some.injEq,Prod.mk.injEq] at H;obtain⟨rfl,rfl,rfl,rfl⟩:=H
     try go_wp2
     replace g:=AM (ai_ g.out);replace c:=AM (ai_ c.out);replace l:=AM (ai_ l.out);replace HB:=AM (ar_ HB.out);refine start_ (n:=15) (S:=fun w'=>w'.cell? ⟨x,0,none⟩=some (.string G)∧w'.cell? ⟨x,1,none⟩=some (.int .i64 Z)∧w'.cell? ⟨x,2,none⟩=some (.slice J E.length M)∧w'.cell? ⟨u,0,none⟩=some (.int .i64 ab)∧w'.cell? ⟨u,1,none⟩=some (.int .i64 O)∧w'.cell? ⟨u,2,none⟩=some (.slice X I.length Y)∧w'.cell? ⟨u,3,none⟩=some (.slice V F.length W)) (ds:=[]) (mL 15 0) KR rfl KR ⟨bc 0 g,bc 1 g,bc 2 g,bc 0 c,bc 1 c,bc 2 c,bc 3 c⟩ (fun hHeld=>?_);refine bg_ aD_.tab3 aD_.bits3 (fun HT_ HW_=>?_);generalize wc.drew=cu at g c l HB hHeld ⊢;refine pB 0 rfl rfl ?_;refine pB 2 rfl rfl ?_;refine pB 4 rfl rfl ?_;refine pB 6 rfl rfl ?_;refine pB 9 rfl rfl ?_;refine tB 1 hHeld rfl rfl ?_;refine tB 3 hHeld rfl rfl ?_;refine tB 5 hHeld rfl rfl ?_;refine tB 7 hHeld rfl rfl ?_;refine tB 10 hHeld rfl rfl ?_;refine join_ (σ:=Value × Value × Nat) 1 (mL 15 16383) (fun s_=>[(52,s_.1),(55,s_.2.1),(6,.pointer (some ⟨s_.2.2,0,none⟩)),(56,.agg #[.string G,.int .i64 O,s_.2.1])]) (fun s_ w'=>(w'.cell? ⟨x,0,none⟩=some (.string G)∧w'.cell? ⟨x,1,none⟩=some (.int .i64 Z)∧w'.cell? ⟨x,2,none⟩=some (.slice J E.length M)∧w'.cell? ⟨u,0,none⟩=some (.int .i64 ab)∧w'.cell? ⟨u,1,none⟩=some (.int .i64 O)∧w'.cell? ⟨u,2,none⟩=some (.slice X I.length Y)∧w'.cell? ⟨u,3,none⟩=some (.slice V F.length W))∧(Kd.R af_ 71 w' w.heap.size (fun k_=>some k_≠(s_.2.1:Value).ownBlock) s_.1 ag)∧(Kd.R af_ 71 w' w.heap.size (fun k_=>some k_≠(s_.1:Value).ownBlock) s_.2.1 ah)∧(w'.heap[x]? = some (.cells #[.string G,.int .i64 Z,.slice J E.length M] 32 (0,0)))∧(w'.heap[u]? = some (.cells #[.int .i64 ab,.int .i64 O,.slice X I.length Y,.slice V F.length W] 52 (0,0)))∧(w'.heap[aa]? = some (.cells #[.string (⟨#[]⟩:ByteArray),.int .i64 0,.slice none 0 0] 32 (0,0)))∧(w'.heap[s_.2.2]? = some (.cells #[.string (⟨#[]⟩:ByteArray),.int .i64 0,.slice none 0 0] 32 (0,0)))∧(w.heap.size≤s_.2.2)∧(w.heap.size≤s_.2.2)∧(x≠s_.2.2)∧(s_.2.2≠x)∧(u≠s_.2.2)∧(s_.2.2≠u)∧(aa≠s_.2.2)∧(s_.2.2≠aa)∧(Below w.heap.size w w')) ?_ ?_;rotate_left
     ·intro hCont;refine two_ (i:=8) (j:=13) (Ni:=some 52) (Nj:=some 6) (mL 15 2047) (mL 15 9983) rfl rfl rfl rfl (two_of HT_.out KR) (by decide) (by decide) (fun K hK=>?_) (fun K hK=>?_)
      ·skip;refine gB Tryz.func56 #[.slice J E.length M,.slice X I.length Y] rfl rfl ?_
       with_reducible refine(bu_.calls _ _ _ _ _ _ _ _ _ ?side1 ?side2 ?side3 ?side4 aU.out).mono ?_
       (case side1=>exact CW ((Kd.ae_ ae.out HB.out)));(case side2=>exact af.out);(case side3=>exact CW ((Kd.ae_ ak.out HB.out)));(case side4=>exact al.out);rintro e bv ⟨ap,rfl,U,hb⟩;refine⟨_,rfl,?_⟩;have s:=RL U;replace g:=KB g hb;replace c:=KB c hb;replace l:=KB l hb;replace HB:=BS hb;clear hb U;obtain⟨aW,aX,eo45⟩:=Kd.ap_ s.out;(first|subst eo45|(injection eo45 with f1_ f2_ f3_;have f4_:=f1_.symm;have f5_:=f3_.symm;clear f1_ f2_ f3_;subst f4_;subst f5_));refine hK.out _ _ ⟨bc 0 g,bc 1 g,bc 2 g,bc 0 c,bc 1 c,bc 2 c,bc 3 c⟩ (fun hHeld=>?_);clear hK K;refine nA ?_;refine two_ (i:=11) (j:=13) (Ni:=some 55) (Nj:=some 6) (mL 15 4095) (mL 15 10239) rfl rfl rfl rfl (two_of HT_.out KR) (by decide) (by decide) (fun K hK=>?_) (fun K hK=>?_)
       ·skip;refine gB Tryz.func57 #[.slice aW ag.length aX,.slice V F.length W] rfl rfl ?_
        with_reducible refine(cl_.calls _ _ _ _ _ _ _ _ _ ?side1 ?side2 ?side3 ?side4 ?side5 aH.out).mono ?_
        (case side1=>exact CW ((Kd.ag_ s.out).2.2));(case side2=>exact RI s);(case side3=>exact CW ((Kd.ae_ ai.out HB.out)));(case side4=>exact aj.out);(case side5=>exact GW HGL);rintro e cv ⟨am,rfl,U,hb⟩;refine⟨_,rfl,?_⟩;have D:=RL (NW U s);replace s:=EL s U hb;replace g:=KB g hb;replace c:=KB c hb;replace l:=KB l hb;replace HB:=BS hb;clear hb U;obtain⟨bh,bi,eo47⟩:=Kd.ap_ D.out;(first|subst eo47|(injection eo47 with f1_ f2_ f3_;have f4_:=f1_.symm;have f5_:=f3_.symm;clear f1_ f2_ f3_;subst f4_;subst f5_));refine hK.out _ _ ⟨bc 0 g,bc 1 g,bc 2 g,bc 0 c,bc 1 c,bc 2 c,bc 3 c⟩ (fun hHeld=>?_);clear hK K;refine nA ?_;refine pB 12 rfl rfl ?_
        refine oB 13 rfl rfl fun K hK=>?_
        refine cF_ ?hg (N:=6) ?hd (cs:=#[.string (⟨#[]⟩:ByteArray),.int .i64 0,.slice none 0 0]) (t:=32) ?hr ?_;(case hd=>rfl);(case hg=>rfl);(case hr=>first|(go_simp;done)|(go_simp;rfl));intro q hg cw hbox hb;replace s:=RB s hb;replace D:=RB D hb;have v:=AM (hbox);have ac:=bG hg;have ad:=bG hg;replace HB:=BS hb;have o:=bN g hg;have y:=bM g hg;replace g:=KB g hb;have m:=bN c hg;have z:=bM c hg;replace c:=KB c hb;have A:=bN l hg;have B:=bM l hg;replace l:=KB l hb;clear hb hbox hg;refine hK.out _ _ ⟨bc 0 g,bc 1 g,bc 2 g,bc 0 c,bc 1 c,bc 2 c,bc 3 c⟩ (fun hHeld=>?_);clear hK K;refine nA ?_;exact nC (hCont (.slice aW ag.length aX,.slice bh ah.length bi,q) _ ⟨hHeld,(MO s).out,(MO D).out,(KW g).out,(KW c).out,(KW l).out,(KW v).out,ac.out,ad.out,o.out,y.out,m.out,z.out,A.out,B.out,TB⟩)
       ·skip;refine cF_ ?hg (N:=6) ?hd (cs:=#[.string (⟨#[]⟩:ByteArray),.int .i64 0,.slice none 0 0]) (t:=32) ?hr ?_;(case hd=>rfl);(case hg=>rfl);(case hr=>first|(go_simp;done)|(go_simp;rfl));intro q hg bw hbox hb;replace s:=RB s hb;have v:=AM (hbox);have ac:=bG hg;have ad:=bG hg;replace HB:=BS hb;have o:=bN g hg;have y:=bM g hg;replace g:=KB g hb;have m:=bN c hg;have z:=bM c hg;replace c:=KB c hb;have A:=bN l hg;have B:=bM l hg;replace l:=KB l hb;clear hb hbox hg;obtain⟨ax,ay,eo46⟩:=Kd.ap_ s.out;(first|subst eo46|(injection eo46 with f1_ f2_ f3_;have f4_:=f1_.symm;have f5_:=f3_.symm;clear f1_ f2_ f3_;subst f4_;subst f5_));refine hK.out _ _ ⟨bc 0 g,bc 1 g,bc 2 g,bc 0 c,bc 1 c,bc 2 c,bc 3 c⟩ (fun hHeld=>?_);clear hK K;refine nA ?_
        refine oB 11 rfl rfl fun K hK=>?_
        refine gB Tryz.func57 #[.slice ax ag.length ay,.slice V F.length W] rfl rfl ?_
        with_reducible refine(cl_.calls _ _ _ _ _ _ _ _ _ ?side1 ?side2 ?side3 ?side4 ?side5 aH.out).mono ?_
        (case side1=>exact CW ((Kd.ag_ s.out).2.2));(case side2=>exact RI s);(case side3=>exact CW ((Kd.ae_ ai.out HB.out)));(case side4=>exact aj.out);(case side5=>exact GW HGL);rintro e bx ⟨am,rfl,U,hb⟩;refine⟨_,rfl,?_⟩;have D:=RL (NW U s);replace s:=EL s U hb;replace g:=KB g hb;replace c:=KB c hb;replace l:=KB l hb;replace v:=KB v hb;replace HB:=BS hb;clear hb U;obtain⟨aP,aQ,eo48⟩:=Kd.ap_ D.out;(first|subst eo48|(injection eo48 with f1_ f2_ f3_;have f4_:=f1_.symm;have f5_:=f3_.symm;clear f1_ f2_ f3_;subst f4_;subst f5_));refine hK.out _ _ ⟨bc 0 g,bc 1 g,bc 2 g,bc 0 c,bc 1 c,bc 2 c,bc 3 c⟩ (fun hHeld=>?_);clear hK K;refine nA ?_;refine pB 12 rfl rfl ?_;exact nC (hCont (.slice ax ag.length ay,.slice aP ah.length aQ,q) _ ⟨hHeld,(MO s).out,(MO D).out,(KW g).out,(KW c).out,(KW l).out,(KW v).out,ac.out,ad.out,o.out,y.out,m.out,z.out,A.out,B.out,TB⟩)
      ·skip;refine cF_ ?hg (N:=6) ?hd (cs:=#[.string (⟨#[]⟩:ByteArray),.int .i64 0,.slice none 0 0]) (t:=32) ?hr ?_;(case hd=>rfl);(case hg=>rfl);(case hr=>first|(go_simp;done)|(go_simp;rfl));intro q hg bv hbox hb;have v:=AM (hbox);have ac:=bG hg;have ad:=bG hg;replace HB:=BS hb;have o:=bN g hg;have y:=bM g hg;replace g:=KB g hb;have m:=bN c hg;have z:=bM c hg;replace c:=KB c hb;have A:=bN l hg;have B:=bM l hg;replace l:=KB l hb;clear hb hbox hg;refine hK.out _ _ ⟨bc 0 g,bc 1 g,bc 2 g,bc 0 c,bc 1 c,bc 2 c,bc 3 c⟩ (fun hHeld=>?_);clear hK K;refine nA ?_
       refine oB 8 rfl rfl fun K hK=>?_
       refine gB Tryz.func56 #[.slice J E.length M,.slice X I.length Y] rfl rfl ?_
       with_reducible refine(bu_.calls _ _ _ _ _ _ _ _ _ ?side1 ?side2 ?side3 ?side4 aU.out).mono ?_
       (case side1=>exact CW ((Kd.ae_ ae.out HB.out)));(case side2=>exact af.out);(case side3=>exact CW ((Kd.ae_ ak.out HB.out)));(case side4=>exact al.out);rintro e bw ⟨ap,rfl,U,hb⟩;refine⟨_,rfl,?_⟩;have s:=RL U;replace g:=KB g hb;replace c:=KB c hb;replace l:=KB l hb;replace v:=KB v hb;replace HB:=BS hb;clear hb U;obtain⟨ax,ay,eo46⟩:=Kd.ap_ s.out;(first|subst eo46|(injection eo46 with f1_ f2_ f3_;have f4_:=f1_.symm;have f5_:=f3_.symm;clear f1_ f2_ f3_;subst f4_;subst f5_));refine hK.out _ _ ⟨bc 0 g,bc 1 g,bc 2 g,bc 0 c,bc 1 c,bc 2 c,bc 3 c⟩ (fun hHeld=>?_);clear hK K;refine nA ?_
       refine oB 11 rfl rfl fun K hK=>?_
       refine gB Tryz.func57 #[.slice ax ag.length ay,.slice V F.length W] rfl rfl ?_
       with_reducible refine(cl_.calls _ _ _ _ _ _ _ _ _ ?side1 ?side2 ?side3 ?side4 ?side5 aH.out).mono ?_
       (case side1=>exact CW ((Kd.ag_ s.out).2.2));(case side2=>exact RI s);(case side3=>exact CW ((Kd.ae_ ai.out HB.out)));(case side4=>exact aj.out);(case side5=>exact GW HGL);rintro e bx ⟨am,rfl,U,hb⟩;refine⟨_,rfl,?_⟩;have D:=RL (NW U s);replace s:=EL s U hb;replace g:=KB g hb;replace c:=KB c hb;replace l:=KB l hb;replace v:=KB v hb;replace HB:=BS hb;clear hb U;obtain⟨aP,aQ,eo48⟩:=Kd.ap_ D.out;(first|subst eo48|(injection eo48 with f1_ f2_ f3_;have f4_:=f1_.symm;have f5_:=f3_.symm;clear f1_ f2_ f3_;subst f4_;subst f5_));refine hK.out _ _ ⟨bc 0 g,bc 1 g,bc 2 g,bc 0 c,bc 1 c,bc 2 c,bc 3 c⟩ (fun hHeld=>?_);clear hK K;refine nA ?_;refine pB 12 rfl rfl ?_;exact nC (hCont (.slice ax ag.length ay,.slice aP ah.length aQ,q) _ ⟨hHeld,(MO s).out,(MO D).out,(KW g).out,(KW c).out,(KW l).out,(KW v).out,ac.out,ad.out,o.out,y.out,m.out,z.out,A.out,B.out,TB⟩)
     rintro⟨ap,am,q⟩ aq ⟨hS_,h0_,h1_,h2_,h3_,h4_,h5_,h6_,h7_,h8_,h9_,h10_,h11_,h12_,h13_,h14_⟩;have n0_:Aside0 (Kd.R af_ 71 aq w.heap.size (fun k_=>some k_≠(am:Value).ownBlock) ap ag):=⟨h0_⟩;have n1_:Aside0 (Kd.R af_ 71 aq w.heap.size (fun k_=>some k_≠(ap:Value).ownBlock) am ah):=⟨h1_⟩;have n2_:Aside0 (aq.heap[x]? = some (.cells #[.string G,.int .i64 Z,.slice J E.length M] 32 (0,0))):=⟨h2_⟩;have n3_:Aside0 (aq.heap[u]? = some (.cells #[.int .i64 ab,.int .i64 O,.slice X I.length Y,.slice V F.length W] 52 (0,0))):=⟨h3_⟩;have n4_:Aside0 (aq.heap[aa]? = some (.cells #[.string (⟨#[]⟩:ByteArray),.int .i64 0,.slice none 0 0] 32 (0,0))):=⟨h4_⟩;have n5_:Aside0 (aq.heap[q]? = some (.cells #[.string (⟨#[]⟩:ByteArray),.int .i64 0,.slice none 0 0] 32 (0,0))):=⟨h5_⟩;have n6_:Aside0 (w.heap.size≤q):=⟨h6_⟩;have n7_:Aside0 (w.heap.size≤q):=⟨h7_⟩;have n8_:Aside0 (x≠q):=⟨h8_⟩;have n9_:Aside0 (q≠x):=⟨h9_⟩;have n10_:Aside0 (u≠q):=⟨h10_⟩;have n11_:Aside0 (q≠u):=⟨h11_⟩;have n12_:Aside0 (aa≠q):=⟨h12_⟩;have n13_:Aside0 (q≠aa):=⟨h13_⟩;have n14_:Aside0 (Below w.heap.size w aq):=⟨h14_⟩;clear g c l HB h0_ h1_ h2_ h3_ h4_ h5_ h6_ h7_ h8_ h9_ h10_ h11_ h12_ h13_ h14_;have s:=n0_;have D:=n1_;have g:=n2_;have c:=n3_;have l:=n4_;have v:=n5_;have ac:=n6_;have ad:=n7_;have o:=n8_;have y:=n9_;have m:=n10_;have z:=n11_;have A:=n12_;have B:=n13_;have HB:=n14_;clear n0_ n1_ n2_ n3_ n4_ n5_ n6_ n7_ n8_ n9_ n10_ n11_ n12_ n13_ n14_;have hHeld:aq.cell? ⟨x,0,none⟩=some (.string G)∧aq.cell? ⟨x,1,none⟩=some (.int .i64 Z)∧aq.cell? ⟨x,2,none⟩=some (.slice J E.length M)∧aq.cell? ⟨u,0,none⟩=some (.int .i64 ab)∧aq.cell? ⟨u,1,none⟩=some (.int .i64 O)∧aq.cell? ⟨u,2,none⟩=some (.slice X I.length Y)∧aq.cell? ⟨u,3,none⟩=some (.slice V F.length W):=hS_;obtain⟨aE,aF,eo50⟩:=Kd.ap_ D.out;(first|subst eo50|(injection eo50 with f1_ f2_ f3_;have f4_:=f1_.symm;have f5_:=f3_.symm;clear f1_ f2_ f3_;subst f4_;subst f5_));refine norm_ (a':=?_) ?_ ?_;rotate_left
     ·simp only[putAll,Act.put,List.setIfInBounds_toArray,List.set_cons_zero,List.set_cons_succ];rfl
     refine oB 14 rfl rfl fun K hK=>?_
     have hs51:=bc 0 v;have hfs51:=cu_ v.out 0;have hns51_0:=o.out;have hns51_1:=m.out;have hns51_2:=A.out;have hms51_0:=y.out;have hms51_1:=z.out;have hms51_2:=B.out;have hs52:=bc 1 v;have hfs52:=cu_ v.out 1;have hns52_0:=o.out;have hns52_1:=m.out;have hns52_2:=A.out;have hms52_0:=y.out;have hms52_1:=z.out;have hms52_2:=B.out;have hs53:=bc 2 v;have hfs53:=cu_ v.out 2;have hns53_0:=o.out;have hns53_1:=m.out;have hns53_2:=A.out;have hms53_0:=y.out;have hms53_1:=z.out;have hms53_2:=B.out;refine skip_ (w1:=?_) (by rfl) rfl ?_ ?_;rotate_left
     ·go_simp;rfl
     refine hK.out _ _ ⟨((aB_ (p:=⟨q,_,none⟩) o.out _).trans (((aB_ (p:=⟨q,_,none⟩) o.out _).trans (((aB_ (p:=⟨q,_,none⟩) o.out _).trans (hHeld.1)))))),((aB_ (p:=⟨q,_,none⟩) o.out _).trans (((aB_ (p:=⟨q,_,none⟩) o.out _).trans (((aB_ (p:=⟨q,_,none⟩) o.out _).trans (hHeld.2.1)))))),((aB_ (p:=⟨q,_,none⟩) o.out _).trans (((aB_ (p:=⟨q,_,none⟩) o.out _).trans (((aB_ (p:=⟨q,_,none⟩) o.out _).trans (hHeld.2.2.1)))))),((aB_ (p:=⟨q,_,none⟩) m.out _).trans (((aB_ (p:=⟨q,_,none⟩) m.out _).trans (((aB_ (p:=⟨q,_,none⟩) m.out _).trans (hHeld.2.2.2.1)))))),((aB_ (p:=⟨q,_,none⟩) m.out _).trans (((aB_ (p:=⟨q,_,none⟩) m.out _).trans (((aB_ (p:=⟨q,_,none⟩) m.out _).trans (hHeld.2.2.2.2.1)))))),((aB_ (p:=⟨q,_,none⟩) m.out _).trans (((aB_ (p:=⟨q,_,none⟩) m.out _).trans (((aB_ (p:=⟨q,_,none⟩) m.out _).trans (hHeld.2.2.2.2.2.1)))))),((aB_ (p:=⟨q,_,none⟩) m.out _).trans (((aB_ (p:=⟨q,_,none⟩) m.out _).trans (((aB_ (p:=⟨q,_,none⟩) m.out _).trans (hHeld.2.2.2.2.2.2))))))⟩ (fun hHeld=>?_);clear hK K;refine done_ (bz_ HT_.out KR) ?_;have bz:=y.out;have bA:=o.out;have bB:=z.out;have bC:=m.out;have bD:=B.out;have bF:=A.out;have bH:=cz3 v
     try go_wp2_with (first|(refine gL 58 rfl Tryz.func23 #[.agg #[.string G,.int .i64 O,.slice aE ah.length aF]] rfl TA ?_;(with_reducible refine(bf_.calls _ _ _ _ _ _ _ _ ?side1 ?side2 ?side3 bg.out).mono ?_);(case side1=>exact RC (RT D v));(case side2=>exact RI D);(case side3=>exact GW HGL);rintro e cx ⟨rfl,hb⟩;refine⟨_,rfl,?_⟩;replace s:=RTB s v hb;replace D:=RTB D v hb;replace g:=KF g hb;replace c:=KF c hb;replace l:=KF l hb;replace v:=KP v #[.string G,.int .i64 O,.slice aE ah.length aF] hb;replace HB:=BS hb;clear hb;have bI:=cz3 v;obtain⟨bJ,bK⟩:=nn an;obtain⟨bL,bO⟩:=nn ao;have bP:=cz3 l))
     refine bodyPost_ret (results_ct rfl _ _ aa 32 #[.string G,.int .i64 O,.slice aE ah.length aF] (0,0) _ rfl (by(with_reducible repeat (first|refine blk_drewN ?_ _|refine ai_ ?_|refine blk_alloc ?_ _));apply PF3;exact(KW l).out) Tryz.underlying32 rfl KR) rfl ?_;exact⟨_,TE,by(with_reducible repeat (first|apply Kd.R_alloc|apply Kd.R_drewN|apply Kd.bC_));exact Kd.aM_ (Kd.a6_ (p:=⟨aa,2,none⟩) (Kd.a6_ (p:=⟨aa,1,none⟩) (Kd.a6_ (p:=⟨aa,0,none⟩) (Kd.bS_ D.out l.out (by decide)) (fun _ hk=>hk.2) (.string G)) (fun _ hk=>hk.2) (.int .i64 O)) (fun _ hk=>hk.2) (.slice aE ah.length aF)) (fun _ hk=>trivial),TB⟩
    ·replace aV:=Bool.eq_false_iff.mpr aV;subst aV;replace H:=iff' H;simp only[Option.some.injEq,Prod.mk.injEq] at H;obtain⟨rfl,rfl,rfl,rfl⟩:=H
     try go_wp2
     replace g:=AM (ai_ g.out);replace c:=AM (ai_ c.out);replace l:=AM (ai_ l.out);replace HB:=AM (ar_ HB.out);refine start_ (n:=15) (S:=fun w'=>w'.cell? ⟨x,0,none⟩=some (.string G)∧w'.cell? ⟨x,1,none⟩=some (.int .i64 Z)∧w'.cell? ⟨x,2,none⟩=some (.slice J E.length M)∧w'.cell? ⟨u,0,none⟩=some (.int .i64 ab)∧w'.cell? ⟨u,1,none⟩=some (.int .i64 O)∧w'.cell? ⟨u,2,none⟩=some (.slice X I.length Y)∧w'.cell? ⟨u,3,none⟩=some (.slice V F.length W)) (ds:=[]) (mL 15 0) KR rfl KR ⟨bc 0 g,bc 1 g,bc 2 g,bc 0 c,bc 1 c,bc 2 c,bc 3 c⟩ (fun hHeld=>?_);refine bg_ aD_.tab3 aD_.bits3 (fun HT_ HW_=>?_);generalize wc.drew=cy at g c l HB hHeld ⊢;refine pB 0 rfl rfl ?_;refine pB 2 rfl rfl ?_;refine pB 4 rfl rfl ?_;refine pB 6 rfl rfl ?_;refine pB 9 rfl rfl ?_;refine tB 1 hHeld rfl rfl ?_;refine tB 3 hHeld rfl rfl ?_;refine tB 5 hHeld rfl rfl ?_;refine tB 7 hHeld rfl rfl ?_;refine tB 10 hHeld rfl rfl ?_;refine join_ (σ:=Value × Value × Nat) 1 (mL 15 16383) (fun s_=>[(52,s_.1),(55,s_.2.1),(6,.pointer (some ⟨s_.2.2,0,none⟩)),(56,.agg #[.string G,.int .i64 O,s_.2.1])]) (fun s_ w'=>(w'.cell? ⟨x,0,none⟩=some (.string G)∧w'.cell? ⟨x,1,none⟩=some (.int .i64 Z)∧w'.cell? ⟨x,2,none⟩=some (.slice J E.length M)∧w'.cell? ⟨u,0,none⟩=some (.int .i64 ab)∧w'.cell? ⟨u,1,none⟩=some (.int .i64 O)∧w'.cell? ⟨u,2,none⟩=some (.slice X I.length Y)∧w'.cell? ⟨u,3,none⟩=some (.slice V F.length W))∧(Kd.R af_ 71 w' w.heap.size (fun k_=>some k_≠(s_.2.1:Value).ownBlock) s_.1 ag)∧(Kd.R af_ 71 w' w.heap.size (fun k_=>some k_≠(s_.1:Value).ownBlock) s_.2.1 ah)∧(w'.heap[x]? = some (.cells #[.string G,.int .i64 Z,.slice J E.length M] 32 (0,0)))∧(w'.heap[u]? = some (.cells #[.int .i64 ab,.int .i64 O,.slice X I.length Y,.slice V F.length W] 52 (0,0)))∧(w'.heap[aa]? = some (.cells #[.string (⟨#[]⟩:ByteArray),.int .i64 0,.slice none 0 0] 32 (0,0)))∧(w'.heap[s_.2.2]? = some (.cells #[.string (⟨#[]⟩:ByteArray),.int .i64 0,.slice none 0 0] 32 (0,0)))∧(w.heap.size≤s_.2.2)∧(w.heap.size≤s_.2.2)∧(x≠s_.2.2)∧(s_.2.2≠x)∧(u≠s_.2.2)∧(s_.2.2≠u)∧(aa≠s_.2.2)∧(s_.2.2≠aa)∧(Below w.heap.size w w')) ?_ ?_;rotate_left
     ·intro hCont;refine two_ (i:=8) (j:=13) (Ni:=some 52) (Nj:=some 6) (mL 15 2047) (mL 15 9983) rfl rfl rfl rfl (two_of HT_.out KR) (by decide) (by decide) (fun K hK=>?_) (fun K hK=>?_)
      ·skip;refine gB Tryz.func56 #[.slice J E.length M,.slice X I.length Y] rfl rfl ?_
       with_reducible refine(bu_.calls _ _ _ _ _ _ _ _ _ ?side1 ?side2 ?side3 ?side4 aU.out).mono ?_
       (case side1=>exact CW ((Kd.ae_ ae.out HB.out)));(case side2=>exact af.out);(case side3=>exact CW ((Kd.ae_ ak.out HB.out)));(case side4=>exact al.out);rintro e w64 ⟨ap,rfl,U,hb⟩;refine⟨_,rfl,?_⟩;have s:=RL U;replace g:=KB g hb;replace c:=KB c hb;replace l:=KB l hb;replace HB:=BS hb;clear hb U;obtain⟨aY,aZ,eo65⟩:=Kd.ap_ s.out;(first|subst eo65|(injection eo65 with f1_ f2_ f3_;have f4_:=f1_.symm;have f5_:=f3_.symm;clear f1_ f2_ f3_;subst f4_;subst f5_));refine hK.out _ _ ⟨bc 0 g,bc 1 g,bc 2 g,bc 0 c,bc 1 c,bc 2 c,bc 3 c⟩ (fun hHeld=>?_);clear hK K;refine nA ?_;refine two_ (i:=11) (j:=13) (Ni:=some 55) (Nj:=some 6) (mL 15 4095) (mL 15 10239) rfl rfl rfl rfl (two_of HT_.out KR) (by decide) (by decide) (fun K hK=>?_) (fun K hK=>?_)
       ·skip;refine gB Tryz.func57 #[.slice aY ag.length aZ,.slice V F.length W] rfl rfl ?_
        with_reducible refine(cl_.calls _ _ _ _ _ _ _ _ _ ?side1 ?side2 ?side3 ?side4 ?side5 aH.out).mono ?_
        (case side1=>exact CW ((Kd.ag_ s.out).2.2));(case side2=>exact RI s);(case side3=>exact CW ((Kd.ae_ ai.out HB.out)));(case side4=>exact aj.out);(case side5=>exact GW HGL);rintro e cz ⟨am,rfl,U,hb⟩;refine⟨_,rfl,?_⟩;have D:=RL (NW U s);replace s:=EL s U hb;replace g:=KB g hb;replace c:=KB c hb;replace l:=KB l hb;replace HB:=BS hb;clear hb U;obtain⟨bj,bk,eo67⟩:=Kd.ap_ D.out;(first|subst eo67|(injection eo67 with f1_ f2_ f3_;have f4_:=f1_.symm;have f5_:=f3_.symm;clear f1_ f2_ f3_;subst f4_;subst f5_));refine hK.out _ _ ⟨bc 0 g,bc 1 g,bc 2 g,bc 0 c,bc 1 c,bc 2 c,bc 3 c⟩ (fun hHeld=>?_);clear hK K;refine nA ?_;refine pB 12 rfl rfl ?_
        refine oB 13 rfl rfl fun K hK=>?_
        refine cF_ ?hg (N:=6) ?hd (cs:=#[.string (⟨#[]⟩:ByteArray),.int .i64 0,.slice none 0 0]) (t:=32) ?hr ?_;(case hd=>rfl);(case hg=>rfl);(case hr=>first|(go_simp;done)|(go_simp;rfl));intro q hg cA hbox hb;replace s:=RB s hb;replace D:=RB D hb;have v:=AM (hbox);have ac:=bG hg;have ad:=bG hg;replace HB:=BS hb;have o:=bN g hg;have y:=bM g hg;replace g:=KB g hb;have m:=bN c hg;have z:=bM c hg;replace c:=KB c hb;have A:=bN l hg;have B:=bM l hg;replace l:=KB l hb;clear hb hbox hg;refine hK.out _ _ ⟨bc 0 g,bc 1 g,bc 2 g,bc 0 c,bc 1 c,bc 2 c,bc 3 c⟩ (fun hHeld=>?_);clear hK K;refine nA ?_;exact nC (hCont (.slice aY ag.length aZ,.slice bj ah.length bk,q) _ ⟨hHeld,(MO s).out,(MO D).out,(KW g).out,(KW c).out,(KW l).out,(KW v).out,ac.out,ad.out,o.out,y.out,m.out,z.out,A.out,B.out,TB⟩)
       ·skip;refine cF_ ?hg (N:=6) ?hd (cs:=#[.string (⟨#[]⟩:ByteArray),.int .i64 0,.slice none 0 0]) (t:=32) ?hr ?_;(case hd=>rfl);(case hg=>rfl);(case hr=>first|(go_simp;done)|(go_simp;rfl));intro q hg bQ hbox hb;replace s:=RB s hb;have v:=AM (hbox);have ac:=bG hg;have ad:=bG hg;replace HB:=BS hb;have o:=bN g hg;have y:=bM g hg;replace g:=KB g hb;have m:=bN c hg;have z:=bM c hg;replace c:=KB c hb;have A:=bN l hg;have B:=bM l hg;replace l:=KB l hb;clear hb hbox hg;obtain⟨az,aA,eo66⟩:=Kd.ap_ s.out;(first|subst eo66|(injection eo66 with f1_ f2_ f3_;have f4_:=f1_.symm;have f5_:=f3_.symm;clear f1_ f2_ f3_;subst f4_;subst f5_));refine hK.out _ _ ⟨bc 0 g,bc 1 g,bc 2 g,bc 0 c,bc 1 c,bc 2 c,bc 3 c⟩ (fun hHeld=>?_);clear hK K;refine nA ?_
        refine oB 11 rfl rfl fun K hK=>?_
        refine gB Tryz.func57 #[.slice az ag.length aA,.slice V F.length W] rfl rfl ?_
        with_reducible refine(cl_.calls _ _ _ _ _ _ _ _ _ ?side1 ?side2 ?side3 ?side4 ?side5 aH.out).mono ?_
        (case side1=>exact CW ((Kd.ag_ s.out).2.2));(case side2=>exact RI s);(case side3=>exact CW ((Kd.ae_ ai.out HB.out)));(case side4=>exact aj.out);(case side5=>exact GW HGL);rintro e bR ⟨am,rfl,U,hb⟩;refine⟨_,rfl,?_⟩;have D:=RL (NW U s);replace s:=EL s U hb;replace g:=KB g hb;replace c:=KB c hb;replace l:=KB l hb;replace v:=KB v hb;replace HB:=BS hb;clear hb U;obtain⟨aR,aS,eo68⟩:=Kd.ap_ D.out;(first|subst eo68|(injection eo68 with f1_ f2_ f3_;have f4_:=f1_.symm;have f5_:=f3_.symm;clear f1_ f2_ f3_;subst f4_;subst f5_));refine hK.out _ _ ⟨bc 0 g,bc 1 g,bc 2 g,bc 0 c,bc 1 c,bc 2 c,bc 3 c⟩ (fun hHeld=>?_);clear hK K;refine nA ?_;refine pB 12 rfl rfl ?_;exact nC (hCont (.slice az ag.length aA,.slice aR ah.length aS,q) _ ⟨hHeld,(MO s).out,(MO D).out,(KW g).out,(KW c).out,(KW l).out,(KW v).out,ac.out,ad.out,o.out,y.out,m.out,z.out,A.out,B.out,TB⟩)
      ·skip;refine cF_ ?hg (N:=6) ?hd (cs:=#[.string (⟨#[]⟩:ByteArray),.int .i64 0,.slice none 0 0]) (t:=32) ?hr ?_;(case hd=>rfl);(case hg=>rfl);(case hr=>first|(go_simp;done)|(go_simp;rfl));intro q hg w64 hbox hb;have v:=AM (hbox);have ac:=bG hg;have ad:=bG hg;replace HB:=BS hb;have o:=bN g hg;have y:=bM g hg;replace g:=KB g hb;have m:=bN c hg;have z:=bM c hg;replace c:=KB c hb;have A:=bN l hg;have B:=bM l hg;replace l:=KB l hb;clear hb hbox hg;refine hK.out _ _ ⟨bc 0 g,bc 1 g,bc 2 g,bc 0 c,bc 1 c,bc 2 c,bc 3 c⟩ (fun hHeld=>?_);clear hK K;refine nA ?_
       refine oB 8 rfl rfl fun K hK=>?_
       refine gB Tryz.func56 #[.slice J E.length M,.slice X I.length Y] rfl rfl ?_
       with_reducible refine(bu_.calls _ _ _ _ _ _ _ _ _ ?side1 ?side2 ?side3 ?side4 aU.out).mono ?_
       (case side1=>exact CW ((Kd.ae_ ae.out HB.out)));(case side2=>exact af.out);(case side3=>exact CW ((Kd.ae_ ak.out HB.out)));(case side4=>exact al.out);rintro e bQ ⟨ap,rfl,U,hb⟩;refine⟨_,rfl,?_⟩;have s:=RL U;replace g:=KB g hb;replace c:=KB c hb;replace l:=KB l hb;replace v:=KB v hb;replace HB:=BS hb;clear hb U;obtain⟨az,aA,eo66⟩:=Kd.ap_ s.out;(first|subst eo66|(injection eo66 with f1_ f2_ f3_;have f4_:=f1_.symm;have f5_:=f3_.symm;clear f1_ f2_ f3_;subst f4_;subst f5_));refine hK.out _ _ ⟨bc 0 g,bc 1 g,bc 2 g,bc 0 c,bc 1 c,bc 2 c,bc 3 c⟩ (fun hHeld=>?_);clear hK K;refine nA ?_
       refine oB 11 rfl rfl fun K hK=>?_
       refine gB Tryz.func57 #[.slice az ag.length aA,.slice V F.length W] rfl rfl ?_
       with_reducible refine(cl_.calls _ _ _ _ _ _ _ _ _ ?side1 ?side2 ?side3 ?side4 ?side5 aH.out).mono ?_
       (case side1=>exact CW ((Kd.ag_ s.out).2.2));(case side2=>exact RI s);(case side3=>exact CW ((Kd.ae_ ai.out HB.out)));(case side4=>exact aj.out);(case side5=>exact GW HGL);rintro e bR ⟨am,rfl,U,hb⟩;refine⟨_,rfl,?_⟩;have D:=RL (NW U s);replace s:=EL s U hb;replace g:=KB g hb;replace c:=KB c hb;replace l:=KB l hb;replace v:=KB v hb;replace HB:=BS hb;clear hb U;obtain⟨aR,aS,eo68⟩:=Kd.ap_ D.out;(first|subst eo68|(injection eo68 with f1_ f2_ f3_;have f4_:=f1_.symm;have f5_:=f3_.symm;clear f1_ f2_ f3_;subst f4_;subst f5_));refine hK.out _ _ ⟨bc 0 g,bc 1 g,bc 2 g,bc 0 c,bc 1 c,bc 2 c,bc 3 c⟩ (fun hHeld=>?_);clear hK K;refine nA ?_;refine pB 12 rfl rfl ?_;exact nC (hCont (.slice az ag.length aA,.slice aR ah.length aS,q) _ ⟨hHeld,(MO s).out,(MO D).out,(KW g).out,(KW c).out,(KW l).out,(KW v).out,ac.out,ad.out,o.out,y.out,m.out,z.out,A.out,B.out,TB⟩)
     rintro⟨ap,am,q⟩ ar ⟨hS_,h0_,h1_,h2_,h3_,h4_,h5_,h6_,h7_,h8_,h9_,h10_,h11_,h12_,h13_,h14_⟩;have n0_:Aside0 (Kd.R af_ 71 ar w.heap.size (fun k_=>some k_≠(am:Value).ownBlock) ap ag):=⟨h0_⟩;have n1_:Aside0 (Kd.R af_ 71 ar w.heap.size (fun k_=>some k_≠(ap:Value).ownBlock) am ah):=⟨h1_⟩;have n2_:Aside0 (ar.heap[x]? = some (.cells #[.string G,.int .i64 Z,.slice J E.length M] 32 (0,0))):=⟨h2_⟩;have n3_:Aside0 (ar.heap[u]? = some (.cells #[.int .i64 ab,.int .i64 O,.slice X I.length Y,.slice V F.length W] 52 (0,0))):=⟨h3_⟩;have n4_:Aside0 (ar.heap[aa]? = some (.cells #[.string (⟨#[]⟩:ByteArray),.int .i64 0,.slice none 0 0] 32 (0,0))):=⟨h4_⟩;have n5_:Aside0 (ar.heap[q]? = some (.cells #[.string (⟨#[]⟩:ByteArray),.int .i64 0,.slice none 0 0] 32 (0,0))):=⟨h5_⟩;have n6_:Aside0 (w.heap.size≤q):=⟨h6_⟩;have n7_:Aside0 (w.heap.size≤q):=⟨h7_⟩;have n8_:Aside0 (x≠q):=⟨h8_⟩;have n9_:Aside0 (q≠x):=⟨h9_⟩;have n10_:Aside0 (u≠q):=⟨h10_⟩;have n11_:Aside0 (q≠u):=⟨h11_⟩;have n12_:Aside0 (aa≠q):=⟨h12_⟩;have n13_:Aside0 (q≠aa):=⟨h13_⟩;have n14_:Aside0 (Below w.heap.size w ar):=⟨h14_⟩;clear g c l HB h0_ h1_ h2_ h3_ h4_ h5_ h6_ h7_ h8_ h9_ h10_ h11_ h12_ h13_ h14_;have s:=n0_;have D:=n1_;have g:=n2_;have c:=n3_;have l:=n4_;have v:=n5_;have ac:=n6_;have ad:=n7_;have o:=n8_;have y:=n9_;have m:=n10_;have z:=n11_;have A:=n12_;have B:=n13_;have HB:=n14_;clear n0_ n1_ n2_ n3_ n4_ n5_ n6_ n7_ n8_ n9_ n10_ n11_ n12_ n13_ n14_;have hHeld:ar.cell? ⟨x,0,none⟩=some (.string G)∧ar.cell? ⟨x,1,none⟩=some (.int .i64 Z)∧ar.cell? ⟨x,2,none⟩=some (.slice J E.length M)∧ar.cell? ⟨u,0,none⟩=some (.int .i64 ab)∧ar.cell? ⟨u,1,none⟩=some (.int .i64 O)∧ar.cell? ⟨u,2,none⟩=some (.slice X I.length Y)∧ar.cell? ⟨u,3,none⟩=some (.slice V F.length W):=hS_;obtain⟨a0,a1,eo70⟩:=Kd.ap_ D.out;(first|subst eo70|(injection eo70 with f1_ f2_ f3_;have f4_:=f1_.symm;have f5_:=f3_.symm;clear f1_ f2_ f3_;subst f4_;subst f5_));refine norm_ (a':=?_) ?_ ?_;rotate_left
     ·simp only[putAll,Act.put,List.setIfInBounds_toArray,List.set_cons_zero,List.set_cons_succ];rfl
     refine oB 14 rfl rfl fun K hK=>?_
     have hs71:=bc 0 v;have hfs71:=cu_ v.out 0;have hns71_0:=o.out;have hns71_1:=m.out;have hns71_2:=A.out;have hms71_0:=y.out;have hms71_1:=z.out;have hms71_2:=B.out;have hs72:=bc 1 v;have hfs72:=cu_ v.out 1;have hns72_0:=o.out;have hns72_1:=m.out;have hns72_2:=A.out;have hms72_0:=y.out;have hms72_1:=z.out;have hms72_2:=B.out;have hs73:=bc 2 v;have hfs73:=cu_ v.out 2;have hns73_0:=o.out;have hns73_1:=m.out;have hns73_2:=A.out;have hms73_0:=y.out;have hms73_1:=z.out;have hms73_2:=B.out;refine skip_ (w1:=?_) (by rfl) rfl ?_ ?_;rotate_left
     ·go_simp;rfl
     refine hK.out _ _ ⟨((aB_ (p:=⟨q,_,none⟩) o.out _).trans (((aB_ (p:=⟨q,_,none⟩) o.out _).trans (((aB_ (p:=⟨q,_,none⟩) o.out _).trans (hHeld.1)))))),((aB_ (p:=⟨q,_,none⟩) o.out _).trans (((aB_ (p:=⟨q,_,none⟩) o.out _).trans (((aB_ (p:=⟨q,_,none⟩) o.out _).trans (hHeld.2.1)))))),((aB_ (p:=⟨q,_,none⟩) o.out _).trans (((aB_ (p:=⟨q,_,none⟩) o.out _).trans (((aB_ (p:=⟨q,_,none⟩) o.out _).trans (hHeld.2.2.1)))))),((aB_ (p:=⟨q,_,none⟩) m.out _).trans (((aB_ (p:=⟨q,_,none⟩) m.out _).trans (((aB_ (p:=⟨q,_,none⟩) m.out _).trans (hHeld.2.2.2.1)))))),((aB_ (p:=⟨q,_,none⟩) m.out _).trans (((aB_ (p:=⟨q,_,none⟩) m.out _).trans (((aB_ (p:=⟨q,_,none⟩) m.out _).trans (hHeld.2.2.2.2.1)))))),((aB_ (p:=⟨q,_,none⟩) m.out _).trans (((aB_ (p:=⟨q,_,none⟩) m.out _).trans (((aB_ (p:=⟨q,_,none⟩) m.out _).trans (hHeld.2.2.2.2.2.1)))))),((aB_ (p:=⟨q,_,none⟩) m.out _).trans (((aB_ (p:=⟨q,_,none⟩) m.out _).trans (((aB_ (p:=⟨q,_,none⟩) m.out _).trans (hHeld.2.2.2.2.2.2))))))⟩ (fun hHeld=>?_);clear hK K;refine done_ (bz_ HT_.out KR) ?_;have bS:=y.out;have bT:=o.out;have bU:=z.out;have bV:=m.out;have bW:=B.out;have bX:=A.out;have bY:=cz3 v
     try go_wp2_with (first|(refine gL 58 rfl Tryz.func23 #[.agg #[.string G,.int .i64 O,.slice a0 ah.length a1]] rfl TA ?_;(with_reducible refine(bf_.calls _ _ _ _ _ _ _ _ ?side1 ?side2 ?side3 bg.out).mono ?_);(case side1=>exact RC (RT D v));(case side2=>exact RI D);(case side3=>exact GW HGL);rintro e cB ⟨rfl,hb⟩;refine⟨_,rfl,?_⟩;replace s:=RTB s v hb;replace D:=RTB D v hb;replace g:=KF g hb;replace c:=KF c hb;replace l:=KF l hb;replace v:=KP v #[.string G,.int .i64 O,.slice a0 ah.length a1] hb;replace HB:=BS hb;clear hb;obtain⟨bZ,b0⟩:=nn an;obtain⟨b1,b2⟩:=nn ao;have b3:=cz3 l))
     refine bodyPost_ret (results_ct rfl _ _ aa 32 #[.string (⟨#[]⟩:ByteArray),.int .i64 0,.slice none 0 0] (0,0) _ rfl (by(with_reducible repeat (first|refine blk_drewN ?_ _|refine ai_ ?_|refine blk_alloc ?_ _));apply PF3;exact(KW l).out) Tryz.underlying32 rfl KR) rfl ?_;exact⟨_,TE,TZ,TB⟩
end
end Go.Proofs.YtenpejebbeoceaaGreatDoor.Pp
