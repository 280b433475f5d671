/- The functions that the law reaches,one Lean function and its proof for each;written by wip/pp of this workplace,joined by claimit.py. -/
import Derived.Test.YtbgajeomljkdjaaGreatDoorProg
import Derived.Below
import Derived.Deep.Draws
import Derived.Deep.AppendLies
import Derived.Maps.AppendAt
import Derived.OwnWalk
import Derived.Laws.BytesArg
import Derived.Laws.MakeOwn
import Derived.Laws.OwnMore
import Derived.Deep.OwnRows
import Derived.Tactics
import Derived.Lib.ConvBytes
import Derived.Laws.Slices
import Derived.WalkKit
import Derived.KernelRfl
import Derived.RowKit3
import Derived.Deep.LoopGhost
import Derived.Deep.QuietTactic
import Derived.BigQuiet
import Derived.WideLaws
import Derived.Deep.DeepCutAuto
import Derived.Deep.CutBlock
import Derived.Deep.RegionHeld3
import Derived.Laws.Rows
import Derived.Lib.AppendStr
import Derived.ArgAppend
import Derived.Laws.IdiomCopy
import Derived.OrdersHeld
import Derived.Laws.BitsLemmas
import Derived.RowKit
import Derived.Test.YtbgajeomljkdjaaGreatDoorKFnExactApplyBatchW
import Derived.Laws.CopyRow
import Derived.Lib.Overlaps
import Derived.Lib.AppendZerosOnto
import Derived.Laws.Externs
import Derived.Shelf.Spec.SlicesInsert
import Derived.Test.YtbgajeomljkdjaaGreatDoorJFnExactApplyBatch0
import Derived.Test.YtbgajeomljkdjaaGreatDoorJFnExactApplyBatch1
import Derived.Test.YtbgajeomljkdjaaGreatDoorJFnExactApplyBatch2
namespace Go.Proofs.YtbgajeomljkdjaaGreatDoor.Pp
open Go.RowKit Go.Proofs.YtbgajeomljkdjaaGreatDoorW.PrintWords Go.Proofs.YtbgajeomljkdjaaGreatDoorW.PrintLast Go.Proofs.YtbgajeomljkdjaaGreatDoorW.PrintMore
attribute [local go_sem] max2_int min2_int max_two min_two max_three min_three max_four min_four
set_option linter.unusedVariables false
set_option linter.unusedSimpArgs false
set_option maxHeartbeats 8000000
set_option maxRecDepth 100000
section
def a0_.l0:Nat→List (ab_)→List (ab_)→Int→Int→Option (Bool)
 | 0,_,_,_,_=>none
 | k+1,x0,x5,x6,x7=>if x7<x6 then(if 0≤x7 then(if x7<(x5.length:Int) then((b7_.f k ((a_ x5 x7).f0) ((a_ x5 x7).f1) ((a_ x5 x7).f2) ((a_ x5 x7).f3)).bind fun c=>(if c=true then(if x7 > 0 then(if 0≤(wrap64 (x7 - 1)) then(if (wrap64 (x7 - 1))<(x0.length:Int) then((a1_.f k ((a_ x0 (wrap64 (x7 - 1))).f0) ((a_ x0 (wrap64 (x7 - 1))).f1) ((a_ x0 (wrap64 (x7 - 1))).f2) ((a_ x0 (wrap64 (x7 - 1))).f3) ((a_ x5 x7).f0) ((a_ x5 x7).f1) ((a_ x5 x7).f2) ((a_ x5 x7).f3)).bind fun g=>(if g≥0 then(some false) else(a0_.l0 k x0 x5 x6 (wrap64 (x7+1))))) else(none)) else(none)) else(a0_.l0 k x0 x5 x6 (wrap64 (x7+1)))) else(some false))) else(none)) else(none)) else(some true)
def a0_.f (k:Nat) (l0:List (ab_)):Option (Bool):=a0_.l0 k l0 l0 (l0.length:Int) 0
def a0_.T4:Bool × List (List Nat × List Nat):=(true,[([],[]),([0],[0]),([1],[1]),([2,1],[2]),([3],[3]),([4,3],[3,4]),([5,3,3],[3,5]),([6],[6]),([6],[6]),([8,6],[6,8]),([7,9,6],[6,7,9]),([10,6],[6,10]),([6],[6]),([11,12,6,6],[6,11,12]),([13,6],[6,13]),([6,14,3],[3,6,14]),([3,15],[3,15])])
def a0_.B4:List Nat:=[0,1,3,7,15,31,63,127,127,383,1023,2047,127,8191,16383,32767,65535]
theorem a0_.tab4:rtab .any (opsOf Tryz.f103 4)=a0_.T4:=by kernel_rfl
theorem a0_.bits4:waitsOk a0_.T4.2 a0_.B4=true:=by kernel_rfl
theorem a0_.calls (k:Nat) (A0:Option Addr) (c0:Nat) (l0:List (ab_)) (r:Bool) (w:World) (ab:Kd.C ae_ w A0 l0.length l0) (ac:l0.length≤c0) (hG_:Glob w) (h:a0_.f k l0=some r) :
  Calls Tryz.prog 103 #[.slice A0 l0.length c0] w fun e w'=>e=.returned (.bool r)∧Below w.heap.size w w':=by
 have hu69:=Tryz.underlying69;have R:=AM ab;have av:=AM ac;clear ab ac;have HGL:=AM hG_;clear hG_;have HB:=AM (Below.refl w.heap.size w);have H:(a0_.l0 k l0 l0 (l0.length:Int) 0)=some r:=h;clear h;have H':=AM H;clear H;go_enter Tryz.func103,Tryz.ntmps103;go_wp2;go_loopg [7] k (fun kq v7 w'=>∃(c:Int),v7=.int .i64 c∧Aside0 (a0_.l0 kq l0 l0 (l0.length:Int) c=some r)∧Aside0 (kq≤k)∧Aside0 (Below w.heap.size w w'))
 case atStart=>exact⟨(0),TF,H',⟨Nat.le_refl _⟩,⟨TB⟩⟩
 case round =>
  clear H';obtain⟨c,rfl,HA,HK1,HB⟩:=hrel
  cases gk with
  | zero=>exact absurd HA.out (by simp[a0_.l0])
  | succ k1 =>
   have H:=HA.out;clear HA;simp only[a0_.l0] at H;by_cases c2:c<(l0.length:Int)
   ·rw[if_pos c2] at H;have ad:=decide_eq_true c2;clear c2;obtain⟨c3,H⟩:=ifn H;have aq:=decide_eq_true c3;clear c3;obtain⟨c4,H⟩:=ifn H;have ar:=decide_eq_true c4;clear c4;obtain⟨ae,A5,H⟩:=bnd H;by_cases c6:ae=true
    ·subst c6;replace H:=ift H;by_cases c7:c > 0
     ·rw[if_pos c7] at H;have af:=decide_eq_true c7;clear c7;obtain⟨l,hji8⟩:∃j_:Int,(wrap64 (c - 1))=j_:=⟨_,rfl⟩
      replace H:(if 0≤(l) then(if (l)<(l0.length:Int) then((a1_.f k1 ((a_ l0 (l)).f0) ((a_ l0 (l)).f1) ((a_ l0 (l)).f2) ((a_ l0 (l)).f3) ((a_ l0 c).f0) ((a_ l0 c).f1) ((a_ l0 c).f2) ((a_ l0 c).f3)).bind fun J=>(if J≥0 then(some false) else(a0_.l0 k1 l0 l0 (l0.length:Int) (wrap64 (c+1))))) else(none)) else(none))=some r:=by first|(rw[hji8] at H;exact H)|(simp only[hji8] at H ⊢;exact H)
      (try rw[hji8] at A5);have hji8w:(IntKind.i64.wrap (c - 1))=l:=(cd_ _).trans hji8;obtain⟨c9,H⟩:=ifn H;have au:=decide_eq_true c9;clear c9;obtain⟨c10,H⟩:=ifn H;have ah:=decide_eq_true c10;clear c10;obtain⟨J,ag,H⟩:=bnd H;by_cases U:J≥0
      ·rw[if_pos U] at H;have W:=decide_eq_true U;clear U;obtain rfl:=Option.some.inj H;have t:0≤(c:Int):=TD;have u:c<(l0.length:Int):=TD;obtain⟨m,A,B,D,E,F⟩:=ah_ (Kd.af_ R.out HB.out) c t u;cases A;replace t:=eq_true t;replace u:=eq_true u
       try go_wp2_with (first|(refine gD 4 rfl ?_;refine bE 4 #[.string (⟨#[]⟩:ByteArray),.int .i64 0,.int .i64 0,.string (⟨#[]⟩:ByteArray)] 69 ?_;intro j hg X hbox hb;have g:=AM (hbox);have M:=bG hg;replace HB:=BS hb;clear hb hbox hg;have ai:=cz4 g))
       have n0_:Aside0 (((((X.setCell ⟨j,0,none⟩ (.string ((a_ l0 c).f0))).setCell ⟨j,1,none⟩ (.int .i64 ((a_ l0 c).f1))).setCell ⟨j,2,none⟩ (.int .i64 ((a_ l0 c).f2))).setCell ⟨j,3,none⟩ (.string ((a_ l0 c).f3))).heap[j]? = some (.cells #[.string ((a_ l0 c).f0),.int .i64 ((a_ l0 c).f1),.int .i64 ((a_ l0 c).f2),.string ((a_ l0 c).f3)] 69 (0,0))):=⟨TS⟩;have n1_:Aside0 (Below w.heap.size w ((((X.setCell ⟨j,0,none⟩ (.string ((a_ l0 c).f0))).setCell ⟨j,1,none⟩ (.int .i64 ((a_ l0 c).f1))).setCell ⟨j,2,none⟩ (.int .i64 ((a_ l0 c).f2))).setCell ⟨j,3,none⟩ (.string ((a_ l0 c).f3)))):=⟨TB⟩;(try clear g);(try clear HB);generalize ((((X.setCell ⟨j,0,none⟩ (.string ((a_ l0 c).f0))).setCell ⟨j,1,none⟩ (.int .i64 ((a_ l0 c).f1))).setCell ⟨j,2,none⟩ (.int .i64 ((a_ l0 c).f2))).setCell ⟨j,3,none⟩ (.string ((a_ l0 c).f3)))=aj at n0_ n1_ ⊢;have g:=n0_;have HB:=n1_;clear n0_ n1_;replace g:=AM (ai_ g.out);replace HB:=AM (az_ HB.out);have G:0≤((l):Int):=TD;have I:(l)<(l0.length:Int):=TD;obtain⟨O,V,o,p,q,s⟩:=ah_ R.out (l) G I;have v:=s;have x:=q;have y:=p;have z:=o;obtain rfl:m=O:=(by injection V);replace o:=hBc HB o;replace p:=hBc HB p;replace q:=hBc HB q;replace s:=hBc HB s;replace G:=eq_true G;replace I:=eq_true I;refine start_ (n:=17) (S:=fun w'=>w'.cell? ⟨j,0,none⟩=some (.string ((a_ l0 c).f0))∧w'.cell? ⟨j,1,none⟩=some (.int .i64 ((a_ l0 c).f1))∧w'.cell? ⟨j,2,none⟩=some (.int .i64 ((a_ l0 c).f2))∧w'.cell? ⟨j,3,none⟩=some (.string ((a_ l0 c).f3))∧w'.cell? (m.add (((l)).toNat * 4))=some (.string ((a_ l0 (l)).f0))∧w'.cell? ⟨(m.add (((l)).toNat * 4)).block,(m.add (((l)).toNat * 4)).off+1,none⟩=some (.int .i64 ((a_ l0 (l)).f1))∧w'.cell? ⟨(m.add (((l)).toNat * 4)).block,(m.add (((l)).toNat * 4)).off+2,none⟩=some (.int .i64 ((a_ l0 (l)).f2))∧w'.cell? ⟨(m.add (((l)).toNat * 4)).block,(m.add (((l)).toNat * 4)).off+3,none⟩=some (.string ((a_ l0 (l)).f3))) (ds:=[]) #[false,false,false,false,false,false,false,false,false,false,false,false,false,false,false,false,false] KR rfl rfl ⟨bc 0 g,bc 1 g,bc 2 g,bc 3 g,(hBc HB z),(hBc HB y),(hBc HB x),(hBc HB v)⟩ (fun hHeld=>?_);refine bl_ a0_.tab4 a0_.bits4 (fun HT_ HW_=>?_);generalize aj.drew=aw at g HB o p q s hHeld ⊢;refine tA 0 12 (mL 17 1) HT_ HW_ hHeld rfl rfl (by rintro w' ⟨s0,s1,s2,s3,s4,s5,s6,s7⟩;go_simp;with_reducible rfl) ?_;refine one_ (i:=1) (N:=some 13) (mL 17 3) rfl rfl (bk_ HT_.out KR) (by decide) (fun K hK=>?_);refine goes_ Tryz.func115 KR rfl #[.agg #[.string ((a_ l0 c).f0),.int .i64 ((a_ l0 c).f1),.int .i64 ((a_ l0 c).f2),.string ((a_ l0 c).f3)]] (by rfl) rfl rfl TA ?_
       with_reducible refine(b7_.calls k1 ((a_ l0 c).f0) ((a_ l0 c).f1) ((a_ l0 c).f2) ((a_ l0 c).f3) true _ ?side1 A5.out).mono ?_
       (case side1=>exact GW HGL);rintro e ax ⟨rfl,hb⟩;refine⟨_,rfl,?_⟩;replace g:=KB g hb;replace HB:=BS hb;clear hb;refine hK.out _ _ ⟨bc 0 g,bc 1 g,bc 2 g,bc 3 g,(hBc HB z),(hBc HB y),(hBc HB x),(hBc HB v)⟩ (fun hHeld=>?_);clear hK K;refine nA ?_;refine pA 2 14 (mL 17 7) HT_ rfl rfl ?_;refine pA 3 15 (mL 17 15) HT_ rfl rfl ?_;refine pA 4 16 (mL 17 31) HT_ rfl rfl ?_;refine pA 5 17 (mL 17 63) HT_ rfl rfl ?_;refine pA 6 18 (mL 17 127) HT_ rfl rfl ?_;refine pA 7 19 (mL 17 255) HT_ rfl rfl ?_;refine pA 8 20 (mL 17 511) HT_ rfl rfl ?_;refine pA 9 21 (mL 17 1023) HT_ rfl rfl ?_;refine pA 10 22 (mL 17 2047) HT_ rfl rfl ?_;refine tA 11 23 (mL 17 4095) HT_ HW_ hHeld rfl rfl (by rintro w' ⟨s0,s1,s2,s3,s4,s5,s6,s7⟩;go_simp;with_reducible rfl) ?_;refine tA 12 24 (mL 17 8191) HT_ HW_ hHeld rfl rfl (by rintro w' ⟨s0,s1,s2,s3,s4,s5,s6,s7⟩;go_simp;with_reducible rfl) ?_;refine one_ (i:=13) (N:=some 25) (mL 17 16383) rfl rfl (bk_ HT_.out KR) (by decide) (fun K hK=>?_);refine goes_ Tryz.func107 KR rfl #[.agg #[.string ((a_ l0 (l)).f0),.int .i64 ((a_ l0 (l)).f1),.int .i64 ((a_ l0 (l)).f2),.string ((a_ l0 (l)).f3)],.agg #[.string ((a_ l0 c).f0),.int .i64 ((a_ l0 c).f1),.int .i64 ((a_ l0 c).f2),.string ((a_ l0 c).f3)]] (by rfl) rfl rfl (by(try simp only[List.map_toArray,List.map_cons,List.map_nil]);first|done|(simp only[hji8];rfl)|rfl|(simp only[List.length_drop,List.length_take];rfl)) ?_
       with_reducible refine(a1_.calls k1 ((a_ l0 (l)).f0) ((a_ l0 (l)).f1) ((a_ l0 (l)).f2) ((a_ l0 (l)).f3) ((a_ l0 c).f0) ((a_ l0 c).f1) ((a_ l0 c).f2) ((a_ l0 c).f3) J _ ?side1 ag.out).mono ?_
       (case side1=>exact GW HGL);rintro e ay ⟨rfl,hb⟩;refine⟨_,rfl,?_⟩;replace g:=KB g hb;replace HB:=BS hb;clear hb;refine hK.out _ _ ⟨bc 0 g,bc 1 g,bc 2 g,bc 3 g,(hBc HB z),(hBc HB y),(hBc HB x),(hBc HB v)⟩ (fun hHeld=>?_);clear hK K;refine nA ?_;refine pA 14 26 (mL 17 32767) HT_ rfl rfl ?_;refine pA 15 27 (mL 17 65535) HT_ rfl rfl ?_;refine pA 16 28 (mL 17 131071) HT_ rfl rfl ?_;refine done_ (bJ_ HT_.out KR) ?_
       try go_wp2
       go_ret;exact⟨by first|rfl|(simp[aD_,aC_]<;>rfl)|(simp only[←hji8];first|rfl|(simp[aD_,aC_]<;>rfl))|(simp[*,aD_,aC_]<;>rfl),TB⟩
      ·rw[if_neg U] at H;have W:=decide_eq_false U;clear U;have H':=AM H;clear H;have t:0≤(c:Int):=TD;have u:c<(l0.length:Int):=TD;obtain⟨m,A,B,D,E,F⟩:=ah_ (Kd.af_ R.out HB.out) c t u;cases A;replace t:=eq_true t;replace u:=eq_true u
       try go_wp2_with (first|(refine gD 4 rfl ?_;refine bE 4 #[.string (⟨#[]⟩:ByteArray),.int .i64 0,.int .i64 0,.string (⟨#[]⟩:ByteArray)] 69 ?_;intro j hg Y hbox hb;have g:=AM (hbox);have M:=bG hg;replace HB:=BS hb;clear hb hbox hg;have ak:=cz4 g))
       have n0_:Aside0 (((((Y.setCell ⟨j,0,none⟩ (.string ((a_ l0 c).f0))).setCell ⟨j,1,none⟩ (.int .i64 ((a_ l0 c).f1))).setCell ⟨j,2,none⟩ (.int .i64 ((a_ l0 c).f2))).setCell ⟨j,3,none⟩ (.string ((a_ l0 c).f3))).heap[j]? = some (.cells #[.string ((a_ l0 c).f0),.int .i64 ((a_ l0 c).f1),.int .i64 ((a_ l0 c).f2),.string ((a_ l0 c).f3)] 69 (0,0))):=⟨TS⟩;have n1_:Aside0 (Below w.heap.size w ((((Y.setCell ⟨j,0,none⟩ (.string ((a_ l0 c).f0))).setCell ⟨j,1,none⟩ (.int .i64 ((a_ l0 c).f1))).setCell ⟨j,2,none⟩ (.int .i64 ((a_ l0 c).f2))).setCell ⟨j,3,none⟩ (.string ((a_ l0 c).f3)))):=⟨TB⟩;(try clear g);(try clear HB);generalize ((((Y.setCell ⟨j,0,none⟩ (.string ((a_ l0 c).f0))).setCell ⟨j,1,none⟩ (.int .i64 ((a_ l0 c).f1))).setCell ⟨j,2,none⟩ (.int .i64 ((a_ l0 c).f2))).setCell ⟨j,3,none⟩ (.string ((a_ l0 c).f3)))=al at n0_ n1_ ⊢;have g:=n0_;have HB:=n1_;clear n0_ n1_;replace g:=AM (ai_ g.out);replace HB:=AM (az_ HB.out);have G:0≤((l):Int):=TD;have I:(l)<(l0.length:Int):=TD;obtain⟨O,V,o,p,q,s⟩:=ah_ R.out (l) G I;have v:=s;have x:=q;have y:=p;have z:=o;obtain rfl:m=O:=(by injection V);replace o:=hBc HB o;replace p:=hBc HB p;replace q:=hBc HB q;replace s:=hBc HB s;replace G:=eq_true G;replace I:=eq_true I;refine start_ (n:=17) (S:=fun w'=>w'.cell? ⟨j,0,none⟩=some (.string ((a_ l0 c).f0))∧w'.cell? ⟨j,1,none⟩=some (.int .i64 ((a_ l0 c).f1))∧w'.cell? ⟨j,2,none⟩=some (.int .i64 ((a_ l0 c).f2))∧w'.cell? ⟨j,3,none⟩=some (.string ((a_ l0 c).f3))∧w'.cell? (m.add (((l)).toNat * 4))=some (.string ((a_ l0 (l)).f0))∧w'.cell? ⟨(m.add (((l)).toNat * 4)).block,(m.add (((l)).toNat * 4)).off+1,none⟩=some (.int .i64 ((a_ l0 (l)).f1))∧w'.cell? ⟨(m.add (((l)).toNat * 4)).block,(m.add (((l)).toNat * 4)).off+2,none⟩=some (.int .i64 ((a_ l0 (l)).f2))∧w'.cell? ⟨(m.add (((l)).toNat * 4)).block,(m.add (((l)).toNat * 4)).off+3,none⟩=some (.string ((a_ l0 (l)).f3))) (ds:=[]) #[false,false,false,false,false,false,false,false,false,false,false,false,false,false,false,false,false] KR rfl rfl ⟨bc 0 g,bc 1 g,bc 2 g,bc 3 g,(hBc HB z),(hBc HB y),(hBc HB x),(hBc HB v)⟩ (fun hHeld=>?_);refine bl_ a0_.tab4 a0_.bits4 (fun HT_ HW_=>?_);generalize al.drew=az at g HB o p q s hHeld ⊢;refine tA 0 12 (mL 17 1) HT_ HW_ hHeld rfl rfl (by rintro w' ⟨s0,s1,s2,s3,s4,s5,s6,s7⟩;go_simp;with_reducible rfl) ?_;refine one_ (i:=1) (N:=some 13) (mL 17 3) rfl rfl (bk_ HT_.out KR) (by decide) (fun K hK=>?_);refine goes_ Tryz.func115 KR rfl #[.agg #[.string ((a_ l0 c).f0),.int .i64 ((a_ l0 c).f1),.int .i64 ((a_ l0 c).f2),.string ((a_ l0 c).f3)]] (by rfl) rfl rfl TA ?_
       with_reducible refine(b7_.calls k1 ((a_ l0 c).f0) ((a_ l0 c).f1) ((a_ l0 c).f2) ((a_ l0 c).f3) true _ ?side1 A5.out).mono ?_
       (case side1=>exact GW HGL);rintro e aA ⟨rfl,hb⟩;refine⟨_,rfl,?_⟩;replace g:=KB g hb;replace HB:=BS hb;clear hb;refine hK.out _ _ ⟨bc 0 g,bc 1 g,bc 2 g,bc 3 g,(hBc HB z),(hBc HB y),(hBc HB x),(hBc HB v)⟩ (fun hHeld=>?_);clear hK K;refine nA ?_;refine pA 2 14 (mL 17 7) HT_ rfl rfl ?_;refine pA 3 15 (mL 17 15) HT_ rfl rfl ?_;refine pA 4 16 (mL 17 31) HT_ rfl rfl ?_;refine pA 5 17 (mL 17 63) HT_ rfl rfl ?_;refine pA 6 18 (mL 17 127) HT_ rfl rfl ?_;refine pA 7 19 (mL 17 255) HT_ rfl rfl ?_;refine pA 8 20 (mL 17 511) HT_ rfl rfl ?_;refine pA 9 21 (mL 17 1023) HT_ rfl rfl ?_;refine pA 10 22 (mL 17 2047) HT_ rfl rfl ?_;refine tA 11 23 (mL 17 4095) HT_ HW_ hHeld rfl rfl (by rintro w' ⟨s0,s1,s2,s3,s4,s5,s6,s7⟩;go_simp;with_reducible rfl) ?_;refine tA 12 24 (mL 17 8191) HT_ HW_ hHeld rfl rfl (by rintro w' ⟨s0,s1,s2,s3,s4,s5,s6,s7⟩;go_simp;with_reducible rfl) ?_;refine one_ (i:=13) (N:=some 25) (mL 17 16383) rfl rfl (bk_ HT_.out KR) (by decide) (fun K hK=>?_);refine goes_ Tryz.func107 KR rfl #[.agg #[.string ((a_ l0 (l)).f0),.int .i64 ((a_ l0 (l)).f1),.int .i64 ((a_ l0 (l)).f2),.string ((a_ l0 (l)).f3)],.agg #[.string ((a_ l0 c).f0),.int .i64 ((a_ l0 c).f1),.int .i64 ((a_ l0 c).f2),.string ((a_ l0 c).f3)]] (by rfl) rfl rfl (by(try simp only[List.map_toArray,List.map_cons,List.map_nil]);first|done|(simp only[hji8];rfl)|rfl|(simp only[List.length_drop,List.length_take];rfl)) ?_
       with_reducible refine(a1_.calls k1 ((a_ l0 (l)).f0) ((a_ l0 (l)).f1) ((a_ l0 (l)).f2) ((a_ l0 (l)).f3) ((a_ l0 c).f0) ((a_ l0 c).f1) ((a_ l0 c).f2) ((a_ l0 c).f3) J _ ?side1 ag.out).mono ?_
       (case side1=>exact GW HGL);rintro e aB ⟨rfl,hb⟩;refine⟨_,rfl,?_⟩;replace g:=KB g hb;replace HB:=BS hb;clear hb;refine hK.out _ _ ⟨bc 0 g,bc 1 g,bc 2 g,bc 3 g,(hBc HB z),(hBc HB y),(hBc HB x),(hBc HB v)⟩ (fun hHeld=>?_);clear hK K;refine nA ?_;refine pA 14 26 (mL 17 32767) HT_ rfl rfl ?_;refine pA 15 27 (mL 17 65535) HT_ rfl rfl ?_;refine pA 16 28 (mL 17 131071) HT_ rfl rfl ?_;refine done_ (bJ_ HT_.out KR) ?_
       try go_wp2
       go_roundg k1
       case measure=>have:=HK1.out;omega
       case rel=>exact⟨(wrap64 (c+1)),TF,H',⟨TM⟩,⟨TB⟩⟩
     ·rw[if_neg c7] at H;have af:=decide_eq_false c7;clear c7;have H':=AM H;clear H;have t:0≤(c:Int):=TD;have u:c<(l0.length:Int):=TD;obtain⟨m,A,B,D,E,F⟩:=ah_ (Kd.af_ R.out HB.out) c t u;cases A;replace t:=eq_true t;replace u:=eq_true u
      try go_wp2_with (first|(refine gD 4 rfl ?_;refine bE 4 #[.string (⟨#[]⟩:ByteArray),.int .i64 0,.int .i64 0,.string (⟨#[]⟩:ByteArray)] 69 ?_;intro j hg Z hbox hb;have g:=AM (hbox);have M:=bG hg;replace HB:=BS hb;clear hb hbox hg;have am:=cz4 g))
      have n0_:Aside0 (((((Z.setCell ⟨j,0,none⟩ (.string ((a_ l0 c).f0))).setCell ⟨j,1,none⟩ (.int .i64 ((a_ l0 c).f1))).setCell ⟨j,2,none⟩ (.int .i64 ((a_ l0 c).f2))).setCell ⟨j,3,none⟩ (.string ((a_ l0 c).f3))).heap[j]? = some (.cells #[.string ((a_ l0 c).f0),.int .i64 ((a_ l0 c).f1),.int .i64 ((a_ l0 c).f2),.string ((a_ l0 c).f3)] 69 (0,0))):=⟨TS⟩;have n1_:Aside0 (Below w.heap.size w ((((Z.setCell ⟨j,0,none⟩ (.string ((a_ l0 c).f0))).setCell ⟨j,1,none⟩ (.int .i64 ((a_ l0 c).f1))).setCell ⟨j,2,none⟩ (.int .i64 ((a_ l0 c).f2))).setCell ⟨j,3,none⟩ (.string ((a_ l0 c).f3)))):=⟨TB⟩;(try clear g);(try clear HB);generalize ((((Z.setCell ⟨j,0,none⟩ (.string ((a_ l0 c).f0))).setCell ⟨j,1,none⟩ (.int .i64 ((a_ l0 c).f1))).setCell ⟨j,2,none⟩ (.int .i64 ((a_ l0 c).f2))).setCell ⟨j,3,none⟩ (.string ((a_ l0 c).f3)))=an at n0_ n1_ ⊢;have g:=n0_;have HB:=n1_;clear n0_ n1_;replace g:=AM (ai_ g.out);replace HB:=AM (az_ HB.out);refine start_ (n:=17) (S:=fun w'=>w'.cell? ⟨j,0,none⟩=some (.string ((a_ l0 c).f0))∧w'.cell? ⟨j,1,none⟩=some (.int .i64 ((a_ l0 c).f1))∧w'.cell? ⟨j,2,none⟩=some (.int .i64 ((a_ l0 c).f2))∧w'.cell? ⟨j,3,none⟩=some (.string ((a_ l0 c).f3))) (ds:=[]) #[false,false,false,false,false,false,false,false,false,false,false,false,false,false,false,false,false] KR rfl rfl ⟨bc 0 g,bc 1 g,bc 2 g,bc 3 g⟩ (fun hHeld=>?_);refine bl_ a0_.tab4 a0_.bits4 (fun HT_ HW_=>?_);generalize an.drew=aC at g HB hHeld ⊢;refine tA 0 12 (mL 17 1) HT_ HW_ hHeld rfl rfl (by rintro w' ⟨s0,s1,s2,s3⟩;go_simp;with_reducible rfl) ?_;refine one_ (i:=1) (N:=some 13) (mL 17 3) rfl rfl (bk_ HT_.out KR) (by decide) (fun K hK=>?_);refine goes_ Tryz.func115 KR rfl #[.agg #[.string ((a_ l0 c).f0),.int .i64 ((a_ l0 c).f1),.int .i64 ((a_ l0 c).f2),.string ((a_ l0 c).f3)]] (by rfl) rfl rfl TA ?_
      with_reducible refine(b7_.calls k1 ((a_ l0 c).f0) ((a_ l0 c).f1) ((a_ l0 c).f2) ((a_ l0 c).f3) true _ ?side1 A5.out).mono ?_
      (case side1=>exact GW HGL);rintro e aD ⟨rfl,hb⟩;refine⟨_,rfl,?_⟩;replace g:=KB g hb;replace HB:=BS hb;clear hb;refine hK.out _ _ ⟨bc 0 g,bc 1 g,bc 2 g,bc 3 g⟩ (fun hHeld=>?_);clear hK K;refine nA ?_;refine pA 2 14 (mL 17 7) HT_ rfl rfl ?_;refine pA 3 15 (mL 17 15) HT_ rfl rfl ?_;refine pA 4 16 (mL 17 31) HT_ rfl rfl ?_;refine pA 5 17 (mL 17 63) HT_ rfl rfl ?_;refine pA 6 18 (mL 17 127) HT_ rfl rfl ?_;refine pU 7 19 (mL 17 255) HT_ rfl rfl ?_;refine pU 8 20 (mL 17 511) HT_ rfl rfl ?_;refine pU 9 21 (mL 17 1023) HT_ rfl rfl ?_;refine pU 10 22 (mL 17 2047) HT_ rfl rfl ?_;refine pU 11 23 (mL 17 4095) HT_ rfl rfl ?_;refine pU 12 24 (mL 17 8191) HT_ rfl rfl ?_;refine pU 13 25 (mL 17 16383) HT_ rfl rfl ?_;refine pU 14 26 (mL 17 32767) HT_ rfl rfl ?_;refine pA 15 27 (mL 17 65535) HT_ rfl rfl ?_;refine pA 16 28 (mL 17 131071) HT_ rfl rfl ?_;refine done_ (bJ_ HT_.out KR) ?_
      try go_wp2
      go_roundg k1
      case measure=>have:=HK1.out;omega
      case rel=>exact⟨(wrap64 (c+1)),TF,H',⟨TM⟩,⟨TB⟩⟩
    ·replace c6:=Bool.eq_false_iff.mpr c6;subst c6;replace H:=iff' H;obtain rfl:=Option.some.inj H;have t:0≤(c:Int):=TD;have u:c<(l0.length:Int):=TD;obtain⟨m,A,B,D,E,F⟩:=ah_ (Kd.af_ R.out HB.out) c t u;cases A;replace t:=eq_true t;replace u:=eq_true u
     try go_wp2_with (first|(refine gD 4 rfl ?_;refine bE 4 #[.string (⟨#[]⟩:ByteArray),.int .i64 0,.int .i64 0,.string (⟨#[]⟩:ByteArray)] 69 ?_;intro j hg aa hbox hb;have g:=AM (hbox);have M:=bG hg;replace HB:=BS hb;clear hb hbox hg;have ao:=cz4 g))
     have n0_:Aside0 (((((aa.setCell ⟨j,0,none⟩ (.string ((a_ l0 c).f0))).setCell ⟨j,1,none⟩ (.int .i64 ((a_ l0 c).f1))).setCell ⟨j,2,none⟩ (.int .i64 ((a_ l0 c).f2))).setCell ⟨j,3,none⟩ (.string ((a_ l0 c).f3))).heap[j]? = some (.cells #[.string ((a_ l0 c).f0),.int .i64 ((a_ l0 c).f1),.int .i64 ((a_ l0 c).f2),.string ((a_ l0 c).f3)] 69 (0,0))):=⟨TS⟩;have n1_:Aside0 (Below w.heap.size w ((((aa.setCell ⟨j,0,none⟩ (.string ((a_ l0 c).f0))).setCell ⟨j,1,none⟩ (.int .i64 ((a_ l0 c).f1))).setCell ⟨j,2,none⟩ (.int .i64 ((a_ l0 c).f2))).setCell ⟨j,3,none⟩ (.string ((a_ l0 c).f3)))):=⟨TB⟩;(try clear g);(try clear HB);generalize ((((aa.setCell ⟨j,0,none⟩ (.string ((a_ l0 c).f0))).setCell ⟨j,1,none⟩ (.int .i64 ((a_ l0 c).f1))).setCell ⟨j,2,none⟩ (.int .i64 ((a_ l0 c).f2))).setCell ⟨j,3,none⟩ (.string ((a_ l0 c).f3)))=ap at n0_ n1_ ⊢;have g:=n0_;have HB:=n1_;clear n0_ n1_;replace g:=AM (ai_ g.out);replace HB:=AM (az_ HB.out);refine start_ (n:=17) (S:=fun w'=>w'.cell? ⟨j,0,none⟩=some (.string ((a_ l0 c).f0))∧w'.cell? ⟨j,1,none⟩=some (.int .i64 ((a_ l0 c).f1))∧w'.cell? ⟨j,2,none⟩=some (.int .i64 ((a_ l0 c).f2))∧w'.cell? ⟨j,3,none⟩=some (.string ((a_ l0 c).f3))) (ds:=[]) #[false,false,false,false,false,false,false,false,false,false,false,false,false,false,false,false,false] KR rfl rfl ⟨bc 0 g,bc 1 g,bc 2 g,bc 3 g⟩ (fun hHeld=>?_);refine bl_ a0_.tab4 a0_.bits4 (fun HT_ HW_=>?_);generalize ap.drew=aE at g HB hHeld ⊢;refine tA 0 12 (mL 17 1) HT_ HW_ hHeld rfl rfl (by rintro w' ⟨s0,s1,s2,s3⟩;go_simp;with_reducible rfl) ?_;refine one_ (i:=1) (N:=some 13) (mL 17 3) rfl rfl (bk_ HT_.out KR) (by decide) (fun K hK=>?_);refine goes_ Tryz.func115 KR rfl #[.agg #[.string ((a_ l0 c).f0),.int .i64 ((a_ l0 c).f1),.int .i64 ((a_ l0 c).f2),.string ((a_ l0 c).f3)]] (by rfl) rfl rfl TA ?_
     with_reducible refine(b7_.calls k1 ((a_ l0 c).f0) ((a_ l0 c).f1) ((a_ l0 c).f2) ((a_ l0 c).f3) false _ ?side1 A5.out).mono ?_
     (case side1=>exact GW HGL);rintro e aF ⟨rfl,hb⟩;refine⟨_,rfl,?_⟩;replace g:=KB g hb;replace HB:=BS hb;clear hb;refine hK.out _ _ ⟨bc 0 g,bc 1 g,bc 2 g,bc 3 g⟩ (fun hHeld=>?_);clear hK K;refine nA ?_;refine pA 2 14 (mL 17 7) HT_ rfl rfl ?_;refine pA 3 15 (mL 17 15) HT_ rfl rfl ?_;refine pU 4 16 (mL 17 31) HT_ rfl rfl ?_;refine pU 5 17 (mL 17 63) HT_ rfl rfl ?_;refine pU 6 18 (mL 17 127) HT_ rfl rfl ?_;refine pU 7 19 (mL 17 255) HT_ rfl rfl ?_;refine pU 8 20 (mL 17 511) HT_ rfl rfl ?_;refine pU 9 21 (mL 17 1023) HT_ rfl rfl ?_;refine pU 10 22 (mL 17 2047) HT_ rfl rfl ?_;refine pU 11 23 (mL 17 4095) HT_ rfl rfl ?_;refine pU 12 24 (mL 17 8191) HT_ rfl rfl ?_;refine pU 13 25 (mL 17 16383) HT_ rfl rfl ?_;refine pU 14 26 (mL 17 32767) HT_ rfl rfl ?_;refine pU 15 27 (mL 17 65535) HT_ rfl rfl ?_;refine pA 16 28 (mL 17 131071) HT_ rfl rfl ?_;refine done_ (bJ_ HT_.out KR) ?_
     try go_wp2
     go_ret;exact⟨TE,TB⟩
   ·rw[if_neg c2] at H;have ad:=decide_eq_false c2;clear c2;obtain rfl:=Option.some.inj H;go_wp2;go_ret;exact⟨TE,TB⟩
end
section
def impl_isWhole.f (k:Nat) (a0:ByteArray) (l1:List (ab_)):Option (Bool):=(impl_isApex.f k a0).bind fun t551=>(if t551=true then(if (l1.length:Int)≤40 then((a0_.f k l1).bind fun t552=>(some t552)) else(some false)) else(some false))
theorem impl_isWhole.calls (k:Nat) (a0:ByteArray) (A1:Option Addr) (c1:Nat) (l1:List (ab_)) (r:Bool) (w:World) (c:Kd.C ae_ w A1 l1.length l1) (g:l1.length≤c1) (hG_:Glob w) (h:impl_isWhole.f k a0 l1=some r) :
  Calls Tryz.prog 99 #[.string a0,.slice A1 l1.length c1] w fun e w'=>e=.returned (.bool r)∧Below w.heap.size w w':=by
 have n:=AM c;have o:=AM g;clear c g;have HGL:=AM hG_;clear hG_;have HB:=AM (Below.refl w.heap.size w);have H:=h;clear h;unfold impl_isWhole.f at H;obtain⟨i,A3,H⟩:=bnd H;by_cases c4:i=true
 ·subst c4;replace H:=ift H;by_cases c5:(l1.length:Int)≤40
  ·rw[if_pos c5] at H;have j:=decide_eq_true c5;have l:decide (l1.length≤40)=true:=decide_eq_true (by omega);clear c5;obtain⟨m,A6,H⟩:=bnd H;obtain rfl:=Option.some.inj H;go_enter Tryz.func99,Tryz.ntmps99;go_wp2_with (first|(refine gL 6 rfl Tryz.func126 #[.string a0] rfl TA ?_;(with_reducible refine(impl_isApex.calls k a0 true _ A3.out).mono ?_);rintro e w7 ⟨rfl,hb⟩;refine⟨_,rfl,?_⟩;replace HB:=BS hb;clear hb)|(go_at_call 103;(with_reducible refine(a0_.calls k _ _ l1 m _ ?side1 ?side2 ?side3 A6.out).mono ?_);(case side1=>exact CW ((Kd.af_ n.out HB.out)));(case side2=>exact o.out);(case side3=>exact GW HGL);rintro e w8 ⟨rfl,hb⟩;replace HB:=BS hb;clear hb));go_ret;exact⟨TE,TB⟩
  ·rw[if_neg c5] at H;have j:=decide_eq_false c5;have l:decide (l1.length≤40)=false:=decide_eq_false (by omega);clear c5;obtain rfl:=Option.some.inj H;go_enter Tryz.func99,Tryz.ntmps99;go_wp2_with (first|(refine gL 6 rfl Tryz.func126 #[.string a0] rfl TA ?_;(with_reducible refine(impl_isApex.calls k a0 true _ A3.out).mono ?_);rintro e w9 ⟨rfl,hb⟩;refine⟨_,rfl,?_⟩;replace HB:=BS hb;clear hb));go_ret;exact⟨TE,TB⟩
 ·replace c4:=Bool.eq_false_iff.mpr c4;subst c4;replace H:=iff' H;obtain rfl:=Option.some.inj H;go_enter Tryz.func99,Tryz.ntmps99;go_wp2_with (first|(refine gL 6 rfl Tryz.func126 #[.string a0] rfl TA ?_;(with_reducible refine(impl_isApex.calls k a0 false _ A3.out).mono ?_);rintro e p ⟨rfl,hb⟩;refine⟨_,rfl,?_⟩;replace HB:=BS hb;clear hb));go_ret;exact⟨TE,TB⟩
end
section
def ct_.f (a0:ByteArray) (a1:ByteArray):Option (Bool):=if (a0.size:Int)≥(a1.size:Int) then(if 0≤(wrap64 ((a0.size:Int) - (a1.size:Int))) then(if (wrap64 ((a0.size:Int) - (a1.size:Int)))≤(a0.size:Int) then(some ((a0.extract ((wrap64 ((a0.size:Int) - (a1.size:Int))):Int).toNat a0.size).toList==a1.toList)) else(none)) else(none)) else(some false)
theorem ct_.calls (a0:ByteArray) (a1:ByteArray) (r:Bool) (w:World) (h:ct_.f a0 a1=some r) :
  Calls Tryz.prog 171 #[.string a0,.string a1] w fun e w'=>e=.returned (.bool r)∧Drawn0 w w':=by
 have H:=h;clear h;unfold ct_.f at H;by_cases c3:(a0.size:Int)≥(a1.size:Int)
 ·rw[if_pos c3] at H;have g:=decide_eq_true c3;have i:decide (a1.size≤a0.size)=true:=decide_eq_true (Int.ofNat_le.mp c3);clear c3;obtain⟨c,hji4⟩:∃j_:Int,(wrap64 ((a0.size:Int) - (a1.size:Int)))=j_:=⟨_,rfl⟩
  replace H:(if 0≤(c) then(if (c)≤(a0.size:Int) then(some ((a0.extract ((c):Int).toNat a0.size).toList==a1.toList)) else(none)) else(none))=some r:=by first|(rw[hji4] at H;exact H)|(simp only[hji4] at H ⊢;exact H)
  have hji4w:(IntKind.i64.wrap ((a0.size:Int) - (a1.size:Int)))=c:=(cd_ _).trans hji4;obtain⟨c5,H⟩:=ifn H;have j:=eq_true c5;have l:=decide_eq_true c5;clear c5;obtain⟨c6,H⟩:=ifn H;have m:=eq_true c6;have n:=decide_eq_true c6;clear c6;obtain rfl:=Option.some.inj H;go_enter Tryz.func171,Tryz.ntmps171;go_wp2;go_ret;exact⟨by first|rfl|(simp;done)|(simp only[←hji4]<;>(first|rfl|simp))|(simp[*];done),TN⟩
 ·rw[if_neg c3] at H;have g:=decide_eq_false c3;have i:decide (a1.size≤a0.size)=false:=decide_eq_false (fun h=>c3 (Int.ofNat_le.mpr h));clear c3;obtain rfl:=Option.some.inj H;go_enter Tryz.func171,Tryz.ntmps171;go_wp2;go_ret;exact⟨TF,TN⟩
end
section
def strings_HasSuffix.f (a0:ByteArray) (a1:ByteArray):Option (Bool):=(ct_.f a0 a1).bind fun t553=>(some t553)
theorem strings_HasSuffix.calls (a0:ByteArray) (a1:ByteArray) (r:Bool) (w:World) (h:strings_HasSuffix.f a0 a1=some r) :
  Calls Tryz.prog 149 #[.string a0,.string a1] w fun e w'=>e=.returned (.bool r)∧Drawn0 w w':=by
 have H:((ct_.f a0 a1).bind fun c=>(some c))=some r:=h;clear h;obtain⟨c,A3,H⟩:=bnd H;obtain rfl:=Option.some.inj H;go_enter Tryz.func149,Tryz.ntmps149;go_wp2_with (first|(refine gL 7 rfl Tryz.func171 #[.string a0,.string a1] rfl TA ?_;(with_reducible refine(ct_.calls a0 a1 c _ A3.out).mono ?_);rintro e w' ⟨rfl,⟨nd,rfl⟩⟩;refine⟨_,rfl,?_⟩));go_ret;exact⟨TF,TN⟩
end
section
def cv_.f (a0:ByteArray) (a1:ByteArray):Option (Bool):=if a0.toList=a1.toList then(some true) else(if a1.toList=([]:List UInt8) then(some true) else(if 1+a1.size≤9223372036854775807 then((strings_HasSuffix.f a0 ((⟨#[46]⟩:ByteArray)++a1)).bind fun t554=>(some t554)) else(none)))
theorem cv_.calls (a0:ByteArray) (a1:ByteArray) (r:Bool) (w:World) (h:cv_.f a0 a1=some r) :
  Calls Tryz.prog 127 #[.string a0,.string a1] w fun e w'=>e=.returned (.bool r)∧Drawn0 w w':=by
 have H:=h;clear h;unfold cv_.f at H;by_cases c3:a0.toList=a1.toList
 ·rw[if_pos c3] at H;have c:=beq_iff_eq.mpr c3;have g:=bne_eq_false_iff_eq.mpr c3;clear c3;obtain rfl:=Option.some.inj H;go_enter Tryz.func127,Tryz.ntmps127;go_wp2;go_ret;exact⟨TF,TN⟩
 ·rw[if_neg c3] at H;have c:=beq_eq_false_iff_ne.mpr c3;have g:=bne_iff_ne.mpr c3;by_cases c4:a1.toList=([]:List UInt8)
  ·rw[if_pos c4] at H;have i:=beq_iff_eq.mpr c4;have j:=bne_eq_false_iff_eq.mpr c4;clear c4;obtain rfl:=Option.some.inj H;go_enter Tryz.func127,Tryz.ntmps127;go_wp2;go_ret;exact⟨TF,TN⟩
  ·rw[if_neg c4] at H;have i:=beq_eq_false_iff_ne.mpr c4;have j:=bne_iff_ne.mpr c4;obtain⟨c5,H⟩:=ifn H;have m:=eq_true c5;have n:=decide_eq_true c5
   try have o:(9223372036854775807<1+a1.size)=False:=eq_false (Nat.not_lt.2 c5)
   obtain⟨l,A6,H⟩:=bnd H;obtain rfl:=Option.some.inj H;go_enter Tryz.func127,Tryz.ntmps127;go_wp2_with (first|(go_at_call 149;(with_reducible refine(strings_HasSuffix.calls a0 ((⟨#[46]⟩:ByteArray)++a1) l _ A6.out).mono ?_);rintro e w' ⟨rfl,⟨nd,rfl⟩⟩));go_ret;exact⟨TF,TN⟩
end
section
attribute [local go_sem high] eqARecord
def impl_breaks_1.f (a0_0:ByteArray) (a0_1:Int) (a0_2:Int) (a0_3:ByteArray) (a1_0:ByteArray) (a1_1:Int) (a1_2:Int) (a1_3:ByteArray):Option (Bool):=if a0_2=a1_2 then(if a0_3.toList=a1_3.toList then(some (!(a0_0.toList==a1_0.toList)||(!(a0_1==a1_1)||(!(a0_2==a1_2)||(!(a0_3.toList==a1_3.toList)))))) else(some false)) else(some true)
theorem impl_breaks_1.calls (l:ByteArray) (m:Int) (g:Int) (i:ByteArray) (g1_:Nat) (q:ByteArray) (s:Int) (n:Int) (o:ByteArray) (r:Bool) (w:World) (hkg1_:w.heap[g1_]? = some (.cells #[.string q,.int .i64 s,.int .i64 n,.string o] 69 (0,0))) (h:impl_breaks_1.f l m g i q s n o=some r) :
  Calls Tryz.prog 128 #[.agg #[.string l,.int .i64 m,.int .i64 g,.string i],.pointer (some ⟨g1_,0,none⟩)] w fun e w'=>e=.returned (.bool r)∧Below w.heap.size w w':=by
 have hu69:=Tryz.underlying69;have BKrg1_:=AM hkg1_;clear hkg1_;have HB:=AM (Below.refl w.heap.size w);have H:(if g=n then(if i.toList=o.toList then(some (!(l.toList==q.toList)||(!(m==s)||(!(g==n)||(!(i.toList==o.toList)))))) else(some false)) else(some true))=some r:=h;clear h;by_cases c3:g=n
 ·rw[if_pos c3] at H;have v:=beq_iff_eq.mpr c3;have x:=bne_eq_false_iff_eq.mpr c3;clear c3;by_cases c4:i.toList=o.toList
  ·rw[if_pos c4] at H;have y:=beq_iff_eq.mpr c4;have z:=bne_eq_false_iff_eq.mpr c4;clear c4;obtain rfl:=Option.some.inj H;go_enter Tryz.func128,Tryz.ntmps128;go_wp2_with (first|((with_reducible refine ag_ (N:=2) rfl ?_);refine bE 2 #[.string l,.int .i64 m,.int .i64 g,.string i] 69 ?_;intro t hg w5 hbox hb;have j:=AM (hbox);have u:=bG hg;replace HB:=BS hb;have p:=bN BKrg1_ hg;have c:=bM BKrg1_ hg;replace BKrg1_:=KB BKrg1_ hb;clear hb hbox hg;obtain⟨J,K⟩:=nn c;have M:=cz4 j;have O:=cz4 BKrg1_));go_ret;exact⟨TE,TB⟩
  ·rw[if_neg c4] at H;have y:=beq_eq_false_iff_ne.mpr c4;have z:=bne_iff_ne.mpr c4;obtain rfl:=Option.some.inj H;go_enter Tryz.func128,Tryz.ntmps128;go_wp2_with (first|((with_reducible refine ag_ (N:=2) rfl ?_);refine bE 2 #[.string l,.int .i64 m,.int .i64 g,.string i] 69 ?_;intro t hg w9 hbox hb;have j:=AM (hbox);have u:=bG hg;replace HB:=BS hb;have p:=bN BKrg1_ hg;have c:=bM BKrg1_ hg;replace BKrg1_:=KB BKrg1_ hb;clear hb hbox hg;obtain⟨A,B⟩:=nn c;have C:=cz4 j;have D:=cz4 BKrg1_));go_ret;exact⟨TE,TB⟩
 ·rw[if_neg c3] at H;have v:=beq_eq_false_iff_ne.mpr c3;have x:=bne_iff_ne.mpr c3;obtain rfl:=Option.some.inj H;go_enter Tryz.func128,Tryz.ntmps128;go_wp2_with (first|((with_reducible refine ag_ (N:=2) rfl ?_);refine bE 2 #[.string l,.int .i64 m,.int .i64 g,.string i] 69 ?_;intro t hg R hbox hb;have j:=AM (hbox);have u:=bG hg;replace HB:=BS hb;have p:=bN BKrg1_ hg;have c:=bM BKrg1_ hg;replace BKrg1_:=KB BKrg1_ hb;clear hb hbox hg;obtain⟨E,F⟩:=nn c;have G:=cz4 j;have I:=cz4 BKrg1_));go_ret;exact⟨TE,TB⟩
end
section
def av_.l0:Nat→List (ab_)→Int→Int→ByteArray→Int→Int→ByteArray→Option (Int)
 | 0,_,_,_,_,_,_,_=>none
 | k+1,x0,x7,x8,c,g,h,i=>if x8<x7 then(if 0≤x8 then(if x8<(x0.length:Int) then((impl_breaks_1.f ((a_ x0 x8).f0) ((a_ x0 x8).f1) ((a_ x0 x8).f2) ((a_ x0 x8).f3) c g h i).bind fun j=>(if j=true then(some x8) else(av_.l0 k x0 x7 (wrap64 (x8+1)) c g h i))) else(none)) else(none)) else(some (-1))
def av_.f (k:Nat) (l0:List (ab_)) (a1_0:ByteArray) (a1_1:Int) (a1_2:Int) (a1_3:ByteArray):Option (Int):=av_.l0 k l0 (l0.length:Int) 0 a1_0 a1_1 a1_2 a1_3
theorem av_.calls (k:Nat) (A0:Option Addr) (c0:Nat) (l0:List (ab_)) (g1_0_:Nat) (j:ByteArray) (l:Int) (m:Int) (n:ByteArray) (r:Int) (w:World) (v:Kd.C ae_ w A0 l0.length l0) (x:l0.length≤c0) (hkg1_0_:w.heap[g1_0_]? = some (.cells #[.string j,.int .i64 l,.int .i64 m,.string n] 69 (0,0))) (h:av_.f k l0 j l m n=some r) :
  Calls Tryz.prog 104 #[.slice A0 l0.length c0,.func (.func 128) #[] #[.pointer (some ⟨g1_0_,0,none⟩)]] w fun e w'=>e=.returned (.int .i64 r)∧Below w.heap.size w w':=by
 have hu69:=Tryz.underlying69;have y:=AM v;have E:=AM x;clear v x;have BKrg1_0_:=AM hkg1_0_;clear hkg1_0_;have HB:=AM (Below.refl w.heap.size w);have H:=h;clear h;unfold av_.f at H;have H':=AM H;clear H;go_enter Tryz.func104,Tryz.ntmps104;go_wp2;go_loopg [8] k (fun kq v8 w'=>∃(c:Int),v8=.int .i64 c∧Aside0 (av_.l0 kq l0 (l0.length:Int) c j l m n=some r)∧Aside0 (kq≤k)∧Aside0 (w'.heap[g1_0_]? = some (.cells #[.string j,.int .i64 l,.int .i64 m,.string n] 69 (0,0)))∧Aside0 (Below w.heap.size w w'))
 case atStart=>exact⟨(0),TF,H',⟨Nat.le_refl _⟩,KW BKrg1_0_,⟨TB⟩⟩
 case round =>
  clear H';obtain⟨c,rfl,HA,HK1,BKrg1_0_,HB⟩:=hrel
  cases gk with
  | zero=>exact absurd HA.out (by simp[av_.l0])
  | succ k1 =>
   have H:=HA.out;clear HA;simp only[av_.l0] at H;by_cases c3:c<(l0.length:Int)
   ·rw[if_pos c3] at H;have z:=decide_eq_true c3;clear c3;obtain⟨c4,H⟩:=ifn H;have B:=decide_eq_true c4;clear c4;obtain⟨c5,H⟩:=ifn H;have D:=decide_eq_true c5;clear c5;obtain⟨A,A6,H⟩:=bnd H;by_cases c7:A=true
    ·subst c7;replace H:=ift H;obtain rfl:=Option.some.inj H;have g:0≤(c:Int):=TD;have i:c<(l0.length:Int):=TD;obtain⟨u,o,p,q,s,t⟩:=ah_ (Kd.af_ y.out HB.out) c g i;cases o;replace g:=eq_true g;replace i:=eq_true i;go_wp2_with (first|(go_at_call 128;(with_reducible refine(impl_breaks_1.calls ((a_ l0 c).f0) ((a_ l0 c).f1) ((a_ l0 c).f2) ((a_ l0 c).f3) g1_0_ j l m n true _ ?side1 A6.out).mono ?_);(case side1=>exact(KW BKrg1_0_).out);rintro e w8 ⟨rfl,hb⟩;replace BKrg1_0_:=KB BKrg1_0_ hb;replace HB:=BS hb;clear hb));go_ret;exact⟨TE,TB⟩
    ·replace c7:=Bool.eq_false_iff.mpr c7;subst c7;replace H:=iff' H;have H':=AM H;clear H;have g:0≤(c:Int):=TD;have i:c<(l0.length:Int):=TD;obtain⟨u,o,p,q,s,t⟩:=ah_ (Kd.af_ y.out HB.out) c g i;cases o;replace g:=eq_true g;replace i:=eq_true i;go_wp2_with (first|(go_at_call 128;(with_reducible refine(impl_breaks_1.calls ((a_ l0 c).f0) ((a_ l0 c).f1) ((a_ l0 c).f2) ((a_ l0 c).f3) g1_0_ j l m n false _ ?side1 A6.out).mono ?_);(case side1=>exact(KW BKrg1_0_).out);rintro e w9 ⟨rfl,hb⟩;replace BKrg1_0_:=KB BKrg1_0_ hb;replace HB:=BS hb;clear hb));go_roundg k1
     case measure=>have:=HK1.out;omega
     case rel=>exact⟨(wrap64 (c+1)),TF,H',⟨TM⟩,KW BKrg1_0_,⟨TB⟩⟩
   ·rw[if_neg c3] at H;have z:=decide_eq_false c3;clear c3;obtain rfl:=Option.some.inj H;go_wp2;go_ret;exact⟨TE,TB⟩
end
section
def aS_.f (k:Nat) (l0:List (ab_)) (a1_0:ByteArray) (a1_1:Int) (a1_2:Int) (a1_3:ByteArray):Option (Bool):=(av_.f k l0 a1_0 a1_1 a1_2 a1_3).bind fun t569=>(some (decide (t569≥0)))
theorem aS_.calls (k:Nat) (A0:Option Addr) (c0:Nat) (l0:List (ab_)) (g1_0_:Nat) (c:ByteArray) (g:Int) (i:Int) (j:ByteArray) (r:Bool) (w:World) (l:Kd.C ae_ w A0 l0.length l0) (m:l0.length≤c0) (hkg1_0_:w.heap[g1_0_]? = some (.cells #[.string c,.int .i64 g,.int .i64 i,.string j] 69 (0,0))) (h:aS_.f k l0 c g i j=some r) :
  Calls Tryz.prog 74 #[.slice A0 l0.length c0,.func (.func 128) #[] #[.pointer (some ⟨g1_0_,0,none⟩)]] w fun e w'=>e=.returned (.bool r)∧Below w.heap.size w w':=by
 have o:=AM l;have p:=AM m;clear l m;have BKrg1_0_:=AM hkg1_0_;clear hkg1_0_;have HB:=AM (Below.refl w.heap.size w);have H:=h;clear h;unfold aS_.f at H;obtain⟨n,A3,H⟩:=bnd H;obtain rfl:=Option.some.inj H;go_enter Tryz.func74,Tryz.ntmps74;go_wp2_with (first|(refine gL 7 rfl Tryz.func104 #[.slice A0 l0.length c0,.func (.func 128) #[] #[.pointer (some ⟨g1_0_,0,none⟩)]] rfl TA ?_;(with_reducible refine(av_.calls k _ _ l0 g1_0_ c g i j n _ ?side1 ?side2 ?side3 A3.out).mono ?_);(case side1=>exact CW (o.out));(case side2=>exact p.out);(case side3=>exact(KW BKrg1_0_).out);rintro e w4 ⟨rfl,hb⟩;refine⟨_,rfl,?_⟩;replace BKrg1_0_:=KB BKrg1_0_ hb;replace HB:=BS hb;clear hb));go_ret;exact⟨TE,TB⟩
end
section
def impl_breaks_2.f (c:ByteArray) (i:Int) (m:Int) (n:ByteArray) (j:ByteArray) (g:ByteArray) (h:Int) (o:Int) (p:ByteArray):Option (Bool):=if i=2 then(if c.toList=j.toList then(some false) else((cv_.f g c).bind fun l=>(if l=true then(if h=1 then(some false) else(if h=2 then(some (!(g.toList==c.toList))) else(some (!false)))) else(some false)))) else(some false)
theorem impl_breaks_2.calls (i:ByteArray) (n:Int) (o:Int) (p:ByteArray) (g1_:Nat) (y:ByteArray) (g2_:Nat) (q:ByteArray) (u:Int) (C:Int) (D:ByteArray) (r:Bool) (w:World) (hkg1_:w.heap[g1_]? = some (.cells #[.string y] 9 (0,0))) (hkg2_:w.heap[g2_]? = some (.cells #[.string q,.int .i64 u,.int .i64 C,.string D] 69 (0,0))) (h:impl_breaks_2.f i n o p y q u C D=some r) :
  Calls Tryz.prog 129 #[.agg #[.string i,.int .i64 n,.int .i64 o,.string p],.pointer (some ⟨g1_,0,none⟩),.pointer (some ⟨g2_,0,none⟩)] w fun e w'=>e=.returned (.bool r)∧Below w.heap.size w w':=by
 have hu69:=Tryz.underlying69;have BKrg1_:=AM hkg1_;clear hkg1_;have BKrg2_:=AM hkg2_;clear hkg2_;have HB:=AM (Below.refl w.heap.size w);have H:(if n=2 then(if i.toList=y.toList then(some false) else((cv_.f q i).bind fun z=>(if z=true then(if u=1 then(some false) else(if u=2 then(some (!(q.toList==i.toList))) else(some (!false)))) else(some false)))) else(some false))=some r:=h;clear h;by_cases c4:n=2
 ·rw[if_pos c4] at H;have J:=beq_iff_eq.mpr c4;have K:=bne_eq_false_iff_eq.mpr c4;clear c4;by_cases c5:i.toList=y.toList
  ·rw[if_pos c5] at H;have M:=beq_iff_eq.mpr c5;have O:=bne_eq_false_iff_eq.mpr c5;clear c5;obtain rfl:=Option.some.inj H;go_enter Tryz.func129,Tryz.ntmps129;go_wp2_with (first|((with_reducible refine ag_ (N:=3) rfl ?_);refine bE 3 #[.string i,.int .i64 n,.int .i64 o,.string p] 69 ?_;intro s hg w6 hbox hb;have j:=AM (hbox);have t:=bG hg;replace HB:=BS hb;have l:=bN BKrg1_ hg;have c:=bM BKrg1_ hg;replace BKrg1_:=KB BKrg1_ hb;have m:=bN BKrg2_ hg;have g:=bM BKrg2_ hg;replace BKrg2_:=KB BKrg2_ hb;clear hb hbox hg;obtain⟨aD,aE⟩:=nn c;obtain⟨aF,aG⟩:=nn g;have aH:=cz4 j;have R:=cz1 BKrg1_));go_ret;exact⟨TE,TB⟩
  ·rw[if_neg c5] at H;have M:=beq_eq_false_iff_ne.mpr c5;have O:=bne_iff_ne.mpr c5;obtain⟨z,A,H⟩:=bnd H;by_cases B:z=true
   ·subst B;replace H:=ift H;by_cases v:u=1
    ·rw[if_pos v] at H;have E:=beq_iff_eq.mpr v;have F:=bne_eq_false_iff_eq.mpr v;clear v;obtain rfl:=Option.some.inj H;go_enter Tryz.func129,Tryz.ntmps129;go_wp2_with (first|((with_reducible refine ag_ (N:=3) rfl ?_);refine bE 3 #[.string i,.int .i64 n,.int .i64 o,.string p] 69 ?_;intro s hg aI hbox hb;have j:=AM (hbox);have t:=bG hg;replace HB:=BS hb;have l:=bN BKrg1_ hg;have c:=bM BKrg1_ hg;replace BKrg1_:=KB BKrg1_ hb;have m:=bN BKrg2_ hg;have g:=bM BKrg2_ hg;replace BKrg2_:=KB BKrg2_ hb;clear hb hbox hg;obtain⟨U,V⟩:=nn c;obtain⟨W,X⟩:=nn g;have Y:=cz4 j;have Z:=cz1 BKrg1_;have aa:=cz4 BKrg2_)|(go_at_call 127;(with_reducible refine(cv_.calls q i true _ A.out).mono ?_);rintro e w' ⟨rfl,⟨nd,rfl⟩⟩));go_ret;exact⟨TE,TB⟩
    ·rw[if_neg v] at H;have E:=beq_eq_false_iff_ne.mpr v;have F:=bne_iff_ne.mpr v;by_cases x:u=2
     ·rw[if_pos x] at H;have G:=beq_iff_eq.mpr x;have I:=bne_eq_false_iff_eq.mpr x;clear x;obtain rfl:=Option.some.inj H;go_enter Tryz.func129,Tryz.ntmps129;go_wp2_with (first|((with_reducible refine ag_ (N:=3) rfl ?_);refine bE 3 #[.string i,.int .i64 n,.int .i64 o,.string p] 69 ?_;intro s hg aJ hbox hb;have j:=AM (hbox);have t:=bG hg;replace HB:=BS hb;have l:=bN BKrg1_ hg;have c:=bM BKrg1_ hg;replace BKrg1_:=KB BKrg1_ hb;have m:=bN BKrg2_ hg;have g:=bM BKrg2_ hg;replace BKrg2_:=KB BKrg2_ hb;clear hb hbox hg;obtain⟨ab,ac⟩:=nn c;obtain⟨ad,ae⟩:=nn g;have af:=cz4 j;have ag:=cz1 BKrg1_;have ah:=cz4 BKrg2_)|(go_at_call 127;(with_reducible refine(cv_.calls q i true _ A.out).mono ?_);rintro e w' ⟨rfl,⟨nd,rfl⟩⟩));go_ret;exact⟨TE,TB⟩
     ·rw[if_neg x] at H;have G:=beq_eq_false_iff_ne.mpr x;have I:=bne_iff_ne.mpr x;obtain rfl:=Option.some.inj H;go_enter Tryz.func129,Tryz.ntmps129;go_wp2_with (first|((with_reducible refine ag_ (N:=3) rfl ?_);refine bE 3 #[.string i,.int .i64 n,.int .i64 o,.string p] 69 ?_;intro s hg aK hbox hb;have j:=AM (hbox);have t:=bG hg;replace HB:=BS hb;have l:=bN BKrg1_ hg;have c:=bM BKrg1_ hg;replace BKrg1_:=KB BKrg1_ hb;have m:=bN BKrg2_ hg;have g:=bM BKrg2_ hg;replace BKrg2_:=KB BKrg2_ hb;clear hb hbox hg;obtain⟨ai,aj⟩:=nn c;obtain⟨ak,al⟩:=nn g;have am:=cz4 j;have an:=cz1 BKrg1_;have ao:=cz4 BKrg2_)|(go_at_call 127;(with_reducible refine(cv_.calls q i true _ A.out).mono ?_);rintro e w' ⟨rfl,⟨nd,rfl⟩⟩));go_ret;exact⟨TE,TB⟩
   ·replace B:=Bool.eq_false_iff.mpr B;subst B;replace H:=iff' H;obtain rfl:=Option.some.inj H;go_enter Tryz.func129,Tryz.ntmps129;go_wp2_with (first|((with_reducible refine ag_ (N:=3) rfl ?_);refine bE 3 #[.string i,.int .i64 n,.int .i64 o,.string p] 69 ?_;intro s hg aL hbox hb;have j:=AM (hbox);have t:=bG hg;replace HB:=BS hb;have l:=bN BKrg1_ hg;have c:=bM BKrg1_ hg;replace BKrg1_:=KB BKrg1_ hb;have m:=bN BKrg2_ hg;have g:=bM BKrg2_ hg;replace BKrg2_:=KB BKrg2_ hb;clear hb hbox hg;obtain⟨ap,aq⟩:=nn c;obtain⟨ar,au⟩:=nn g;have av:=cz4 j;have aw:=cz1 BKrg1_;have ax:=cz4 BKrg2_)|(go_at_call 127;(with_reducible refine(cv_.calls q i false _ A.out).mono ?_);rintro e w' ⟨rfl,⟨nd,rfl⟩⟩));go_ret;exact⟨TE,TB⟩
 ·rw[if_neg c4] at H;have J:=beq_eq_false_iff_ne.mpr c4;have K:=bne_iff_ne.mpr c4;obtain rfl:=Option.some.inj H;go_enter Tryz.func129,Tryz.ntmps129;go_wp2_with (first|((with_reducible refine ag_ (N:=3) rfl ?_);refine bE 3 #[.string i,.int .i64 n,.int .i64 o,.string p] 69 ?_;intro s hg aM hbox hb;have j:=AM (hbox);have t:=bG hg;replace HB:=BS hb;have l:=bN BKrg1_ hg;have c:=bM BKrg1_ hg;replace BKrg1_:=KB BKrg1_ hb;have m:=bN BKrg2_ hg;have g:=bM BKrg2_ hg;replace BKrg2_:=KB BKrg2_ hb;clear hb hbox hg;obtain⟨ay,az⟩:=nn c;obtain⟨aA,aB⟩:=nn g;have aC:=cz4 j));go_ret;exact⟨TE,TB⟩
end
section
def au_.l0:Nat→List (ab_)→Int→Int→ByteArray→ByteArray→Int→Int→ByteArray→Option (Int)
 | 0,_,_,_,_,_,_,_,_=>none
 | k+1,x0,x7,x8,c,g,h,i,j=>if x8<x7 then(if 0≤x8 then(if x8<(x0.length:Int) then((impl_breaks_2.f ((a_ x0 x8).f0) ((a_ x0 x8).f1) ((a_ x0 x8).f2) ((a_ x0 x8).f3) c g h i j).bind fun l=>(if l=true then(some x8) else(au_.l0 k x0 x7 (wrap64 (x8+1)) c g h i j))) else(none)) else(none)) else(some (-1))
def au_.f (k:Nat) (l0:List (ab_)) (a1_0:ByteArray) (a1_1:ByteArray) (a1_2:Int) (a1_3:Int) (a1_4:ByteArray):Option (Int):=au_.l0 k l0 (l0.length:Int) 0 a1_0 a1_1 a1_2 a1_3 a1_4
theorem au_.calls (k:Nat) (A0:Option Addr) (c0:Nat) (l0:List (ab_)) (g1_0_ g1_1_:Nat) (j:ByteArray) (l:ByteArray) (m:Int) (n:Int) (o:ByteArray) (r:Int) (w:World) (x:Kd.C ae_ w A0 l0.length l0) (y:l0.length≤c0) (hkg1_0_:w.heap[g1_0_]? = some (.cells #[.string j] 9 (0,0))) (hkg1_1_:w.heap[g1_1_]? = some (.cells #[.string l,.int .i64 m,.int .i64 n,.string o] 69 (0,0))) (h:au_.f k l0 j l m n o=some r) :
  Calls Tryz.prog 104 #[.slice A0 l0.length c0,.func (.func 129) #[] #[.pointer (some ⟨g1_0_,0,none⟩),.pointer (some ⟨g1_1_,0,none⟩)]] w fun e w'=>e=.returned (.int .i64 r)∧Below w.heap.size w w':=by
 have hu69:=Tryz.underlying69;have z:=AM x;have F:=AM y;clear x y;have BKrg1_0_:=AM hkg1_0_;clear hkg1_0_;have BKrg1_1_:=AM hkg1_1_;clear hkg1_1_;have HB:=AM (Below.refl w.heap.size w);have H:=h;clear h;unfold au_.f at H;have H':=AM H;clear H;go_enter Tryz.func104,Tryz.ntmps104;go_wp2;go_loopg [8] k (fun kq v8 w'=>∃(c:Int),v8=.int .i64 c∧Aside0 (au_.l0 kq l0 (l0.length:Int) c j l m n o=some r)∧Aside0 (kq≤k)∧Aside0 (w'.heap[g1_0_]? = some (.cells #[.string j] 9 (0,0)))∧Aside0 (w'.heap[g1_1_]? = some (.cells #[.string l,.int .i64 m,.int .i64 n,.string o] 69 (0,0)))∧Aside0 (Below w.heap.size w w'))
 case atStart=>exact⟨(0),TF,H',⟨Nat.le_refl _⟩,KW BKrg1_0_,KW BKrg1_1_,⟨TB⟩⟩
 case round =>
  clear H';obtain⟨c,rfl,HA,HK1,BKrg1_0_,BKrg1_1_,HB⟩:=hrel
  cases gk with
  | zero=>exact absurd HA.out (by simp[au_.l0])
  | succ k1 =>
   have H:=HA.out;clear HA;simp only[au_.l0] at H;by_cases c3:c<(l0.length:Int)
   ·rw[if_pos c3] at H;have A:=decide_eq_true c3;clear c3;obtain⟨c4,H⟩:=ifn H;have D:=decide_eq_true c4;clear c4;obtain⟨c5,H⟩:=ifn H;have E:=decide_eq_true c5;clear c5;obtain⟨B,A6,H⟩:=bnd H;by_cases c7:B=true
    ·subst c7;replace H:=ift H;obtain rfl:=Option.some.inj H;have g:0≤(c:Int):=TD;have i:c<(l0.length:Int):=TD;obtain⟨v,p,q,s,t,u⟩:=ah_ (Kd.af_ z.out HB.out) c g i;cases p;replace g:=eq_true g;replace i:=eq_true i;go_wp2_with (first|(go_at_call 129;(with_reducible refine(impl_breaks_2.calls ((a_ l0 c).f0) ((a_ l0 c).f1) ((a_ l0 c).f2) ((a_ l0 c).f3) g1_0_ j g1_1_ l m n o true _ ?side1 ?side2 A6.out).mono ?_);(case side1=>exact(KW BKrg1_0_).out);(case side2=>exact(KW BKrg1_1_).out);rintro e w8 ⟨rfl,hb⟩;replace BKrg1_0_:=KB BKrg1_0_ hb;replace BKrg1_1_:=KB BKrg1_1_ hb;replace HB:=BS hb;clear hb));go_ret;exact⟨TE,TB⟩
    ·replace c7:=Bool.eq_false_iff.mpr c7;subst c7;replace H:=iff' H;have H':=AM H;clear H;have g:0≤(c:Int):=TD;have i:c<(l0.length:Int):=TD;obtain⟨v,p,q,s,t,u⟩:=ah_ (Kd.af_ z.out HB.out) c g i;cases p;replace g:=eq_true g;replace i:=eq_true i;go_wp2_with (first|(go_at_call 129;(with_reducible refine(impl_breaks_2.calls ((a_ l0 c).f0) ((a_ l0 c).f1) ((a_ l0 c).f2) ((a_ l0 c).f3) g1_0_ j g1_1_ l m n o false _ ?side1 ?side2 A6.out).mono ?_);(case side1=>exact(KW BKrg1_0_).out);(case side2=>exact(KW BKrg1_1_).out);rintro e w9 ⟨rfl,hb⟩;replace BKrg1_0_:=KB BKrg1_0_ hb;replace BKrg1_1_:=KB BKrg1_1_ hb;replace HB:=BS hb;clear hb));go_roundg k1
     case measure=>have:=HK1.out;omega
     case rel=>exact⟨(wrap64 (c+1)),TF,H',⟨TM⟩,KW BKrg1_0_,KW BKrg1_1_,⟨TB⟩⟩
   ·rw[if_neg c3] at H;have A:=decide_eq_false c3;clear c3;obtain rfl:=Option.some.inj H;go_wp2;go_ret;exact⟨TE,TB⟩
end
section
def aR_.f (k:Nat) (l0:List (ab_)) (a1_0:ByteArray) (a1_1:ByteArray) (a1_2:Int) (a1_3:Int) (a1_4:ByteArray):Option (Bool):=(au_.f k l0 a1_0 a1_1 a1_2 a1_3 a1_4).bind fun t574=>(some (decide (t574≥0)))
theorem aR_.calls (k:Nat) (A0:Option Addr) (c0:Nat) (l0:List (ab_)) (g1_0_ g1_1_:Nat) (c:ByteArray) (g:ByteArray) (i:Int) (j:Int) (l:ByteArray) (r:Bool) (w:World) (m:Kd.C ae_ w A0 l0.length l0) (n:l0.length≤c0) (hkg1_0_:w.heap[g1_0_]? = some (.cells #[.string c] 9 (0,0))) (hkg1_1_:w.heap[g1_1_]? = some (.cells #[.string g,.int .i64 i,.int .i64 j,.string l] 69 (0,0))) (h:aR_.f k l0 c g i j l=some r) :
  Calls Tryz.prog 74 #[.slice A0 l0.length c0,.func (.func 129) #[] #[.pointer (some ⟨g1_0_,0,none⟩),.pointer (some ⟨g1_1_,0,none⟩)]] w fun e w'=>e=.returned (.bool r)∧Below w.heap.size w w':=by
 have p:=AM m;have q:=AM n;clear m n;have BKrg1_0_:=AM hkg1_0_;clear hkg1_0_;have BKrg1_1_:=AM hkg1_1_;clear hkg1_1_;have HB:=AM (Below.refl w.heap.size w);have H:=h;clear h;unfold aR_.f at H;obtain⟨o,A3,H⟩:=bnd H;obtain rfl:=Option.some.inj H;go_enter Tryz.func74,Tryz.ntmps74;go_wp2_with (first|(refine gL 7 rfl Tryz.func104 #[.slice A0 l0.length c0,.func (.func 129) #[] #[.pointer (some ⟨g1_0_,0,none⟩),.pointer (some ⟨g1_1_,0,none⟩)]] rfl TA ?_;(with_reducible refine(au_.calls k _ _ l0 g1_0_ g1_1_ c g i j l o _ ?side1 ?side2 ?side3 ?side4 A3.out).mono ?_);(case side1=>exact CW (p.out));(case side2=>exact q.out);(case side3=>exact(KW BKrg1_0_).out);(case side4=>exact(KW BKrg1_1_).out);rintro e w4 ⟨rfl,hb⟩;refine⟨_,rfl,?_⟩;replace BKrg1_0_:=KB BKrg1_0_ hb;replace BKrg1_1_:=KB BKrg1_1_ hb;replace HB:=BS hb;clear hb));go_ret;exact⟨TE,TB⟩
end
section
def impl_breaks.f (k:Nat) (a0:ByteArray) (l1:List (ab_)) (c:ByteArray) (g:Int) (h:Int) (i:ByteArray) (a3:Int):Option (Bool):=if a3=1 then((cv_.f c a0).bind fun j=>(some (!j))) else(if a3=2 then(if g=6 then(some (c.toList != a0.toList)) else(some false)) else(if a3=3 then((bU_.f k l1 c g).bind fun l=>((aS_.f k l c g h i).bind fun m=>(some m))) else(if a3=4 then(if g=5 then((bU_.f k l1 c 0).bind fun n=>(some (decide ((n.length:Int) > 1)))) else(some false)) else(if a3=5 then(if g=5 then(some (c.toList==a0.toList)) else(some false)) else((aR_.f k l1 a0 c g h i).bind fun o=>(some o))))))
theorem impl_breaks.calls (k:Nat) (a0:ByteArray) (A1:Option Addr) (c1:Nat) (l1:List (ab_)) (m:ByteArray) (n:Int) (q:Int) (s:ByteArray) (a3:Int) (r:Bool) (w:World) (ag:Kd.C ae_ w A1 l1.length l1) (ah:l1.length≤c1) (h:impl_breaks.f k a0 l1 m n q s a3=some r) :
  Calls Tryz.prog 101 #[.string a0,.slice A1 l1.length c1,.agg #[.string m,.int .i64 n,.int .i64 q,.string s],.int .i64 a3] w fun e w'=>e=.returned (.bool r)∧Below w.heap.size w w':=by
 have hu69:=Tryz.underlying69;have J:=AM ag;have K:=AM ah;clear ag ah;have HB:=AM (Below.refl w.heap.size w);have H:=h;clear h;unfold impl_breaks.f at H;by_cases c5:a3=1
 ·rw[if_pos c5] at H;have ai:=beq_iff_eq.mpr c5;have aj:=bne_eq_false_iff_eq.mpr c5;clear c5;obtain⟨ak,A6,H⟩:=bnd H;obtain rfl:=Option.some.inj H;go_enter Tryz.func101,Tryz.ntmps101;go_wp2_with (first|((with_reducible refine ag_ (N:=4) rfl ?_);(try (refine bv_ (by rfl) ?_;dsimp only));refine bE 4 #[.string a0] 9 ?_;intro t hg w7 hbox hb;have c:=AM (hbox);have u:=bG hg;replace HB:=BS hb;clear hb hbox hg)|((with_reducible refine ag_ (N:=6) rfl ?_);(try (refine bv_ (by rfl) ?_;dsimp only));refine bE 6 #[.string m,.int .i64 n,.int .i64 q,.string s] 69 ?_;intro p hg w8 hbox hb;have j:=AM (hbox);have v:=bG hg;replace HB:=BS hb;have l:=bN c hg;have i:=bM c hg;replace c:=KB c hb;clear hb hbox hg;obtain⟨aV,aW⟩:=nn i;have aq:=cz4 j;have ar:=cz1 c)|(refine gL 15 rfl Tryz.func127 #[.string m,.string a0] rfl TA ?_;(with_reducible refine(cv_.calls m a0 ak _ A6.out).mono ?_);rintro e w' ⟨rfl,⟨nd,rfl⟩⟩;refine⟨_,rfl,?_⟩));go_ret;exact⟨TE,TB⟩
 ·rw[if_neg c5] at H;have ai:=beq_eq_false_iff_ne.mpr c5;have aj:=bne_iff_ne.mpr c5;by_cases y:a3=2
  ·rw[if_pos y] at H;have M:=beq_iff_eq.mpr y;have O:=bne_eq_false_iff_eq.mpr y;clear y;by_cases z:n=6
   ·rw[if_pos z] at H;have R:=beq_iff_eq.mpr z;have U:=bne_eq_false_iff_eq.mpr z;clear z;obtain rfl:=Option.some.inj H;go_enter Tryz.func101,Tryz.ntmps101;go_wp2_with (first|((with_reducible refine ag_ (N:=4) rfl ?_);(try (refine bv_ (by rfl) ?_;dsimp only));refine bE 4 #[.string a0] 9 ?_;intro t hg a2 hbox hb;have c:=AM (hbox);have u:=bG hg;replace HB:=BS hb;clear hb hbox hg)|((with_reducible refine ag_ (N:=6) rfl ?_);(try (refine bv_ (by rfl) ?_;dsimp only));refine bE 6 #[.string m,.int .i64 n,.int .i64 q,.string s] 69 ?_;intro p hg a4 hbox hb;have j:=AM (hbox);have v:=bG hg;replace HB:=BS hb;have l:=bN c hg;have i:=bM c hg;replace c:=KB c hb;clear hb hbox hg;obtain⟨au,av⟩:=nn i;have aw:=cz4 j;have ax:=cz1 c));go_ret;exact⟨TE,TB⟩
   ·rw[if_neg z] at H;have R:=beq_eq_false_iff_ne.mpr z;have U:=bne_iff_ne.mpr z;obtain rfl:=Option.some.inj H;go_enter Tryz.func101,Tryz.ntmps101;go_wp2_with (first|((with_reducible refine ag_ (N:=4) rfl ?_);(try (refine bv_ (by rfl) ?_;dsimp only));refine bE 4 #[.string a0] 9 ?_;intro t hg a5 hbox hb;have c:=AM (hbox);have u:=bG hg;replace HB:=BS hb;clear hb hbox hg)|((with_reducible refine ag_ (N:=6) rfl ?_);(try (refine bv_ (by rfl) ?_;dsimp only));refine bE 6 #[.string m,.int .i64 n,.int .i64 q,.string s] 69 ?_;intro p hg a6 hbox hb;have j:=AM (hbox);have v:=bG hg;replace HB:=BS hb;have l:=bN c hg;have i:=bM c hg;replace c:=KB c hb;clear hb hbox hg;obtain⟨ay,az⟩:=nn i;have aA:=cz4 j));go_ret;exact⟨TE,TB⟩
  ·rw[if_neg y] at H;have M:=beq_eq_false_iff_ne.mpr y;have O:=bne_iff_ne.mpr y;by_cases A:a3=3
   ·rw[if_pos A] at H;have V:=beq_iff_eq.mpr A;have W:=bne_eq_false_iff_eq.mpr A;clear A;obtain⟨G,aB,H⟩:=bnd H;obtain⟨al,aC,H⟩:=bnd H;obtain rfl:=Option.some.inj H;go_enter Tryz.func101,Tryz.ntmps101;go_wp2_with (first|((with_reducible refine ag_ (N:=4) rfl ?_);(try (refine bv_ (by rfl) ?_;dsimp only));refine bE 4 #[.string a0] 9 ?_;intro t hg a7 hbox hb;have c:=AM (hbox);have u:=bG hg;replace HB:=BS hb;clear hb hbox hg)|((with_reducible refine ag_ (N:=6) rfl ?_);(try (refine bv_ (by rfl) ?_;dsimp only));refine bE 6 #[.string m,.int .i64 n,.int .i64 q,.string s] 69 ?_;intro p hg a8 hbox hb;have j:=AM (hbox);have v:=bG hg;replace HB:=BS hb;have l:=bN c hg;have i:=bM c hg;replace c:=KB c hb;clear hb hbox hg;obtain⟨aD,aE⟩:=nn i;have aF:=cz4 j)|(refine gL 35 rfl Tryz.func71 #[.slice A1 l1.length c1,.string m,.int .i64 n] rfl TA ?_;(with_reducible refine(bU_.calls k _ _ l1 m n G _ ?side1 ?side2 aB.out).mono ?_);(case side1=>exact CW ((Kd.af_ J.out HB.out)));(case side2=>exact K.out);rintro e a9 ⟨aX,rfl,I,hb⟩;refine⟨_,rfl,?_⟩;have x:=AM (Kd.R_lower (Kd.R_newB I (g:=p) (o:=.cells #[.string m,.int .i64 n,.int .i64 q,.string s] 69 (0,0)) (KW j).out) (b1_ TB));replace c:=KB c hb;replace j:=KB j hb;replace HB:=BS hb;clear hb;(try clear I);obtain⟨am,an,eo31⟩:=Kd.aF_ x.out;subst eo31)|(refine gL 37 rfl Tryz.func74 #[.slice am G.length an,.func (.func 128) #[] #[.pointer (some ⟨p,0,none⟩)]] rfl TA ?_;(with_reducible refine(aS_.calls k _ _ G p m n q s al _ ?side1 ?side2 ?side3 aC.out).mono ?_);(case side1=>exact CW ((Kd.ak_ x.out).2.2));(case side2=>exact RI x);(case side3=>exact(KW j).out);rintro e ba ⟨rfl,hb⟩;refine⟨_,rfl,?_⟩;replace x:=RB x hb;replace c:=KB c hb;replace j:=KB j hb;replace HB:=BS hb;clear hb));go_ret;exact⟨TE,TB⟩
   ·rw[if_neg A] at H;have V:=beq_eq_false_iff_ne.mpr A;have W:=bne_iff_ne.mpr A;by_cases B:a3=4
    ·rw[if_pos B] at H;have X:=beq_iff_eq.mpr B;have Y:=bne_eq_false_iff_eq.mpr B;clear B;by_cases D:n=5
     ·rw[if_pos D] at H;have Z:=beq_iff_eq.mpr D;have aa:=bne_eq_false_iff_eq.mpr D;clear D;obtain⟨ao,aG,H⟩:=bnd H;obtain rfl:=Option.some.inj H;go_enter Tryz.func101,Tryz.ntmps101;go_wp2_with (first|((with_reducible refine ag_ (N:=4) rfl ?_);(try (refine bv_ (by rfl) ?_;dsimp only));refine bE 4 #[.string a0] 9 ?_;intro t hg bb hbox hb;have c:=AM (hbox);have u:=bG hg;replace HB:=BS hb;clear hb hbox hg)|((with_reducible refine ag_ (N:=6) rfl ?_);(try (refine bv_ (by rfl) ?_;dsimp only));refine bE 6 #[.string m,.int .i64 n,.int .i64 q,.string s] 69 ?_;intro p hg bd hbox hb;have j:=AM (hbox);have v:=bG hg;replace HB:=BS hb;have l:=bN c hg;have i:=bM c hg;replace c:=KB c hb;clear hb hbox hg;obtain⟨aH,aI⟩:=nn i;have aJ:=cz4 j)|(go_at_call 71;(with_reducible refine(bU_.calls k _ _ l1 m 0 ao _ ?side1 ?side2 aG.out).mono ?_);(case side1=>exact CW ((Kd.af_ J.out HB.out)));(case side2=>exact K.out);rintro e be ⟨aY,rfl,I,hb⟩;have ab:=AM (Kd.R_lower (Kd.R_newB I (g:=p) (o:=.cells #[.string m,.int .i64 n,.int .i64 q,.string s] 69 (0,0)) (KW j).out) (b1_ TB));replace c:=KB c hb;replace j:=KB j hb;replace HB:=BS hb;clear hb;(try clear I);obtain⟨aZ,a1,eo41⟩:=Kd.aF_ ab.out;subst eo41));go_ret;exact⟨TE,TB⟩
     ·rw[if_neg D] at H;have Z:=beq_eq_false_iff_ne.mpr D;have aa:=bne_iff_ne.mpr D;obtain rfl:=Option.some.inj H;go_enter Tryz.func101,Tryz.ntmps101;go_wp2_with (first|((with_reducible refine ag_ (N:=4) rfl ?_);(try (refine bv_ (by rfl) ?_;dsimp only));refine bE 4 #[.string a0] 9 ?_;intro t hg bf hbox hb;have c:=AM (hbox);have u:=bG hg;replace HB:=BS hb;clear hb hbox hg)|((with_reducible refine ag_ (N:=6) rfl ?_);(try (refine bv_ (by rfl) ?_;dsimp only));refine bE 6 #[.string m,.int .i64 n,.int .i64 q,.string s] 69 ?_;intro p hg bg hbox hb;have j:=AM (hbox);have v:=bG hg;replace HB:=BS hb;have l:=bN c hg;have i:=bM c hg;replace c:=KB c hb;clear hb hbox hg;obtain⟨aK,aL⟩:=nn i;have aM:=cz4 j));go_ret;exact⟨TE,TB⟩
    ·rw[if_neg B] at H;have X:=beq_eq_false_iff_ne.mpr B;have Y:=bne_iff_ne.mpr B;by_cases E:a3=5
     ·rw[if_pos E] at H;have ac:=beq_iff_eq.mpr E;have ad:=bne_eq_false_iff_eq.mpr E;clear E;by_cases F:n=5
      ·rw[if_pos F] at H;have ae:=beq_iff_eq.mpr F;have af:=bne_eq_false_iff_eq.mpr F;clear F;obtain rfl:=Option.some.inj H;go_enter Tryz.func101,Tryz.ntmps101;go_wp2_with (first|((with_reducible refine ag_ (N:=4) rfl ?_);(try (refine bv_ (by rfl) ?_;dsimp only));refine bE 4 #[.string a0] 9 ?_;intro t hg bh hbox hb;have c:=AM (hbox);have u:=bG hg;replace HB:=BS hb;clear hb hbox hg)|((with_reducible refine ag_ (N:=6) rfl ?_);(try (refine bv_ (by rfl) ?_;dsimp only));refine bE 6 #[.string m,.int .i64 n,.int .i64 q,.string s] 69 ?_;intro p hg bi hbox hb;have j:=AM (hbox);have v:=bG hg;replace HB:=BS hb;have l:=bN c hg;have i:=bM c hg;replace c:=KB c hb;clear hb hbox hg;obtain⟨aN,aO⟩:=nn i;have aP:=cz4 j;have aQ:=cz1 c));go_ret;exact⟨TE,TB⟩
      ·rw[if_neg F] at H;have ae:=beq_eq_false_iff_ne.mpr F;have af:=bne_iff_ne.mpr F;obtain rfl:=Option.some.inj H;go_enter Tryz.func101,Tryz.ntmps101;go_wp2_with (first|((with_reducible refine ag_ (N:=4) rfl ?_);(try (refine bv_ (by rfl) ?_;dsimp only));refine bE 4 #[.string a0] 9 ?_;intro t hg bj hbox hb;have c:=AM (hbox);have u:=bG hg;replace HB:=BS hb;clear hb hbox hg)|((with_reducible refine ag_ (N:=6) rfl ?_);(try (refine bv_ (by rfl) ?_;dsimp only));refine bE 6 #[.string m,.int .i64 n,.int .i64 q,.string s] 69 ?_;intro p hg bk hbox hb;have j:=AM (hbox);have v:=bG hg;replace HB:=BS hb;have l:=bN c hg;have i:=bM c hg;replace c:=KB c hb;clear hb hbox hg;obtain⟨aR,aS⟩:=nn i;have aT:=cz4 j));go_ret;exact⟨TE,TB⟩
     ·rw[if_neg E] at H;have ac:=beq_eq_false_iff_ne.mpr E;have ad:=bne_iff_ne.mpr E;obtain⟨ap,aU,H⟩:=bnd H;obtain rfl:=Option.some.inj H;go_enter Tryz.func101,Tryz.ntmps101;go_wp2_with (first|((with_reducible refine ag_ (N:=4) rfl ?_);(try (refine bv_ (by rfl) ?_;dsimp only));refine bE 4 #[.string a0] 9 ?_;intro t hg bl hbox hb;have c:=AM (hbox);have u:=bG hg;replace HB:=BS hb;clear hb hbox hg)|((with_reducible refine ag_ (N:=6) rfl ?_);(try (refine bv_ (by rfl) ?_;dsimp only));refine bE 6 #[.string m,.int .i64 n,.int .i64 q,.string s] 69 ?_;intro p hg bm hbox hb;have j:=AM (hbox);have v:=bG hg;replace HB:=BS hb;have l:=bN c hg;have i:=bM c hg;replace c:=KB c hb;clear hb hbox hg)|(refine gL 64 rfl Tryz.func74 #[.slice A1 l1.length c1,.func (.func 129) #[] #[.pointer (some ⟨t,0,none⟩),.pointer (some ⟨p,0,none⟩)]] rfl TA ?_;(with_reducible refine(aR_.calls k _ _ l1 t p a0 m n q s ap _ ?side1 ?side2 ?side3 ?side4 aU.out).mono ?_);(case side1=>exact CW ((Kd.af_ J.out HB.out)));(case side2=>exact K.out);(case side3=>exact(KW c).out);(case side4=>exact(KW j).out);rintro e bn ⟨rfl,hb⟩;refine⟨_,rfl,?_⟩;replace c:=KB c hb;replace j:=KB j hb;replace HB:=BS hb;clear hb));go_ret;exact⟨TE,TB⟩
end
section
def impl_RuleOf_1.f (k:Nat) (a0_0:ByteArray) (a0_1:Int) (a0_2:Int) (a0_3:ByteArray) (a1_0:ByteArray) (l2_0:List (ab_)) (a3_0:Int):Option (Bool):=(impl_breaks.f k a1_0 l2_0 a0_0 a0_1 a0_2 a0_3 a3_0).bind fun t587=>(some t587)
theorem impl_RuleOf_1.calls (k:Nat) (g:ByteArray) (i:Int) (j:Int) (l:ByteArray) (g1_:Nat) (n:ByteArray) (g2_:Nat) (p:Option Addr) (q:Nat) (c:List (ab_)) (g3_:Nat) (o:Int) (r:Bool) (w:World) (s:Kd.C ae_ w p c.length c) (t:c.length≤q) (hkg1_:w.heap[g1_]? = some (.cells #[.string n] 9 (0,0))) (hkg2_:w.heap[g2_]? = some (.cells #[.slice p c.length q] 29 (0,0))) (hkg3_:w.heap[g3_]? = some (.cells #[.int .i64 o] 3 (0,0))) (h:impl_RuleOf_1.f k g i j l n c o=some r) :
  Calls Tryz.prog 100 #[.agg #[.string g,.int .i64 i,.int .i64 j,.string l],.pointer (some ⟨g1_,0,none⟩),.pointer (some ⟨g2_,0,none⟩),.pointer (some ⟨g3_,0,none⟩)] w fun e w'=>e=.returned (.bool r)∧Below w.heap.size w w':=by
 have hu69:=Tryz.underlying69;have y:=AM s;have z:=AM t;clear s t;have BKrg1_:=AM hkg1_;clear hkg1_;have BKrg2_:=AM hkg2_;clear hkg2_;have BKrg3_:=AM hkg3_;clear hkg3_;have HB:=AM (Below.refl w.heap.size w);have H:=h;clear h;unfold impl_RuleOf_1.f at H;obtain⟨A,A5,H⟩:=bnd H;obtain rfl:=Option.some.inj H;go_enter Tryz.func100,Tryz.ntmps100;go_wp2_with (first|(refine gD 4 rfl ?_;refine bE 4 #[.string g,.int .i64 i,.int .i64 j,.string l] 69 ?_;intro F hg w6 hbox hb;have m:=AM (hbox);have G:=bG hg;replace HB:=BS hb;have u:=bN BKrg1_ hg;have B:=bM BKrg1_ hg;replace BKrg1_:=KB BKrg1_ hb;have v:=bN BKrg2_ hg;have D:=bM BKrg2_ hg;replace BKrg2_:=KB BKrg2_ hb;have E:=bN BKrg3_ hg;have x:=bM BKrg3_ hg;replace BKrg3_:=KB BKrg3_ hb;clear hb hbox hg;obtain⟨O,R⟩:=nn u;have U:=cz1 BKrg1_;obtain⟨V,W⟩:=nn v;have I:=cz1 BKrg2_;obtain⟨J,K⟩:=nn x;have M:=cz4 m;have N:=cz1 BKrg3_)|(refine gL 10 rfl Tryz.func101 #[.string n,.slice p c.length q,.agg #[.string g,.int .i64 i,.int .i64 j,.string l],.int .i64 o] rfl TA ?_;(with_reducible refine(impl_breaks.calls k n _ _ c g i j l o A _ ?side1 ?side2 A5.out).mono ?_);(case side1=>exact CW ((Kd.af_ y.out HB.out)));(case side2=>exact z.out);rintro e X ⟨rfl,hb⟩;refine⟨_,rfl,?_⟩;replace BKrg1_:=KB BKrg1_ hb;replace BKrg2_:=KB BKrg2_ hb;replace BKrg3_:=KB BKrg3_ hb;replace m:=KB m hb;replace HB:=BS hb;clear hb));go_ret;exact⟨TE,TB⟩
end
section
def an_.l0:Nat→List (ab_)→Int→Int→ByteArray→List (ab_)→Int→Option (Int)
 | 0,_,_,_,_,_,_=>none
 | k+1,x0,x7,x8,c,g,h=>if x8<x7 then(if 0≤x8 then(if x8<(x0.length:Int) then((impl_RuleOf_1.f k ((a_ x0 x8).f0) ((a_ x0 x8).f1) ((a_ x0 x8).f2) ((a_ x0 x8).f3) c g h).bind fun i=>(if i=true then(some x8) else(an_.l0 k x0 x7 (wrap64 (x8+1)) c g h))) else(none)) else(none)) else(some (-1))
def an_.f (k:Nat) (l0:List (ab_)) (a1_0:ByteArray) (l1_1:List (ab_)) (a1_2:Int):Option (Int):=an_.l0 k l0 (l0.length:Int) 0 a1_0 l1_1 a1_2
theorem an_.calls (k:Nat) (A0:Option Addr) (c0:Nat) (l0:List (ab_)) (g1_0_ g1_1_ g1_2_:Nat) (i:ByteArray) (n:Option Addr) (o:Nat) (g:List (ab_)) (j:Int) (r:Int) (w:World) (B:Kd.C ae_ w A0 l0.length l0) (D:l0.length≤c0) (p:Kd.C ae_ w n g.length g) (q:g.length≤o) (hkg1_0_:w.heap[g1_0_]? = some (.cells #[.string i] 9 (0,0))) (hkg1_1_:w.heap[g1_1_]? = some (.cells #[.slice n g.length o] 29 (0,0))) (hkg1_2_:w.heap[g1_2_]? = some (.cells #[.int .i64 j] 3 (0,0))) (h:an_.f k l0 i g j=some r) :
  Calls Tryz.prog 104 #[.slice A0 l0.length c0,.func (.func 100) #[] #[.pointer (some ⟨g1_0_,0,none⟩),.pointer (some ⟨g1_1_,0,none⟩),.pointer (some ⟨g1_2_,0,none⟩)]] w fun e w'=>e=.returned (.int .i64 r)∧Below w.heap.size w w':=by
 have hu69:=Tryz.underlying69;have E:=AM B;have K:=AM D;clear B D;have s:=AM p;have t:=AM q;clear p q;have BKrg1_0_:=AM hkg1_0_;clear hkg1_0_;have BKrg1_1_:=AM hkg1_1_;clear hkg1_1_;have BKrg1_2_:=AM hkg1_2_;clear hkg1_2_;have HB:=AM (Below.refl w.heap.size w);have H:(an_.l0 k l0 (l0.length:Int) 0 i g j)=some r:=h;clear h;have H':=AM H;clear H;go_enter Tryz.func104,Tryz.ntmps104;go_wp2;go_loopg [8] k (fun kq v8 w'=>∃(c:Int),v8=.int .i64 c∧Aside0 (an_.l0 kq l0 (l0.length:Int) c i g j=some r)∧Aside0 (kq≤k)∧Aside0 (w'.heap[g1_0_]? = some (.cells #[.string i] 9 (0,0)))∧Aside0 (w'.heap[g1_1_]? = some (.cells #[(.slice n g.length o)] 29 (0,0)))∧Aside0 (w'.heap[g1_2_]? = some (.cells #[.int .i64 j] 3 (0,0)))∧Aside0 (Below w.heap.size w w'))
 case atStart=>exact⟨(0),TF,H',⟨Nat.le_refl _⟩,KW BKrg1_0_,KW BKrg1_1_,KW BKrg1_2_,⟨TB⟩⟩
 case round =>
  clear H';obtain⟨c,rfl,HA,HK1,BKrg1_0_,BKrg1_1_,BKrg1_2_,HB⟩:=hrel
  cases gk with
  | zero=>exact absurd HA.out (by simp[an_.l0])
  | succ k1 =>
   have H:=HA.out;clear HA;simp only[an_.l0] at H;by_cases c3:c<(l0.length:Int)
   ·rw[if_pos c3] at H;have F:=decide_eq_true c3;clear c3;obtain⟨c4,H⟩:=ifn H;have I:=decide_eq_true c4;clear c4;obtain⟨c5,H⟩:=ifn H;have J:=decide_eq_true c5;clear c5;obtain⟨G,A6,H⟩:=bnd H;by_cases c7:G=true
    ·subst c7;replace H:=ift H;obtain rfl:=Option.some.inj H;have l:0≤(c:Int):=TD;have m:c<(l0.length:Int):=TD;obtain⟨A,u,v,x,y,z⟩:=ah_ (Kd.af_ E.out HB.out) c l m;cases u;replace l:=eq_true l;replace m:=eq_true m;go_wp2_with (first|(go_at_call 100;(with_reducible refine(impl_RuleOf_1.calls k1 ((a_ l0 c).f0) ((a_ l0 c).f1) ((a_ l0 c).f2) ((a_ l0 c).f3) g1_0_ i g1_1_ n o g g1_2_ j true _ ?side1 ?side2 ?side3 ?side4 ?side5 A6.out).mono ?_);(case side1=>exact CW ((Kd.af_ s.out HB.out)));(case side2=>exact t.out);(case side3=>exact(KW BKrg1_0_).out);(case side4=>exact(KW BKrg1_1_).out);(case side5=>exact(KW BKrg1_2_).out);rintro e w8 ⟨rfl,hb⟩;replace BKrg1_0_:=KB BKrg1_0_ hb;replace BKrg1_1_:=KB BKrg1_1_ hb;replace BKrg1_2_:=KB BKrg1_2_ hb;replace HB:=BS hb;clear hb));go_ret;exact⟨TE,TB⟩
    ·replace c7:=Bool.eq_false_iff.mpr c7;subst c7;replace H:=iff' H;have H':=AM H;clear H;have l:0≤(c:Int):=TD;have m:c<(l0.length:Int):=TD;obtain⟨A,u,v,x,y,z⟩:=ah_ (Kd.af_ E.out HB.out) c l m;cases u;replace l:=eq_true l;replace m:=eq_true m;go_wp2_with (first|(go_at_call 100;(with_reducible refine(impl_RuleOf_1.calls k1 ((a_ l0 c).f0) ((a_ l0 c).f1) ((a_ l0 c).f2) ((a_ l0 c).f3) g1_0_ i g1_1_ n o g g1_2_ j false _ ?side1 ?side2 ?side3 ?side4 ?side5 A6.out).mono ?_);(case side1=>exact CW ((Kd.af_ s.out HB.out)));(case side2=>exact t.out);(case side3=>exact(KW BKrg1_0_).out);(case side4=>exact(KW BKrg1_1_).out);(case side5=>exact(KW BKrg1_2_).out);rintro e w9 ⟨rfl,hb⟩;replace BKrg1_0_:=KB BKrg1_0_ hb;replace BKrg1_1_:=KB BKrg1_1_ hb;replace BKrg1_2_:=KB BKrg1_2_ hb;replace HB:=BS hb;clear hb));go_roundg k1
     case measure=>have:=HK1.out;omega
     case rel=>exact⟨(wrap64 (c+1)),TF,H',⟨TM⟩,KW BKrg1_0_,KW BKrg1_1_,KW BKrg1_2_,⟨TB⟩⟩
   ·rw[if_neg c3] at H;have F:=decide_eq_false c3;clear c3;obtain rfl:=Option.some.inj H;go_wp2;go_ret;exact⟨TE,TB⟩
end
section
def aG_.f (k:Nat) (l0:List (ab_)) (a1_0:ByteArray) (l1_1:List (ab_)) (a1_2:Int):Option (Bool):=(an_.f k l0 a1_0 l1_1 a1_2).bind fun t590=>(some (decide (t590≥0)))
theorem aG_.calls (k:Nat) (A0:Option Addr) (c0:Nat) (l0:List (ab_)) (g1_0_ g1_1_ g1_2_:Nat) (g:ByteArray) (j:Option Addr) (l:Nat) (c:List (ab_)) (i:Int) (r:Bool) (w:World) (s:Kd.C ae_ w A0 l0.length l0) (t:l0.length≤c0) (m:Kd.C ae_ w j c.length c) (n:c.length≤l) (hkg1_0_:w.heap[g1_0_]? = some (.cells #[.string g] 9 (0,0))) (hkg1_1_:w.heap[g1_1_]? = some (.cells #[.slice j c.length l] 29 (0,0))) (hkg1_2_:w.heap[g1_2_]? = some (.cells #[.int .i64 i] 3 (0,0))) (h:aG_.f k l0 g c i=some r) :
  Calls Tryz.prog 74 #[.slice A0 l0.length c0,.func (.func 100) #[] #[.pointer (some ⟨g1_0_,0,none⟩),.pointer (some ⟨g1_1_,0,none⟩),.pointer (some ⟨g1_2_,0,none⟩)]] w fun e w'=>e=.returned (.bool r)∧Below w.heap.size w w':=by
 have u:=AM s;have v:=AM t;clear s t;have p:=AM m;have q:=AM n;clear m n;have BKrg1_0_:=AM hkg1_0_;clear hkg1_0_;have BKrg1_1_:=AM hkg1_1_;clear hkg1_1_;have BKrg1_2_:=AM hkg1_2_;clear hkg1_2_;have HB:=AM (Below.refl w.heap.size w);have H:((an_.f k l0 g c i).bind fun o=>(some (decide (o≥0))))=some r:=h;clear h;obtain⟨o,A3,H⟩:=bnd H;obtain rfl:=Option.some.inj H;go_enter Tryz.func74,Tryz.ntmps74;go_wp2_with (first|((with_reducible refine aH_ (f:=104) rfl ?_);refine goesL_ (some 7) rfl rfl Tryz.func104 KR rfl #[.slice A0 l0.length c0,.func (.func 100) #[] #[.pointer (some ⟨g1_0_,0,none⟩),.pointer (some ⟨g1_1_,0,none⟩),.pointer (some ⟨g1_2_,0,none⟩)]] rfl TA ?_;(with_reducible refine(an_.calls k _ _ l0 g1_0_ g1_1_ g1_2_ g j l c i o _ ?side1 ?side2 ?side3 ?side4 ?side5 ?side6 ?side7 A3.out).mono ?_);(case side1=>exact CW (u.out));(case side2=>exact v.out);(case side3=>exact CW (p.out));(case side4=>exact q.out);(case side5=>exact(KW BKrg1_0_).out);(case side6=>exact(KW BKrg1_1_).out);(case side7=>exact(KW BKrg1_2_).out);rintro e w4 ⟨rfl,hb⟩;refine⟨_,rfl,?_⟩;replace BKrg1_0_:=KB BKrg1_0_ hb;replace BKrg1_1_:=KB BKrg1_1_ hb;replace BKrg1_2_:=KB BKrg1_2_ hb;replace HB:=BS hb;clear hb));go_ret;exact⟨TE,TB⟩
end
section
def bw_.l0:Nat→ByteArray→List (ab_)→Int→Option (Int)
 | 0,_,_,_=>none
 | k+1,h,g,c=>if c≤6 then((aG_.f k g h g c).bind fun i=>(if i=true then(some c) else(if c=2 then((bU_.f k g h 6).bind fun j=>(if (j.length:Int)=1 then(bw_.l0 k h g (wrap64 (c+1))) else(some c))) else(bw_.l0 k h g (wrap64 (c+1)))))) else(some 0)
def bw_.f (k:Nat) (a0:ByteArray) (l1:List (ab_)):Option (Int):=(impl_isWhole.f k a0 l1).bind fun t593=>(if t593=true then(bw_.l0 k a0 l1 1) else(some 9))
theorem bw_.calls (k:Nat) (a0:ByteArray) (A1:Option Addr) (c1:Nat) (l1:List (ab_)) (r:Int) (w:World) (ai:Kd.C ae_ w A1 l1.length l1) (aj:l1.length≤c1) (hG_:Glob w) (h:bw_.f k a0 l1=some r) :
  Calls Tryz.prog 70 #[.string a0,.slice A1 l1.length c1] w fun e w'=>e=.returned (.int .i64 r)∧Below w.heap.size w w':=by
 have u:=AM ai;have v:=AM aj;clear ai aj;have HGL:=AM hG_;clear hG_;have HB:=AM (Below.refl w.heap.size w);have H:=h;clear h;unfold bw_.f at H;obtain⟨ak,A3,H⟩:=bnd H;by_cases c4:ak=true
 ·subst c4;replace H:=ift H;have H':=AM H;clear H;go_enter Tryz.func70,Tryz.ntmps70;go_wp2_with (first|((with_reducible refine ag_ (N:=2) rfl ?_);(try (refine bv_ (by rfl) ?_;dsimp only));refine bE 2 #[.string a0] 9 ?_;intro q hg w5 hbox hb;have c:=AM (hbox);have X:=bG hg;replace HB:=BS hb;clear hb hbox hg)|((with_reducible refine ag_ (N:=3) rfl ?_);(try (refine bv_ (by rfl) ?_;dsimp only));refine bE 3 #[.slice A1 l1.length c1] 29 ?_;intro s hg w6 hbox hb;have g:=AM (hbox);have Y:=bG hg;replace HB:=BS hb;have n:=bN c hg;have t:=bM c hg;replace c:=KB c hb;clear hb hbox hg;obtain⟨bI,bJ⟩:=nn n;have bK:=cz1 c;have bL:=cz1 g)|(refine gL 8 rfl Tryz.func99 #[.string a0,.slice A1 l1.length c1] rfl TA ?_;(with_reducible refine(impl_isWhole.calls k a0 _ _ l1 true _ ?side1 ?side2 ?side3 A3.out).mono ?_);(case side1=>exact CW ((Kd.af_ u.out HB.out)));(case side2=>exact v.out);(case side3=>exact GW HGL);rintro e bS ⟨rfl,hb⟩;refine⟨_,rfl,?_⟩;replace c:=KB c hb;replace g:=KB g hb;replace HB:=BS hb;clear hb)|((with_reducible refine ag_ (N:=5) rfl ?_);(try (refine bv_ (by rfl) ?_;dsimp only));refine bE 5 #[.int .i64 0] 3 ?_;intro m hg bT hbox hb;have i:=AM (hbox);have ao:=bG hg;replace HB:=BS hb;have j:=bN c hg;have o:=bM c hg;replace c:=KB c hb;have l:=bN g hg;have p:=bM g hg;replace g:=KB g hb;clear hb hbox hg;obtain⟨ap,aq⟩:=nn o;obtain⟨ar,au⟩:=nn p;have av:=cz1 i));go_loopg [5] k (fun kq v5 w'=>∃(m:Nat) (xb:Int),v5=.pointer (some ⟨m,0,none⟩)∧Aside0 (bw_.l0 kq a0 l1 xb=some r)∧Aside0 (kq≤k)∧Aside0 (w'.heap[q]? = some (.cells #[.string a0] 9 (0,0)))∧Aside0 (w'.heap[s]? = some (.cells #[(.slice A1 l1.length c1)] 29 (0,0)))∧Aside0 (w'.heap[m]? = some (.cells #[.int .i64 xb] 3 (0,0)))∧Aside0 (q≠m)∧Aside0 (s≠m)∧Aside0 (Below w.heap.size w w'))
  case atStart=>exact⟨_,_,rfl,H',⟨Nat.le_refl _⟩,⟨TS⟩,⟨TS⟩,⟨TS⟩,j,l,⟨TB⟩⟩
  case round =>
   clear H';obtain⟨m,xb,hv_,HA,HK1,c,g,i,j,l,HB⟩:=hrel;subst hv_;have o:Aside0 (m≠q):=⟨j.out.symm⟩;have p:Aside0 (m≠s):=⟨l.out.symm⟩
   cases gk with
   | zero=>exact absurd HA.out (by simp[bw_.l0])
   | succ k1 =>
    have H:=HA.out;clear HA;simp only[bw_.l0] at H;by_cases O:xb≤6
    ·rw[if_pos O] at H;have Z:=decide_eq_true O;clear O;obtain⟨al,V,H⟩:=bnd H;by_cases W:al=true
     ·subst W;replace H:=ift H;obtain rfl:=Option.some.inj H;have aw:=o.out;have ax:=j.out;have ay:=p.out;have az:=l.out;have aA:=cz1 i;have aB:=t.out;have aC:=n.out;have aD:=cz1 g;go_wp2_with (first|(refine gL 16 rfl Tryz.func74 #[.slice A1 l1.length c1,.func (.func 100) #[] #[.pointer (some ⟨q,0,none⟩),.pointer (some ⟨s,0,none⟩),.pointer (some ⟨m,0,none⟩)]] rfl TA ?_;(with_reducible refine(aG_.calls k1 _ _ l1 q s m a0 A1 c1 l1 xb true _ ?side1 ?side2 ?side3 ?side4 ?side5 ?side6 ?side7 V.out).mono ?_);(case side1=>exact CW ((Kd.af_ u.out HB.out)));(case side2=>exact v.out);(case side3=>exact CW ((Kd.af_ u.out HB.out)));(case side4=>exact v.out);(case side5=>exact(KW c).out);(case side6=>exact(KW g).out);(case side7=>exact(KW i).out);rintro e bU ⟨rfl,hb⟩;refine⟨_,rfl,?_⟩;replace c:=KB c hb;replace g:=KB g hb;replace i:=KB i hb;replace HB:=BS hb;clear hb;have aE:=cz1 i));go_ret;exact⟨TE,TB⟩
     ·replace W:=Bool.eq_false_iff.mpr W;subst W;replace H:=iff' H;by_cases y:xb=2
      ·rw[if_pos y] at H;have aa:=beq_iff_eq.mpr y;have ab:=bne_eq_false_iff_eq.mpr y;clear y;obtain⟨R,am,H⟩:=bnd H;by_cases z:(R.length:Int)=1
       ·rw[if_pos z] at H;have ac:=beq_iff_eq.mpr z;have ad:=bne_eq_false_iff_eq.mpr z;clear z;have H':=AM H;clear H;have aF:=o.out;have aG:=j.out;have aH:=p.out;have aI:=l.out;have aJ:=cz1 i;have aK:=t.out;have aL:=n.out;have aM:=cz1 g;go_wp2_with (first|(refine gL 16 rfl Tryz.func74 #[.slice A1 l1.length c1,.func (.func 100) #[] #[.pointer (some ⟨q,0,none⟩),.pointer (some ⟨s,0,none⟩),.pointer (some ⟨m,0,none⟩)]] rfl TA ?_;(with_reducible refine(aG_.calls k1 _ _ l1 q s m a0 A1 c1 l1 xb false _ ?side1 ?side2 ?side3 ?side4 ?side5 ?side6 ?side7 V.out).mono ?_);(case side1=>exact CW ((Kd.af_ u.out HB.out)));(case side2=>exact v.out);(case side3=>exact CW ((Kd.af_ u.out HB.out)));(case side4=>exact v.out);(case side5=>exact(KW c).out);(case side6=>exact(KW g).out);(case side7=>exact(KW i).out);rintro e bV ⟨rfl,hb⟩;refine⟨_,rfl,?_⟩;replace c:=KB c hb;replace g:=KB g hb;replace i:=KB i hb;replace HB:=BS hb;clear hb;have aN:=cz1 i;have aO:=cz1 g;have aP:=cz1 c)|(go_at_call 71;(with_reducible refine(bU_.calls k1 _ _ l1 a0 6 R _ ?side1 ?side2 am.out).mono ?_);(case side1=>exact CW ((Kd.af_ u.out HB.out)));(case side2=>exact v.out);rintro e bW ⟨an,rfl,U,hb⟩;have x:=RL U;replace c:=KB c hb;replace g:=KB g hb;replace i:=KB i hb;replace HB:=BS hb;clear hb;(try clear U);obtain⟨bO,bP,eo38⟩:=Kd.aF_ x.out;subst eo38;have aQ:=cz1 i)|((with_reducible refine ag_ (N:=5) rfl ?_);(try (refine bv_ (by rfl) ?_;dsimp only));refine bE 5 #[.int .i64 0] 3 ?_;intro aR hg bX hbox hb;replace x:=RB x hb;have ae:=AM (hbox);have aS:=bG hg;replace HB:=BS hb;have A:=bN c hg;have B:=bM c hg;replace c:=KB c hb;have D:=bN g hg;have E:=bM g hg;replace g:=KB g hb;have af:=bN i hg;have F:=bM i hg;replace i:=KB i hb;clear hb hbox hg;obtain⟨aT,aU⟩:=nn B;obtain⟨aV,aW⟩:=nn E;obtain⟨aX,aY⟩:=nn F;have aZ:=cz1 ae));go_roundg k1
        case measure=>have:=HK1.out;omega
        case rel=>exact⟨_,_,rfl,H',⟨TM⟩,⟨TS⟩,⟨TS⟩,⟨TS⟩,A,D,⟨TB⟩⟩
       ·rw[if_neg z] at H;have ac:=beq_eq_false_iff_ne.mpr z;have ad:=bne_iff_ne.mpr z;obtain rfl:=Option.some.inj H;have a1:=o.out;have a2:=j.out;have a3:=p.out;have a4:=l.out;have a5:=cz1 i;have a6:=t.out;have a7:=n.out;have a8:=cz1 g;go_wp2_with (first|(refine gL 16 rfl Tryz.func74 #[.slice A1 l1.length c1,.func (.func 100) #[] #[.pointer (some ⟨q,0,none⟩),.pointer (some ⟨s,0,none⟩),.pointer (some ⟨m,0,none⟩)]] rfl TA ?_;(with_reducible refine(aG_.calls k1 _ _ l1 q s m a0 A1 c1 l1 xb false _ ?side1 ?side2 ?side3 ?side4 ?side5 ?side6 ?side7 V.out).mono ?_);(case side1=>exact CW ((Kd.af_ u.out HB.out)));(case side2=>exact v.out);(case side3=>exact CW ((Kd.af_ u.out HB.out)));(case side4=>exact v.out);(case side5=>exact(KW c).out);(case side6=>exact(KW g).out);(case side7=>exact(KW i).out);rintro e bY ⟨rfl,hb⟩;refine⟨_,rfl,?_⟩;replace c:=KB c hb;replace g:=KB g hb;replace i:=KB i hb;replace HB:=BS hb;clear hb;have a9:=cz1 i;have ba:=cz1 g;have bb:=cz1 c)|(go_at_call 71;(with_reducible refine(bU_.calls k1 _ _ l1 a0 6 R _ ?side1 ?side2 am.out).mono ?_);(case side1=>exact CW ((Kd.af_ u.out HB.out)));(case side2=>exact v.out);rintro e bZ ⟨an,rfl,U,hb⟩;have x:=RL U;replace c:=KB c hb;replace g:=KB g hb;replace i:=KB i hb;replace HB:=BS hb;clear hb;(try clear U);obtain⟨bQ,bR,eo55⟩:=Kd.aF_ x.out;subst eo55;have bd:=cz1 i));go_ret;exact⟨TE,TB⟩
      ·rw[if_neg y] at H;have aa:=beq_eq_false_iff_ne.mpr y;have ab:=bne_iff_ne.mpr y;have H':=AM H;clear H;have be:=o.out;have bf:=j.out;have bg:=p.out;have bh:=l.out;have bi:=cz1 i;have bj:=t.out;have bk:=n.out;have bl:=cz1 g;go_wp2_with (first|(refine gL 16 rfl Tryz.func74 #[.slice A1 l1.length c1,.func (.func 100) #[] #[.pointer (some ⟨q,0,none⟩),.pointer (some ⟨s,0,none⟩),.pointer (some ⟨m,0,none⟩)]] rfl TA ?_;(with_reducible refine(aG_.calls k1 _ _ l1 q s m a0 A1 c1 l1 xb false _ ?side1 ?side2 ?side3 ?side4 ?side5 ?side6 ?side7 V.out).mono ?_);(case side1=>exact CW ((Kd.af_ u.out HB.out)));(case side2=>exact v.out);(case side3=>exact CW ((Kd.af_ u.out HB.out)));(case side4=>exact v.out);(case side5=>exact(KW c).out);(case side6=>exact(KW g).out);(case side7=>exact(KW i).out);rintro e b0 ⟨rfl,hb⟩;refine⟨_,rfl,?_⟩;replace c:=KB c hb;replace g:=KB g hb;replace i:=KB i hb;replace HB:=BS hb;clear hb;have bm:=cz1 i)|((with_reducible refine ag_ (N:=5) rfl ?_);(try (refine bv_ (by rfl) ?_;dsimp only));refine bE 5 #[.int .i64 0] 3 ?_;intro bn hg w64 hbox hb;have ag:=AM (hbox);have bo:=bG hg;replace HB:=BS hb;have G:=bN c hg;have I:=bM c hg;replace c:=KB c hb;have J:=bN g hg;have K:=bM g hg;replace g:=KB g hb;have ah:=bN i hg;have M:=bM i hg;replace i:=KB i hb;clear hb hbox hg;obtain⟨bp,bq⟩:=nn I;obtain⟨br,bs⟩:=nn K;obtain⟨bt,bu⟩:=nn M;have bv:=cz1 ag));go_roundg k1
       case measure=>have:=HK1.out;omega
       case rel=>exact⟨_,_,rfl,H',⟨TM⟩,⟨TS⟩,⟨TS⟩,⟨TS⟩,G,J,⟨TB⟩⟩
    ·rw[if_neg O] at H;have Z:=decide_eq_false O;clear O;obtain rfl:=Option.some.inj H;have bw:=o.out;have bx:=j.out;have bz:=p.out;have bA:=l.out;have bB:=cz1 i;go_wp2;go_ret;exact⟨TE,TB⟩
 ·replace c4:=Bool.eq_false_iff.mpr c4;subst c4;replace H:=iff' H;obtain rfl:=Option.some.inj H;go_enter Tryz.func70,Tryz.ntmps70;go_wp2_with (first|((with_reducible refine ag_ (N:=2) rfl ?_);(try (refine bv_ (by rfl) ?_;dsimp only));refine bE 2 #[.string a0] 9 ?_;intro q hg b1 hbox hb;have c:=AM (hbox);have X:=bG hg;replace HB:=BS hb;clear hb hbox hg)|((with_reducible refine ag_ (N:=3) rfl ?_);(try (refine bv_ (by rfl) ?_;dsimp only));refine bE 3 #[.slice A1 l1.length c1] 29 ?_;intro s hg b2 hbox hb;have g:=AM (hbox);have Y:=bG hg;replace HB:=BS hb;have n:=bN c hg;have t:=bM c hg;replace c:=KB c hb;clear hb hbox hg;obtain⟨bC,bD⟩:=nn n;have bF:=cz1 c;have bH:=cz1 g)|(refine gL 8 rfl Tryz.func99 #[.string a0,.slice A1 l1.length c1] rfl TA ?_;(with_reducible refine(impl_isWhole.calls k a0 _ _ l1 false _ ?side1 ?side2 ?side3 A3.out).mono ?_);(case side1=>exact CW ((Kd.af_ u.out HB.out)));(case side2=>exact v.out);(case side3=>exact GW HGL);rintro e b3 ⟨rfl,hb⟩;refine⟨_,rfl,?_⟩;replace c:=KB c hb;replace g:=KB g hb;replace HB:=BS hb;clear hb));go_ret;exact⟨TE,TB⟩
end
section
def strconv_Itoa.f (a0:Int):Option (ByteArray):=if -9223372036854775808≤a0∧a0≤9223372036854775807 then some ⟨(Go.Lib.itoa a0).toArray⟩ else none
theorem strconv_Itoa.calls (a0:Int) (r:ByteArray) (w:World) (hG_:Glob w) (h:strconv_Itoa.f a0=some r) :
  Calls Tryz.prog 102 #[.int .i64 a0] w fun e w'=>e=.returned (.string r)∧Below w.heap.size w w':=by
 unfold strconv_Itoa.f at h;split at h
 ·rename_i h1;obtain rfl:=Option.some.inj h;exact num_itoa a0 h1.1 h1.2 w hG_
 ·cases h
end
section
def cE_.f (a0:Int):Option (ByteArray):=(strconv_Itoa.f (Int.tmod a0 4294967296)).bind fun t601=>(some t601)
theorem cE_.calls (a0:Int) (r:ByteArray) (w:World) (hG_:Glob w) (h:cE_.f a0=some r) :
  Calls Tryz.prog 72 #[.int .i64 a0] w fun e w'=>e=.returned (.string r)∧Below w.heap.size w w':=by
 have HGL:=AM hG_;clear hG_;have HB:=AM (Below.refl w.heap.size w);have H:=h;clear h;unfold cE_.f at H;obtain⟨c,A2,H⟩:=bnd H;obtain rfl:=Option.some.inj H;go_enter Tryz.func72,Tryz.ntmps72;go_wp2_with (first|(refine gL 5 rfl Tryz.func102 #[.int .i64 (Int.tmod a0 4294967296)] rfl TA ?_;(with_reducible refine(strconv_Itoa.calls (Int.tmod a0 4294967296) c _ ?side1 A2.out).mono ?_);(case side1=>exact GW HGL);rintro e w3 ⟨rfl,hb⟩;refine⟨_,rfl,?_⟩;replace HB:=BS hb;clear hb));go_ret;exact⟨TE,TB⟩
end
section
def bx_.f (k:Nat) (c:ByteArray) (g:Int) (h:List (ab_)):Option (Bool):=(cJ_.f g).bind fun j=>(if j=true then((bw_.f k c h).bind fun l=>(if l=0 then((bU_.f k h c 6).bind fun i=>(if 0<(i.length:Int) then((cE_.f g).bind fun m=>(some (((a_ i 0).f3).toList==m.toList))) else(none))) else(some false))) else(some false))
def bx_.T1:Bool × List (List Nat × List Nat):=(true,[([],[]),([0],[0]),([1],[1]),([2,2],[2]),([3],[3]),([4,3],[3,4]),([3],[3]),([6,3],[3,6]),([5,7,3,3],[3,5,7]),([8,3],[3,8]),([3,9],[3,9]),([10,8],[10]),([11],[11]),([12,11],[11,12]),([11],[11]),([14,11],[11,14]),([13,15,11,11],[11,13,15]),([16,11],[11,16]),([17,11],[11,17]),([18,11],[11,18]),([11],[11]),([20,11],[11,20]),([21,16,11],[11,21]),([19,22,11],[11,19,22]),([11,23],[11,23]),([24,22,0,1,2,3,4,5,6,7,8,9,10,11,12,13,14,15,16,17,18,19,20,21,22,23,24],[24])])
def bx_.B1:List Nat:=[0,1,3,7,15,31,15,79,255,511,1023,2047,4095,8191,4095,20479,65535,131071,262143,524287,4095,1052671,3276799,8388607,16777215,33554431]
theorem bx_.tab1:rtab .any (opsOf Tryz.f36 1)=bx_.T1:=by kernel_rfl
theorem bx_.bits1:waitsOk bx_.T1.2 bx_.B1=true:=by kernel_rfl
theorem bx_.calls (k:Nat) (m:ByteArray) (l:Int) (o:Option Addr) (p:Nat) (j:List (ab_)) (r:Bool) (w:World) (B:Kd.C ae_ w o j.length j) (D:j.length≤p) (hG_:Glob w) (h:bx_.f k m l j=some r) :
  Calls Tryz.prog 36 #[.agg #[.string m,.int .i64 l,.slice o j.length p]] w fun e w'=>e=.returned (.bool r)∧Below w.heap.size w w':=by
 have hu31:=Tryz.underlying31;have z:=AM B;have A:=AM D;clear B D;have HGL:=AM hG_;clear hG_;have HB:=AM (Below.refl w.heap.size w);have H:=h;clear h;unfold bx_.f at H;obtain⟨J,A2,H⟩:=bnd H;by_cases c3:J=true
 ·subst c3;replace H:=ift H;obtain⟨E,A4,H⟩:=bnd H;by_cases c5:E=0
  ·rw[if_pos c5] at H;have M:=beq_iff_eq.mpr c5;have O:=bne_eq_false_iff_eq.mpr c5;clear c5;obtain⟨x,A6,H⟩:=bnd H;obtain⟨c7,H⟩:=ifn H;have Y:=decide_eq_true c7;have Z:decide (0<x.length)=true:=decide_eq_true (by omega);clear c7;obtain⟨R,A8,H⟩:=bnd H;obtain rfl:=Option.some.inj H;go_enter Tryz.func36,Tryz.ntmps36
   try go_wp2_with (first|(refine gD 1 rfl ?_;refine bE 1 #[.string m,.int .i64 l,.slice o j.length p] 31 ?_;intro g hg w9 hbox hb;have c:=AM (hbox);have F:=bG hg;replace HB:=BS hb;clear hb hbox hg))
   replace c:=AM (ai_ c.out);replace HB:=AM (az_ HB.out);refine start_ (n:=26) (S:=fun w'=>w'.cell? ⟨g,0,none⟩=some (.string m)∧w'.cell? ⟨g,1,none⟩=some (.int .i64 l)∧w'.cell? ⟨g,2,none⟩=some (.slice o j.length p)) (ds:=[]) #[false,false,false,false,false,false,false,false,false,false,false,false,false,false,false,false,false,false,false,false,false,false,false,false,false,false] KR rfl rfl ⟨bc 0 c,bc 1 c,bc 2 c⟩ (fun hHeld=>?_);refine bl_ bx_.tab1 bx_.bits1 (fun HT_ HW_=>?_);generalize w9.drew=ad at c HB hHeld ⊢;refine pA 0 3 (mL 26 1) HT_ rfl rfl ?_;refine tA 1 4 (mL 26 3) HT_ HW_ hHeld rfl rfl (by rintro w' ⟨s0,s1,s2⟩;go_simp;with_reducible rfl) ?_;refine one_ (i:=2) (N:=some 5) (mL 26 7) rfl rfl (bk_ HT_.out KR) (by decide) (fun K hK=>?_);refine goes_ Tryz.func69 KR rfl #[.int .i64 l] (by rfl) rfl rfl TA ?_
   with_reducible refine(cJ_.calls l true _ A2.out).mono ?_
   rintro e w' ⟨rfl,⟨nd,rfl⟩⟩;refine⟨_,rfl,?_⟩;refine hK.out _ _ ⟨bc 0 c,bc 1 c,bc 2 c⟩ (fun hHeld=>?_);clear hK K;refine nA ?_;refine pA 3 6 (mL 26 15) HT_ rfl rfl ?_;refine pA 4 7 (mL 26 31) HT_ rfl rfl ?_;refine pA 6 9 (mL 26 95) HT_ rfl rfl ?_;refine tA 5 8 (mL 26 127) HT_ HW_ hHeld rfl rfl (by rintro w' ⟨s0,s1,s2⟩;go_simp;with_reducible rfl) ?_;refine tA 7 10 (mL 26 255) HT_ HW_ hHeld rfl rfl (by rintro w' ⟨s0,s1,s2⟩;go_simp;with_reducible rfl) ?_;refine one_ (i:=8) (N:=some 11) (mL 26 511) rfl rfl (bk_ HT_.out KR) (by decide) (fun K hK=>?_);refine goes_ Tryz.func70 KR rfl #[.string m,.slice o j.length p] (by rfl) rfl rfl TA ?_
   with_reducible refine(bw_.calls k m _ _ j E _ ?side1 ?side2 ?side3 A4.out).mono ?_
   (case side1=>exact CW ((Kd.af_ z.out TB)));(case side2=>exact A.out);(case side3=>exact GW HGL);rintro e ae ⟨rfl,hb⟩;refine⟨_,rfl,?_⟩;replace c:=KB c hb;replace HB:=BS hb;clear hb;refine hK.out _ _ ⟨bc 0 c,bc 1 c,bc 2 c⟩ (fun hHeld=>?_);clear hK K;refine nA ?_;refine pA 9 12 (mL 26 1023) HT_ rfl rfl ?_;refine pA 10 13 (mL 26 2047) HT_ rfl rfl ?_;refine pA 11 14 (mL 26 4095) HT_ rfl rfl ?_;refine pA 12 15 (mL 26 8191) HT_ rfl rfl ?_;refine pA 14 17 (mL 26 24575) HT_ rfl rfl ?_;refine pA 20 23 (mL 26 1073151) HT_ rfl rfl ?_;refine tA 13 16 (mL 26 1081343) HT_ HW_ hHeld rfl rfl (by rintro w' ⟨s0,s1,s2⟩;go_simp;with_reducible rfl) ?_;refine tA 15 18 (mL 26 1114111) HT_ HW_ hHeld rfl rfl (by rintro w' ⟨s0,s1,s2⟩;go_simp;with_reducible rfl) ?_;refine tA 21 24 (mL 26 3211263) HT_ HW_ hHeld rfl rfl (by rintro w' ⟨s0,s1,s2⟩;go_simp;with_reducible rfl) ?_;refine one_ (i:=16) (N:=some 19) (mL 26 3276799) rfl rfl (bk_ HT_.out KR) (by decide) (fun K hK=>?_);refine goes_ Tryz.func71 KR rfl #[.slice o j.length p,.string m,.int .i64 6] (by rfl) rfl rfl TA ?_
   with_reducible refine(bU_.calls k _ _ j m 6 x _ ?side1 ?side2 A6.out).mono ?_
   (case side1=>exact CW ((Kd.af_ z.out HB.out)));(case side2=>exact A.out);rintro e af ⟨aa,rfl,U,hb⟩;refine⟨_,rfl,?_⟩;have y:=RL U;replace c:=KB c hb;replace HB:=BS hb;clear hb U;obtain⟨ab,ac,eo13⟩:=Kd.aF_ y.out;(first|subst eo13|(injection eo13 with f1_ f2_ f3_;have f4_:=f1_.symm;have f5_:=f3_.symm;clear f1_ f2_ f3_;subst f4_;subst f5_));have G:0≤(0:Int):=(by omega);have I:0<(x.length:Int):=TD;obtain⟨q,V,s,t,u,v⟩:=ah_ (Kd.ak_ y.out).2.2 0 G I;cases V;have qi608:(0<x.length)=True:=eq_true (by omega);(try rw[show((0:Int)).toNat=0 from rfl] at s);(try rw[show 0 * 4=0 from rfl] at s);(try rw[Addr.add_zero'] at s);(try rw[show((0:Int)).toNat=0 from rfl] at t);(try rw[show 0 * 4=0 from rfl] at t);(try rw[Addr.add_zero'] at t);(try rw[show((0:Int)).toNat=0 from rfl] at u);(try rw[show 0 * 4=0 from rfl] at u);(try rw[Addr.add_zero'] at u);(try rw[show((0:Int)).toNat=0 from rfl] at v);(try rw[show 0 * 4=0 from rfl] at v);(try rw[Addr.add_zero'] at v);replace G:=eq_true G;replace I:=eq_true I;refine hK.out _ _ ⟨bc 0 c,bc 1 c,bc 2 c⟩ (fun hHeld=>?_);clear hK K;refine nA ?_;refine more_ (fun w'=>w'.cell? ⟨g,0,none⟩=some (.string m)∧w'.cell? ⟨g,1,none⟩=some (.int .i64 l)∧w'.cell? ⟨g,2,none⟩=some (.slice o j.length p)∧w'.cell? q=some (.string ((a_ x 0).f0))∧w'.cell? ⟨q.block,q.off+1,none⟩=some (.int .i64 ((a_ x 0).f1))∧w'.cell? ⟨q.block,q.off+2,none⟩=some (.int .i64 ((a_ x 0).f2))∧w'.cell? ⟨q.block,q.off+3,none⟩=some (.string ((a_ x 0).f3))) (fun w' h=>⟨h.1,h.2.1,h.2.2.1⟩) ⟨bc 0 c,bc 1 c,bc 2 c,s,t,u,v⟩ (fun hHeld=>?_);refine pA 17 20 (mL 26 3407871) HT_ rfl rfl ?_;refine pA 18 21 (mL 26 3670015) HT_ rfl rfl ?_;refine tA 19 22 (mL 26 4194303) HT_ HW_ hHeld rfl rfl (by rintro w' ⟨s0,s1,s2,s3,s4,s5,s6⟩;go_simp;with_reducible rfl) ?_;refine one_ (i:=22) (N:=some 25) (mL 26 8388607) rfl rfl (bk_ HT_.out KR) (by decide) (fun K hK=>?_);refine goes_ Tryz.func72 KR rfl #[.int .i64 l] (by rfl) rfl rfl TA ?_
   with_reducible refine(cE_.calls l R _ ?side1 A8.out).mono ?_
   (case side1=>exact GW HGL);rintro e ag ⟨rfl,hb⟩;have HS3_:=(hb.cell (World.block_lt_of_cell? _ _ (hHeld.2.2.2.1))).trans (hHeld.2.2.2.1);have HS4_:=(hb.cell (World.block_lt_of_cell? _ _ (hHeld.2.2.2.2.1))).trans (hHeld.2.2.2.2.1);have HS5_:=(hb.cell (World.block_lt_of_cell? _ _ (hHeld.2.2.2.2.2.1))).trans (hHeld.2.2.2.2.2.1);have HS6_:=(hb.cell (World.block_lt_of_cell? _ _ (hHeld.2.2.2.2.2.2))).trans (hHeld.2.2.2.2.2.2);refine⟨_,rfl,?_⟩;replace y:=RB y hb;replace c:=KB c hb;replace HB:=BS hb;clear hb;refine hK.out _ _ ⟨bc 0 c,bc 1 c,bc 2 c,HS3_,HS4_,HS5_,HS6_⟩ (fun hHeld=>?_);clear hK K;refine nA ?_;refine pA 23 26 (mL 26 16777215) HT_ rfl rfl ?_;refine pA 24 27 (mL 26 33554431) HT_ rfl rfl ?_;refine pA 25 2 (mL 26 67108863) HT_ rfl rfl ?_;refine done_ (bJ_ HT_.out KR) ?_
   try go_wp2
   go_ret;exact⟨TE,TB⟩
  ·rw[if_neg c5] at H;have M:=beq_eq_false_iff_ne.mpr c5;have O:=bne_iff_ne.mpr c5;obtain rfl:=Option.some.inj H;go_enter Tryz.func36,Tryz.ntmps36
   try go_wp2_with (first|(refine gD 1 rfl ?_;refine bE 1 #[.string m,.int .i64 l,.slice o j.length p] 31 ?_;intro g hg W hbox hb;have c:=AM (hbox);have F:=bG hg;replace HB:=BS hb;clear hb hbox hg))
   replace c:=AM (ai_ c.out);replace HB:=AM (az_ HB.out);refine start_ (n:=26) (S:=fun w'=>w'.cell? ⟨g,0,none⟩=some (.string m)∧w'.cell? ⟨g,1,none⟩=some (.int .i64 l)∧w'.cell? ⟨g,2,none⟩=some (.slice o j.length p)) (ds:=[]) #[false,false,false,false,false,false,false,false,false,false,false,false,false,false,false,false,false,false,false,false,false,false,false,false,false,false] KR rfl rfl ⟨bc 0 c,bc 1 c,bc 2 c⟩ (fun hHeld=>?_);refine bl_ bx_.tab1 bx_.bits1 (fun HT_ HW_=>?_);generalize W.drew=ah at c HB hHeld ⊢;refine pA 0 3 (mL 26 1) HT_ rfl rfl ?_;refine tA 1 4 (mL 26 3) HT_ HW_ hHeld rfl rfl (by rintro w' ⟨s0,s1,s2⟩;go_simp;with_reducible rfl) ?_;refine one_ (i:=2) (N:=some 5) (mL 26 7) rfl rfl (bk_ HT_.out KR) (by decide) (fun K hK=>?_);refine goes_ Tryz.func69 KR rfl #[.int .i64 l] (by rfl) rfl rfl TA ?_
   with_reducible refine(cJ_.calls l true _ A2.out).mono ?_
   rintro e w' ⟨rfl,⟨nd,rfl⟩⟩;refine⟨_,rfl,?_⟩;refine hK.out _ _ ⟨bc 0 c,bc 1 c,bc 2 c⟩ (fun hHeld=>?_);clear hK K;refine nA ?_;refine pA 3 6 (mL 26 15) HT_ rfl rfl ?_;refine pA 4 7 (mL 26 31) HT_ rfl rfl ?_;refine pA 6 9 (mL 26 95) HT_ rfl rfl ?_;refine tA 5 8 (mL 26 127) HT_ HW_ hHeld rfl rfl (by rintro w' ⟨s0,s1,s2⟩;go_simp;with_reducible rfl) ?_;refine tA 7 10 (mL 26 255) HT_ HW_ hHeld rfl rfl (by rintro w' ⟨s0,s1,s2⟩;go_simp;with_reducible rfl) ?_;refine one_ (i:=8) (N:=some 11) (mL 26 511) rfl rfl (bk_ HT_.out KR) (by decide) (fun K hK=>?_);refine goes_ Tryz.func70 KR rfl #[.string m,.slice o j.length p] (by rfl) rfl rfl TA ?_
   with_reducible refine(bw_.calls k m _ _ j E _ ?side1 ?side2 ?side3 A4.out).mono ?_
   (case side1=>exact CW ((Kd.af_ z.out TB)));(case side2=>exact A.out);(case side3=>exact GW HGL);rintro e ai ⟨rfl,hb⟩;refine⟨_,rfl,?_⟩;replace c:=KB c hb;replace HB:=BS hb;clear hb;refine hK.out _ _ ⟨bc 0 c,bc 1 c,bc 2 c⟩ (fun hHeld=>?_);clear hK K;refine nA ?_;refine pA 9 12 (mL 26 1023) HT_ rfl rfl ?_;refine pA 10 13 (mL 26 2047) HT_ rfl rfl ?_;refine pA 11 14 (mL 26 4095) HT_ rfl rfl ?_;refine pU 12 15 (mL 26 8191) HT_ rfl rfl ?_;refine pU 13 16 (mL 26 16383) HT_ rfl rfl ?_;refine pU 14 17 (mL 26 32767) HT_ rfl rfl ?_;refine pU 15 18 (mL 26 65535) HT_ rfl rfl ?_;refine pU 16 19 (mL 26 131071) HT_ rfl rfl ?_;refine pU 17 20 (mL 26 262143) HT_ rfl rfl ?_;refine pU 18 21 (mL 26 524287) HT_ rfl rfl ?_;refine pU 19 22 (mL 26 1048575) HT_ rfl rfl ?_;refine pU 20 23 (mL 26 2097151) HT_ rfl rfl ?_;refine pU 21 24 (mL 26 4194303) HT_ rfl rfl ?_;refine pU 22 25 (mL 26 8388607) HT_ rfl rfl ?_;refine pU 23 26 (mL 26 16777215) HT_ rfl rfl ?_;refine pA 24 27 (mL 26 33554431) HT_ rfl rfl ?_;refine pA 25 2 (mL 26 67108863) HT_ rfl rfl ?_;refine done_ (bJ_ HT_.out KR) ?_
   try go_wp2
   go_ret;exact⟨TE,TB⟩
 ·replace c3:=Bool.eq_false_iff.mpr c3;subst c3;replace H:=iff' H;obtain rfl:=Option.some.inj H;go_enter Tryz.func36,Tryz.ntmps36
  try go_wp2_with (first|(refine gD 1 rfl ?_;refine bE 1 #[.string m,.int .i64 l,.slice o j.length p] 31 ?_;intro g hg X hbox hb;have c:=AM (hbox);have F:=bG hg;replace HB:=BS hb;clear hb hbox hg))
  replace c:=AM (ai_ c.out);replace HB:=AM (az_ HB.out);refine start_ (n:=26) (S:=fun w'=>w'.cell? ⟨g,0,none⟩=some (.string m)∧w'.cell? ⟨g,1,none⟩=some (.int .i64 l)∧w'.cell? ⟨g,2,none⟩=some (.slice o j.length p)) (ds:=[]) #[false,false,false,false,false,false,false,false,false,false,false,false,false,false,false,false,false,false,false,false,false,false,false,false,false,false] KR rfl rfl ⟨bc 0 c,bc 1 c,bc 2 c⟩ (fun hHeld=>?_);refine bl_ bx_.tab1 bx_.bits1 (fun HT_ HW_=>?_);generalize X.drew=aj at c HB hHeld ⊢;refine pA 0 3 (mL 26 1) HT_ rfl rfl ?_;refine tA 1 4 (mL 26 3) HT_ HW_ hHeld rfl rfl (by rintro w' ⟨s0,s1,s2⟩;go_simp;with_reducible rfl) ?_;refine one_ (i:=2) (N:=some 5) (mL 26 7) rfl rfl (bk_ HT_.out KR) (by decide) (fun K hK=>?_);refine goes_ Tryz.func69 KR rfl #[.int .i64 l] (by rfl) rfl rfl TA ?_
  with_reducible refine(cJ_.calls l false _ A2.out).mono ?_
  rintro e w' ⟨rfl,⟨nd,rfl⟩⟩;refine⟨_,rfl,?_⟩;refine hK.out _ _ ⟨bc 0 c,bc 1 c,bc 2 c⟩ (fun hHeld=>?_);clear hK K;refine nA ?_;refine pA 3 6 (mL 26 15) HT_ rfl rfl ?_;refine pU 4 7 (mL 26 31) HT_ rfl rfl ?_;refine pU 5 8 (mL 26 63) HT_ rfl rfl ?_;refine pU 6 9 (mL 26 127) HT_ rfl rfl ?_;refine pU 7 10 (mL 26 255) HT_ rfl rfl ?_;refine pU 8 11 (mL 26 511) HT_ rfl rfl ?_;refine pU 9 12 (mL 26 1023) HT_ rfl rfl ?_;refine pA 10 13 (mL 26 2047) HT_ rfl rfl ?_;refine pA 11 14 (mL 26 4095) HT_ rfl rfl ?_;refine pU 12 15 (mL 26 8191) HT_ rfl rfl ?_;refine pU 13 16 (mL 26 16383) HT_ rfl rfl ?_;refine pU 14 17 (mL 26 32767) HT_ rfl rfl ?_;refine pU 15 18 (mL 26 65535) HT_ rfl rfl ?_;refine pU 16 19 (mL 26 131071) HT_ rfl rfl ?_;refine pU 17 20 (mL 26 262143) HT_ rfl rfl ?_;refine pU 18 21 (mL 26 524287) HT_ rfl rfl ?_;refine pU 19 22 (mL 26 1048575) HT_ rfl rfl ?_;refine pU 20 23 (mL 26 2097151) HT_ rfl rfl ?_;refine pU 21 24 (mL 26 4194303) HT_ rfl rfl ?_;refine pU 22 25 (mL 26 8388607) HT_ rfl rfl ?_;refine pU 23 26 (mL 26 16777215) HT_ rfl rfl ?_;refine pA 24 27 (mL 26 33554431) HT_ rfl rfl ?_;refine pA 25 2 (mL 26 67108863) HT_ rfl rfl ?_;refine done_ (bJ_ HT_.out KR) ?_
  try go_wp2
  go_ret;exact⟨TE,TB⟩
end
section
def cB_.f (k:Nat) (a0_0:Int) (a0_1:ByteArray) (a0_2:Int) (a0_3:Int) (a0_4:ByteArray):Option (Bool):=(bL_.f a0_0 1 4).bind fun t611=>(if t611=true then((b7_.f k a0_1 a0_2 a0_3 a0_4).bind fun t612=>(if t612=true then(some (a0_2==6)) else(some true))) else(some true))
theorem cB_.calls (k:Nat) (g:Int) (j:ByteArray) (i:Int) (l:Int) (m:ByteArray) (r:Bool) (w:World) (hG_:Glob w) (h:cB_.f k g j i l m=some r) :
  Calls Tryz.prog 114 #[.agg #[.int .i64 g,.string j,.int .i64 i,.int .i64 l,.string m]] w fun e w'=>e=.returned (.bool r)∧Below w.heap.size w w':=by
 have hu82:=Tryz.underlying82;have hu69:=Tryz.underlying69;have HGL:=AM hG_;clear hG_;have HB:=AM (Below.refl w.heap.size w);have H:((bL_.f g 1 4).bind fun n=>(if n=true then((b7_.f k j i l m).bind fun o=>(if o=true then(some (i==6)) else(some true))) else(some true)))=some r:=h;clear h;obtain⟨n,A2,H⟩:=bnd H;by_cases c3:n=true
 ·subst c3;replace H:=ift H;obtain⟨o,A4,H⟩:=bnd H;by_cases c5:o=true
  ·subst c5;replace H:=ift H;obtain rfl:=Option.some.inj H;go_enter Tryz.func114,Tryz.ntmps114;go_wp2_with (first|((with_reducible refine ag_ (N:=1) rfl ?_);refine bE 1 #[.int .i64 g,.string j,.int .i64 i,.int .i64 l,.string m] 82 ?_;intro p hg w6 hbox hb;have c:=AM (hbox);have q:=bG hg;replace HB:=BS hb;clear hb hbox hg;have u:=cz5 c)|((with_reducible refine aH_ (f:=98) rfl ?_);refine goesL_ (some 5) rfl rfl Tryz.func98 KR rfl #[.int .i64 g,.int .i64 1,.int .i64 4] rfl TA ?_;(with_reducible refine(bL_.calls g 1 4 true _ A2.out).mono ?_);rintro e w' ⟨rfl,⟨nd,rfl⟩⟩;refine⟨_,rfl,?_⟩)|(go_at_call 115;(with_reducible refine(b7_.calls k j i l m true _ ?side1 A4.out).mono ?_);(case side1=>exact GW HGL);rintro e w8 ⟨rfl,hb⟩;replace c:=KB c hb;replace HB:=BS hb;clear hb;have v:=cz5 c));go_ret;exact⟨TE,TB⟩
  ·replace c5:=Bool.eq_false_iff.mpr c5;subst c5;replace H:=iff' H;obtain rfl:=Option.some.inj H;go_enter Tryz.func114,Tryz.ntmps114;go_wp2_with (first|((with_reducible refine ag_ (N:=1) rfl ?_);refine bE 1 #[.int .i64 g,.string j,.int .i64 i,.int .i64 l,.string m] 82 ?_;intro p hg x hbox hb;have c:=AM (hbox);have q:=bG hg;replace HB:=BS hb;clear hb hbox hg;have s:=cz5 c)|((with_reducible refine aH_ (f:=98) rfl ?_);refine goesL_ (some 5) rfl rfl Tryz.func98 KR rfl #[.int .i64 g,.int .i64 1,.int .i64 4] rfl TA ?_;(with_reducible refine(bL_.calls g 1 4 true _ A2.out).mono ?_);rintro e w' ⟨rfl,⟨nd,rfl⟩⟩;refine⟨_,rfl,?_⟩)|(go_at_call 115;(with_reducible refine(b7_.calls k j i l m false _ ?side1 A4.out).mono ?_);(case side1=>exact GW HGL);rintro e y ⟨rfl,hb⟩;replace c:=KB c hb;replace HB:=BS hb;clear hb));go_ret;exact⟨TE,TB⟩
 ·replace c3:=Bool.eq_false_iff.mpr c3;subst c3;replace H:=iff' H;obtain rfl:=Option.some.inj H;go_enter Tryz.func114,Tryz.ntmps114;go_wp2_with (first|((with_reducible refine ag_ (N:=1) rfl ?_);refine bE 1 #[.int .i64 g,.string j,.int .i64 i,.int .i64 l,.string m] 82 ?_;intro p hg z hbox hb;have c:=AM (hbox);have q:=bG hg;replace HB:=BS hb;clear hb hbox hg;have t:=cz5 c)|((with_reducible refine aH_ (f:=98) rfl ?_);refine goesL_ (some 5) rfl rfl Tryz.func98 KR rfl #[.int .i64 g,.int .i64 1,.int .i64 4] rfl TA ?_;(with_reducible refine(bL_.calls g 1 4 false _ A2.out).mono ?_);rintro e w' ⟨rfl,⟨nd,rfl⟩⟩;refine⟨_,rfl,?_⟩));go_ret;exact⟨TE,TB⟩
end
section
def al_.l0:Nat→List (aj_)→Int→Int→Option (Int)
 | 0,_,_,_=>none
 | k+1,x0,x7,x8=>if x8<x7 then(if 0≤x8 then(if x8<(x0.length:Int) then((cB_.f k ((aa_ x0 x8).f0) ((aa_ x0 x8).f1.f0) ((aa_ x0 x8).f1.f1) ((aa_ x0 x8).f1.f2) ((aa_ x0 x8).f1.f3)).bind fun c=>(if c=true then(some x8) else(al_.l0 k x0 x7 (wrap64 (x8+1))))) else(none)) else(none)) else(some (-1))
def al_.f (k:Nat) (l0:List (aj_))  : Option (Int):=al_.l0 k l0 (l0.length:Int) 0
theorem al_.calls (k:Nat) (A0:Option Addr) (c0:Nat) (l0:List (aj_))  (r:Int) (w:World) (s:Kd.C a5_ w A0 l0.length l0) (t:l0.length≤c0) (hG_:Glob w) (h:al_.f k l0=some r) :
  Calls Tryz.prog 116 #[.slice A0 l0.length c0,.func (.func 114) #[] #[]] w fun e w'=>e=.returned (.int .i64 r)∧Below w.heap.size w w':=by
 have hu82:=Tryz.underlying82;have u:=AM s;have A:=AM t;clear s t;have HGL:=AM hG_;clear hG_;have HB:=AM (Below.refl w.heap.size w);have H:(al_.l0 k l0 (l0.length:Int) 0)=some r:=h;clear h;have H':=AM H;clear H;go_enter Tryz.func116,Tryz.ntmps116;go_wp2;go_loopg [8] k (fun kq v8 w'=>∃(c:Int),v8=.int .i64 c∧Aside0 (al_.l0 kq l0 (l0.length:Int) c=some r)∧Aside0 (kq≤k)∧Aside0 (Below w.heap.size w w'))
 case atStart=>exact⟨(0),TF,H',⟨Nat.le_refl _⟩,⟨TB⟩⟩
 case round =>
  clear H';obtain⟨c,rfl,HA,HK1,HB⟩:=hrel
  cases gk with
  | zero=>exact absurd HA.out (by simp[al_.l0])
  | succ k1 =>
   have H:=HA.out;clear HA;simp only[al_.l0] at H;by_cases c3:c<(l0.length:Int)
   ·rw[if_pos c3] at H;have v:=decide_eq_true c3;clear c3;obtain⟨c4,H⟩:=ifn H;have y:=decide_eq_true c4;clear c4;obtain⟨c5,H⟩:=ifn H;have z:=decide_eq_true c5;clear c5;obtain⟨x,A6,H⟩:=bnd H;by_cases c7:x=true
    ·subst c7;replace H:=ift H;obtain rfl:=Option.some.inj H;have g:0≤(c:Int):=TD;have i:c<(l0.length:Int):=TD;obtain⟨q,j,l,m,n,o,p⟩:=b4_ (Kd.af_ u.out HB.out) c g i;cases j;replace g:=eq_true g;replace i:=eq_true i;go_wp2_with (first|(go_at_call 114;(with_reducible refine(cB_.calls k1 ((aa_ l0 c).f0) ((aa_ l0 c).f1.f0) ((aa_ l0 c).f1.f1) ((aa_ l0 c).f1.f2) ((aa_ l0 c).f1.f3) true _ ?side1 A6.out).mono ?_);(case side1=>exact GW HGL);rintro e w8 ⟨rfl,hb⟩;replace HB:=BS hb;clear hb));go_ret;exact⟨TE,TB⟩
    ·replace c7:=Bool.eq_false_iff.mpr c7;subst c7;replace H:=iff' H;have H':=AM H;clear H;have g:0≤(c:Int):=TD;have i:c<(l0.length:Int):=TD;obtain⟨q,j,l,m,n,o,p⟩:=b4_ (Kd.af_ u.out HB.out) c g i;cases j;replace g:=eq_true g;replace i:=eq_true i;go_wp2_with (first|(go_at_call 114;(with_reducible refine(cB_.calls k1 ((aa_ l0 c).f0) ((aa_ l0 c).f1.f0) ((aa_ l0 c).f1.f1) ((aa_ l0 c).f1.f2) ((aa_ l0 c).f1.f3) false _ ?side1 A6.out).mono ?_);(case side1=>exact GW HGL);rintro e w9 ⟨rfl,hb⟩;replace HB:=BS hb;clear hb));go_roundg k1
     case measure=>have:=HK1.out;omega
     case rel=>exact⟨(wrap64 (c+1)),TF,H',⟨TM⟩,⟨TB⟩⟩
   ·rw[if_neg c3] at H;have v:=decide_eq_false c3;clear c3;obtain rfl:=Option.some.inj H;go_wp2;go_ret;exact⟨TE,TB⟩
end
section
def aL_.f (k:Nat) (l0:List (aj_))  : Option (Bool):=(al_.f k l0).bind fun t615=>(some (decide (t615≥0)))
theorem aL_.calls (k:Nat) (A0:Option Addr) (c0:Nat) (l0:List (aj_))  (r:Bool) (w:World) (g:Kd.C a5_ w A0 l0.length l0) (i:l0.length≤c0) (hG_:Glob w) (h:aL_.f k l0=some r) :
  Calls Tryz.prog 86 #[.slice A0 l0.length c0,.func (.func 114) #[] #[]] w fun e w'=>e=.returned (.bool r)∧Below w.heap.size w w':=by
 have j:=AM g;have l:=AM i;clear g i;have HGL:=AM hG_;clear hG_;have HB:=AM (Below.refl w.heap.size w);have H:((al_.f k l0).bind fun c=>(some (decide (c≥0))))=some r:=h;clear h;obtain⟨c,A3,H⟩:=bnd H;obtain rfl:=Option.some.inj H;go_enter Tryz.func86,Tryz.ntmps86;go_wp2_with (first|((with_reducible refine aH_ (f:=116) rfl ?_);refine goesL_ (some 7) rfl rfl Tryz.func116 KR rfl #[.slice A0 l0.length c0,.func (.func 114) #[] #[]] rfl TA ?_;(with_reducible refine(al_.calls k _ _ l0  c _ ?side1 ?side2 ?side3 A3.out).mono ?_);(case side1=>exact CW (j.out));(case side2=>exact l.out);(case side3=>exact GW HGL);rintro e w4 ⟨rfl,hb⟩;refine⟨_,rfl,?_⟩;replace HB:=BS hb;clear hb));go_ret;exact⟨TE,TB⟩
end
section
def cO_.f (k:Nat) (l0:List (aj_)):Option (Bool):=if (l0.length:Int)≤12 then((aL_.f k l0).bind fun t616=>(some (!t616))) else(some false)
theorem cO_.calls (k:Nat) (A0:Option Addr) (c0:Nat) (l0:List (aj_)) (r:Bool) (w:World) (g:Kd.C a5_ w A0 l0.length l0) (i:l0.length≤c0) (hG_:Glob w) (h:cO_.f k l0=some r) :
  Calls Tryz.prog 85 #[.slice A0 l0.length c0] w fun e w'=>e=.returned (.bool r)∧Below w.heap.size w w':=by
 have m:=AM g;have n:=AM i;clear g i;have HGL:=AM hG_;clear hG_;have HB:=AM (Below.refl w.heap.size w);have H:(if (l0.length:Int)≤12 then((aL_.f k l0).bind fun c=>(some (!c))) else(some false))=some r:=h;clear h;by_cases c2:(l0.length:Int)≤12
 ·rw[if_pos c2] at H;have j:=decide_eq_true c2;have l:decide (l0.length≤12)=true:=decide_eq_true (by omega);clear c2;obtain⟨c,A3,H⟩:=bnd H;obtain rfl:=Option.some.inj H;go_enter Tryz.func85,Tryz.ntmps85;go_wp2_with (first|(go_at_call 86;(with_reducible refine(aL_.calls k _ _ l0  c _ ?side1 ?side2 ?side3 A3.out).mono ?_);(case side1=>exact CW (m.out));(case side2=>exact n.out);(case side3=>exact GW HGL);rintro e w4 ⟨rfl,hb⟩;replace HB:=BS hb;clear hb));go_ret;exact⟨TE,TB⟩
 ·rw[if_neg c2] at H;have j:=decide_eq_false c2;have l:decide (l0.length≤12)=false:=decide_eq_false (by omega);clear c2;obtain rfl:=Option.some.inj H;go_enter Tryz.func85,Tryz.ntmps85;go_wp2;go_ret;exact⟨TE,TB⟩
end
section
def impl_misses.f (k:Nat) (l:ByteArray) (m:Int) (h:List (ab_)) (c:Int) (i:ByteArray) (j:Int) (n:Int) (o:ByteArray):Option (Bool):=(bU_.f k h i j).bind fun g=>(if c=3 then(if ((g.length:Int) > 0) then(if c=4 then(some (decide ((g.length:Int) > 0))) else(some false)) else(some true)) else(if c=4 then(some (decide ((g.length:Int) > 0))) else(some false)))
theorem impl_misses.calls (k:Nat) (v:ByteArray) (x:Int) (q:Option Addr) (s:Nat) (j:List (ab_)) (n:Int) (l:ByteArray) (m:Int) (y:Int) (z:ByteArray) (r:Bool) (w:World) (K:Kd.C ae_ w q j.length j) (M:j.length≤s) (h:impl_misses.f k v x j n l m y z=some r) :
  Calls Tryz.prog 88 #[.agg #[.string v,.int .i64 x,.slice q j.length s],.agg #[.int .i64 n,.string l,.int .i64 m,.int .i64 y,.string z]] w fun e w'=>e=.returned (.bool r)∧Below w.heap.size w w':=by
 have hu31:=Tryz.underlying31;have hu82:=Tryz.underlying82;have A:=AM K;have B:=AM M;clear K M;have HB:=AM (Below.refl w.heap.size w);have H:((bU_.f k j l m).bind fun t=>(if n=3 then(if ((t.length:Int) > 0) then(if n=4 then(some (decide ((t.length:Int) > 0))) else(some false)) else(some true)) else(if n=4 then(some (decide ((t.length:Int) > 0))) else(some false))))=some r:=h;clear h;obtain⟨t,A3,H⟩:=bnd H;by_cases c4:n=3
 ·rw[if_pos c4] at H;have U:=beq_iff_eq.mpr c4;have V:=bne_eq_false_iff_eq.mpr c4;clear c4;by_cases c5:((t.length:Int) > 0)
  ·rw[if_pos c5] at H;have W:=decide_eq_true c5;have X:decide (0<t.length)=true:=decide_eq_true (by omega);clear c5;by_cases c6:n=4
   ·rw[if_pos c6] at H;have Y:=beq_iff_eq.mpr c6;have Z:=bne_eq_false_iff_eq.mpr c6;clear c6;obtain rfl:=Option.some.inj H;go_enter Tryz.func88,Tryz.ntmps88;go_wp2_with (first|((with_reducible refine ag_ (N:=2) rfl ?_);refine bE 2 #[.string v,.int .i64 x,.slice q j.length s] 31 ?_;intro D hg w7 hbox hb;have c:=AM (hbox);have E:=bG hg;replace HB:=BS hb;clear hb hbox hg)|((with_reducible refine ag_ (N:=3) rfl ?_);refine bE 3 #[.int .i64 n,.string l,.int .i64 m,.int .i64 y,.string z] 82 ?_;intro F hg w8 hbox hb;have g:=AM (hbox);have G:=bG hg;replace HB:=BS hb;have i:=bN c hg;have o:=bM c hg;replace c:=KB c hb;clear hb hbox hg;obtain⟨az,aA⟩:=nn i;have aa:=cz3 c;have ab:=cz5 g)|((with_reducible refine aH_ (f:=71) rfl ?_);refine goesL_ (some 14) rfl rfl Tryz.func71 KR rfl #[.slice q j.length s,.string l,.int .i64 m] rfl TA ?_;(with_reducible refine(bU_.calls k _ _ j l m t _ ?side1 ?side2 A3.out).mono ?_);(case side1=>exact CW ((Kd.af_ A.out HB.out)));(case side2=>exact B.out);rintro e aL ⟨J,rfl,u,hb⟩;refine⟨_,rfl,?_⟩;have p:=RL u;replace c:=KB c hb;replace g:=KB g hb;replace HB:=BS hb;clear hb;(try clear u);obtain⟨aB,aC,eo13⟩:=Kd.aF_ p.out;subst eo13;have ac:=cz5 g));go_ret;exact⟨TE,TB⟩
   ·rw[if_neg c6] at H;have Y:=beq_eq_false_iff_ne.mpr c6;have Z:=bne_iff_ne.mpr c6;obtain rfl:=Option.some.inj H;go_enter Tryz.func88,Tryz.ntmps88;go_wp2_with (first|((with_reducible refine ag_ (N:=2) rfl ?_);refine bE 2 #[.string v,.int .i64 x,.slice q j.length s] 31 ?_;intro D hg aM hbox hb;have c:=AM (hbox);have E:=bG hg;replace HB:=BS hb;clear hb hbox hg)|((with_reducible refine ag_ (N:=3) rfl ?_);refine bE 3 #[.int .i64 n,.string l,.int .i64 m,.int .i64 y,.string z] 82 ?_;intro F hg aN hbox hb;have g:=AM (hbox);have G:=bG hg;replace HB:=BS hb;have i:=bN c hg;have o:=bM c hg;replace c:=KB c hb;clear hb hbox hg;obtain⟨ad,ae⟩:=nn i;have af:=cz3 c;have ag:=cz5 g)|((with_reducible refine aH_ (f:=71) rfl ?_);refine goesL_ (some 14) rfl rfl Tryz.func71 KR rfl #[.slice q j.length s,.string l,.int .i64 m] rfl TA ?_;(with_reducible refine(bU_.calls k _ _ j l m t _ ?side1 ?side2 A3.out).mono ?_);(case side1=>exact CW ((Kd.af_ A.out HB.out)));(case side2=>exact B.out);rintro e aO ⟨J,rfl,u,hb⟩;refine⟨_,rfl,?_⟩;have p:=RL u;replace c:=KB c hb;replace g:=KB g hb;replace HB:=BS hb;clear hb;(try clear u);obtain⟨aD,aE,eo21⟩:=Kd.aF_ p.out;subst eo21;have ah:=cz5 g));go_ret;exact⟨TE,TB⟩
  ·rw[if_neg c5] at H;have W:=decide_eq_false c5;have X:decide (0<t.length)=false:=decide_eq_false (by omega);clear c5;obtain rfl:=Option.some.inj H;go_enter Tryz.func88,Tryz.ntmps88;go_wp2_with (first|((with_reducible refine ag_ (N:=2) rfl ?_);refine bE 2 #[.string v,.int .i64 x,.slice q j.length s] 31 ?_;intro D hg aP hbox hb;have c:=AM (hbox);have E:=bG hg;replace HB:=BS hb;clear hb hbox hg)|((with_reducible refine ag_ (N:=3) rfl ?_);refine bE 3 #[.int .i64 n,.string l,.int .i64 m,.int .i64 y,.string z] 82 ?_;intro F hg aQ hbox hb;have g:=AM (hbox);have G:=bG hg;replace HB:=BS hb;have i:=bN c hg;have o:=bM c hg;replace c:=KB c hb;clear hb hbox hg;obtain⟨ai,aj⟩:=nn i;have ak:=cz3 c;have al:=cz5 g)|((with_reducible refine aH_ (f:=71) rfl ?_);refine goesL_ (some 14) rfl rfl Tryz.func71 KR rfl #[.slice q j.length s,.string l,.int .i64 m] rfl TA ?_;(with_reducible refine(bU_.calls k _ _ j l m t _ ?side1 ?side2 A3.out).mono ?_);(case side1=>exact CW ((Kd.af_ A.out HB.out)));(case side2=>exact B.out);rintro e aR ⟨J,rfl,u,hb⟩;refine⟨_,rfl,?_⟩;have p:=RL u;replace c:=KB c hb;replace g:=KB g hb;replace HB:=BS hb;clear hb;(try clear u);obtain⟨aF,aG,eo29⟩:=Kd.aF_ p.out;subst eo29;have am:=cz5 g));go_ret;exact⟨TE,TB⟩
 ·rw[if_neg c4] at H;have U:=beq_eq_false_iff_ne.mpr c4;have V:=bne_iff_ne.mpr c4;by_cases I:n=4
  ·rw[if_pos I] at H;have O:=beq_iff_eq.mpr I;have R:=bne_eq_false_iff_eq.mpr I;clear I;obtain rfl:=Option.some.inj H;go_enter Tryz.func88,Tryz.ntmps88;go_wp2_with (first|((with_reducible refine ag_ (N:=2) rfl ?_);refine bE 2 #[.string v,.int .i64 x,.slice q j.length s] 31 ?_;intro D hg aS hbox hb;have c:=AM (hbox);have E:=bG hg;replace HB:=BS hb;clear hb hbox hg)|((with_reducible refine ag_ (N:=3) rfl ?_);refine bE 3 #[.int .i64 n,.string l,.int .i64 m,.int .i64 y,.string z] 82 ?_;intro F hg aT hbox hb;have g:=AM (hbox);have G:=bG hg;replace HB:=BS hb;have i:=bN c hg;have o:=bM c hg;replace c:=KB c hb;clear hb hbox hg;obtain⟨an,ao⟩:=nn i;have ap:=cz3 c;have aq:=cz5 g)|((with_reducible refine aH_ (f:=71) rfl ?_);refine goesL_ (some 14) rfl rfl Tryz.func71 KR rfl #[.slice q j.length s,.string l,.int .i64 m] rfl TA ?_;(with_reducible refine(bU_.calls k _ _ j l m t _ ?side1 ?side2 A3.out).mono ?_);(case side1=>exact CW ((Kd.af_ A.out HB.out)));(case side2=>exact B.out);rintro e aU ⟨J,rfl,u,hb⟩;refine⟨_,rfl,?_⟩;have p:=RL u;replace c:=KB c hb;replace g:=KB g hb;replace HB:=BS hb;clear hb;(try clear u);obtain⟨aH,aI,eo38⟩:=Kd.aF_ p.out;subst eo38;have ar:=cz5 g));go_ret;exact⟨TE,TB⟩
  ·rw[if_neg I] at H;have O:=beq_eq_false_iff_ne.mpr I;have R:=bne_iff_ne.mpr I;obtain rfl:=Option.some.inj H;go_enter Tryz.func88,Tryz.ntmps88;go_wp2_with (first|((with_reducible refine ag_ (N:=2) rfl ?_);refine bE 2 #[.string v,.int .i64 x,.slice q j.length s] 31 ?_;intro D hg aV hbox hb;have c:=AM (hbox);have E:=bG hg;replace HB:=BS hb;clear hb hbox hg)|((with_reducible refine ag_ (N:=3) rfl ?_);refine bE 3 #[.int .i64 n,.string l,.int .i64 m,.int .i64 y,.string z] 82 ?_;intro F hg aW hbox hb;have g:=AM (hbox);have G:=bG hg;replace HB:=BS hb;have i:=bN c hg;have o:=bM c hg;replace c:=KB c hb;clear hb hbox hg;obtain⟨au,av⟩:=nn i;have aw:=cz3 c;have ax:=cz5 g)|((with_reducible refine aH_ (f:=71) rfl ?_);refine goesL_ (some 14) rfl rfl Tryz.func71 KR rfl #[.slice q j.length s,.string l,.int .i64 m] rfl TA ?_;(with_reducible refine(bU_.calls k _ _ j l m t _ ?side1 ?side2 A3.out).mono ?_);(case side1=>exact CW ((Kd.af_ A.out HB.out)));(case side2=>exact B.out);rintro e aX ⟨J,rfl,u,hb⟩;refine⟨_,rfl,?_⟩;have p:=RL u;replace c:=KB c hb;replace g:=KB g hb;replace HB:=BS hb;clear hb;(try clear u);obtain⟨aJ,aK,eo46⟩:=Kd.aF_ p.out;subst eo46;have ay:=cz5 g));go_ret;exact⟨TE,TB⟩
end
section
def impl_apply_1.f (k:Nat) (a0_0:Int) (a0_1:ByteArray) (a0_2:Int) (a0_3:Int) (a0_4:ByteArray) (a1_0:ByteArray) (a1_1:Int) (l1_2:List (ab_)):Option (Bool):=(impl_misses.f k a1_0 a1_1 l1_2 a0_0 a0_1 a0_2 a0_3 a0_4).bind fun t623=>(some t623)
theorem impl_apply_1.calls (k:Nat) (g:Int) (i:ByteArray) (j:Int) (l:Int) (m:ByteArray) (g1_:Nat) (n:ByteArray) (o:Int) (q:Option Addr) (s:Nat) (c:List (ab_)) (r:Bool) (w:World) (t:Kd.C ae_ w q c.length c) (u:c.length≤s) (hkg1_:w.heap[g1_]? = some (.cells #[.string n,.int .i64 o,.slice q c.length s] 31 (0,0))) (h:impl_apply_1.f k g i j l m n o c=some r) :
  Calls Tryz.prog 87 #[.agg #[.int .i64 g,.string i,.int .i64 j,.int .i64 l,.string m],.pointer (some ⟨g1_,0,none⟩)] w fun e w'=>e=.returned (.bool r)∧Below w.heap.size w w':=by
 have hu82:=Tryz.underlying82;have hu31:=Tryz.underlying31;have y:=AM t;have z:=AM u;clear t u;have BKrg1_:=AM hkg1_;clear hkg1_;have HB:=AM (Below.refl w.heap.size w);have H:((impl_misses.f k n o c g i j l m).bind fun v=>(some v))=some r:=h;clear h;obtain⟨v,A3,H⟩:=bnd H;obtain rfl:=Option.some.inj H;go_enter Tryz.func87,Tryz.ntmps87;go_wp2_with (first|((with_reducible refine ag_ (N:=2) rfl ?_);refine bE 2 #[.int .i64 g,.string i,.int .i64 j,.int .i64 l,.string m] 82 ?_;intro B hg w4 hbox hb;have p:=AM (hbox);have D:=bG hg;replace HB:=BS hb;have x:=bN BKrg1_ hg;have A:=bM BKrg1_ hg;replace BKrg1_:=KB BKrg1_ hb;clear hb hbox hg;obtain⟨E,F⟩:=nn x;have G:=cz3 BKrg1_;have I:=cz5 p)|((with_reducible refine aH_ (f:=88) rfl ?_);refine goesL_ (some 6) rfl rfl Tryz.func88 KR rfl #[.agg #[.string n,.int .i64 o,.slice q c.length s],.agg #[.int .i64 g,.string i,.int .i64 j,.int .i64 l,.string m]] rfl TA ?_;(with_reducible refine(impl_misses.calls k n o _ _ c g i j l m v _ ?side1 ?side2 A3.out).mono ?_);(case side1=>exact CW ((Kd.af_ y.out HB.out)));(case side2=>exact z.out);rintro e w8 ⟨rfl,hb⟩;refine⟨_,rfl,?_⟩;replace BKrg1_:=KB BKrg1_ hb;replace p:=KB p hb;replace HB:=BS hb;clear hb));go_ret;exact⟨TE,TB⟩
end
section
def aq_.l0:Nat→List (aj_)→Int→Int→ByteArray→Int→List (ab_)→Option (Int)
 | 0,_,_,_,_,_,_=>none
 | k+1,x0,x7,x8,c,g,h=>if x8<x7 then(if 0≤x8 then(if x8<(x0.length:Int) then((impl_apply_1.f k ((aa_ x0 x8).f0) ((aa_ x0 x8).f1.f0) ((aa_ x0 x8).f1.f1) ((aa_ x0 x8).f1.f2) ((aa_ x0 x8).f1.f3) c g h).bind fun i=>(if i=true then(some x8) else(aq_.l0 k x0 x7 (wrap64 (x8+1)) c g h))) else(none)) else(none)) else(some (-1))
def aq_.f (k:Nat) (l0:List (aj_)) (a1_0:ByteArray) (a1_1:Int) (l1_2:List (ab_)):Option (Int):=aq_.l0 k l0 (l0.length:Int) 0 a1_0 a1_1 l1_2
theorem aq_.calls (k:Nat) (A0:Option Addr) (c0:Nat) (l0:List (aj_)) (g1_0_:Nat) (i:ByteArray) (j:Int) (n:Option Addr) (o:Nat) (g:List (ab_)) (r:Int) (w:World) (D:Kd.C a5_ w A0 l0.length l0) (E:l0.length≤c0) (p:Kd.C ae_ w n g.length g) (q:g.length≤o) (hkg1_0_:w.heap[g1_0_]? = some (.cells #[.string i,.int .i64 j,.slice n g.length o] 31 (0,0))) (h:aq_.f k l0 i j g=some r) :
  Calls Tryz.prog 116 #[.slice A0 l0.length c0,.func (.func 87) #[] #[.pointer (some ⟨g1_0_,0,none⟩)]] w fun e w'=>e=.returned (.int .i64 r)∧Below w.heap.size w w':=by
 have hu82:=Tryz.underlying82;have F:=AM D;have M:=AM E;clear D E;have s:=AM p;have t:=AM q;clear p q;have BKrg1_0_:=AM hkg1_0_;clear hkg1_0_;have HB:=AM (Below.refl w.heap.size w);have H:(aq_.l0 k l0 (l0.length:Int) 0 i j g)=some r:=h;clear h;have H':=AM H;clear H;go_enter Tryz.func116,Tryz.ntmps116;go_wp2;go_loopg [8] k (fun kq v8 w'=>∃(c:Int),v8=.int .i64 c∧Aside0 (aq_.l0 kq l0 (l0.length:Int) c i j g=some r)∧Aside0 (kq≤k)∧Aside0 (w'.heap[g1_0_]? = some (.cells #[.string i,.int .i64 j,(.slice n g.length o)] 31 (0,0)))∧Aside0 (Below w.heap.size w w'))
 case atStart=>exact⟨(0),TF,H',⟨Nat.le_refl _⟩,KW BKrg1_0_,⟨TB⟩⟩
 case round =>
  clear H';obtain⟨c,rfl,HA,HK1,BKrg1_0_,HB⟩:=hrel
  cases gk with
  | zero=>exact absurd HA.out (by simp[aq_.l0])
  | succ k1 =>
   have H:=HA.out;clear HA;simp only[aq_.l0] at H;by_cases c3:c<(l0.length:Int)
   ·rw[if_pos c3] at H;have G:=decide_eq_true c3;clear c3;obtain⟨c4,H⟩:=ifn H;have J:=decide_eq_true c4;clear c4;obtain⟨c5,H⟩:=ifn H;have K:=decide_eq_true c5;clear c5;obtain⟨I,A6,H⟩:=bnd H;by_cases c7:I=true
    ·subst c7;replace H:=ift H;obtain rfl:=Option.some.inj H;have l:0≤(c:Int):=TD;have m:c<(l0.length:Int):=TD;obtain⟨B,u,v,x,y,z,A⟩:=b4_ (Kd.af_ F.out HB.out) c l m;cases u;replace l:=eq_true l;replace m:=eq_true m;go_wp2_with (first|(go_at_call 87;(with_reducible refine(impl_apply_1.calls k1 ((aa_ l0 c).f0) ((aa_ l0 c).f1.f0) ((aa_ l0 c).f1.f1) ((aa_ l0 c).f1.f2) ((aa_ l0 c).f1.f3) g1_0_ i j n o g true _ ?side1 ?side2 ?side3 A6.out).mono ?_);(case side1=>exact CW ((Kd.af_ s.out HB.out)));(case side2=>exact t.out);(case side3=>exact(KW BKrg1_0_).out);rintro e w8 ⟨rfl,hb⟩;replace BKrg1_0_:=KB BKrg1_0_ hb;replace HB:=BS hb;clear hb));go_ret;exact⟨TE,TB⟩
    ·replace c7:=Bool.eq_false_iff.mpr c7;subst c7;replace H:=iff' H;have H':=AM H;clear H;have l:0≤(c:Int):=TD;have m:c<(l0.length:Int):=TD;obtain⟨B,u,v,x,y,z,A⟩:=b4_ (Kd.af_ F.out HB.out) c l m;cases u;replace l:=eq_true l;replace m:=eq_true m;go_wp2_with (first|(go_at_call 87;(with_reducible refine(impl_apply_1.calls k1 ((aa_ l0 c).f0) ((aa_ l0 c).f1.f0) ((aa_ l0 c).f1.f1) ((aa_ l0 c).f1.f2) ((aa_ l0 c).f1.f3) g1_0_ i j n o g false _ ?side1 ?side2 ?side3 A6.out).mono ?_);(case side1=>exact CW ((Kd.af_ s.out HB.out)));(case side2=>exact t.out);(case side3=>exact(KW BKrg1_0_).out);rintro e w9 ⟨rfl,hb⟩;replace BKrg1_0_:=KB BKrg1_0_ hb;replace HB:=BS hb;clear hb));go_roundg k1
     case measure=>have:=HK1.out;omega
     case rel=>exact⟨(wrap64 (c+1)),TF,H',⟨TM⟩,KW BKrg1_0_,⟨TB⟩⟩
   ·rw[if_neg c3] at H;have G:=decide_eq_false c3;clear c3;obtain rfl:=Option.some.inj H;go_wp2;go_ret;exact⟨TE,TB⟩
end
section
def aT_.f (k:Nat) (l0:List (aj_)) (a1_0:ByteArray) (a1_1:Int) (l1_2:List (ab_)):Option (Bool):=(aq_.f k l0 a1_0 a1_1 l1_2).bind fun t626=>(some (decide (t626≥0)))
theorem aT_.calls (k:Nat) (A0:Option Addr) (c0:Nat) (l0:List (aj_)) (g1_0_:Nat) (g:ByteArray) (i:Int) (j:Option Addr) (l:Nat) (c:List (ab_)) (r:Bool) (w:World) (s:Kd.C a5_ w A0 l0.length l0) (t:l0.length≤c0) (m:Kd.C ae_ w j c.length c) (n:c.length≤l) (hkg1_0_:w.heap[g1_0_]? = some (.cells #[.string g,.int .i64 i,.slice j c.length l] 31 (0,0))) (h:aT_.f k l0 g i c=some r) :
  Calls Tryz.prog 86 #[.slice A0 l0.length c0,.func (.func 87) #[] #[.pointer (some ⟨g1_0_,0,none⟩)]] w fun e w'=>e=.returned (.bool r)∧Below w.heap.size w w':=by
 have u:=AM s;have v:=AM t;clear s t;have p:=AM m;have q:=AM n;clear m n;have BKrg1_0_:=AM hkg1_0_;clear hkg1_0_;have HB:=AM (Below.refl w.heap.size w);have H:((aq_.f k l0 g i c).bind fun o=>(some (decide (o≥0))))=some r:=h;clear h;obtain⟨o,A3,H⟩:=bnd H;obtain rfl:=Option.some.inj H;go_enter Tryz.func86,Tryz.ntmps86;go_wp2_with (first|((with_reducible refine aH_ (f:=116) rfl ?_);refine goesL_ (some 7) rfl rfl Tryz.func116 KR rfl #[.slice A0 l0.length c0,.func (.func 87) #[] #[.pointer (some ⟨g1_0_,0,none⟩)]] rfl TA ?_;(with_reducible refine(aq_.calls k _ _ l0 g1_0_ g i j l c o _ ?side1 ?side2 ?side3 ?side4 ?side5 A3.out).mono ?_);(case side1=>exact CW (u.out));(case side2=>exact v.out);(case side3=>exact CW (p.out));(case side4=>exact q.out);(case side5=>exact(KW BKrg1_0_).out);rintro e w4 ⟨rfl,hb⟩;refine⟨_,rfl,?_⟩;replace BKrg1_0_:=KB BKrg1_0_ hb;replace HB:=BS hb;clear hb));go_ret;exact⟨TE,TB⟩
end
section
def aU_.f (l0:List (ab_)):Option ((List (ab_))):=(some (([]:List (ab_)):List (ab_))).bind fun y627=>(if y627.length+l0.length<2932031007402 then(some (y627++l0)) else(none))
theorem aU_.calls (A0:Option Addr) (c0:Nat) (l0:List (ab_)) (r:List (ab_)) (w:World) (n:Kd.C ae_ w A0 l0.length l0) (o:l0.length≤c0) (h:aU_.f l0=some r) :
  Calls Tryz.prog 77 #[.slice A0 l0.length c0] w fun e w'=>∃v0_:Value,e=.returned (v0_)∧Kd.R ae_ 69 w' w.heap.size (fun _=>True) v0_ r∧Below w.heap.size w w':=by
 have p:=AM n;have u:=AM o;clear n o;have HB:=AM (Below.refl w.heap.size w);have H:=h;clear h;unfold aU_.f at H
 cases A0 with
 | none =>
  have hz_:l0=[]:=Kd.C_none_nil p.out;subst hz_
  have hnq_:∀W,(Go.binOp .eql 29 (.slice none 0 c0) (.slice none 0 0)).run Tryz.prog W=.ok (.bool true) W:=fun W=>Go.Lib.run_eql_slice_nil W 29 69 none 0 c0 0 0 Tryz.underlying29
  replace H:(some ([]:List (ab_)))=some r:=by simpa using H
  obtain rfl:=Option.some.inj H;go_enter Tryz.func77,Tryz.ntmps77;go_wp2;go_ret;exact⟨_,TE,TZ,TB⟩
 | some adq_ =>
  have hnq_:∀W,(Go.binOp .eql 29 (.slice (some adq_) l0.length c0) (.slice none 0 0)).run Tryz.prog W=.ok (.bool false) W:=fun W=>Go.Lib.run_eql_slice_nil W 29 69 (some adq_) l0.length c0 0 0 Tryz.underlying29
  obtain⟨i,c⟩:∃y_:List (ab_),y_=(([]:List (ab_))):=⟨_,rfl⟩
  replace H:(if i.length+l0.length<2932031007402 then(some (i++l0)) else(none))=some r:=by first|(rw[c];with_reducible exact H)|(have H2_:=(Option.bind_some _ _).symm.trans H;rw[c];with_reducible exact H2_)|(have H2_:=(Option.bind_some _ _).symm.trans H;with_reducible exact H2_)|with_reducible exact H|(rw[c];exact H)|exact H
  have Ny627:=AM c;clear c;obtain⟨c2,H⟩:=ifn H;have LMc2:=AM c2;clear c2;obtain⟨q,g⟩:∃y_:List (ab_),y_=(i++l0):=⟨_,rfl⟩
  replace H:(some q)=some r:=by first|(rw[g];with_reducible exact H)|(have H2_:=(Option.bind_some _ _).symm.trans H;rw[g];with_reducible exact H2_)|(have H2_:=(Option.bind_some _ _).symm.trans H;with_reducible exact H2_)|with_reducible exact H|(rw[g];exact H)|exact H
  have Ny630:=AM g;clear g;obtain rfl:=Option.some.inj H;go_enter Tryz.func77,Tryz.ntmps77;go_wp2_with (first|((with_reducible refine ag_ (N:=5) rfl ?_);refine Kd.R_lit ae_ _ 69 ?hg (N:=5) ?hd (xs:=([]:List (ab_))) (inner:=[]) (ok:=fun _=>True) (okp:=fun _=>True) ?hr ?hp (fun _ hk=>hk) trivial (Below.refl _ _) (Nat.le_refl _) (by simp) ?_;(case hd=>rfl);(case hg=>rfl);(case hr=>first|(go_simp;done)|(go_simp;rfl));(case hp=>exact(Reps.none _ _));intro s w3 j hb hg_ hnew_;clear hg_ hnew_;(first|rw[←Ny627.out] at j|(simp only[Int.reduceToNat] at j;rw[←Ny627.out] at j));have l:=RL j;replace HB:=BS hb;clear hb j)|((with_reducible refine bT_ (b:=.append) (xs:=#[.tmp 5,.tmp 6]) rfl ?_);at_builtin;refine Kd.R_append_rows ae_ (w0:=w) w.heap.size rfl (.tmp 5) (.tmp 6) 29 69 (.agg #[(.string ⟨#[]⟩),(.int .i64 0),(.int .i64 0),(.string ⟨#[]⟩)]) 48 rfl Tryz.underlying29 info69 rfl (by decide) (by omega) s i l0 _ _ _ (fun _=>True) (fun _=>False) rfl rfl ?aO ?aR (fun _ _ h=>h) (fun _ h=>h.elim) ?aF ?aB ?aS ?aL ?_;(case aR=>repeat (first|exact(Kd.af_ p.out HB.out)|(with_reducible refine Kd.C_alloc ?_ _)|(with_reducible refine Kd.C_drewN ?_ _)|(with_reducible refine Kd.C_drew ?_)));(case aB=>exact TB);(case aF=>exact(fun _ _=>trivial));(case aO=>exact(RW l).out);(case aS=>exact(b1_ TB));(case aL=>have:=LMc2.out;omega);intro t w5 ho hb hg hat;rw[←Ny630.out] at ho;have n0_:=AM (hb);have n1_:=AM (ho);clear HB l;have HB:=n0_;have m:=n1_;clear n0_ n1_ ho hb hg hat));go_ret;exact⟨_,TE,(RW m).out,TB⟩
end
section
def cu_.f (a0_0:ByteArray) (a0_1:Int) (a0_2:Int) (a0_3:ByteArray) (a1_0:ByteArray) (a1_1:Int) (a1_2:Int) (a1_3:ByteArray):Option (Bool):=if a0_0.toList=a1_0.toList then(if a0_1=a1_1 then(some (a0_3.toList==a1_3.toList)) else(some false)) else(some false)
theorem cu_.calls (g:ByteArray) (i:Int) (m:Int) (l:ByteArray) (g1_:Nat) (o:ByteArray) (p:Int) (u:Int) (q:ByteArray) (r:Bool) (w:World) (hkg1_:w.heap[g1_]? = some (.cells #[.string o,.int .i64 p,.int .i64 u,.string q] 69 (0,0))) (h:cu_.f g i m l o p u q=some r) :
  Calls Tryz.prog 118 #[.agg #[.string g,.int .i64 i,.int .i64 m,.string l],.pointer (some ⟨g1_,0,none⟩)] w fun e w'=>e=.returned (.bool r)∧Below w.heap.size w w':=by
 have hu69:=Tryz.underlying69;have BKrg1_:=AM hkg1_;clear hkg1_;have HB:=AM (Below.refl w.heap.size w);have H:(if g.toList=o.toList then(if i=p then(some (l.toList==q.toList)) else(some false)) else(some false))=some r:=h;clear h;by_cases c3:g.toList=o.toList
 ·rw[if_pos c3] at H;have v:=beq_iff_eq.mpr c3;have x:=bne_eq_false_iff_eq.mpr c3;clear c3;by_cases c4:i=p
  ·rw[if_pos c4] at H;have y:=beq_iff_eq.mpr c4;have z:=bne_eq_false_iff_eq.mpr c4;clear c4;obtain rfl:=Option.some.inj H;go_enter Tryz.func118,Tryz.ntmps118;go_wp2_with (first|((with_reducible refine ag_ (N:=2) rfl ?_);refine bE 2 #[.string g,.int .i64 i,.int .i64 m,.string l] 69 ?_;intro s hg w5 hbox hb;have j:=AM (hbox);have t:=bG hg;replace HB:=BS hb;have n:=bN BKrg1_ hg;have c:=bM BKrg1_ hg;replace BKrg1_:=KB BKrg1_ hb;clear hb hbox hg;obtain⟨J,K⟩:=nn c;have M:=cz4 j;have O:=cz4 BKrg1_));go_ret;exact⟨TE,TB⟩
  ·rw[if_neg c4] at H;have y:=beq_eq_false_iff_ne.mpr c4;have z:=bne_iff_ne.mpr c4;obtain rfl:=Option.some.inj H;go_enter Tryz.func118,Tryz.ntmps118;go_wp2_with (first|((with_reducible refine ag_ (N:=2) rfl ?_);refine bE 2 #[.string g,.int .i64 i,.int .i64 m,.string l] 69 ?_;intro s hg w9 hbox hb;have j:=AM (hbox);have t:=bG hg;replace HB:=BS hb;have n:=bN BKrg1_ hg;have c:=bM BKrg1_ hg;replace BKrg1_:=KB BKrg1_ hb;clear hb hbox hg;obtain⟨A,B⟩:=nn c;have C:=cz4 j;have D:=cz4 BKrg1_));go_ret;exact⟨TE,TB⟩
 ·rw[if_neg c3] at H;have v:=beq_eq_false_iff_ne.mpr c3;have x:=bne_iff_ne.mpr c3;obtain rfl:=Option.some.inj H;go_enter Tryz.func118,Tryz.ntmps118;go_wp2_with (first|((with_reducible refine ag_ (N:=2) rfl ?_);refine bE 2 #[.string g,.int .i64 i,.int .i64 m,.string l] 69 ?_;intro s hg R hbox hb;have j:=AM (hbox);have t:=bG hg;replace HB:=BS hb;have n:=bN BKrg1_ hg;have c:=bM BKrg1_ hg;replace BKrg1_:=KB BKrg1_ hb;clear hb hbox hg;obtain⟨E,F⟩:=nn c;have G:=cz4 j;have I:=cz4 BKrg1_));go_ret;exact⟨TE,TB⟩
end
section
def am_.l0:Nat→List (ab_)→Int→Int→ByteArray→Int→Int→ByteArray→Option (Int)
 | 0,_,_,_,_,_,_,_=>none
 | k+1,x0,x7,x8,c,g,h,i=>if x8<x7 then(if 0≤x8 then(if x8<(x0.length:Int) then((cu_.f ((a_ x0 x8).f0) ((a_ x0 x8).f1) ((a_ x0 x8).f2) ((a_ x0 x8).f3) c g h i).bind fun j=>(if j=true then(some x8) else(am_.l0 k x0 x7 (wrap64 (x8+1)) c g h i))) else(none)) else(none)) else(some (-1))
def am_.f (k:Nat) (l0:List (ab_)) (a1_0:ByteArray) (a1_1:Int) (a1_2:Int) (a1_3:ByteArray):Option (Int):=am_.l0 k l0 (l0.length:Int) 0 a1_0 a1_1 a1_2 a1_3
theorem am_.calls (k:Nat) (A0:Option Addr) (c0:Nat) (l0:List (ab_)) (g1_0_:Nat) (g:ByteArray) (i:Int) (j:Int) (l:ByteArray) (r:Int) (w:World) (v:Kd.C ae_ w A0 l0.length l0) (x:l0.length≤c0) (hkg1_0_:w.heap[g1_0_]? = some (.cells #[.string g,.int .i64 i,.int .i64 j,.string l] 69 (0,0))) (h:am_.f k l0 g i j l=some r) :
  Calls Tryz.prog 104 #[.slice A0 l0.length c0,.func (.func 118) #[] #[.pointer (some ⟨g1_0_,0,none⟩)]] w fun e w'=>e=.returned (.int .i64 r)∧Below w.heap.size w w':=by
 have hu69:=Tryz.underlying69;have y:=AM v;have E:=AM x;clear v x;have BKrg1_0_:=AM hkg1_0_;clear hkg1_0_;have HB:=AM (Below.refl w.heap.size w);have H:(am_.l0 k l0 (l0.length:Int) 0 g i j l)=some r:=h;clear h;have H':=AM H;clear H;go_enter Tryz.func104,Tryz.ntmps104;go_wp2;go_loopg [8] k (fun kq v8 w'=>∃(c:Int),v8=.int .i64 c∧Aside0 (am_.l0 kq l0 (l0.length:Int) c g i j l=some r)∧Aside0 (kq≤k)∧Aside0 (w'.heap[g1_0_]? = some (.cells #[.string g,.int .i64 i,.int .i64 j,.string l] 69 (0,0)))∧Aside0 (Below w.heap.size w w'))
 case atStart=>exact⟨(0),TF,H',⟨Nat.le_refl _⟩,KW BKrg1_0_,⟨TB⟩⟩
 case round =>
  clear H';obtain⟨c,rfl,HA,HK1,BKrg1_0_,HB⟩:=hrel
  cases gk with
  | zero=>exact absurd HA.out (by simp[am_.l0])
  | succ k1 =>
   have H:=HA.out;clear HA;simp only[am_.l0] at H;by_cases c3:c<(l0.length:Int)
   ·rw[if_pos c3] at H;have z:=decide_eq_true c3;clear c3;obtain⟨c4,H⟩:=ifn H;have B:=decide_eq_true c4;clear c4;obtain⟨c5,H⟩:=ifn H;have D:=decide_eq_true c5;clear c5;obtain⟨A,A6,H⟩:=bnd H;by_cases c7:A=true
    ·subst c7;replace H:=ift H;obtain rfl:=Option.some.inj H;have m:0≤(c:Int):=TD;have n:c<(l0.length:Int):=TD;obtain⟨u,o,p,q,s,t⟩:=ah_ (Kd.af_ y.out HB.out) c m n;cases o;replace m:=eq_true m;replace n:=eq_true n;go_wp2_with (first|(go_at_call 118;(with_reducible refine(cu_.calls ((a_ l0 c).f0) ((a_ l0 c).f1) ((a_ l0 c).f2) ((a_ l0 c).f3) g1_0_ g i j l true _ ?side1 A6.out).mono ?_);(case side1=>exact(KW BKrg1_0_).out);rintro e w8 ⟨rfl,hb⟩;replace BKrg1_0_:=KB BKrg1_0_ hb;replace HB:=BS hb;clear hb));go_ret;exact⟨TE,TB⟩
    ·replace c7:=Bool.eq_false_iff.mpr c7;subst c7;replace H:=iff' H;have H':=AM H;clear H;have m:0≤(c:Int):=TD;have n:c<(l0.length:Int):=TD;obtain⟨u,o,p,q,s,t⟩:=ah_ (Kd.af_ y.out HB.out) c m n;cases o;replace m:=eq_true m;replace n:=eq_true n;go_wp2_with (first|(go_at_call 118;(with_reducible refine(cu_.calls ((a_ l0 c).f0) ((a_ l0 c).f1) ((a_ l0 c).f2) ((a_ l0 c).f3) g1_0_ g i j l false _ ?side1 A6.out).mono ?_);(case side1=>exact(KW BKrg1_0_).out);rintro e w9 ⟨rfl,hb⟩;replace BKrg1_0_:=KB BKrg1_0_ hb;replace HB:=BS hb;clear hb));go_roundg k1
     case measure=>have:=HK1.out;omega
     case rel=>exact⟨(wrap64 (c+1)),TF,H',⟨TM⟩,KW BKrg1_0_,⟨TB⟩⟩
   ·rw[if_neg c3] at H;have z:=decide_eq_false c3;clear c3;obtain rfl:=Option.some.inj H;go_wp2;go_ret;exact⟨TE,TB⟩
end
section
def del118_zc:List Value:=[.string ⟨#[]⟩,.int .i64 0,.int .i64 0,.string ⟨#[]⟩]
def del118_z:Value:=.agg #[.string ⟨#[]⟩,.int .i64 0,.int .i64 0,.string ⟨#[]⟩]
def cq_:Nat→List Value
 | 0=>[]
 | m+1=>del118_zc++cq_ m
theorem del118_zs_len:∀m,(cq_ m).length=m * 4
 | 0=>rfl
 | m+1=>by rw[cq_,List.length_append,del118_zs_len m];show 4+m * 4=_;omega
theorem del118_zs_one:∀m,∀v∈cq_ m,v.oneCell'=true
 | 0,v,h=>by simp[cq_] at h
 | m+1,v,h=>by
  rw[cq_,List.mem_append] at h
  rcases h with h|h
  ·simp only[del118_zc,List.mem_cons,List.not_mem_nil,or_false] at h
   rcases h with rfl|rfl|rfl|rfl<;>rfl
  ·exact del118_zs_one m v h
theorem del118_zs_get:∀(m j:Nat),j<m * 4→(cq_ m)[j]? = del118_zc[j % 4]?
 | 0,j,h=>by omega
 | m+1,j,h=>by
  rw[cq_]
  by_cases hj:j<4
  ·rw[List.getElem?_append_left (show j<4 from hj),Nat.mod_eq_of_lt hj]
  ·rw[List.getElem?_append_right (show 4≤j from by omega),show j - del118_zc.length=j - 4 from rfl,del118_zs_get m (j - 4) (by omega),Nat.mod_eq_sub_mod (show j≥4 by omega)]
theorem del118_zero (n:Nat):(Builtin.zeroCells del118_z.cells n).toList=cq_ n:=by
 apply List.ext_getElem?;intro j;have hs:del118_z.cells.size=4:=rfl;by_cases hj:j<n * 4
 ·rw[del118_zs_get n j hj];unfold Builtin.zeroCells;rw[hs];have hm:j % 4<4:=Nat.mod_lt _ (by omega);simp only[Array.toList_map,Array.toList_range,List.getElem?_map,List.getElem?_range hj,Option.map_some]
  have:∀q,q<4→some del118_z.cells[q]! = del118_zc[q]?:=by
   intro q hq
   match q,hq with
   | 0,_=>rfl
   | 1,_=>rfl
   | 2,_=>rfl
   | 3,_=>rfl
  exact this _ hm
 ·rw[List.getElem?_eq_none (by rw[Array.length_toList,Go.size_zeroCells,hs];omega),List.getElem?_eq_none (by rw[del118_zs_len];omega)]
theorem del118_app (b:Nat):∀(xs ys:List Value) (o:Nat) (w:World),w.setCells b o (xs++ys)=(w.setCells b o xs).setCells b (o+xs.length) ys
 | [],ys,o,w=>rfl
 | x::xs,ys,o,w=>by
  rw[List.cons_append,World.setCells,World.setCells,del118_app b xs ys,List.length_cons,show o+1+xs.length=o+(xs.length+1) from by omega]
section
variable {W:World} {base g n cap:Nat} {ok:Nat→Prop}
theorem del118_empty:∀(m i:Nat) (W:World) (zs:List ab_),i+m=n→zs.length=n→Kd.R ae_ 69 W base ok (.slice (some ⟨g,0,none⟩) n cap) zs →
  ∃zs',Kd.R ae_ 69 (W.setCells g (i * 4) (cq_ m)) base ok (.slice (some ⟨g,0,none⟩) n cap) zs'∧zs'.length=n∧zs'.take i=zs.take i∧W.grownBy (W.setCells g (i * 4) (cq_ m)) (some g)
 | 0,i,W,zs,hm,hl,h=>⟨zs,h,hl,rfl,⟨rfl,rfl,rfl,Nat.le_refl _,fun _ _ _=>rfl⟩⟩
 | m+1,i,W,zs,hm,hl,h=>by
  obtain⟨c,hcl,_,hcc,_⟩:=Kd.cp_ h bY_ (i:Int) (by omega) (by omega)
  have hM:ae_.M W base (fun _=>False) bY_ (c.take 0++del118_zc++c.drop (0+del118_zc.length)):=by
   have hd:c.drop (0+del118_zc.length)=[]:=List.drop_eq_nil_of_le (by rw[hcl];exact Nat.le_refl _);rw[hd,List.append_nil];exact bK_ W base _ bY_
  obtain⟨h1,g1⟩:=Kd.R_seg (j:=0) (seg:=del118_zc) h (i:Int) (by omega) (by omega) hcl hcc (Nat.le_refl _) hM (fun _ hk=>hk.elim);rw[Int.toNat_natCast] at h1 g1;obtain⟨zs',r1,r2,r3,r4⟩:=del118_empty m (i+1) _ (zs.set i bY_) (by omega) (by rw[List.length_set];exact hl) h1
  have e:(W.setCells g (i * ae_.sz+0) del118_zc).setCells g ((i+1) * 4) (cq_ m)=W.setCells g (i * 4) (cq_ (m+1)):=by
   rw[cq_,del118_app];show(W.setCells g (i * 4+0) del118_zc).setCells g ((i+1) * 4) (cq_ m)=(W.setCells g (i * 4) del118_zc).setCells g (i * 4+4) (cq_ m);rw[Nat.add_zero,show(i+1) * 4=i * 4+4 from by omega]
  rw[e] at r1 r4;refine⟨zs',r1,r2,?_,?_⟩
  ·have:=congrArg (List.take i) r3;rw[List.take_take,List.take_take,Nat.min_eq_left (by omega),List.take_set_of_le (Nat.le_refl _)] at this;exact this
  ·exact World.grownBy.trans g1 r4
theorem del118_clear (w:World) (i m c:Nat) (hm:0<m) (hc:∀j,j<m * 4→(w.cell? ⟨g,i * 4+j,none⟩).isSome=true) (hf:∀j,j<m * 4→w.frozen? ⟨g,i * 4+j,none⟩=false) (ty:TypeId) :
  (Builtin.clear_ #[29] ty #[.slice (some ⟨g,i * 4,none⟩) m c]).run Tryz.prog w=.ok (.tuple #[]) (w.setCells g (i * 4) (cq_ m)):=by
 have hv:∀w,(zeroValue 69).run Tryz.prog w=.ok del118_z w:=fun _=>by kernel_rfl
 have hst:=run_storeCells_cells (P:=Tryz.prog) g (i * 4) (cq_ m) 0 w (by rw[del118_zs_len];simpa using hc) (by rw[del118_zs_len];simpa using hf) (del118_zs_one m);simp only[Nat.add_zero] at hst;obtain⟨m,rfl⟩:∃q,m=q+1:=⟨m - 1,by omega⟩;simp[Builtin.clear_,run_underlying Tryz.underlying29,hv,del118_zero,hst]
theorem del118_rd (zs:List ab_) (j:Int):a_ zs j=zs.getD j.toNat bY_:=rfl
theorem del118_cells {zs:List ab_} (h:Kd.R ae_ 69 W base ok (.slice (some ⟨g,0,none⟩) n cap) zs) (p:Nat) (hp:p<n * 4):(W.cell? ⟨g,p,none⟩).isSome=true∧W.frozen? ⟨g,p,none⟩=false:=by
 obtain⟨c,hcl,_,hcc,hfz⟩:=Kd.cp_ h bY_ ((p / 4:Nat):Int) (by omega) (by omega)
 have hm:p % 4<c.length:=by rw[hcl];exact Nat.mod_lt _ (by omega)
 have h1:=hcc (p % 4) _ (List.getElem?_eq_getElem hm);have h2:=hfz (p % 4);rw[Int.toNat_natCast] at h1 h2
 have e:p / 4 * ae_.sz+p % 4=p:=by
  show p / 4 * 4+p % 4=p;omega
 rw[e] at h1 h2;exact⟨by rw[h1];rfl,h2⟩
theorem del118_elem {zs:List ab_} (h:Kd.R ae_ 69 W base ok (.slice (some ⟨g,0,none⟩) n cap) zs) (i:Int) (x:ab_) (i0:0≤i) (i1:i<n) :
  ∃c:List Value,c.length=4∧(∀q u,c[q]? = some u→W.cell? ⟨g,i.toNat * 4+q,none⟩=some u)∧(∀q,W.frozen? ⟨g,i.toNat * 4+q,none⟩=false) ∧
   ae_.M W base (fun k=>ok k∧k≠g) x (c.take 0++[.string x.f0,.int .i64 x.f1,.int .i64 x.f2,.string x.f3]++c.drop (0+4)):=by
 obtain⟨c,hcl,_,hcc,hfz⟩:=Kd.cp_ h bY_ i i0 i1;refine⟨c,hcl,hcc,hfz,?_⟩;rw[List.drop_eq_nil_of_le (show c.length≤0+4 by rw[hcl];exact Nat.le_refl _),List.append_nil];exact bK_ W base _ x
end
theorem del118_w64 {i:Int} (h0 : -9223372036854775808≤i) (h1:i≤9223372036854775807):wrap64 i=i:=by
 unfold wrap64;omega
def ap_.l0:Nat→List (ab_)→Int→Int→ByteArray→Int→Int→ByteArray→Option (List (ab_))
 | 0,_,_,_,_,_,_,_=>none
 | k+1,dk,i,j,c,g,h,l=>if j<(dk.length:Int) then(if 0≤i∧i<j then((cu_.f (a_ dk j).f0 (a_ dk j).f1 (a_ dk j).f2 (a_ dk j).f3 c g h l).bind fun t=>if t=true then ap_.l0 k dk i (wrap64 (j+1)) c g h l else ap_.l0 k (dk.set i.toNat (a_ dk j)) (wrap64 (i+1)) (wrap64 (j+1)) c g h l) else none) else(if 0≤i∧i<(dk.length:Int) then some (dk.take i.toNat) else none)
def ap_.f (k:Nat) (l0:List (ab_)) (c:ByteArray) (g:Int) (h:Int) (i:ByteArray):Option (List (ab_)):=(am_.f k l0 c g h i).bind fun t=>if t = -1 then some l0 else if 0≤t∧t<(l0.length:Int) then ap_.l0 k l0 t (wrap64 (t+1)) c g h i else none
theorem ap_.calls (k:Nat) (P0_:Nat→Prop) (u9000_:Value) (l0:List (ab_)) (g1_0_:Nat) (l:ByteArray) (n:Int) (o:Int) (s:ByteArray) (r:List (ab_)) (w0 w:World) (hB:Below w0.heap.size w0 w) (y:Kd.R ae_ 69 w w0.heap.size P0_ u9000_ l0) (hne_:¬P0_ g1_0_) (hkg1_0_:w.heap[g1_0_]? = some (.cells #[.string l,.int .i64 n,.int .i64 o,.string s] 69 (0,0))) (h:ap_.f k l0 l n o s=some r) :
  Calls Tryz.prog 117 #[u9000_,.func (.func 118) #[] #[.pointer (some ⟨g1_0_,0,none⟩)]] w fun e w'=>∃v0_:Value,e=.returned (v0_)∧Kd.R ae_ 69 w' w0.heap.size (fun k_=>(P0_ k_∨w.heap.size≤k_)) v0_ r∧Below w0.heap.size w0 w'∧Kept w w' (fun k_=>P0_ k_):=by
 have hu29:=Tryz.underlying29;have hu69:=Tryz.underlying69;obtain⟨A,c,eo⟩:=Kd.aF_ y;subst eo;have hC:=Kd.ak_ y;have HC:=AM hC.2.2;have HL:=AM hC.2.1;have HO:=AM y;have HML:=AM hC.2.2.2.1;have BKc:=AM hkg1_0_;have HB0:=AM hB;have HNE:=AM hne_;have HB:=AM (Below.refl w.heap.size w);clear hC y hB hkg1_0_ hne_;unfold ap_.f at h;obtain⟨t1,A1,H⟩:=bnd h;clear h;by_cases c1:t1 = -1
 ·rw[if_pos c1] at H;obtain rfl:=Option.some.inj H;subst c1;go_enter Tryz.func117,Tryz.ntmps117;go_wp2_with (first|((with_reducible refine aH_ (f:=104) rfl ?_);refine goesL_ (some 10) rfl rfl Tryz.func104 KR rfl #[.slice A l0.length c,.func (.func 118) #[] #[.pointer (some ⟨g1_0_,0,none⟩)]] rfl TA ?_;(refine(am_.calls k _ _ l0 g1_0_ l n o s (-1) _ ?side1 ?side2 ?side3 A1.out).mono ?_);(case side1=>exact CW (Kd.af_ HC.out HB.out));(case side2=>exact HL.out);(case side3=>exact(KW BKc).out);rintro e w4 ⟨rfl,hb⟩;refine⟨_,rfl,?_⟩;replace HB:=BS hb;clear hb));go_ret;exact⟨_,rfl,Kd.a4_ (Kd.bV_ HO.out HB.out) (fun k h=>Or.inl h),below_then HB0.out HB0.out.size HB.out,Kept.of_below HB.out _⟩
 ·rw[if_neg c1] at H;have G:=beq_eq_false_iff_ne.mpr c1;obtain⟨⟨h1,h2⟩,H⟩:=ifn H;have H':=AM H;clear H;obtain⟨g,cap,eg,hbg,hgl,cells,hgc⟩:=Kd.R_form HO.out (by omega)
  injection eg with ea en ec
  subst ea;subst ec;have HPg:=AM (HO.out.1 g rfl);have HNG:=AM (show g1_0_≠g from fun e_=>HNE.out (by rw[e_];exact HPg.out));have HGB:=AM hbg;have HGL:=AM hgl;have HRW:=AM HO.out;clear hbg hgl hgc cells;go_enter Tryz.func117,Tryz.ntmps117;go_wp2_with (first|((with_reducible refine aH_ (f:=104) rfl ?_);refine goesL_ (some 10) rfl rfl Tryz.func104 KR rfl #[.slice (some ⟨g,0,none⟩) l0.length c,.func (.func 118) #[] #[.pointer (some ⟨g1_0_,0,none⟩)]] rfl TA ?_;(refine(am_.calls k _ _ l0 g1_0_ l n o s t1 _ ?side1 ?side2 ?side3 A1.out).mono ?_);(case side1=>exact CW (Kd.af_ HC.out HB.out));(case side2=>exact HL.out);(case side3=>exact(KW BKc).out);rintro e w4 ⟨rfl,hb⟩;refine⟨_,rfl,?_⟩;replace BKc:=KB BKc hb;replace HRW:=AM (Kd.bV_ HRW.out (below_step HB.out hb));replace HB:=BS hb;clear hb));go_loopg [5,6] k (fun kq v5 v6 w'=>∃(zs:List (ab_)) (i j:Int),v5=.int .i64 i∧v6=.int .i64 j∧Aside0 (ap_.l0 kq zs i j l n o s=some r)∧Aside0 (kq≤k)∧Aside0 (0≤i∧i<j∧zs.length=l0.length)∧Aside0 (Kd.R ae_ 69 w' w0.heap.size P0_ (.slice (some ⟨g,0,none⟩) l0.length c) zs)∧Aside0 (w'.heap[g1_0_]? = some (.cells #[.string l,.int .i64 n,.int .i64 o,.string s] 69 (0,0)))∧Aside0 (Below w0.heap.size w0 w')∧Aside0 (Kept w w' (fun k_=>P0_ k_)))
  case atStart =>
   refine⟨l0,t1,wrap64 (t1+1),TF,TF,H',⟨Nat.le_refl _⟩,⟨h1,?_,rfl⟩,⟨Kd.bV_ HRW.out TW⟩,KW BKc,⟨below_then HB0.out HB0.out.size TB⟩,⟨Kept.of_below TB _⟩⟩;rw[del118_w64 (by have:=HML.out;omega) (by have:=HML.out;omega)];omega
  case round =>
   clear H' HRW BKc;obtain⟨zs,i,j,rfl,rfl,HA,HK1,HI,HRW,BKc,HBZ,HKT⟩:=hrel
   cases gk with
   | zero=>exact absurd HA.out (by simp[ap_.l0])
   | succ k1 =>
    have H:=HA.out;clear HA;simp only[ap_.l0] at H;obtain⟨i0,hij,hzl⟩:=HI.out;by_cases c4:j<(zs.length:Int)
    ·rw[if_pos c4] at H;obtain⟨_,H⟩:=ifn H;obtain⟨t,A6,H⟩:=bnd H;have c4b:decide (j<(l0.length:Int))=true:=decide_eq_true (by omega)
     have p1:0≤j:=by omega
     have q1:j<(l0.length:Int):=by omega
     have pi:0≤i:=i0
     have qi:i<(l0.length:Int):=by omega
     obtain⟨I,e1,B,C,D,E⟩:=ah_ (Kd.ak_ HRW.out).2.2 j p1 (by omega);cases e1;have HB:=AM (Below.refl wr.heap.size wr);have HGW:=AM (show g<wr.heap.size from Kd.R_lt HRW.out g rfl);replace p1:=eq_true p1;replace q1:=eq_true q1;simp only[Addr.add_lit,Nat.zero_add] at B C D E;have hfz:=(Kd.cp_ HRW.out bY_ j (by omega) (by omega)).choose_spec.2.2.2;by_cases c7:t=true
     ·subst c7;rw[if_pos rfl] at H;have H':=AM H;clear H;go_wp2_with (first|((with_reducible refine ag_ (N:=7) rfl ?_);refine bE 7 #[.string (⟨#[]⟩:ByteArray),.int .i64 0,.int .i64 0,.string (⟨#[]⟩:ByteArray)] 69 ?_;intro z hg w7 hbox hb;have v:=AM hbox;have F:=bG hg;have hne7:g≠z:=(by rw[hg];exact Nat.ne_of_lt HGW.out);replace HB:=BS hb;clear hb hbox hg;have x:=cz4 v)|(go_at_call 118;(with_reducible refine(cu_.calls (a_ zs j).f0 (a_ zs j).f1 (a_ zs j).f2 (a_ zs j).f3 g1_0_ l n o s true _ ?side3 A6.out).mono ?_);(case side3=>exact blk_below BKc.out TB);rintro e w9 ⟨rfl,hb⟩;replace v:=KP v #[.string (a_ zs j).f0,.int .i64 (a_ zs j).f1,.int .i64 (a_ zs j).f2,.string (a_ zs j).f3] hb;replace HB:=BS hb;clear hb x;have x:=cz4 v));go_roundg k1
      case measure=>have:=HK1.out;omega
      case rel=>exact⟨zs,i,wrap64 (j+1),TF,TF,H',⟨TM⟩,⟨⟨i0,by rw[del118_w64 (by have:=HML.out;omega) (by have:=HML.out;omega)];omega,hzl⟩⟩,⟨Kd.bV_ HRW.out TB⟩,⟨blk_below BKc.out TB⟩,⟨below_then HBZ.out (Nat.le_trans (Nat.le_of_lt (Nat.lt_of_le_of_lt HGB.out HGW.out)) (Nat.le_refl _)) TB⟩,⟨HKT.out.below TB⟩⟩
     ·rw[if_neg c7] at H;have H':=AM H;clear H
      have c7f:t=false:=by cases t<;>simp_all
      subst c7f;clear c7;obtain⟨ci,hci,hcci,hfzi,hMj⟩:=del118_elem HRW.out i (a_ zs j) pi (by omega);go_wp2_with (first|((with_reducible refine ag_ (N:=7) rfl ?_);refine bE 7 #[.string (⟨#[]⟩:ByteArray),.int .i64 0,.int .i64 0,.string (⟨#[]⟩:ByteArray)] 69 ?_;intro z hg w7 hbox hb;have v:=AM hbox;have F:=bG hg;have hne7:g≠z:=(by rw[hg];exact Nat.ne_of_lt HGW.out);replace HB:=BS hb;clear hb hbox hg;have x:=cz4 v)|(go_at_call 118;(with_reducible refine(cu_.calls (a_ zs j).f0 (a_ zs j).f1 (a_ zs j).f2 (a_ zs j).f3 g1_0_ l n o s false _ ?side3 A6.out).mono ?_);(case side3=>exact blk_below BKc.out TB);rintro e w9 ⟨rfl,hb⟩;replace v:=KP v #[.string (a_ zs j).f0,.int .i64 (a_ zs j).f1,.int .i64 (a_ zs j).f2,.string (a_ zs j).f3] hb;replace HB:=BS hb;clear hb x;have x:=cz4 v)|((with_reducible refine bP_ (t:=69) (p:=33) rfl ?_);refine Kd.R_store ae_ (w0:=w0) w0.heap.size rfl rfl 69 (.tmp 33) (.tmp 32) rfl 69 i 0 zs (a_ zs j) (.agg #[.string (a_ zs j).f0,.int .i64 (a_ zs j).f1,.int .i64 (a_ zs j).f2,.string (a_ zs j).f3]) [.string (a_ zs j).f0,.int .i64 (a_ zs j).f1,.int .i64 (a_ zs j).f2,.string (a_ zs j).f3] ci P0_ (fun k=>P0_ k∧k≠g) rfl rfl rfl rfl KR ?hone (Kd.bV_ HRW.out HB.out) pi ?hin hci (fun q u hq=>hBc HB (hcci q u hq)) (Nat.le_refl _) (ae_.M_mono (fun k hk=>hk.1) (ae_.M_move (fun k hk=>HB.out.block k hk.2.2.1) (ae_.M_bound hMj))) (fun k hk=>hk) (below_then HBZ.out (Nat.le_trans HGB.out (Nat.le_of_lt HGW.out)) HB.out) ?_;(case hone=>intro q hq;simp only[List.mem_cons,List.not_mem_nil,or_false] at hq;rcases hq with rfl|rfl|rfl|rfl<;>rfl);(case hin=>omega);intro J hr hb2 hg2;have BKn:=AM (bX_ (g:=g1_0_) (blk_below BKc.out HB.out) hg2 (fun e_=>HNG.out (Option.some.inj e_)));have HKn:=AM (Kept.cx_ hg2 (HKT.out.below HB.out) (fun k hk=>Or.inl (by injection hk with hk;rw[←hk];exact HPg.out)));clear HRW HB BKc HKT;have HRW:=AM hr;have BKc:=BKn;have HKT:=HKn;have HBn:=AM hb2;clear hr hb2 hg2 BKn HKn));go_roundg k1
      case measure=>have:=HK1.out;omega
      case rel=>exact⟨zs.set i.toNat (a_ zs j),wrap64 (i+1),wrap64 (j+1),TF,TF,H',⟨TM⟩,⟨⟨by rw[del118_w64 (by have:=HML.out;omega) (by have:=HML.out;omega)];omega,by rw[del118_w64 (i:=i+1) (by have:=HML.out;omega) (by have:=HML.out;omega),del118_w64 (i:=j+1) (by have:=HML.out;omega) (by have:=HML.out;omega)];omega,by rw[List.length_set];exact hzl⟩⟩,HRW,BKc,HBn,HKT⟩
    ·rw[if_neg c4] at H;obtain⟨⟨_,hil⟩,H⟩:=ifn H;obtain rfl:=Option.some.inj H;have c4b:decide (j<(l0.length:Int))=false:=decide_eq_false (by omega);obtain⟨m,rfl⟩:∃m:Nat,i=(m:Int):=⟨i.toNat,by omega⟩
     have hml:m<l0.length:=by omega
     have hlc:=HL.out
     have hb1:(m:Int)≤(l0.length:Int):=by omega
     have hb2:m≤l0.length:=by omega
     have hb3:¬(c=m):=by omega
     have hb4:(m:Int)≤(c:Int):=by omega
     have hcl:=fun ty cc=>del118_clear (g:=g) wr m (l0.length - m) cc (by omega) (fun q hq=>(del118_cells HRW.out (m * 4+q) (by omega)).1) (fun q hq=>(del118_cells HRW.out (m * 4+q) (by omega)).2) ty
     go_wp2;go_ret;obtain⟨zs',r1,r2,r3,r4⟩:=del118_empty (l0.length - m) m wr zs (by omega) hzl HRW.out;have r5:=Kd.R_take r1 (m:=m) (by omega);rw[r3] at r5;exact⟨_,rfl,Kd.a4_ r5 (fun k h=>Or.inl h),pw_below_grown HBZ.out (some g) (Nat.le_trans HGB.out (Nat.le_of_lt (Kd.R_lt HRW.out g rfl))) r4 (fun k hk=>by injection hk with hk;rw[←hk];exact HGB.out),Kept.cx_ r4 HKT.out (fun k hk=>Or.inl (by injection hk with hk;rw[←hk];exact HPg.out))⟩
end
section
def ac_.l0:Nat→List (ab_)→Int→Int→Int→ByteArray→Int→Int→ByteArray→Option (Int × Bool)
 | 0,_,_,_,_,_,_,_,_=>none
 | k+1,x0,x8,x9,j,c,g,h,i=>if x9<j then(if 0≤(wrap64 ((IntKind.u64.wrap (wrap64 (x9+j))) / 2)) then(if (wrap64 ((IntKind.u64.wrap (wrap64 (x9+j))) / 2))<(x0.length:Int) then((a1_.f k ((a_ x0 (wrap64 ((IntKind.u64.wrap (wrap64 (x9+j))) / 2))).f0) ((a_ x0 (wrap64 ((IntKind.u64.wrap (wrap64 (x9+j))) / 2))).f1) ((a_ x0 (wrap64 ((IntKind.u64.wrap (wrap64 (x9+j))) / 2))).f2) ((a_ x0 (wrap64 ((IntKind.u64.wrap (wrap64 (x9+j))) / 2))).f3) c g h i).bind fun l=>(if l<0 then(ac_.l0 k x0 x8 (wrap64 ((wrap64 ((IntKind.u64.wrap (wrap64 (x9+j))) / 2))+1)) j c g h i) else(ac_.l0 k x0 x8 x9 (wrap64 ((IntKind.u64.wrap (wrap64 (x9+j))) / 2)) c g h i))) else(none)) else(none)) else(if x9<x8 then(if 0≤x9 then(if x9<(x0.length:Int) then((a1_.f k ((a_ x0 x9).f0) ((a_ x0 x9).f1) ((a_ x0 x9).f2) ((a_ x0 x9).f3) c g h i).bind fun m=>(some (x9,(m==0)))) else(none)) else(none)) else(some (x9,false)))
def ac_.f (k:Nat) (l0:List (ab_)) (a1_0:ByteArray) (a1_1:Int) (a1_2:Int) (a1_3:ByteArray)  : Option (Int × Bool):=ac_.l0 k l0 (l0.length:Int) 0 (l0.length:Int) a1_0 a1_1 a1_2 a1_3
def ac_.T5:Bool × List (List Nat × List Nat):=(true,[([],[]),([],[]),([],[]),([1,2],[1,2]),([3],[3]),([],[]),([0,4,5],[0,4,5]),([6],[6])])
def ac_.B5:List Nat:=[0,0,0,6,14,0,63,127]
theorem ac_.tab5:rtab .any (opsOf Tryz.f106 5)=ac_.T5:=by kernel_rfl
theorem ac_.bits5:waitsOk ac_.T5.2 ac_.B5=true:=by kernel_rfl
def ac_.T8:Bool × List (List Nat × List Nat):=(true,[([],[]),([],[]),([],[]),([1,2],[1,2]),([3],[3]),([4],[4]),([4],[4]),([4],[4]),([6,7,4],[4,6,7]),([8,4],[4,8]),([4],[4]),([5,9,10,4,4],[4,5,9,10]),([11,4],[4,11]),([4,12],[4,12]),([0,11,0],[0]),([13,14,0,1,2,3,4,5,6,7,8,9,10,11,12,13,14],[13])])
def ac_.B8:List Nat:=[0,0,0,6,14,30,30,30,222,478,30,2046,4094,8190,4095,32767]
theorem ac_.tab8:rtab .any (opsOf Tryz.f106 8)=ac_.T8:=by kernel_rfl
theorem ac_.bits8:waitsOk ac_.T8.2 ac_.B8=true:=by kernel_rfl
theorem ac_.calls (k:Nat) (A0:Option Addr) (c0:Nat) (l0:List (ab_)) (t:ByteArray) (u:Int) (v:Int) (x:ByteArray)  (r1:Int) (r2:Bool) (w:World) (af:Kd.C ae_ w A0 l0.length l0) (ag:l0.length≤c0) (hG_:Glob w) (h:ac_.f k l0 t u v x=some (r1,r2)) :
  Calls Tryz.prog 106 #[.slice A0 l0.length c0,.agg #[.string t,.int .i64 u,.int .i64 v,.string x],.func (.func 107) #[] #[]] w fun e w'=>e=.returned (.tuple #[.int .i64 r1,.bool r2])∧Below w.heap.size w w':=by
 have hu69:=Tryz.underlying69;have ac:=AM af;have av:=AM ag;clear af ag;have HGL:=AM hG_;clear hG_;have HB:=AM (Below.refl w.heap.size w);have H:=h;clear h;unfold ac_.f at H;have H':=AM H;clear H;go_enter Tryz.func106,Tryz.ntmps106;go_wp2_with (first|(refine gD 4 rfl ?_;refine bE 4 #[.string t,.int .i64 u,.int .i64 v,.string x] 69 ?_;intro s hg w4 hbox hb;have c:=AM (hbox);have am:=bG hg;replace HB:=BS hb;clear hb hbox hg));go_loopg [9,10] k (fun kq v9 an w'=>∃(j:Int) (y:Int),v9=.int .i64 j∧an=.int .i64 y∧Aside0 (ac_.l0 kq l0 (l0.length:Int) j y t u v x=some (r1,r2))∧Aside0 (kq≤k)∧Aside0 (w'.heap[s]? = some (.cells #[.string t,.int .i64 u,.int .i64 v,.string x] 69 (0,0)))∧Aside0 (Below w.heap.size w w'))
 case atStart=>exact⟨(0),((l0.length:Int)),TF,TF,H',⟨Nat.le_refl _⟩,KW c,⟨TB⟩⟩
 case round =>
  clear H';obtain⟨j,y,rfl,rfl,HA,HK1,c,HB⟩:=hrel
  cases gk with
  | zero=>exact absurd HA.out (by simp[ac_.l0])
  | succ k1 =>
   have H:=HA.out;clear HA;simp only[ac_.l0] at H;by_cases c5:j<y
   ·rw[if_pos c5] at H;have ah:=decide_eq_true c5;clear c5;obtain⟨g,hji6⟩:∃j_:Int,(wrap64 ((IntKind.u64.wrap (wrap64 (j+y))) / 2))=j_:=⟨_,rfl⟩
    replace H:(if 0≤(g) then(if (g)<(l0.length:Int) then((a1_.f k1 ((a_ l0 (g)).f0) ((a_ l0 (g)).f1) ((a_ l0 (g)).f2) ((a_ l0 (g)).f3) t u v x).bind fun R=>(if R<0 then(ac_.l0 k1 l0 (l0.length:Int) (wrap64 ((g)+1)) y t u v x) else(ac_.l0 k1 l0 (l0.length:Int) j g t u v x))) else(none)) else(none))=some (r1,r2):=by first|(rw[hji6] at H;exact H)|(simp only[hji6] at H ⊢;exact H)
    have hji6w:(IntKind.i64.wrap ((IntKind.u64.wrap (wrap64 (j+y))) / 2))=g:=(cd_ _).trans hji6;obtain⟨c7,H⟩:=ifn H;have ar:=decide_eq_true c7;clear c7;obtain⟨c8,H⟩:=ifn H;have au:=decide_eq_true c8;clear c8;obtain⟨R,A9,H⟩:=bnd H;by_cases c10:R<0
    ·rw[if_pos c10] at H;have ad:=decide_eq_true c10;clear c10;have H':=AM H;clear H
     try go_wp2
     replace c:=AM (ai_ c.out);replace HB:=AM (az_ HB.out);have M:0≤((g):Int):=TD;have O:(g)<(l0.length:Int):=TD;obtain⟨l,Z,m,o,p,q⟩:=ah_ ac.out (g) M O;have z:=q;have A:=p;have B:=o;have D:=m;cases Z;replace m:=hBc HB m;replace o:=hBc HB o;replace p:=hBc HB p;replace q:=hBc HB q;replace M:=eq_true M;replace O:=eq_true O;refine start_ (n:=8) (S:=fun w'=>w'.cell? ⟨s,0,none⟩=some (.string t)∧w'.cell? ⟨s,1,none⟩=some (.int .i64 u)∧w'.cell? ⟨s,2,none⟩=some (.int .i64 v)∧w'.cell? ⟨s,3,none⟩=some (.string x)∧w'.cell? (l.add (((g)).toNat * 4))=some (.string ((a_ l0 (g)).f0))∧w'.cell? ⟨(l.add (((g)).toNat * 4)).block,(l.add (((g)).toNat * 4)).off+1,none⟩=some (.int .i64 ((a_ l0 (g)).f1))∧w'.cell? ⟨(l.add (((g)).toNat * 4)).block,(l.add (((g)).toNat * 4)).off+2,none⟩=some (.int .i64 ((a_ l0 (g)).f2))∧w'.cell? ⟨(l.add (((g)).toNat * 4)).block,(l.add (((g)).toNat * 4)).off+3,none⟩=some (.string ((a_ l0 (g)).f3))) (ds:=[]) #[false,false,false,false,false,false,false,false] KR rfl rfl ⟨bc 0 c,bc 1 c,bc 2 c,bc 3 c,(hBc HB D),(hBc HB B),(hBc HB A),(hBc HB z)⟩ (fun hHeld=>?_);refine bl_ ac_.tab5 ac_.bits5 (fun HT_ HW_=>?_);generalize wr.drew=aw at c HB m o p q hHeld ⊢;refine pA 0 24 (mL 8 1) HT_ rfl rfl ?_;refine pA 1 25 (mL 8 3) HT_ rfl rfl ?_;refine pA 2 26 (mL 8 7) HT_ rfl rfl ?_;refine pA 3 27 (mL 8 15) HT_ rfl rfl ?_;refine tA 4 28 (mL 8 31) HT_ HW_ hHeld rfl rfl (by rintro w' ⟨s0,s1,s2,s3,s4,s5,s6,s7⟩;go_simp;with_reducible rfl) ?_;refine tA 5 29 (mL 8 63) HT_ HW_ hHeld rfl rfl (by rintro w' ⟨s0,s1,s2,s3,s4,s5,s6,s7⟩;go_simp;with_reducible rfl) ?_;refine one_ (i:=6) (N:=some 30) (mL 8 127) rfl rfl (bk_ HT_.out KR) (by decide) (fun K hK=>?_);refine goesF_ ?hv Tryz.func107 KR rfl #[.agg #[.string ((a_ l0 (g)).f0),.int .i64 ((a_ l0 (g)).f1),.int .i64 ((a_ l0 (g)).f2),.string ((a_ l0 (g)).f3)],.agg #[.string t,.int .i64 u,.int .i64 v,.string x]] (by rfl) rfl rfl (by(try simp only[List.map_toArray,List.map_cons,List.map_nil]);first|done|(simp only[hji6];rfl)|rfl|(simp only[List.length_drop,List.length_take];rfl)) ?_
     case hv=>rfl
     with_reducible refine(a1_.calls k1 ((a_ l0 (g)).f0) ((a_ l0 (g)).f1) ((a_ l0 (g)).f2) ((a_ l0 (g)).f3) t u v x R _ ?side1 A9.out).mono ?_
     (case side1=>exact GW HGL);rintro e ax ⟨rfl,hb⟩;refine⟨_,rfl,?_⟩;replace c:=KB c hb;replace HB:=BS hb;clear hb;refine hK.out _ _ ⟨bc 0 c,bc 1 c,bc 2 c,bc 3 c,(hBc HB D),(hBc HB B),(hBc HB A),(hBc HB z)⟩ (fun hHeld=>?_);clear hK K;refine nA ?_;refine pA 7 31 (mL 8 255) HT_ rfl rfl ?_;refine done_ (bJ_ HT_.out KR) ?_
     try go_wp2
     go_roundg k1
     case measure=>have:=HK1.out;omega
     case rel=>exact⟨(wrap64 ((g)+1)),(y),(by first|rfl|(simp;done)|(simp only[←hji6]<;>(first|rfl|simp))|(simp[*];done)),TF,H',⟨TM⟩,KW c,⟨TB⟩⟩
    ·rw[if_neg c10] at H;have ad:=decide_eq_false c10;clear c10;have H':=AM H;clear H
     try go_wp2
     replace c:=AM (ai_ c.out);replace HB:=AM (az_ HB.out);have M:0≤((g):Int):=TD;have O:(g)<(l0.length:Int):=TD;obtain⟨l,Z,m,o,p,q⟩:=ah_ ac.out (g) M O;have z:=q;have A:=p;have B:=o;have D:=m;cases Z;replace m:=hBc HB m;replace o:=hBc HB o;replace p:=hBc HB p;replace q:=hBc HB q;replace M:=eq_true M;replace O:=eq_true O;refine start_ (n:=8) (S:=fun w'=>w'.cell? ⟨s,0,none⟩=some (.string t)∧w'.cell? ⟨s,1,none⟩=some (.int .i64 u)∧w'.cell? ⟨s,2,none⟩=some (.int .i64 v)∧w'.cell? ⟨s,3,none⟩=some (.string x)∧w'.cell? (l.add (((g)).toNat * 4))=some (.string ((a_ l0 (g)).f0))∧w'.cell? ⟨(l.add (((g)).toNat * 4)).block,(l.add (((g)).toNat * 4)).off+1,none⟩=some (.int .i64 ((a_ l0 (g)).f1))∧w'.cell? ⟨(l.add (((g)).toNat * 4)).block,(l.add (((g)).toNat * 4)).off+2,none⟩=some (.int .i64 ((a_ l0 (g)).f2))∧w'.cell? ⟨(l.add (((g)).toNat * 4)).block,(l.add (((g)).toNat * 4)).off+3,none⟩=some (.string ((a_ l0 (g)).f3))) (ds:=[]) #[false,false,false,false,false,false,false,false] KR rfl rfl ⟨bc 0 c,bc 1 c,bc 2 c,bc 3 c,(hBc HB D),(hBc HB B),(hBc HB A),(hBc HB z)⟩ (fun hHeld=>?_);refine bl_ ac_.tab5 ac_.bits5 (fun HT_ HW_=>?_);generalize wr.drew=ay at c HB m o p q hHeld ⊢;refine pA 0 24 (mL 8 1) HT_ rfl rfl ?_;refine pA 1 25 (mL 8 3) HT_ rfl rfl ?_;refine pA 2 26 (mL 8 7) HT_ rfl rfl ?_;refine pA 3 27 (mL 8 15) HT_ rfl rfl ?_;refine tA 4 28 (mL 8 31) HT_ HW_ hHeld rfl rfl (by rintro w' ⟨s0,s1,s2,s3,s4,s5,s6,s7⟩;go_simp;with_reducible rfl) ?_;refine tA 5 29 (mL 8 63) HT_ HW_ hHeld rfl rfl (by rintro w' ⟨s0,s1,s2,s3,s4,s5,s6,s7⟩;go_simp;with_reducible rfl) ?_;refine one_ (i:=6) (N:=some 30) (mL 8 127) rfl rfl (bk_ HT_.out KR) (by decide) (fun K hK=>?_);refine goesF_ ?hv Tryz.func107 KR rfl #[.agg #[.string ((a_ l0 (g)).f0),.int .i64 ((a_ l0 (g)).f1),.int .i64 ((a_ l0 (g)).f2),.string ((a_ l0 (g)).f3)],.agg #[.string t,.int .i64 u,.int .i64 v,.string x]] (by rfl) rfl rfl (by(try simp only[List.map_toArray,List.map_cons,List.map_nil]);first|done|(simp only[hji6];rfl)|rfl|(simp only[List.length_drop,List.length_take];rfl)) ?_
     case hv=>rfl
     with_reducible refine(a1_.calls k1 ((a_ l0 (g)).f0) ((a_ l0 (g)).f1) ((a_ l0 (g)).f2) ((a_ l0 (g)).f3) t u v x R _ ?side1 A9.out).mono ?_
     (case side1=>exact GW HGL);rintro e az ⟨rfl,hb⟩;refine⟨_,rfl,?_⟩;replace c:=KB c hb;replace HB:=BS hb;clear hb;refine hK.out _ _ ⟨bc 0 c,bc 1 c,bc 2 c,bc 3 c,(hBc HB D),(hBc HB B),(hBc HB A),(hBc HB z)⟩ (fun hHeld=>?_);clear hK K;refine nA ?_;refine pA 7 31 (mL 8 255) HT_ rfl rfl ?_;refine done_ (bJ_ HT_.out KR) ?_
     try go_wp2
     go_roundg k1
     case measure=>have:=HK1.out;omega
     case rel=>exact⟨(j),(g),TF,(by first|rfl|(simp;done)|(simp only[←hji6]<;>(first|rfl|simp))|(simp[*];done)),H',⟨TM⟩,KW c,⟨TB⟩⟩
   ·rw[if_neg c5] at H;have ah:=decide_eq_false c5;clear c5;by_cases Y:j<(l0.length:Int)
    ·rw[if_pos Y] at H;have ae:=decide_eq_true Y;clear Y;obtain⟨ai,H⟩:=ifn H;have ao:=decide_eq_true ai;clear ai;obtain⟨aj,H⟩:=ifn H;have ap:=decide_eq_true aj;clear aj;obtain⟨ak,aq,H⟩:=bnd H;simp only[Option.some.injEq,Prod.mk.injEq] at H;obtain⟨rfl,rfl⟩:=H
     try go_wp2
     replace c:=AM (ai_ c.out);replace HB:=AM (az_ HB.out);have aa:0≤(j:Int):=TD;have ab:j<(l0.length:Int):=TD;obtain⟨E,al,F,G,I,J⟩:=ah_ ac.out j aa ab;have U:=J;have V:=I;have W:=G;have X:=F;cases al;replace F:=hBc HB F;replace G:=hBc HB G;replace I:=hBc HB I;replace J:=hBc HB J;replace aa:=eq_true aa;replace ab:=eq_true ab;refine start_ (n:=16) (S:=fun w'=>w'.cell? ⟨s,0,none⟩=some (.string t)∧w'.cell? ⟨s,1,none⟩=some (.int .i64 u)∧w'.cell? ⟨s,2,none⟩=some (.int .i64 v)∧w'.cell? ⟨s,3,none⟩=some (.string x)∧w'.cell? (E.add ((j).toNat * 4))=some (.string ((a_ l0 j).f0))∧w'.cell? ⟨(E.add ((j).toNat * 4)).block,(E.add ((j).toNat * 4)).off+1,none⟩=some (.int .i64 ((a_ l0 j).f1))∧w'.cell? ⟨(E.add ((j).toNat * 4)).block,(E.add ((j).toNat * 4)).off+2,none⟩=some (.int .i64 ((a_ l0 j).f2))∧w'.cell? ⟨(E.add ((j).toNat * 4)).block,(E.add ((j).toNat * 4)).off+3,none⟩=some (.string ((a_ l0 j).f3))) (ds:=[]) #[false,false,false,false,false,false,false,false,false,false,false,false,false,false,false,false] KR rfl rfl ⟨bc 0 c,bc 1 c,bc 2 c,bc 3 c,(hBc HB X),(hBc HB W),(hBc HB V),(hBc HB U)⟩ (fun hHeld=>?_);refine bl_ ac_.tab8 ac_.bits8 (fun HT_ HW_=>?_);generalize wr.drew=aA at c HB F G I J hHeld ⊢;refine pA 0 35 (mL 16 1) HT_ rfl rfl ?_;refine pA 1 36 (mL 16 3) HT_ rfl rfl ?_;refine pA 2 37 (mL 16 7) HT_ rfl rfl ?_;refine pA 3 38 (mL 16 15) HT_ rfl rfl ?_;refine pA 4 39 (mL 16 31) HT_ rfl rfl ?_;refine pA 5 40 (mL 16 63) HT_ rfl rfl ?_;refine pA 6 41 (mL 16 127) HT_ rfl rfl ?_;refine pA 7 42 (mL 16 255) HT_ rfl rfl ?_;refine pA 8 43 (mL 16 511) HT_ rfl rfl ?_;refine tA 9 44 (mL 16 1023) HT_ HW_ hHeld rfl rfl (by rintro w' ⟨s0,s1,s2,s3,s4,s5,s6,s7⟩;go_simp;with_reducible rfl) ?_;refine tA 10 45 (mL 16 2047) HT_ HW_ hHeld rfl rfl (by rintro w' ⟨s0,s1,s2,s3,s4,s5,s6,s7⟩;go_simp;with_reducible rfl) ?_;refine one_ (i:=11) (N:=some 46) (mL 16 4095) rfl rfl (bk_ HT_.out KR) (by decide) (fun K hK=>?_);refine goesF_ ?hv Tryz.func107 KR rfl #[.agg #[.string ((a_ l0 j).f0),.int .i64 ((a_ l0 j).f1),.int .i64 ((a_ l0 j).f2),.string ((a_ l0 j).f3)],.agg #[.string t,.int .i64 u,.int .i64 v,.string x]] (by rfl) rfl rfl TA ?_
     case hv=>rfl
     with_reducible refine(a1_.calls k1 ((a_ l0 j).f0) ((a_ l0 j).f1) ((a_ l0 j).f2) ((a_ l0 j).f3) t u v x ak _ ?side1 aq.out).mono ?_
     (case side1=>exact GW HGL);rintro e aB ⟨rfl,hb⟩;refine⟨_,rfl,?_⟩;replace c:=KB c hb;replace HB:=BS hb;clear hb;refine hK.out _ _ ⟨bc 0 c,bc 1 c,bc 2 c,bc 3 c,(hBc HB X),(hBc HB W),(hBc HB V),(hBc HB U)⟩ (fun hHeld=>?_);clear hK K;refine nA ?_;refine pA 12 47 (mL 16 8191) HT_ rfl rfl ?_;refine pA 13 48 (mL 16 16383) HT_ rfl rfl ?_;refine pA 14 6 (mL 16 32767) HT_ rfl rfl ?_;refine pA 15 7 (mL 16 65535) HT_ rfl rfl ?_;refine done_ (bJ_ HT_.out KR) ?_
     try go_wp2
     go_ret2;exact⟨TE,TB⟩
    ·rw[if_neg Y] at H;have ae:=decide_eq_false Y;clear Y;simp only[Option.some.injEq,Prod.mk.injEq] at H;obtain⟨rfl,rfl⟩:=H
     try go_wp2
     replace c:=AM (ai_ c.out);replace HB:=AM (az_ HB.out);refine start_ (n:=16) (S:=fun w'=>True) (ds:=[]) #[false,false,false,false,false,false,false,false,false,false,false,false,false,false,false,false] KR rfl rfl trivial (fun hHeld=>?_);refine bl_ ac_.tab8 ac_.bits8 (fun HT_ HW_=>?_);generalize wr.drew=aC at c HB hHeld ⊢;refine pA 0 35 (mL 16 1) HT_ rfl rfl ?_;refine pA 1 36 (mL 16 3) HT_ rfl rfl ?_;refine pA 2 37 (mL 16 7) HT_ rfl rfl ?_;refine pA 3 38 (mL 16 15) HT_ rfl rfl ?_;refine pA 4 39 (mL 16 31) HT_ rfl rfl ?_;refine pU 5 40 (mL 16 63) HT_ rfl rfl ?_;refine pU 6 41 (mL 16 127) HT_ rfl rfl ?_;refine pU 7 42 (mL 16 255) HT_ rfl rfl ?_;refine pU 8 43 (mL 16 511) HT_ rfl rfl ?_;refine pU 9 44 (mL 16 1023) HT_ rfl rfl ?_;refine pU 10 45 (mL 16 2047) HT_ rfl rfl ?_;refine pU 11 46 (mL 16 4095) HT_ rfl rfl ?_;refine pU 12 47 (mL 16 8191) HT_ rfl rfl ?_;refine pA 13 48 (mL 16 16383) HT_ rfl rfl ?_;refine pA 14 6 (mL 16 32767) HT_ rfl rfl ?_;refine pA 15 7 (mL 16 65535) HT_ rfl rfl ?_;refine done_ (bJ_ HT_.out KR) ?_
     try go_wp2
     go_ret2;exact⟨TE,TB⟩
end
section
theorem run_copy_rowK {P:Program} (w:World) (dT sT ty elem:TypeId) (k g o dLen dCap:Nat) (a:Addr) (sLen sCap:Nat) (cur:Array Value) (t:TypeId) (cs:List Value)
  (hu:P.underlying dT=some (.slice elem)) (hs:(P.info? elem).map (·.size)=some k)
  (hg:w.heap[g]? = some (.cells cur t (0,0))) (hn:cs.length=Nat.min sLen dLen * k)
  (hsrc:∀j v,cs[j]? = some v→w.cell? (a.add j)=some v) (hfit:o+cs.length≤cur.size) (h1:∀v∈cs,v.oneCell'=true) :
  (Builtin.copy_ #[dT,sT] ty #[.slice (some ⟨g,o,none⟩) dLen dCap,.slice (some a) sLen sCap]).run P w =
   .ok (goInt (Nat.min sLen dLen)) (w.setRow g (cur.toList.take o++cs++cur.toList.drop (o+cs.length)).toArray):=by
 have hl:=run_loadCells_list (P:=P) w a cs hsrc;have hst:=run_storeCells_at P g o t cs 0 cur w hg (by simpa using hfit) h1
 cases hq:P.info? elem with
 | none=>simp[hq] at hs
 | some i =>
  have hi:i.size=k:=by simpa[hq] using hs
  simp[Builtin.copy_,run_underlying hu,Builtin.lenOf,Builtin.firstCells,sizeOf,typeInfo,hq,hi,←hn,hl,hst]
def ins_T15:Bool × List (List Nat × List Nat):=(true,[([],[]),([],[]),([],[]),([1,2],[1,2]),([0,3],[0,3]),([],[]),([],[]),([5,6],[5,6]),([4,7],[4,7])])
def ins_B15:List Nat:=[0,0,0,6,15,0,0,96,255]
theorem ins_tab15:rtab .any (opsOf Tryz.f108 15)=ins_T15:=by kernel_rfl
theorem ins_bits15:waitsOk ins_T15.2 ins_B15=true:=by kernel_rfl
theorem setRow_heap' {w:World} {g:Nat} {cur cs:Array Value} {t:TypeId} (h:w.heap[g]? = some (.cells cur t (0,0))):(w.setRow g cs).heap[g]? = some (.cells cs t (0,0)):=setRow_heap w g cur cs t (0,0) h
theorem ins_list (n c i:Nat) (cur:Array Value) (xs vs:List Value) (A1 A2:Array Value) (hcur:cur.size=c * 4) (hx:cur.toList.take (n * 4)=xs) (hxl:xs.length=n * 4) (hi:i<n) (hroom:n+1≤c) (hvl:vs.length=4)
  (hA1:A1=(cur.toList.take ((i+1) * 4)++xs.drop (i * 4)++cur.toList.drop ((i+1) * 4+(xs.drop (i * 4)).length)).toArray) (hA2:A2=(A1.toList.take (i * 4)++vs++A1.toList.drop (i * 4+vs.length)).toArray) :
  A2.toList.take ((n+1) * 4)=xs.take (i * 4)++vs++xs.drop (i * 4):=by
 have hl:(cur.toList.take ((i+1) * 4)).length=(i+1) * 4:=by rw[List.length_take,Array.length_toList];omega
 have hd:(xs.drop (i * 4)).length=(n - i) * 4:=by rw[List.length_drop,hxl];omega
 have e0:A1.toList=cur.toList.take ((i+1) * 4)++(xs.drop (i * 4)++cur.toList.drop ((i+1) * 4+(xs.drop (i * 4)).length)):=by rw[hA1,List.append_assoc]
 have e1:A1.toList.take (i * 4)=xs.take (i * 4):=by
  rw[e0,List.take_append_of_le_length (by omega),List.take_take,←hx,List.take_take];congr 1;omega
 have e2:A1.toList.drop (i * 4+vs.length)=xs.drop (i * 4)++cur.toList.drop ((i+1) * 4+(xs.drop (i * 4)).length):=by
  rw[e0];exact List.drop_left' (by rw[hl,hvl];omega)
 have h3:(xs.take (i * 4)).length=i * 4:=by rw[List.length_take,hxl];omega
 rw[hA2,e1,e2];show((xs.take (i * 4)++vs)++(xs.drop (i * 4)++_)).take ((n+1) * 4)=_;rw[←List.append_assoc];exact List.take_left' (by simp only[List.length_append,h3,hvl,hd];omega)
theorem ins_shift (g n c i:Nat) (cur:Array Value) (xs vs:List Value) (w:World) (ad:Addr) (c2:Nat)
  (hg:w.heap[g]? = some (.cells cur 69 (0,0))) (hcur:cur.size=c * 4) (hx:cur.toList.take (n * 4)=xs) (hxl:xs.length=n * 4) (hi:i<n) (hroom:n+1≤c) (hc:c≤maxLen)
  (hvl:vs.length=4) (hvs:∀j v,vs[j]? = some v→w.cell? (ad.add j)=some v) (hne:ad.block≠g) (h1x:∀v∈xs,v.oneCell'=true) (h1v:∀v∈vs,v.oneCell'=true)
  (hov:∀(a':Addr) lb cb,a'.block=g→(callFunc 136 #[.slice (some ad) 1 c2,.slice (some a') lb cb]).run Tryz.prog w=.ok (.value (.bool false)) w) :
  Calls Tryz.prog 108 #[.slice (some ⟨g,0,none⟩) n c,.int .i64 i,.slice (some ad) 1 c2] w fun e w'=>e=.returned (.slice (some ⟨g,0,none⟩) (n+1) c) ∧
   ∃cur':Array Value,w'=(w.drew.setRow g cur')∧cur'.size=cur.size∧cur'.toList.take ((n+1) * 4)=xs.take (i * 4)++vs++xs.drop (i * 4):=by
 have hu27:=Tryz.underlying29
 have hz1:¬((1:Int)=0):=by omega
 have hz2:¬((i:Int)=(n:Int)):=by omega
 have hm:maxLen=9223372036854775807:=rfl
 have l:IntKind.i64.wrap ((i:Int)+(1:Int))=(i:Int)+(1:Int):=by rw[IntKind.wrap_i64];omega
 have m:IntKind.i64.wrap ((n:Int)+(1:Int))=(n:Int)+(1:Int):=by rw[IntKind.wrap_i64];omega
 have hb1:(0:Int)≤(i:Int)+(1:Int):=by omega
 have hin:i≤n:=by omega
 have hb2:¬(c=i+1):=by omega
 have hb3:(i:Int)≤(n:Int)+1:=by omega
 have hb4:¬(c=i):=by omega
 have hov':=fun o lb cb=>hov ⟨g,o,none⟩ lb cb rfl
 obtain⟨A1,hA1⟩:∃A1:Array Value,A1=(cur.toList.take ((i+1) * 4)++xs.drop (i * 4)++cur.toList.drop ((i+1) * 4+(xs.drop (i * 4)).length)).toArray:=⟨_,rfl⟩;obtain⟨A2,hA2⟩:∃A2:Array Value,A2=(A1.toList.take (i * 4)++vs++A1.toList.drop (i * 4+vs.length)).toArray:=⟨_,rfl⟩
 have hd1:(xs.drop (i * 4)).length=(n - i) * 4:=by rw[List.length_drop,hxl];omega
 have f:A1.size=cur.size:=by
  rw[hA1,List.size_toArray];simp only[List.length_append,List.length_take,List.length_drop,Array.length_toList];omega
 have hcp1:∀ty dc sc,(Builtin.copy_ #[29,29] ty #[.slice (some ⟨g,(i+1) * 4,none⟩) (n+1 - (i+1)) dc,.slice (some ⟨g,i * 4,none⟩) (n+1 - i) sc]).run Tryz.prog w.drew=.ok (goInt (Nat.min (n+1 - i) (n+1 - (i+1)))) (w.drew.setRow g A1):=fun ty dc sc=>by
  rw[hA1];refine run_copy_rowK w.drew 29 29 ty 69 4 g ((i+1) * 4) (n+1 - (i+1)) dc ⟨g,i * 4,none⟩ (n+1 - i) sc cur 69 (xs.drop (i * 4)) hu27 KR hg ?_ ?_ ?_ (fun v hv=>h1x v (List.mem_of_mem_drop hv))
  ·rw[hd1]
   have:Nat.min (n+1 - i) (n+1 - (i+1))=n - i:=by simp only[Nat.min_def];split<;>omega
   rw[this]
  ·intro j v hj
   have h2:cur[i * 4+j]? = some v:=by
    rw[List.getElem?_drop,←hx,List.getElem?_take] at hj;split at hj
    ·simpa using hj
    ·cases hj
   rw[Addr.add_lit];exact(cC_ (w:=w) hg (i * 4+j)).trans h2
  ·rw[hd1];omega
 have hcp2:∀ty dc sc,(Builtin.copy_ #[29,29] ty #[.slice (some ⟨g,i * 4,none⟩) (n+1 - i) dc,.slice (some ad) 1 sc]).run Tryz.prog (w.drew.setRow g A1)=.ok (goInt (Nat.min 1 (n+1 - i))) ((w.drew.setRow g A1).setRow g A2):=fun ty dc sc=>by
  rw[hA2];refine run_copy_rowK (w.drew.setRow g A1) 29 29 ty 69 4 g (i * 4) (n+1 - i) dc ad 1 sc A1 69 vs hu27 KR (setRow_heap w.drew g cur A1 69 (0,0) hg) ?_ ?_ ?_ h1v
  ·have:Nat.min 1 (n+1 - i)=1:=by simp only[Nat.min_def];split<;>omega
   rw[this,hvl]
  ·intro j v hj
   have hb:(ad.add j).block≠g:=by rw[add_block];exact hne
   have h2:=hvs j v hj
   have hk:(w.drew.setRow g A1).heap[(ad.add j).block]? = w.heap[(ad.add j).block]?:=by
    simp only[World.setRow,World.drew,Array.getElem?_modify];rw[if_neg (fun h=>hb h.symm)]
   exact(World.cell?_of_block hk).trans h2
  ·rw[f];omega
 have HA1:=AM hA1;have HA2:=AM hA2;have HL1:=AM f;have HX:=AM hx;have HXL:=AM hxl;have HVL:=AM hvl;have HCUR:=AM hcur;clear hA1 hA2 f hd1 hx hxl hvl hcur;go_enter Tryz.func108,Tryz.ntmps108;go_wp2_with (simp only[hov']);refine start_ (n:=9) (S:=fun _=>True) (ds:=[]) #[false,false,false,false,false,false,false,false,false] KR rfl rfl trivial (fun hHeld=>?_);refine bl_ ins_tab15 ins_bits15 (fun HT_ HW_=>?_);refine pA 0 69 (mL 9 1) HT_ rfl rfl ?_;refine pA 1 70 (mL 9 3) HT_ rfl rfl ?_;refine pA 2 71 (mL 9 7) HT_ rfl rfl ?_;refine pA 3 72 (mL 9 15) HT_ rfl rfl ?_;refine pA 4 73 (mL 9 31) HT_ rfl rfl ?_;refine pA 5 74 (mL 9 63) HT_ rfl rfl ?_;refine pA 6 75 (mL 9 127) HT_ rfl rfl ?_;refine pA 7 76 (mL 9 255) HT_ rfl rfl ?_;refine one_ (i:=8) (N:=some 77) (mL 9 511) rfl rfl (bk_ HT_.out KR) (by decide) (fun K hK=>?_);refine step_copy_runI rfl _ _ 29 29 rfl (.slice (some ⟨g,(i+1) * 4,none⟩) (n+1 - (i+1)) (c - (i+1))) (.slice (some ⟨g,i * 4,none⟩) (n+1 - i) (c - i)) ?hd ?hx (hcp1 _ _ _) ?_
 case hd=>go_simp
 case hx=>go_simp
 refine hK.out _ _ trivial (fun hHeld=>?_);clear hK K;refine nA ?_;refine done_ (bJ_ HT_.out KR) ?_;go_wp2_with (at_builtin;refine wpList_copy_runI _ rfl _ _ 29 29 rfl (.slice (some ⟨g,i * 4,none⟩) (n+1 - i) (c - i)) (.slice (some ad) 1 c2) ?hd ?hs (hcp2 _ _ _) ?_;(case hd=>go_simp);(case hs=>go_simp));go_ret;refine⟨by go_simp,A2,setRow_setRow _ _ _ _,?_,?_⟩
 ·rw[HA2.out,List.size_toArray];have:=HL1.out;simp only[List.length_append,List.length_take,List.length_drop,Array.length_toList,HVL.out];have:=HCUR.out;omega
 ·exact ins_list n c i cur xs vs A1 A2 HCUR.out HX.out HXL.out hi hroom HVL.out HA1.out HA2.out
def ins_T11:Bool × List (List Nat × List Nat):=(true,[([],[]),([],[]),([],[]),([1,2],[1,2]),([0,3],[0,3]),([],[]),([],[]),([5,6],[5,6]),([4,7],[4,7])])
theorem ins_tab11:rtab .any (opsOf Tryz.f108 11)=ins_T11:=by kernel_rfl
theorem ins_bits11:waitsOk ins_T11.2 ins_B15=true:=by kernel_rfl
theorem ins_glist (n i:Nat) (ROW:Array Value) (xs vs:List Value) (A1 A2:Array Value) (hx:ROW.toList.take (i * 4)=xs.take (i * 4)) (hR:(n+1) * 4≤ROW.size) (hxl:xs.length=n * 4) (hi:i<n) (hvl:vs.length=4)
  (hA1:A1=(ROW.toList.take (i * 4)++vs++ROW.toList.drop (i * 4+vs.length)).toArray) (hA2:A2=(A1.toList.take ((i+1) * 4)++xs.drop (i * 4)++A1.toList.drop ((i+1) * 4+(xs.drop (i * 4)).length)).toArray) :
  A2.toList.take ((n+1) * 4)=xs.take (i * 4)++vs++xs.drop (i * 4):=by
 have hd:(xs.drop (i * 4)).length=(n - i) * 4:=by rw[List.length_drop,hxl];omega
 have h3:(xs.take (i * 4)).length=i * 4:=by rw[List.length_take,hxl];omega
 have e0:A1.toList=(xs.take (i * 4)++vs)++ROW.toList.drop (i * 4+vs.length):=by rw[hA1,hx]
 have e1:A1.toList.take ((i+1) * 4)=xs.take (i * 4)++vs:=by
  rw[e0];exact List.take_left' (by simp only[List.length_append,h3,hvl];omega)
 rw[hA2,e1];exact List.take_left' (by simp only[List.length_append,h3,hvl,hd];omega)
theorem below_setRow {w W:World} {N:Nat} {cs:Array Value} (h:Below N w W):Below N w (W.setRow N cs) :=
 ⟨h.os,h.tape,h.output,by simpa[World.setRow] using h.size,fun k hk=>by
  have h0:=h.block k hk
  rw[←h0]
  simp only[World.setRow,Array.getElem?_modify]
  rw[if_neg (by omega)]⟩
theorem ins_grow (g n c i:Nat) (cur:Array Value) (xs vs:List Value) (w:World) (ad:Addr) (c2:Nat)
  (hg:w.heap[g]? = some (.cells cur 69 (0,0))) (hcur:cur.size=c * 4) (hx:cur.toList.take (n * 4)=xs) (hxl:xs.length=n * 4) (hi:i<n) (hnc:n≤c) (hroom:c<n+1) (hbig:(n+1) * 48≤140737488355328)
  (hvl:vs.length=4) (hvs:∀j v,vs[j]? = some v→w.cell? (ad.add j)=some v) (h1x:∀v∈xs,v.oneCell'=true) (h1v:∀v∈vs,v.oneCell'=true) :
  Calls Tryz.prog 108 #[.slice (some ⟨g,0,none⟩) n c,.int .i64 i,.slice (some ad) 1 c2] w fun e w'=>e=.returned (.slice (some ⟨w.heap.size,0,none⟩) (n+1) (grownCap w (n+1) c 69)) ∧
   Below w.heap.size w w'∧∃cur':Array Value,w'.heap[w.heap.size]? = some (.cells cur' 69 (0,0))∧cur'.size=grownCap w (n+1) c 69 * 4∧cur'.toList.take ((n+1) * 4)=xs.take (i * 4)++vs++xs.drop (i * 4):=by
 have hu27:=Tryz.underlying29;have hu3:=Tryz.underlying3;obtain⟨i0,m,hz0,hzs,hzb⟩:=info_parts info69
 have hz1:¬((1:Int)=0):=by omega
 have hz2:¬((i:Int)=(n:Int)):=by omega
 have hz3:(c:Int)<(n:Int)+(1:Int):=by omega
 have hm:maxLen=9223372036854775807:=rfl
 have p:IntKind.i64.wrap ((i:Int)+(1:Int))=(i:Int)+(1:Int):=by rw[IntKind.wrap_i64];omega
 have q:IntKind.i64.wrap ((n:Int)+(1:Int))=(n:Int)+(1:Int):=by rw[IntKind.wrap_i64];omega
 have s:IntKind.i64.wrap ((n:Int)+(1:Int) - (i:Int))=(n:Int)+(1:Int) - (i:Int):=by rw[IntKind.wrap_i64];omega
 have hb1:(0:Int)≤(i:Int)+(1:Int):=by omega
 have hin:i≤n:=by omega
 have hb3:(i:Int)≤(n:Int):=by omega
 have hkk:(n:Int)+1 - (i:Int)=((n+1 - i:Nat):Int):=by omega
 have hik:i+(n+1 - i)=n+1:=by omega
 have hgl:g<w.heap.size:=blk_lt hg
 have hcell:∀j v,xs[j]? = some v→w.cell? ⟨g,j,none⟩=some v:=fun j v hj=>by
  have h2:cur[j]? = some v:=by
   rw[←hx,List.getElem?_take] at hj;split at hj
   ·simpa using hj
   ·cases hj
  exact(cC_ (w:=w) hg j).trans h2
 have hold:(Builtin.firstCells i0.size i (.slice (some ⟨g,0,none⟩) i c)).run Tryz.prog w.drew=.ok (xs.take (i * 4)).toArray w.drew:=by
  rw[hzs]
  exact run_firstCells_some w.drew 4 i ⟨g,0,none⟩ i c (xs.take (i * 4)) (by rw[List.length_take];omega) (fun j v hj=>by
   rw[Addr.add_lit,Nat.zero_add];rw[List.getElem?_take] at hj;split at hj
   ·exact hcell j v hj
   ·cases hj)
 obtain⟨G,hG⟩:∃G,G=grownCap w (n+1) c 69:=⟨_,rfl⟩;obtain⟨ROW,hROW⟩:∃ROW:Array Value,ROW=(xs.take (i * 4)).toArray++Builtin.zeroCells (Value.agg #[(.string ⟨#[]⟩),(.int .i64 0),(.int .i64 0),(.string ⟨#[]⟩)]).cells (n+1 - i)++Builtin.zeroCells (Value.agg #[(.string ⟨#[]⟩),(.int .i64 0),(.int .i64 0),(.string ⟨#[]⟩)]).cells (G - (n+1)):=⟨_,rfl⟩
 have hGn:n+1≤G:=by rw[hG];exact grownCap_ge w _ _ _
 have hG63:G≤9223372036854775807:=by
  have:=grownCap_le_maxLen w (n+1) c 69 (by unfold maxLen;omega);rw[←hG] at this;unfold maxLen at this;omega
 have hzc:(Value.agg #[(.string ⟨#[]⟩),(.int .i64 0),(.int .i64 0),(.string ⟨#[]⟩)]).cells.size=4:=rfl
 have hRl:ROW.size=G * 4:=by
  rw[hROW];simp only[Array.size_append,List.size_toArray,size_zeroCells,hzc,List.length_take];omega
 have hRt:ROW.toList.take (i * 4)=xs.take (i * 4):=by
  rw[hROW];simp only[Array.toList_append,List.append_assoc];exact List.take_left' (by rw[List.length_take];omega)
 have hrz:∀ty,(Builtin.append_ #[29,3] ty #[.slice (some ⟨g,0,none⟩) i c,.int .i64 ((n:Int)+(1:Int) - (i:Int))]).run Tryz.prog w=.ok (.slice (some ⟨w.heap.size,0,none⟩) (n+1) G) (w.drew.alloc (.cells ROW 69)):=fun ty=>by
  have h:=Go.Lib.run_append_grow_zeros w 29 3 ty 69 i0 _ .i64 .i64 hu27 hu3 m hz0 (some ⟨g,0,none⟩) i c (xs.take (i * 4)) hold (n+1 - i) (by omega) (by rw[hzs];omega) (by omega) (by omega) (by rw[hzb];omega) (by rw[hzb,hik];exact growslice_fits hroom hbig);rw[hik] at h;rw[hkk,hROW,hG];exact h
 obtain⟨N,hN⟩:∃N,N=w.heap.size:=⟨_,rfl⟩;obtain⟨W0,hW0⟩:∃W0,W0=w.drew.alloc (.cells ROW 69):=⟨_,rfl⟩;rw[←hW0,←hN] at hrz
 have hB0:Below w.heap.size w W0:=by rw[hW0];exact aN_ (below_drew (Below.refl _ _)) _
 have hN0:W0.heap[N]? = some (.cells ROW 69 (0,0)):=by rw[hW0,hN];exact heap_alloc_new w.drew _
 obtain⟨A1,hA1⟩:∃A1:Array Value,A1=(ROW.toList.take (i * 4)++vs++ROW.toList.drop (i * 4+vs.length)).toArray:=⟨_,rfl⟩;obtain⟨A2,hA2⟩:∃A2:Array Value,A2=(A1.toList.take ((i+1) * 4)++xs.drop (i * 4)++A1.toList.drop ((i+1) * 4+(xs.drop (i * 4)).length)).toArray:=⟨_,rfl⟩
 have hd1:(xs.drop (i * 4)).length=(n - i) * 4:=by rw[List.length_drop,hxl];omega
 have f:A1.size=G * 4:=by
  rw[hA1,List.size_toArray];simp only[List.length_append,List.length_take,List.length_drop,Array.length_toList];omega
 have l:A2.size=G * 4:=by
  rw[hA2,List.size_toArray];simp only[List.length_append,List.length_take,List.length_drop,Array.length_toList];omega
 have hN1:(W0.setRow N A1).heap[N]? = some (.cells A1 69 (0,0)):=setRow_heap W0 N ROW A1 69 (0,0) hN0
 have hfar:∀(cs:Array Value) (a:Addr) (u:Value),w.cell? a=some u→(W0.setRow N cs).cell? a=some u:=fun cs a u h=>by
  have hlt:=World.block_lt_of_cell? w a h
  have hk:(W0.setRow N cs).heap[a.block]? = w.heap[a.block]?:=by
   have h0:=hB0.block a.block hlt;rw[←h0];simp only[World.setRow,Array.getElem?_modify];rw[if_neg (by omega)]
  exact(World.cell?_of_block hk).trans h
 have hfar0:∀(a:Addr) (u:Value),w.cell? a=some u→W0.cell? a=some u:=fun a u h=>(hB0.cell (World.block_lt_of_cell? w a h)).trans h
 have hcpA:∀ty dc sc,(Builtin.copy_ #[29,29] ty #[.slice (some ⟨N,i * 4,none⟩) (n+1 - i) dc,.slice (some ad) 1 sc]).run Tryz.prog W0=.ok (goInt (Nat.min 1 (n+1 - i))) (W0.setRow N A1):=fun ty dc sc=>by
  rw[hA1];refine run_copy_rowK W0 29 29 ty 69 4 N (i * 4) (n+1 - i) dc ad 1 sc ROW 69 vs hu27 KR hN0 ?_ (fun j v hj=>hfar0 _ _ (hvs j v hj)) ?_ h1v
  ·have:Nat.min 1 (n+1 - i)=1:=by simp only[Nat.min_def];split<;>omega
   rw[this,hvl]
  ·rw[hRl];omega
 have hcpB:∀ty dc sc,(Builtin.copy_ #[29,29] ty #[.slice (some ⟨N,(i+1) * 4,none⟩) (n+1 - (i+1)) dc,.slice (some ⟨g,i * 4,none⟩) (n - i) sc]).run Tryz.prog (W0.setRow N A1).drew=.ok (goInt (Nat.min (n - i) (n+1 - (i+1)))) ((W0.setRow N A1).drew.setRow N A2):=fun ty dc sc=>by
  rw[hA2];refine run_copy_rowK (W0.setRow N A1).drew 29 29 ty 69 4 N ((i+1) * 4) (n+1 - (i+1)) dc ⟨g,i * 4,none⟩ (n - i) sc A1 69 (xs.drop (i * 4)) hu27 KR hN1 ?_ ?_ ?_ (fun v hv=>h1x v (List.mem_of_mem_drop hv))
  ·rw[hd1]
   have:Nat.min (n - i) (n+1 - (i+1))=n - i:=by simp only[Nat.min_def];split<;>omega
   rw[this]
  ·intro j v hj;rw[List.getElem?_drop] at hj;rw[Addr.add_lit];exact hfar A1 ⟨g,i * 4+j,none⟩ v (hcell _ v hj)
  ·rw[hd1,f];omega
 have hGi:¬(G=i):=by omega
 have hGim:¬(G=i+1):=by omega
 have hci:¬(c=i):=by omega
 have hres:A2.toList.take ((n+1) * 4)=xs.take (i * 4)++vs++xs.drop (i * 4):=ins_glist n i ROW xs vs A1 A2 hRt (by omega) hxl hi hvl hA1 hA2;have HRES:=AM hres;have HB0:=AM hB0;have t:=AM hN0;have HN:=AM hN;have HL2:=AM l;have x:=AM hW0;have HGG:=AM hG;have o:=AM hN1;clear hres hB0 hN0 hN f l hA1 hA2 hd1 hRt hRl hzc hROW hold hfar hfar0 hW0 hG hx hxl hvl hcur hcell hgl hkk hik hN1 hbig hG63;go_enter Tryz.func108,Tryz.ntmps108
 go_wp2_with (first
  | (at_builtin;refine Go.Lib.wpList_append_run _ rfl _ _ _ _ rfl (.slice (some ⟨g,0,none⟩) i c) (.int .i64 ((n:Int)+(1:Int) - (i:Int))) ?hd ?hs _ _ (hrz _) ?_;(case hd=>go_simp);(case hs=>go_simp))
  | (at_builtin;refine wpList_copy_runI _ rfl _ _ 29 29 rfl (.slice (some ⟨N,i * 4,none⟩) (n+1 - i) (G - i)) (.slice (some ad) 1 c2) ?hd ?hs (hcpA _ _ _) ?_;(case hd=>go_simp);(case hs=>go_simp)))
 refine start_ (n:=9) (S:=fun _=>True) (ds:=[]) #[false,false,false,false,false,false,false,false,false] KR rfl rfl trivial (fun hHeld=>?_);refine bl_ ins_tab11 ins_bits11 (fun HT_ HW_=>?_);refine pA 0 46 (mL 9 1) HT_ rfl rfl ?_;refine pA 1 47 (mL 9 3) HT_ rfl rfl ?_;refine pA 2 48 (mL 9 7) HT_ rfl rfl ?_;refine pA 3 49 (mL 9 15) HT_ rfl rfl ?_;refine pA 4 50 (mL 9 31) HT_ rfl rfl ?_;refine pA 5 51 (mL 9 63) HT_ rfl rfl ?_;refine pA 6 52 (mL 9 127) HT_ rfl rfl ?_;refine pA 7 53 (mL 9 255) HT_ rfl rfl ?_;refine one_ (i:=8) (N:=some 54) (mL 9 511) rfl rfl (bk_ HT_.out KR) (by decide) (fun K hK=>?_);refine step_copy_runI rfl _ _ 29 29 rfl (.slice (some ⟨N,(i+1) * 4,none⟩) (n+1 - (i+1)) (G - (i+1))) (.slice (some ⟨g,i * 4,none⟩) (n - i) (c - i)) ?hd ?hx (hcpB _ _ _) ?_
 case hd=>go_simp
 case hx=>go_simp
 refine hK.out _ _ trivial (fun hHeld=>?_);clear hK K;refine nA ?_;refine done_ (bJ_ HT_.out KR) ?_;go_wp2;go_ret;refine⟨by rw[←HGG.out,←HN.out];go_simp,?_,A2,?_,by rw[HL2.out,HGG.out],HRES.out⟩
 ·have hs:=HB0.out;rw[←HN.out] at hs ⊢;exact below_setRow (az_ (below_setRow hs))
 ·rw[←HN.out];exact setRow_heap (W0.setRow N A1).drew N A1 A2 69 (0,0) o.out
theorem ins_hov (vb g c2:Nat) (vcur cur:Array Value) (w:World) (hv:w.heap[vb]? = some (.cells vcur 69 (0,0))) (hg:w.heap[g]? = some (.cells cur 69 (0,0))) (hcs:cur.size≠0) (hne:vb≠g) :
  ∀(a':Addr) (lb cb:Nat),a'.block=g→(callFunc 136 #[.slice (some ⟨vb,0,none⟩) 1 c2,.slice (some a') lb cb]).run Tryz.prog w=.ok (.value (.bool false)) w:=by
 intro a' lb cb ha;obtain⟨i0,c,hz0,hzs,hzb⟩:=info_parts info69
 have hz:∀w,(Go.sizeOf 69).run Tryz.prog w=.ok 4 w:=fun w=>by simp[sizeOf,typeInfo,c,hzs]
 rw[run_callFunc_extern Tryz.func136 KR KR KR (e:=Extern.SlicesOverlaps.overlaps #[29,29] #[4]) KR,
  Go.Lib.run_overlaps_apart w 29 4 69 Tryz.underlying29 4 hz ⟨vb,0,none⟩ a' 1 c2 lb cb (by rw[ha];exact hne) 69 69 vcur.size cur.size (by simp[World.shape?,hv]) (by rw[ha];simp[World.shape?,hg]) hcs (by simp[World.frozen?,hv]) (by simp[World.frozen?,hv])]
 rfl
def encRec (r:ab_):List Value:=[.string r.f0,.int .i64 r.f1,.int .i64 r.f2,.string r.f3]
theorem ins_reads (w:World) (vb:Nat) (r:ab_) (hv:w.heap[vb]? = some (.cells (encRec r).toArray 69 (0,0))):Kd.C ae_ w (some ⟨vb,0,none⟩) 1 [r]:=by
 refine⟨rfl,by omega,fun _=>⟨⟨vb,0,none⟩,rfl,fun j p hj=>⟨encRec r,rfl,?_,fun i u hu=>?_⟩⟩⟩
 ·have:p=r:=by
   cases j with
   | zero=>simpa using hj.symm
   | succ j=>simp at hj
  subst this;exact k_Record_mk w p
 ·have c:j=0:=by
   cases j with
   | zero=>rfl
   | succ j=>simp at hj
  subst c;rw[Addr.add_lit];have h2:=cC_ (w:=w) hv (0+(0 * ae_.sz+i));rw[h2];simpa using hu
theorem ins_end (l0:List ab_) (r:ab_) (u:Value) (w:World) (base:Nat) (ok:Nat→Prop) (vb:Nat)
  (HO:ae_.R 69 w base ok u l0) (hv:w.heap[vb]? = some (.cells (encRec r).toArray 69 (0,0))) (hfresh:∀k,w.heap.size≤k→ok k) (hbase:base≤w.heap.size) (hbig:(l0.length+1) * 48≤140737488355328) :
  Calls Tryz.prog 108 #[u,.int .i64 (l0.length:Int),.slice (some ⟨vb,0,none⟩) 1 1] w fun e w'=>∃v',e=.returned v'∧ae_.R 69 w' base ok v' (l0++[r])∧w.grownBy w' u.ownBlock:=by
 have hu27:=Tryz.underlying29;have hC:=ins_reads w vb r hv
 have hz1:¬((1:Int)=0):=by omega
 have hform:(u=.slice none 0 0∧l0.length=0)∨∃g c,u=.slice (some ⟨g,0,none⟩) l0.length c∧l0.length≤c:=by
  obtain⟨_,inner,ho,_⟩:=HO
  rcases ho.2 with ⟨h1,h2⟩|⟨g,cap,cur,h1,_,_,h4,_⟩
  ·exact Or.inl ⟨h1,h2⟩
  ·exact Or.inr ⟨g,cap,h1,h4⟩
 have HO':=AM HO;have HC:=AM hC;have HF:=AM hfresh;have HBG:=AM hbig;have HBS:=AM hbase;clear HO hC hfresh hbig hbase hv
 rcases hform with ⟨rfl,h0⟩|⟨g,c,rfl,hc⟩
 ·obtain rfl:l0=[]:=List.eq_nil_of_length_eq_zero h0;clear h0;go_enter Tryz.func108,Tryz.ntmps108;go_wp2_with ((with_reducible refine bT_ (b:=.append) (xs:=#[.tmp 23,.tmp 24]) rfl ?_);at_builtin;refine Kd.R_append_rows ae_ (w0:=w) base rfl (.tmp 23) (.tmp 24) 29 69 (.agg #[(.string ⟨#[]⟩),(.int .i64 0),(.int .i64 0),(.string ⟨#[]⟩)]) 48 rfl Tryz.underlying29 info69 rfl (by decide) (by omega) (.slice none 0 0) ([]:List ab_) [r] _ _ _ ok (fun _=>False) rfl rfl HO'.out HC.out (fun x cs h=>by rw[k_Record_open h];exact bK_ _ _ _ x) (fun _ h=>h.elim) HF.out (Below.refl _ _) HBS.out HBG.out ?_;intro v1 w1 ho hb hg hat);go_ret;exact⟨_,rfl,ho,hg⟩
 ·have hN:((l0.length:Int))≤(c:Int):=by omega
  obtain⟨n,hn⟩:∃n,n=l0.length:=⟨_,rfl⟩;rw[←hn] at hc hN HO' ⊢;have HN:=AM hn;clear hn;go_enter Tryz.func108,Tryz.ntmps108;go_wp2_with ((with_reducible refine bT_ (b:=.append) (xs:=#[.tmp 23,.tmp 24]) rfl ?_);at_builtin;refine Kd.R_append_rows ae_ (w0:=w) base rfl (.tmp 23) (.tmp 24) 29 69 (.agg #[(.string ⟨#[]⟩),(.int .i64 0),(.int .i64 0),(.string ⟨#[]⟩)]) 48 rfl Tryz.underlying29 info69 rfl (by decide) (by omega) (.slice (some ⟨g,0,none⟩) n c) l0 [r] _ _ _ ok (fun _=>False) rfl rfl HO'.out HC.out (fun x cs h=>by rw[k_Record_open h];exact bK_ _ _ _ x) (fun _ h=>h.elim) HF.out (Below.refl _ _) HBS.out HBG.out ?_;intro v1 w1 ho hb hg hat)
  all_goals (go_ret;exact⟨_,rfl,ho,hg⟩)
theorem rec_one (r:ab_):∀v∈encRec r,v.oneCell'=true:=by
 intro v hv;simp only[encRec,List.mem_cons,List.not_mem_nil,or_false] at hv
 rcases hv with rfl|rfl|rfl|rfl<;>rfl
theorem reps_one {w:World} {base:Nat} {ok:Nat→Prop}:∀{xs:List ab_} {cs:List Value},Reps (ae_.M w base ok) 4 xs cs→cs=xs.flatMap encRec
 | [],cs,h=>List.eq_nil_of_length_eq_zero (by rw[h.1];rfl)
 | x::t,cs,h=>by
  have h1:=cf_ (h.2 0 x rfl)
  have h2:=reps_one (Kd.reps_drop (m:=1) h)
  rw[Nat.zero_mul,List.drop_zero] at h1
  have h3:cs=cs.take 4++cs.drop 4:=(List.take_append_drop 4 cs).symm
  rw[h3,h1]
  have h4:cs.drop (1 * 4)=cs.drop 4:=rfl
  rw[h4] at h2
  rw[h2]
  rfl
theorem one_reps (w:World) (base:Nat) (ok:Nat→Prop) (xs:List ab_):Reps (ae_.M w base ok) 4 xs (xs.flatMap encRec):=by
 induction xs with
 | nil=>exact Reps.none _ _
 | cons x t ih =>
  have h1:Reps (ae_.M w base ok) 4 [x] (encRec x):=Reps.snoc (Reps.none _ _) (bK_ w base ok x) rfl;exact Kd.reps_append h1 ih
theorem flat_one (xs:List ab_):∀v∈xs.flatMap encRec,v.oneCell'=true:=by
 intro v hv;obtain⟨x,_,hx⟩:=List.mem_flatMap.mp hv;exact rec_one x v hx
theorem flat_len (xs:List ab_):(xs.flatMap encRec).length=xs.length * 4:=by
 induction xs with
 | nil=>rfl
 | cons x t ih =>
  rw[List.flatMap_cons,List.length_append,ih,List.length_cons];have:(encRec x).length=4:=rfl;omega
theorem flat_take (xs:List ab_):∀i:Nat,(xs.flatMap encRec).take (i * 4)=(xs.take i).flatMap encRec:=by
 induction xs with
 | nil=>intro i;simp
 | cons x t ih =>
  intro i
  cases i with
  | zero=>simp
  | succ i =>
   have e:(i+1) * 4=(encRec x).length+i * 4:=by
    have:(encRec x).length=4:=rfl;omega
   rw[List.flatMap_cons,List.take_succ_cons,List.flatMap_cons,e,List.take_append,Nat.add_sub_cancel_left,ih,List.take_of_length_le (by omega)]
theorem flat_drop (xs:List ab_):∀i:Nat,(xs.flatMap encRec).drop (i * 4)=(xs.drop i).flatMap encRec:=by
 induction xs with
 | nil=>intro i;simp
 | cons x t ih =>
  intro i
  cases i with
  | zero=>simp
  | succ i =>
   have e:(i+1) * 4=(encRec x).length+i * 4:=by
    have:(encRec x).length=4:=rfl;omega
   rw[List.flatMap_cons,List.drop_succ_cons,e,List.drop_append,Nat.add_sub_cancel_left,ih,List.drop_eq_nil_of_le (by omega),List.nil_append]
theorem ins_R (l0:List ab_) (r:ab_) (u:Value) (i:Nat) (w:World) (base:Nat) (ok:Nat→Prop) (vb:Nat)
  (HO:ae_.R 69 w base ok u l0) (hv:w.heap[vb]? = some (.cells (encRec r).toArray 69 (0,0))) (hne:some vb≠u.ownBlock) (hfresh:∀k,w.heap.size≤k→ok k) (hbase:base≤w.heap.size) (hbig:(l0.length+1) * 48≤140737488355328) (hi:i≤l0.length) :
  Calls Tryz.prog 108 #[u,.int .i64 (i:Int),.slice (some ⟨vb,0,none⟩) 1 1] w fun e w'=>∃v',e=.returned v'∧ae_.R 69 w' base ok v' (l0.take i++r::l0.drop i)∧w.grownBy w' u.ownBlock:=by
 by_cases he:i=l0.length
 ·subst he;rw[List.take_length,List.drop_length];exact ins_end l0 r u w base ok vb HO hv hfresh hbase hbig
 ·have hlt:i<l0.length:=by omega
  obtain⟨hok,inner,ho,hr⟩:=HO;have hin:=reps_one hr
  rcases ho.2 with ⟨rfl,h0⟩|⟨g,c,cur,rfl,hb,hg,hnc,hcm,hcs,htk⟩
  ·omega
  ·have hgv:vb≠g:=fun e=>hne (by rw[e];rfl)
   have hcs':cur.size=c * 4:=hcs
   have htk':cur.toList.take (l0.length * 4)=l0.flatMap encRec:=by rw[←hin];exact htk
   have hvs:∀j v,(encRec r)[j]? = some v→w.cell? ((⟨vb,0,none⟩:Addr).add j)=some v:=fun j v hj=>by
    rw[Addr.add_lit,Nat.zero_add];exact(cC_ (w:=w) hv j).trans (by simpa using hj)
   have hlist:(l0.flatMap encRec).take (i * 4)++encRec r++(l0.flatMap encRec).drop (i * 4)=(l0.take i++r::l0.drop i).flatMap encRec:=by
    rw[flat_take,flat_drop,List.flatMap_append,List.flatMap_cons,List.append_assoc]
   have hlen:(l0.take i++r::l0.drop i).length=l0.length+1:=by
    simp only[List.length_append,List.length_cons,List.length_take,List.length_drop];omega
   by_cases hroom:l0.length+1≤c
   ·refine(ins_shift g l0.length c i cur (l0.flatMap encRec) (encRec r) w ⟨vb,0,none⟩ 1 hg hcs' htk' (flat_len l0) hlt hroom hcm rfl hvs hgv (flat_one l0) (rec_one r) (ins_hov vb g 1 _ cur w hv hg (by omega) hgv)).mono ?_;rintro e w' ⟨rfl,cur',rfl,hs,ht⟩
    have hgrow:w.grownBy (w.drew.setRow g cur') (some g):=⟨rfl,rfl,rfl,by simp[World.setRow],fun k hk hkne=>by
     simp only[World.setRow,Array.getElem?_modify];rw[if_neg (fun h=>hkne (by rw[h]))]
     rfl⟩
    refine⟨_,rfl,⟨hok,(l0.take i++r::l0.drop i).flatMap encRec,⟨(flat_len _),Or.inr ⟨g,c,cur',by rw[hlen],hb,setRow_heap w.drew g cur cur' 69 (0,0) hg,by omega,hcm,by rw[hs];exact hcs,?_⟩⟩,one_reps _ _ _ _⟩,hgrow⟩;rw[hlen,←hlist,←ht];rfl
   ·refine(ins_grow g l0.length c i cur (l0.flatMap encRec) (encRec r) w ⟨vb,0,none⟩ 1 hg hcs' htk' (flat_len l0) hlt hnc (by omega) hbig rfl hvs (flat_one l0) (rec_one r)).mono ?_;rintro e w' ⟨rfl,hbel,cur',hg',hs,ht⟩;refine⟨_,rfl,⟨fun k hk=>hfresh k (by simp only[Value.ownBlock,Option.some.injEq] at hk;omega),(l0.take i++r::l0.drop i).flatMap encRec,⟨(flat_len _),Or.inr ⟨w.heap.size,grownCap w (l0.length+1) c 69,cur',by rw[hlen],hbase,hg',by rw[hlen];exact grownCap_ge w _ _ _,grownCap_le_maxLen w _ _ _ (by unfold maxLen;omega),hs,?_⟩⟩,one_reps _ _ _ _⟩,grown_of_below hbel _⟩;rw[hlen,←hlist,←ht];rfl
theorem sE {P:Program} {ops:Array Oper} {rest:List Oper} {o:Oper} {a:Act} {Q:Exit→Act→World→Prop} {W:World} (N:Tmp) (cs:Array Value) (t:TypeId) (n:Nat) (h:∀g,g=W.heap.size→∀w1,w1.heap[g]? = some (.cells cs t (0,0))→Below W.heap.size W w1→wpList P ops Q rest (a.put o.dst (.slice (some ⟨g,0,none⟩) n n)) w1) (hd:o.dst=some N:=by rfl) (hg:o.guard=none:=by rfl)
  (hr:(execOp a.eval o).run P W=.ok (.value (.slice (some ⟨W.heap.size,0,none⟩) n n)) (W.alloc (.cells cs t (0,0))):=by first|(go_simp;done)|(go_simp;rfl)):wpList P ops Q (o::rest) a W :=
 Kd.event_run hg hr (h _ rfl _ (heap_alloc_new W _) (aN_ (Below.refl _ _) _))
def impl_put.f (k:Nat) (l0:List (ab_)) (c:ByteArray) (g:Int) (h:Int) (i:ByteArray):Option (List (ab_)):=(ac_.f k l0 c g h i).bind fun t=>if t.2=true then some l0 else if 0≤t.1∧t.1≤(l0.length:Int)∧(l0.length+1) * 48≤140737488355328 then some (l0.take t.1.toNat++(⟨c,g,h,i⟩:ab_)::l0.drop t.1.toNat) else none
theorem impl_put.calls (k:Nat) (P0_:Nat→Prop) (u9000_:Value) (l0:List (ab_)) (g:ByteArray) (j:Int) (l:Int) (m:ByteArray) (r:List (ab_)) (w0 w:World) (hB:Below w0.heap.size w0 w) (o:Kd.R ae_ 69 w w0.heap.size P0_ u9000_ l0) (hG_:Glob w) (h:impl_put.f k l0 g j l m=some r) :
 Calls Tryz.prog 78 #[u9000_,.agg #[.string g,.int .i64 j,.int .i64 l,.string m]] w fun e w'=>∃v0_:Value,e=.returned (v0_)∧Kd.R ae_ 69 w' w0.heap.size (fun k_=>(P0_ k_∨w.heap.size≤k_)) v0_ r∧Below w0.heap.size w0 w'∧Kept w w' (fun k_=>P0_ k_):=by
 have hu93:=Tryz.underlying69;have hu27:=Tryz.underlying29;obtain⟨A,c,eo⟩:=Kd.aF_ o;subst eo;have hC:=Kd.ak_ o;have HC:=AM hC.2.2;have HL:=AM hC.2.1;have HO:=AM o;have HGL:=AM hG_;have HB0:=AM hB;have HB:=AM (Below.refl w.heap.size w);clear hC o hB hG_;unfold impl_put.f at h;obtain⟨⟨t1,t2⟩,A1,H⟩:=bnd h;clear h;simp only at H
 cases t2 with
 | true =>
  replace H:=ift H;obtain rfl:=Option.some.inj H;go_enter Tryz.func78,Tryz.ntmps78;go_wp2_with (first|(refine gD 3 rfl ?_;refine bE 3 #[.string g,.int .i64 j,.int .i64 l,.string m] 69 ?_;intro s hg w3 hbox hb;have n:=AM (hbox);have t:=bG hg;replace HB:=BS hb;clear hb hbox hg;have p:=cz4 n)|(refine gL 10 rfl Tryz.func106 #[.slice A l0.length c,.agg #[.string g,.int .i64 j,.int .i64 l,.string m],.func (.func 107) #[] #[]] rfl TA ?_;(refine(ac_.calls k _ _ l0 g j l m t1 true _ ?side1 ?side2 ?side3 A1.out).mono ?_);(case side1=>exact CW (Kd.af_ HC.out HB.out));(case side2=>exact HL.out);(case side3=>exact GW HGL);rintro e w4 ⟨rfl,hb⟩;refine⟨_,rfl,?_⟩;replace n:=KB n hb;replace HB:=BS hb;clear hb));go_ret;exact⟨_,rfl,Kd.a4_ (Kd.bV_ HO.out HB.out) (fun k h=>Or.inl h),below_then HB0.out HB0.out.size HB.out,Kept.of_below HB.out _⟩
 | false =>
  replace H:=iff' H;obtain⟨⟨h1,h2,h3⟩,H⟩:=ifn H;obtain rfl:=Option.some.inj H;obtain⟨i,rfl⟩:∃i:Nat,t1=(i:Int):=⟨t1.toNat,by omega⟩;have HI:=AM (show i≤l0.length by omega);have HBG:=AM h3
  have hne_:∀{W:World} {gb:Nat},gb=W.heap.size→Below w.heap.size w W→some gb≠(.slice A l0.length c:Value).ownBlock:=fun hg hb he=>by
   have h5:=Kd.R_lt HO.out _ he.symm;have h6:=hb.size;omega
  rw[Int.toNat_natCast];clear h1 h2 h3;go_enter Tryz.func78,Tryz.ntmps78;go_wp2_with (first|(refine gD 3 rfl ?_;refine bE 3 #[.string g,.int .i64 j,.int .i64 l,.string m] 69 ?_;intro s hg w3 hbox hb;have n:=AM (hbox);have t:=bG hg;replace HB:=BS hb;clear hb hbox hg;have p:=cz4 n)|(refine gL 10 rfl Tryz.func106 #[.slice A l0.length c,.agg #[.string g,.int .i64 j,.int .i64 l,.string m],.func (.func 107) #[] #[]] rfl TA ?_;(refine(ac_.calls k _ _ l0 g j l m (i:Int) false _ ?side1 ?side2 ?side3 A1.out).mono ?_);(case side1=>exact CW (Kd.af_ HC.out HB.out));(case side2=>exact HL.out);(case side3=>exact GW HGL);rintro e w4 ⟨rfl,hb⟩;refine⟨_,rfl,?_⟩;replace n:=KB n hb;replace HB:=BS hb;clear hb;have y:=cz4 n)|((with_reducible refine ag_ (N:=18) rfl ?_);refine sE 18 (encRec ⟨g,j,l,m⟩).toArray 69 1 ?_;intro q hg w5 hbox hb;have u:=AM (hbox);have v:=AM hg;have HBp:=AM HB.out;replace HB:=BS hb;have HBS:=AM hb;clear hb hbox hg)|(refine gL 19 rfl Tryz.func108 #[.slice A l0.length c,.int .i64 (i:Int),.slice (some ⟨q,0,none⟩) 1 1] rfl TA ?_;(refine(ins_R l0 ⟨g,j,l,m⟩ (.slice A l0.length c) i _ w0.heap.size (fun k_=>(P0_ k_∨w.heap.size≤k_)) q ?side1 ?side2 ?side3 ?side4 ?side5 ?side6 ?side7).mono ?_);(case side1=>exact Kd.a4_ (Kd.bV_ HO.out HB.out) (fun k h=>Or.inl h));(case side2=>exact u.out);(case side3=>exact hne_ v.out HBp.out);(case side4=>exact fun k hk=>Or.inr (Nat.le_trans HB.out.size hk));(case side5=>exact Nat.le_trans HB0.out.size HB.out.size);(case side6=>exact HBG.out);(case side7=>exact HI.out);rintro e w6 ⟨v6,rfl,x,hg6⟩;refine⟨_,rfl,?_⟩));go_ret;exact⟨_,rfl,x,pw_below_grown (below_then HB0.out HB0.out.size HB.out) _ (Nat.le_trans HB0.out.size HB.out.size) hg6 (Kd.R_base HO.out),Kept.cx_ hg6 (Kept.of_below HB.out _) (fun k hk=>Or.inl (HO.out.1 k hk))⟩
end
section
mutual
def bq_.l0:Nat→List (ab_)→List (aj_)→Int→Int→Option ((List (ab_)))
 | 0,_,_,_,_=>none
 | k+1,x5,f,g,c=>if c<g then(if 0≤c then(if c<(f.length:Int) then(if ((aa_ f c).f0)=1 then(bq_.j1 k x5 f g c false ((aa_ f c).f0) ((aa_ f c).f1.f0) ((aa_ f c).f1.f1) ((aa_ f c).f1.f2) ((aa_ f c).f1.f3)) else(bq_.j1 k x5 f g c (((aa_ f c).f0) != 2) ((aa_ f c).f0) ((aa_ f c).f1.f0) ((aa_ f c).f1.f1) ((aa_ f c).f1.f2) ((aa_ f c).f1.f3))) else(none)) else(none)) else(some x5)
def bq_.j1:Nat→List (ab_)→List (aj_)→Int→Int→Bool→Int→ByteArray→Int→Int→ByteArray→Option ((List (ab_)))
 | 0,_,_,_,_,_,_,_,_,_,_=>none
 | k+1,x5,m,n,o,q,j,c,g,h,i=>if q=true then(bq_.l0 k x5 m n (wrap64 (o+1))) else((ap_.f k x5 c g h i).bind fun l=>(if j=1 then((impl_put.f k l c g h i).bind fun p=>(bq_.l0 k p m n (wrap64 (o+1)))) else(bq_.l0 k l m n (wrap64 (o+1)))))
end
def bq_.f (k:Nat) (l0:List (ab_)) (l1:List (aj_)):Option ((List (ab_))):=(aU_.f l0).bind fun t641=>(bq_.l0 k t641 l1 (l1.length:Int) 0)
theorem bq_.calls (k:Nat) (A0:Option Addr) (c0:Nat) (l0:List (ab_)) (A1:Option Addr) (c1:Nat) (l1:List (aj_)) (r:List (ab_)) (w:World) (ai:Kd.C ae_ w A0 l0.length l0) (aj:l0.length≤c0) (ak:Kd.C a5_ w A1 l1.length l1) (al:l1.length≤c1) (hG_:Glob w) (h:bq_.f k l0 l1=some r) :
  Calls Tryz.prog 89 #[.slice A0 l0.length c0,.slice A1 l1.length c1] w fun e w'=>∃v0_:Value,e=.returned (v0_)∧Kd.R ae_ 69 w' w.heap.size (fun _=>True) v0_ r∧Below w.heap.size w w':=by
 have hu82:=Tryz.underlying82;have hu69:=Tryz.underlying69;have ax:=AM ai;have ay:=AM aj;clear ai aj;have az:=AM ak;have aY:=AM al;clear ak al;have HGL:=AM hG_;clear hG_;have HB:=AM (Below.refl w.heap.size w);have H:=h;clear h;unfold bq_.f at H;obtain⟨ab,A3,H⟩:=bnd H;have H':=AM H;clear H;go_enter Tryz.func89,Tryz.ntmps89;go_wp2_with (first|(refine gL 10 rfl Tryz.func77 #[.slice A0 l0.length c0] rfl TA ?_;(with_reducible refine(aU_.calls _ _ l0 ab _ ?side1 ?side2 A3.out).mono ?_);(case side1=>exact CW (ax.out));(case side2=>exact ay.out);rintro e w4 ⟨aU,rfl,y,hb⟩;refine⟨_,rfl,?_⟩;have ad:=RL y;replace HB:=BS hb;clear hb;(try clear y)));go_loopg [5,13] k (fun kq v5 aA w'=>∃(q:List (ab_)) (c:Int),aA=.int .i64 c∧Aside0 (bq_.l0 kq q l1 (l1.length:Int) c=some r)∧Aside0 (kq≤k)∧Aside0 (Kd.R ae_ 69 w' w.heap.size (fun _=>True) v5 q)∧Aside0 (Below w.heap.size w w'))
 case atStart=>exact⟨(ab),(0),TF,H',⟨Nat.le_refl _⟩,RW ad,⟨TB⟩⟩
 case round =>
  clear H';obtain⟨q,c,rfl,HA,HK1,m,HB⟩:=hrel
  cases gk with
  | zero=>exact absurd HA.out (by simp[bq_.l0])
  | succ k1 =>
   have H:=HA.out;clear HA;simp only[bq_.l0] at H;by_cases c5:c<(l1.length:Int)
   ·rw[if_pos c5] at H;have am:=decide_eq_true c5;clear c5;obtain⟨c6,H⟩:=ifn H;have aV:=decide_eq_true c6;clear c6;obtain⟨c7,H⟩:=ifn H;have aW:=decide_eq_true c7;clear c7;have ae:=AM H;clear H;have K:0≤(c:Int):=TD;have M:c<(l1.length:Int):=TD;obtain⟨aB,an,ao,ap,aq,ar,au⟩:=b4_ (Kd.af_ az.out HB.out) c K M;cases an;replace K:=eq_true K;replace M:=eq_true M
    go_upto_region 5 with (first|(refine gD 7 rfl ?_;refine bE 7 #[.int .i64 0,.string (⟨#[]⟩:ByteArray),.int .i64 0,.int .i64 0,.string (⟨#[]⟩:ByteArray)] 82 ?_;intro n hg w9 hbox hb;replace m:=RB m hb;have i:=AM (hbox);have E:=bG hg;replace HB:=BS hb;clear hb hbox hg;have aC:=cz5 i))
    (try simp only[Act.put,List.setIfInBounds_toArray,List.set_cons_zero,List.set_cons_succ]);go_cut [24] (fun aD wc=>∃(kq:Nat) (B:Bool),aD=.bool B∧Aside0 (bq_.j1 kq q l1 (l1.length:Int) c B ((aa_ l1 c).f0) ((aa_ l1 c).f1.f0) ((aa_ l1 c).f1.f1) ((aa_ l1 c).f1.f2) ((aa_ l1 c).f1.f3)=some r)∧Aside0 (kq≤k1)∧Aside0 (Kd.R ae_ 69 wc w.heap.size (fun _=>True) u5 q)∧Aside0 (wc.heap[n]? = some (.cells #[.int .i64 ((aa_ l1 c).f0),.string ((aa_ l1 c).f1.f0),.int .i64 ((aa_ l1 c).f1.f1),.int .i64 ((aa_ l1 c).f1.f2),.string ((aa_ l1 c).f1.f3)] 82 (0,0)))∧Aside0 (Below w.heap.size w wc))
    case first =>
     have H:=ae.out;clear ae;by_cases F:((aa_ l1 c).f0)=1
     ·rw[if_pos F] at H;have z:=beq_iff_eq.mpr F;have G:=bne_eq_false_iff_eq.mpr F;clear F;(first|rw[z]|(simp only[cd_,i32_w];rw[z])|rw[G]|skip);have H':=AM H;clear H;have aE:=cz5 i;go_wp2;go_meet
      case rel=>exact⟨_,(false),TF,H',⟨by have:=HK1.out;first|omega|exact Nat.le_refl _⟩,⟨by(with_reducible repeat (first|apply Kd.bB_|apply Kd.bA_|apply Kd.br_));exact Kd.a4_ (Kd.aY_ (p:=⟨n,4,none⟩) (Kd.aY_ (p:=⟨n,3,none⟩) (Kd.aY_ (p:=⟨n,2,none⟩) (Kd.aY_ (p:=⟨n,1,none⟩) (Kd.aY_ (p:=⟨n,0,none⟩) (Kd.cb_ m.out i.out (by decide)) (fun _ hk=>hk.2) (.int .i64 ((aa_ l1 c).f0))) (fun _ hk=>hk.2) (.string ((aa_ l1 c).f1.f0))) (fun _ hk=>hk.2) (.int .i64 ((aa_ l1 c).f1.f1))) (fun _ hk=>hk.2) (.int .i64 ((aa_ l1 c).f1.f2))) (fun _ hk=>hk.2) (.string ((aa_ l1 c).f1.f3))) (fun _ hk=>trivial)⟩,⟨TS⟩,⟨TB⟩⟩
     ·rw[if_neg F] at H;have z:=beq_eq_false_iff_ne.mpr F;have G:=bne_iff_ne.mpr F;(first|rw[z]|(simp only[cd_,i32_w];rw[z])|rw[G]|skip);have H':=AM H;clear H;have aF:=cz5 i;go_wp2;go_meet
      case rel=>exact⟨_,((((aa_ l1 c).f0) != 2)),TF,H',⟨by have:=HK1.out;first|omega|exact Nat.le_refl _⟩,⟨by(with_reducible repeat (first|apply Kd.bB_|apply Kd.bA_|apply Kd.br_));exact Kd.a4_ (Kd.aY_ (p:=⟨n,4,none⟩) (Kd.aY_ (p:=⟨n,3,none⟩) (Kd.aY_ (p:=⟨n,2,none⟩) (Kd.aY_ (p:=⟨n,1,none⟩) (Kd.aY_ (p:=⟨n,0,none⟩) (Kd.cb_ m.out i.out (by decide)) (fun _ hk=>hk.2) (.int .i64 ((aa_ l1 c).f0))) (fun _ hk=>hk.2) (.string ((aa_ l1 c).f1.f0))) (fun _ hk=>hk.2) (.int .i64 ((aa_ l1 c).f1.f1))) (fun _ hk=>hk.2) (.int .i64 ((aa_ l1 c).f1.f2))) (fun _ hk=>hk.2) (.string ((aa_ l1 c).f1.f3))) (fun _ hk=>trivial)⟩,⟨TS⟩,⟨TB⟩⟩
    case rest =>
     clear ae;obtain⟨kq,B,rfl,HA,HJ7,m,i,HB⟩:=hcut
     cases kq with
     | zero=>exact absurd HA.out (by simp[bq_.j1])
     | succ J =>
      have H:=HA.out;clear HA;simp only[bq_.j1] at H;by_cases Y:B=true
      ·subst Y;replace H:=ift H;have H':=AM H;clear H;go_wp2;go_roundg J
       case measure=>have:=HK1.out;have:=HJ7.out;omega
       case rel=>exact⟨(q),(wrap64 (c+1)),TF,H',⟨by have:=HK1.out;have:=HJ7.out;omega⟩,RW m,⟨TB⟩⟩
      ·replace Y:=Bool.eq_false_iff.mpr Y;subst Y;replace H:=iff' H;obtain⟨A,av,H⟩:=bnd H;by_cases I:((aa_ l1 c).f0)=1
       ·rw[if_pos I] at H;have af:=beq_iff_eq.mpr I;have ag:=bne_eq_false_iff_eq.mpr I;clear I;obtain⟨ac,aG,H⟩:=bnd H;have H':=AM H;clear H;have aH:=cz5 i;go_wp2_with (first|(refine gD 8 rfl ?_;refine bE 8 #[.string (⟨#[]⟩:ByteArray),.int .i64 0,.int .i64 0,.string (⟨#[]⟩:ByteArray)] 69 ?_;intro j hg aI hbox hb;replace m:=AM (Kd.bV_ (Kd.R_elderB (RW m).out j (Nat.le_of_eq hg.symm)) hb);have l:=AM (hbox);have D:=bG hg;replace HB:=BS hb;have u:=bN i hg;have x:=bM i hg;replace i:=KB i hb;clear hb hbox hg;obtain⟨aJ,aK⟩:=nn x;have aL:=cz4 l)|((with_reducible refine bP_ (t:=69) (p:=8) rfl ?_);refine bH_ (t:=69) (p:=8) (v:=?vo_w22) (w1:=((((aI.setCell ⟨j,0,none⟩ (.string ((aa_ l1 c).f1.f0))).setCell ⟨j,1,none⟩ (.int .i64 ((aa_ l1 c).f1.f1))).setCell ⟨j,2,none⟩ (.int .i64 ((aa_ l1 c).f1.f2))).setCell ⟨j,3,none⟩ (.string ((aa_ l1 c).f1.f3)))) ?hg ?ho ?hn ?hr ?_;(case ho=>rfl);(case hg=>rfl);(case hn=>rfl);(case hr=>first|(go_simp;done)|(go_simp;rfl));intro Z hw;have n0_:Aside0 (Kd.R ae_ 69 Z w.heap.size (fun k_=>k_≠j) u5 q):=⟨(by rw[hw];exact(by exact RF m j (fun k_ hk=>hk.2) (fun k_ hk_=>(fun hk=>hk.1.2) (⟨hk_,hk_.2⟩:_∧k_≠j))))⟩;have n1_:Aside0 (Z.heap[n]? = some (.cells #[.int .i64 ((aa_ l1 c).f0),.string ((aa_ l1 c).f1.f0),.int .i64 ((aa_ l1 c).f1.f1),.int .i64 ((aa_ l1 c).f1.f2),.string ((aa_ l1 c).f1.f3)] 82 (0,0))):=⟨(by rw[hw];exact(by(with_reducible repeat (first|refine ax_ ?_ _|refine ai_ ?_|refine aw_ ?_ _));refine FF4 ?_ u.out;exact(KW i).out))⟩;have n2_:Aside0 (Z.heap[j]? = some (.cells #[.string ((aa_ l1 c).f1.f0),.int .i64 ((aa_ l1 c).f1.f1),.int .i64 ((aa_ l1 c).f1.f2),.string ((aa_ l1 c).f1.f3)] 69 (0,0))):=⟨(by rw[hw];exact(by(with_reducible repeat (first|refine ax_ ?_ _|refine ai_ ?_|refine aw_ ?_ _));apply PF4;exact(KW l).out))⟩;have n3_:Aside0 (Below w.heap.size w Z):=⟨(by rw[hw];exact TB)⟩;clear hw m i l HB;have m:=n0_;have i:=n1_;have l:=n2_;have HB:=n3_;clear n0_ n1_ n2_ n3_;obtain⟨N,O,eo23⟩:=Kd.aF_ m.out;subst eo23)|(refine gL 29 rfl Tryz.func117 #[.slice N q.length O,.func (.func 118) #[] #[.pointer (some ⟨j,0,none⟩)]] rfl TA ?_;(with_reducible refine(ap_.calls J (fun k_=>some k_=(.slice N q.length O:Value).ownBlock) (.slice N q.length O) q j ((aa_ l1 c).f1.f0) ((aa_ l1 c).f1.f1) ((aa_ l1 c).f1.f2) ((aa_ l1 c).f1.f3) A w _ ?side1 ?side2 ?sideN ?side3 av.out).mono ?_);(case side1=>repeat (first|(with_reducible first|exact HB.out|apply aN_|apply aJ_|apply az_|refine bn_ ?_ E.out|refine bn_ ?_ D.out)|exact HB.out));(case side2=>exact Kd.R_tight rfl m.out);(case sideN=>exact fun e_=>(Kd.cL_ m.out (fun _ hk=>hk)) e_);(case side3=>exact(KW l).out);rintro e aZ ⟨aw,rfl,y,hb,hkp⟩;refine⟨_,rfl,?_⟩;have n0_:=AM (blk_kept (KW i).out hkp (fun hs_=>(fun e_=>(Kd.R_ne m.out i.out (by decide)) e_) hs_));have n1_:=AM (blk_kept (KW l).out hkp (fun hs_=>(fun e_=>(Kd.cL_ m.out (fun _ hk=>hk)) e_) hs_));have n2_:=AM (Kd.a4_ (ok':=fun k_=>k_≠j) y (fun k_ hk_=>Or.elim hk_ (fun hs_=>fun e_=>(Kd.cL_ m.out (fun _ hk=>hk)) (by rw[←e_];exact hs_)) (fun hn_=>(Kd.freshB (g:=j) (o:=.cells #[.string ((aa_ l1 c).f1.f0),.int .i64 ((aa_ l1 c).f1.f1),.int .i64 ((aa_ l1 c).f1.f2),.string ((aa_ l1 c).f1.f3)] 69 (0,0)) (KW l).out k_ hn_))));have n3_:=AM (hb);clear i l HB m;have i:=n0_;have l:=n1_;have s:=n2_;have HB:=n3_;clear n0_ n1_ n2_ n3_ hb;(try clear hkp);(try clear y);have aM:=cz5 i;have aN:=cz4 l;obtain⟨U,V,eo27⟩:=Kd.aF_ s.out;subst eo27)|(refine gL 35 rfl Tryz.func78 #[.slice U A.length V,.agg #[.string ((aa_ l1 c).f1.f0),.int .i64 ((aa_ l1 c).f1.f1),.int .i64 ((aa_ l1 c).f1.f2),.string ((aa_ l1 c).f1.f3)]] rfl TA ?_;(with_reducible refine(impl_put.calls J (fun k_=>some k_=(.slice U A.length V:Value).ownBlock) (.slice U A.length V) A ((aa_ l1 c).f1.f0) ((aa_ l1 c).f1.f1) ((aa_ l1 c).f1.f2) ((aa_ l1 c).f1.f3) ac w _ ?side1 ?side2 ?side3 aG.out).mono ?_);(case side1=>repeat (first|(with_reducible first|exact HB.out|apply aN_|apply aJ_|apply az_|refine bn_ ?_ E.out|refine bn_ ?_ D.out)|exact HB.out));(case side2=>exact Kd.R_tight rfl s.out);(case side3=>exact GW HGL);rintro e a0 ⟨aX,rfl,y,hb,hkp⟩;refine⟨_,rfl,?_⟩;have n0_:=AM (blk_kept (KW i).out hkp (fun hs_=>(fun e_=>(Kd.R_ne s.out i.out (by decide)) e_) hs_));have n1_:=AM (blk_kept (KW l).out hkp (fun hs_=>(fun e_=>(Kd.cL_ s.out (fun _ hk=>hk)) e_) hs_));have n2_:=AM (Kd.a4_ (ok':=fun k_=>k_≠j) y (fun k_ hk_=>Or.elim hk_ (fun hs_=>fun e_=>(Kd.cL_ s.out (fun _ hk=>hk)) (by rw[←e_];exact hs_)) (fun hn_=>(Kd.freshB (g:=j) (o:=.cells #[.string ((aa_ l1 c).f1.f0),.int .i64 ((aa_ l1 c).f1.f1),.int .i64 ((aa_ l1 c).f1.f2),.string ((aa_ l1 c).f1.f3)] 69 (0,0)) (KW l).out k_ hn_))));have n3_:=AM (hb);clear i l HB s;have i:=n0_;have l:=n1_;have ah:=n2_;have HB:=n3_;clear n0_ n1_ n2_ n3_ hb;(try clear hkp);(try clear y)));go_roundg J
        case measure=>have:=HK1.out;have:=HJ7.out;omega
        case rel=>exact⟨(ac),(wrap64 (c+1)),TF,H',⟨by have:=HK1.out;have:=HJ7.out;omega⟩,⟨by(with_reducible repeat (first|apply Kd.bB_|apply Kd.bA_|apply Kd.br_));exact Kd.a4_ ah.out (fun _ hk=>trivial)⟩,⟨TB⟩⟩
       ·rw[if_neg I] at H;have af:=beq_eq_false_iff_ne.mpr I;have ag:=bne_iff_ne.mpr I;have H':=AM H;clear H;have aO:=cz5 i;go_wp2_with (first|(refine gD 8 rfl ?_;refine bE 8 #[.string (⟨#[]⟩:ByteArray),.int .i64 0,.int .i64 0,.string (⟨#[]⟩:ByteArray)] 69 ?_;intro j hg aP hbox hb;replace m:=AM (Kd.bV_ (Kd.R_elderB (RW m).out j (Nat.le_of_eq hg.symm)) hb);have l:=AM (hbox);have D:=bG hg;replace HB:=BS hb;have u:=bN i hg;have x:=bM i hg;replace i:=KB i hb;clear hb hbox hg;obtain⟨aQ,aR⟩:=nn x;have aS:=cz4 l)|((with_reducible refine bP_ (t:=69) (p:=8) rfl ?_);refine bH_ (t:=69) (p:=8) (v:=?vo_w33) (w1:=((((aP.setCell ⟨j,0,none⟩ (.string ((aa_ l1 c).f1.f0))).setCell ⟨j,1,none⟩ (.int .i64 ((aa_ l1 c).f1.f1))).setCell ⟨j,2,none⟩ (.int .i64 ((aa_ l1 c).f1.f2))).setCell ⟨j,3,none⟩ (.string ((aa_ l1 c).f1.f3)))) ?hg ?ho ?hn ?hr ?_;(case ho=>rfl);(case hg=>rfl);(case hn=>rfl);(case hr=>first|(go_simp;done)|(go_simp;rfl));intro aa hw;have n0_:Aside0 (Kd.R ae_ 69 aa w.heap.size (fun k_=>k_≠j) u5 q):=⟨(by rw[hw];exact(by exact RF m j (fun k_ hk=>hk.2) (fun k_ hk_=>(fun hk=>hk.1.2) (⟨hk_,hk_.2⟩:_∧k_≠j))))⟩;have n1_:Aside0 (aa.heap[n]? = some (.cells #[.int .i64 ((aa_ l1 c).f0),.string ((aa_ l1 c).f1.f0),.int .i64 ((aa_ l1 c).f1.f1),.int .i64 ((aa_ l1 c).f1.f2),.string ((aa_ l1 c).f1.f3)] 82 (0,0))):=⟨(by rw[hw];exact(by(with_reducible repeat (first|refine ax_ ?_ _|refine ai_ ?_|refine aw_ ?_ _));refine FF4 ?_ u.out;exact(KW i).out))⟩;have n2_:Aside0 (aa.heap[j]? = some (.cells #[.string ((aa_ l1 c).f1.f0),.int .i64 ((aa_ l1 c).f1.f1),.int .i64 ((aa_ l1 c).f1.f2),.string ((aa_ l1 c).f1.f3)] 69 (0,0))):=⟨(by rw[hw];exact(by(with_reducible repeat (first|refine ax_ ?_ _|refine ai_ ?_|refine aw_ ?_ _));apply PF4;exact(KW l).out))⟩;have n3_:Aside0 (Below w.heap.size w aa):=⟨(by rw[hw];exact TB)⟩;clear hw m i l HB;have m:=n0_;have i:=n1_;have l:=n2_;have HB:=n3_;clear n0_ n1_ n2_ n3_;obtain⟨W,X,eo34⟩:=Kd.aF_ m.out;subst eo34)|(refine gL 29 rfl Tryz.func117 #[.slice W q.length X,.func (.func 118) #[] #[.pointer (some ⟨j,0,none⟩)]] rfl TA ?_;(with_reducible refine(ap_.calls J (fun k_=>some k_=(.slice W q.length X:Value).ownBlock) (.slice W q.length X) q j ((aa_ l1 c).f1.f0) ((aa_ l1 c).f1.f1) ((aa_ l1 c).f1.f2) ((aa_ l1 c).f1.f3) A w _ ?side1 ?side2 ?sideN ?side3 av.out).mono ?_);(case side1=>repeat (first|(with_reducible first|exact HB.out|apply aN_|apply aJ_|apply az_|refine bn_ ?_ E.out|refine bn_ ?_ D.out)|exact HB.out));(case side2=>exact Kd.R_tight rfl m.out);(case sideN=>exact fun e_=>(Kd.cL_ m.out (fun _ hk=>hk)) e_);(case side3=>exact(KW l).out);rintro e a1 ⟨aw,rfl,y,hb,hkp⟩;refine⟨_,rfl,?_⟩;have n0_:=AM (blk_kept (KW i).out hkp (fun hs_=>(fun e_=>(Kd.R_ne m.out i.out (by decide)) e_) hs_));have n1_:=AM (blk_kept (KW l).out hkp (fun hs_=>(fun e_=>(Kd.cL_ m.out (fun _ hk=>hk)) e_) hs_));have n2_:=AM (Kd.a4_ (ok':=fun k_=>k_≠j) y (fun k_ hk_=>Or.elim hk_ (fun hs_=>fun e_=>(Kd.cL_ m.out (fun _ hk=>hk)) (by rw[←e_];exact hs_)) (fun hn_=>(Kd.freshB (g:=j) (o:=.cells #[.string ((aa_ l1 c).f1.f0),.int .i64 ((aa_ l1 c).f1.f1),.int .i64 ((aa_ l1 c).f1.f2),.string ((aa_ l1 c).f1.f3)] 69 (0,0)) (KW l).out k_ hn_))));have n3_:=AM (hb);clear i l HB m;have i:=n0_;have l:=n1_;have s:=n2_;have HB:=n3_;clear n0_ n1_ n2_ n3_ hb;(try clear hkp);(try clear y);have aT:=cz5 i));go_roundg J
        case measure=>have:=HK1.out;have:=HJ7.out;omega
        case rel=>exact⟨(A),(wrap64 (c+1)),TF,H',⟨by have:=HK1.out;have:=HJ7.out;omega⟩,⟨by(with_reducible repeat (first|apply Kd.bB_|apply Kd.bA_|apply Kd.br_));exact Kd.a4_ s.out (fun _ hk=>trivial)⟩,⟨TB⟩⟩
   ·rw[if_neg c5] at H;have am:=decide_eq_false c5;clear c5;obtain rfl:=Option.some.inj H;go_wp2;go_ret;exact⟨_,TE,(RW m).out,TB⟩
end
end Go.Proofs.YtbgajeomljkdjaaGreatDoor.Pp
