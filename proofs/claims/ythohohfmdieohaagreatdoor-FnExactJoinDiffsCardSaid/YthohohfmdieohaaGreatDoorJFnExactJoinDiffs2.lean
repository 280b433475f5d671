/- The functions that the law reaches,one Lean function and its proof for each;written by wip/pp of this workplace,joined by claimit.py. -/
import Derived.Test.YthohohfmdieohaaGreatDoorProg
import Derived.Below
import Derived.Deep.Draws
import Derived.Deep.AppendLies
import Derived.Maps.AppendAt
import Derived.OwnWalk
import Derived.Laws.BytesArg
import Derived.Laws.MakeOwn
import Derived.Laws.OwnMore
import Derived.Deep.OwnRows
import Derived.Tactics
import Derived.Lib.ConvBytes
import Derived.Laws.Slices
import Derived.WalkKit
import Derived.KernelRfl
import Derived.RowKit3
import Derived.Deep.LoopGhost
import Derived.Deep.QuietTactic
import Derived.BigQuiet
import Derived.WideLaws
import Derived.Deep.DeepCutAuto
import Derived.Deep.CutBlock
import Derived.Deep.RegionHeld3
import Derived.Laws.Rows
import Derived.Lib.AppendStr
import Derived.ArgAppend
import Derived.Laws.IdiomCopy
import Derived.OrdersHeld
import Derived.Laws.BitsLemmas
import Derived.RowKit
import Derived.Test.YthohohfmdieohaaGreatDoorKFnExactJoinDiffsW
import Derived.Laws.CopyRow
import Derived.Lib.Overlaps
import Derived.Lib.AppendZerosOnto
import Derived.Laws.Externs
import Derived.Shelf.Spec.SlicesInsert
import Derived.Test.YthohohfmdieohaaGreatDoorJFnExactJoinDiffs0
import Derived.Test.YthohohfmdieohaaGreatDoorJFnExactJoinDiffs1
namespace Go.Proofs.YthohohfmdieohaaGreatDoor.Pp
open Go.RowKit Go.Proofs.YthohohfmdieohaaGreatDoorW.PrintWords Go.Proofs.YthohohfmdieohaaGreatDoorW.PrintLast Go.Proofs.YthohohfmdieohaaGreatDoorW.PrintMore
attribute [local go_sem] max2_int min2_int max_two min_two max_three min_three max_four min_four
set_option linter.unusedVariables false
set_option linter.unusedSimpArgs false
set_option maxHeartbeats 8000000
set_option maxRecDepth 100000
section
def bL_.f (k:Nat) (a0:ByteArray):Option (Bool):=if (a0.size:Int) > 60 then(some false) else((bF_.f k a0).bind fun t287=>(if (t287.length:Int)≤8 then((aW_.f k t287).bind fun t290=>(some (!t290))) else(some false)))
theorem bL_.calls (k:Nat) (a0:ByteArray) (r:Bool) (w:World) (h:bL_.f k a0=some r) :
  Calls Tryz.prog 77 #[.string a0] w fun e w'=>e=.returned (.bool r)∧Below w.heap.size w w':=by
 have HB:=AM (Below.refl w.heap.size w);have H:(if (a0.size:Int) > 60 then(some false) else((bF_.f k a0).bind fun g=>(if (g.length:Int)≤8 then((aW_.f k g).bind fun i=>(some (!i))) else(some false))))=some r:=h;clear h;by_cases c2:(a0.size:Int) > 60
 ·rw[if_pos c2] at H;have l:=decide_eq_true c2;have m:decide (60<a0.size)=true:=decide_eq_true (by omega);clear c2;obtain rfl:=Option.some.inj H;go_enter Tryz.func77,Tryz.ntmps77;go_wp2;go_ret;exact⟨TE,TB⟩
 ·rw[if_neg c2] at H;have l:=decide_eq_false c2;have m:decide (60<a0.size)=false:=decide_eq_false (by omega);clear c2;obtain⟨g,A3,H⟩:=bnd H;by_cases c4:(g.length:Int)≤8
  ·rw[if_pos c4] at H;have n:=decide_eq_true c4;have o:decide (g.length≤8)=true:=decide_eq_true (by omega);clear c4;obtain⟨i,A5,H⟩:=bnd H;obtain rfl:=Option.some.inj H;go_enter Tryz.func77,Tryz.ntmps77;go_wp2_with (first|((with_reducible refine ac_ (f:=128) rfl ?_);refine goesL_ (some 8) rfl rfl Tryz.func128 KR rfl #[.string a0] rfl TA ?_;(with_reducible refine(bF_.calls k a0 g _ A3.out).mono ?_);rintro e w6 ⟨p,rfl,j,hb⟩;refine⟨_,rfl,?_⟩;have c:=RL j;replace HB:=BS hb;clear hb;(try clear j);obtain⟨t,u,eo7⟩:=Kd.an_ c.out;subst eo7)|(go_at_call 129;(with_reducible refine(aW_.calls k _ _ g  i _ ?side1 ?side2 A5.out).mono ?_);(case side1=>exact CW ((Kd.ae_ c.out).2.2));(case side2=>exact RI c);rintro e w8 ⟨rfl,hb⟩;replace c:=RB c hb;replace HB:=BS hb;clear hb));go_ret;exact⟨TE,TB⟩
  ·rw[if_neg c4] at H;have n:=decide_eq_false c4;have o:decide (g.length≤8)=false:=decide_eq_false (by omega);clear c4;obtain rfl:=Option.some.inj H;go_enter Tryz.func77,Tryz.ntmps77;go_wp2_with (first|((with_reducible refine ac_ (f:=128) rfl ?_);refine goesL_ (some 8) rfl rfl Tryz.func128 KR rfl #[.string a0] rfl TA ?_;(with_reducible refine(bF_.calls k a0 g _ A3.out).mono ?_);rintro e w9 ⟨p,rfl,j,hb⟩;refine⟨_,rfl,?_⟩;have c:=RL j;replace HB:=BS hb;clear hb;(try clear j);obtain⟨q,s,eo10⟩:=Kd.an_ c.out;subst eo10));go_ret;exact⟨TE,TB⟩
end
section
def bK_.f (a0:ByteArray) (a1:Int):Option (Int × Bool) :=
 if a0.size≤281474976710656 then
  match Go.Lib.atoiAll a0.data.toList with
  | .ok v=>some (v,decide (0≤v∧v≤a1)&&(Go.Lib.itoa v==a0.data.toList))
  | .range=>some (Go.Lib.atoiSat a0.data.toList,false)
  | _=>some (0,false)
 else none
theorem num_eqs (v:Int) (s:ByteArray):((⟨(Go.Lib.itoa v).toArray⟩:ByteArray).toList==s.toList)=(Go.Lib.itoa v==s.data.toList):=by
 rw[Go.Lib.toList_data,Go.Lib.toList_data]
set_option maxHeartbeats 1000000 in
theorem bK_.calls (a0:ByteArray) (a1:Int) (r1:Int) (r2:Bool) (w:World) (hG_:Glob w) (h:bK_.f a0 a1=some (r1,r2)) :
  Calls Tryz.prog 208 #[.string a0,.int .i64 a1] w fun e w'=>e=.returned (.tuple #[.int .i64 r1,.bool r2])∧Below w.heap.size w w':=by
 unfold bK_.f at h;split at h
 ·rename_i hsz
  cases hA:Go.Lib.atoiAll a0.data.toList with
  | range =>
   rw[hA] at h;simp only[Option.some.injEq,Prod.mk.injEq] at h;obtain⟨rfl,rfl⟩:=h;go_enter Tryz.func208,Tryz.ntmps208;go_wp2_with (go_at_call 227;(with_reducible refine(num_atoi_range a0 hsz hA _ hG_).mono ?_);rintro e w1 ⟨tp,p,rfl,hb⟩);go_ret2;exact⟨rfl,hb⟩
  | ok v =>
   rw[hA] at h;simp only[Option.some.injEq,Prod.mk.injEq] at h;obtain⟨rfl,rfl⟩:=h;obtain⟨vb0,vb1⟩:=Go.Lib.atoiAll_bounds hA;by_cases hv:0≤v∧v≤a1
   ·have hW:bv_.f v 0 a1=some true:=by
     unfold bv_.f;rw[if_pos hv.1];simp[hv.2]
    have hd:decide (0≤v∧v≤a1)=true:=decide_eq_true hv;rw[hd,Bool.true_and,←num_eqs];have HB:=AM (Below.refl w.heap.size w);go_enter Tryz.func208,Tryz.ntmps208;go_wp2_with (first|(go_at_call 227;(with_reducible refine(num_atoi_ok a0 hsz v hA _).mono ?_);rintro e w1 ⟨rfl,hb⟩;have n0_:=AM (below_step HB.out hb);clear HB hb;have HB:=n0_;clear n0_)|(go_at_call 86;(with_reducible refine(bv_.calls v 0 a1 true _ hW).mono ?_);rintro e w' ⟨rfl,⟨nd,rfl⟩⟩)|(go_at_call 181;(with_reducible refine(num_itoa v vb0 vb1 _ (Glob.below hG_ TB)).mono ?_);rintro e w3 ⟨rfl,hb⟩;have n0_:=BS hb;clear HB hb;have HB:=n0_;clear n0_));go_ret2;exact⟨TF,TB⟩
   ·have hW:bv_.f v 0 a1=some false:=by
     unfold bv_.f;by_cases h0:v≥0
     ·rw[if_pos h0]
      have:¬v≤a1:=fun h=>hv ⟨h0,h⟩
      simp[this]
     ·rw[if_neg h0]
    have hd:decide (0≤v∧v≤a1)=false:=decide_eq_false hv;rw[hd,Bool.false_and];have HB:=AM (Below.refl w.heap.size w);go_enter Tryz.func208,Tryz.ntmps208;go_wp2_with (first|(go_at_call 227;(with_reducible refine(num_atoi_ok a0 hsz v hA _).mono ?_);rintro e w1 ⟨rfl,hb⟩;have n0_:=AM (below_step HB.out hb);clear HB hb;have HB:=n0_;clear n0_)|(go_at_call 86;(with_reducible refine(bv_.calls v 0 a1 false _ hW).mono ?_);rintro e w' ⟨rfl,⟨nd,rfl⟩⟩));go_ret2;exact⟨TF,TB⟩
  | _ =>
   have hnn:noNum (Go.Lib.atoiAll a0.data.toList):=by rw[hA];trivial
   rw[hA] at h;simp only[Option.some.injEq,Prod.mk.injEq] at h;obtain⟨rfl,rfl⟩:=h;go_enter Tryz.func208,Tryz.ntmps208;go_wp2_with (go_at_call 227;(with_reducible refine(num_atoi_syntax a0 hsz hnn _ hG_).mono ?_);rintro e w1 ⟨tp,p,rfl,hb⟩);go_ret2;exact⟨rfl,hb⟩
 ·cases h
end
section
def b_.l0:Nat→Int→List Int→Int→Option (ByteArray)
 | 0,_,_,_=>none
 | k+1,x0,x5,x6=>if x6≥0 then(if 0≤(wrap64 (8 * x6)) then(if x5.length<140737488355328 then(b_.l0 k x0 (x5++[(shr .i64 x0 (wrap64 (8 * x6))) % 256]) (wrap64 (x6 - 1))) else(none)) else(none)) else(some (strOfNums x5))
def b_.f (k:Nat) (a0:Int) (a1:Int):Option (ByteArray):=b_.l0 k a0 (([]:List Int)) (wrap64 (a1 - 1))
theorem b_.calls (k:Nat) (a0:Int) (a1:Int) (r:ByteArray) (w:World) (h:b_.f k a0 a1=some r) :
  Calls Tryz.prog 209 #[.int .i64 a0,.int .i64 a1] w fun e w'=>e=.returned (.string r)∧Below w.heap.size w w':=by
 have HB:=AM (Below.refl w.heap.size w);have H:(b_.l0 k a0 (([]:List Int)) (wrap64 (a1 - 1)))=some r:=h;clear h;obtain⟨p,i⟩:∃y_:List Int,y_=(([]:List Int)):=⟨_,rfl⟩
 replace H:(b_.l0 k a0 p (wrap64 (a1 - 1)))=some r:=by first|(rw[i];with_reducible exact H)|(have H2_:=(Option.bind_some _ _).symm.trans H;rw[i];with_reducible exact H2_)|(have H2_:=(Option.bind_some _ _).symm.trans H;with_reducible exact H2_)|with_reducible exact H|(rw[i];exact H)|exact H
 have Ny291:=AM i;clear i;have H':=AM H;clear H;go_enter Tryz.func209,Tryz.ntmps209;go_wp2_with (first|((with_reducible refine aj_ (N:=7) rfl ?_);refine Kd.R_lit (Kd.int .u8) _ 5 ?hg (N:=7) ?hd (xs:=([]:List Int)) (inner:=[]) (ok:=fun _=>True) (okp:=fun _=>True) ?hr ?hp (fun _ hk=>hk) trivial (Below.refl _ _) (Nat.le_refl _) (by simp) ?_;(case hd=>rfl);(case hg=>rfl);(case hr=>first|(go_simp;done)|(go_simp;rfl));(case hp=>exact(Reps.none _ _));intro v w3 n hb hg_ hnew_;clear hg_ hnew_;(first|rw[←Ny291.out] at n|(simp only[Int.reduceToNat] at n;rw[←Ny291.out] at n));have s:=RL n;replace HB:=BS hb;clear hb n));go_loopg [5,6] k (fun kq v5 v6 w'=>∃(g:List Int) (c:Int),v6=.int .i64 c∧Aside0 (b_.l0 kq a0 g c=some r)∧Aside0 (kq≤k)∧Aside0 (Kd.R (Kd.int .u8) 5 w' w.heap.size (fun _=>True) v5 g)∧Aside0 (Below w.heap.size w w'))
 case atStart=>exact⟨(p),(wrap64 (a1 - 1)),TF,H',⟨Nat.le_refl _⟩,RW s,⟨TB⟩⟩
 case round =>
  clear H';obtain⟨g,c,rfl,HA,HK1,o,HB⟩:=hrel
  cases gk with
  | zero=>exact absurd HA.out (by simp[b_.l0])
  | succ k1 =>
   have H:=HA.out;clear HA;simp only[b_.l0] at H;by_cases c5:c≥0
   ·rw[if_pos c5] at H;have u:=decide_eq_true c5;clear c5;obtain⟨l,hji6⟩:∃j_:Int,(wrap64 (8 * c))=j_:=⟨_,rfl⟩
    replace H:(if 0≤(l) then(if g.length<140737488355328 then(b_.l0 k1 a0 (g++[(shr .i64 a0 (l)) % 256]) (wrap64 (c - 1))) else(none)) else(none))=some r:=by first|(rw[hji6] at H;exact H)|(simp only[hji6] at H ⊢;exact H)
    have hji6w:(IntKind.i64.wrap (8 * c))=l:=(bz_ _).trans hji6;obtain⟨c7,H⟩:=ifn H;have x:=eq_true c7;have y:=decide_eq_true c7;clear c7;obtain⟨m,hji8⟩:∃j_:Int,(shr .i64 a0 (l))=j_:=⟨_,rfl⟩
    replace H:(if g.length<140737488355328 then(b_.l0 k1 a0 (g++[(m) % 256]) (wrap64 (c - 1))) else(none))=some r:=by first|(rw[hji8] at H;exact H)|(simp only[hji8] at H ⊢;exact H)
    have hji8_:(a0 / 2 ^ min (l).toNat 64)=m:=hji8;have hji8z:(l)≤64→(a0 / 2 ^ (l).toNat)=m:=shr_small hji8;obtain⟨c9,H⟩:=ifn H;have LMc9:=AM c9;clear c9;obtain⟨q,j⟩:∃y_:List Int,y_=(g++[(m) % 256]):=⟨_,rfl⟩
    replace H:(b_.l0 k1 a0 q (wrap64 (c - 1)))=some r:=by first|(rw[j];with_reducible exact H)|(have H2_:=(Option.bind_some _ _).symm.trans H;rw[j];with_reducible exact H2_)|(have H2_:=(Option.bind_some _ _).symm.trans H;with_reducible exact H2_)|with_reducible exact H|(rw[j];exact H)|exact H
    have Ny294:=AM j;clear j;have H':=AM H;clear H;go_wp2_with (first|((with_reducible refine bN_ (b:=.append) (xs:=#[.tmp 14,.tmp 20]) rfl ?_);at_builtin;refine Kd.R_append (Kd.int .u8) (w0:=w) w.heap.size rfl (.tmp 14) (.tmp 20) 162 5 (.int .u8 0) 1 rfl Tryz.underlying162 info5 rfl (by decide) (by omega) u5 g ((m) % 256) [.int .u8 ((m) % 256)] (fun _=>True) (fun _=>False) rfl rfl ?aP (fun _ hk=>hk.elim) ?aF ?aO ?aB ?aS ?aL ?_;(case aP=>exact rfl);(case aB=>exact TB);(case aF=>exact(fun _ _=>trivial));(case aO=>exact(RW o).out);(case aS=>exact(b0_ TB));(case aL=>have:=LMc9.out;omega);intro z A ho hb hg hat;rw[←Ny294.out] at ho;have n0_:=AM (hb);have n1_:=AM (ho);clear HB o;have HB:=n0_;have t:=n1_;clear n0_ n1_ ho hb hg hat));go_roundg k1
    case measure=>have:=HK1.out;omega
    case rel=>exact⟨(q),(wrap64 (c - 1)),TF,H',⟨TM⟩,RW t,⟨TB⟩⟩
   ·rw[if_neg c5] at H;have u:=decide_eq_false c5;clear c5;obtain rfl:=Option.some.inj H;have hcv11:=own_string (P:=Tryz.prog) Tryz.underlying162 Tryz.underlying5 Tryz.underlying9 (Kd.own_of_R o.out);go_wp2;go_ret;exact⟨TE,TB⟩
end
section
def strings_Contains.f (a0:ByteArray) (a1:ByteArray):Option (Bool):=(b1_.f a0 a1).bind fun t297=>(some (decide (t297≥0)))
theorem strings_Contains.calls (a0:ByteArray) (a1:ByteArray) (r:Bool) (w:World) (h:strings_Contains.f a0 a1=some r) :
  Calls Tryz.prog 224 #[.string a0,.string a1] w fun e w'=>e=.returned (.bool r)∧Drawn0 w w':=by
 have H:((b1_.f a0 a1).bind fun c=>(some (decide (c≥0))))=some r:=h;clear h;obtain⟨c,A3,H⟩:=bnd H;obtain rfl:=Option.some.inj H;go_enter Tryz.func224,Tryz.ntmps224;go_wp2_with (first|((with_reducible refine ac_ (f:=217) rfl ?_);refine goesL_ (some 7) rfl rfl Tryz.func217 KR rfl #[.string a0,.string a1] rfl TA ?_;(with_reducible refine(b1_.calls a0 a1 c _ A3.out).mono ?_);rintro e w' ⟨rfl,⟨nd,rfl⟩⟩;refine⟨_,rfl,?_⟩));go_ret;exact⟨TF,TN⟩
end
section
def cn_.f (k:Nat) (a0:ByteArray):Option (Bool):=if a0.toList=([]:List UInt8) then(some false) else((bL_.f k a0).bind fun t298=>(if t298=true then((strings_Contains.f a0 (⟨#[42]⟩:ByteArray)).bind fun t299=>(some (!t299))) else(some false)))
theorem cn_.calls (k:Nat) (a0:ByteArray) (r:Bool) (w:World) (h:cn_.f k a0=some r) :
  Calls Tryz.prog 210 #[.string a0] w fun e w'=>e=.returned (.bool r)∧Below w.heap.size w w':=by
 have HB:=AM (Below.refl w.heap.size w);have H:(if a0.toList=([]:List UInt8) then(some false) else((bL_.f k a0).bind fun c=>(if c=true then((strings_Contains.f a0 (⟨#[42]⟩:ByteArray)).bind fun g=>(some (!g))) else(some false))))=some r:=h;clear h;by_cases c2:a0.toList=([]:List UInt8)
 ·rw[if_pos c2] at H;have i:=beq_iff_eq.mpr c2;have j:=bne_eq_false_iff_eq.mpr c2;clear c2;obtain rfl:=Option.some.inj H;go_enter Tryz.func210,Tryz.ntmps210;go_wp2;go_ret;exact⟨by first|rfl|(simp[aD_,aC_]<;>rfl)|(simp[*,aD_,aC_]<;>rfl)|(simp[aD_,aC_];rw[Bool.eq_iff_iff];simp),TB⟩
 ·rw[if_neg c2] at H;have i:=beq_eq_false_iff_ne.mpr c2;have j:=bne_iff_ne.mpr c2;obtain⟨c,A3,H⟩:=bnd H;by_cases c4:c=true
  ·subst c4;replace H:=ift H;obtain⟨g,A5,H⟩:=bnd H;obtain rfl:=Option.some.inj H;go_enter Tryz.func210,Tryz.ntmps210;go_wp2_with (first|(go_at_call 77;(with_reducible refine(bL_.calls k a0 true _ A3.out).mono ?_);rintro e w6 ⟨rfl,hb⟩;replace HB:=BS hb;clear hb)|(go_at_call 224;(with_reducible refine(strings_Contains.calls a0 (⟨#[42]⟩:ByteArray) g _ A5.out).mono ?_);rintro e w' ⟨rfl,⟨nd,rfl⟩⟩));go_ret;exact⟨by first|rfl|(simp[aD_,aC_]<;>rfl)|(simp[*,aD_,aC_]<;>rfl)|(simp[aD_,aC_];rw[Bool.eq_iff_iff];simp),TB⟩
  ·replace c4:=Bool.eq_false_iff.mpr c4;subst c4;replace H:=iff' H;obtain rfl:=Option.some.inj H;go_enter Tryz.func210,Tryz.ntmps210;go_wp2_with (first|(go_at_call 77;(with_reducible refine(bL_.calls k a0 false _ A3.out).mono ?_);rintro e w7 ⟨rfl,hb⟩;replace HB:=BS hb;clear hb));go_ret;exact⟨by first|rfl|(simp[aD_,aC_]<;>rfl)|(simp[*,aD_,aC_]<;>rfl)|(simp[aD_,aC_];rw[Bool.eq_iff_iff];simp),TB⟩
end
section
def bn_.l0:Nat→ByteArray→List ByteArray→Int→Int→Option (ByteArray)
 | 0,_,_,_,_=>none
 | k+1,x3,x7,x8,x9=>if x9<x8 then(if 0≤x9 then(if x9<(x7.length:Int) then((some (([(((rdOf ByteArray.empty x7 x9).size:Int)) % 256]:List Int):List Int)).bind fun c=>(if (strOfNums c).size+(rdOf ByteArray.empty x7 x9).size≤9223372036854775807 then(if x3.size+((strOfNums c)++(rdOf ByteArray.empty x7 x9)).size≤9223372036854775807 then(bn_.l0 k (x3++((strOfNums c)++(rdOf ByteArray.empty x7 x9))) x7 x8 (wrap64 (x9+1))) else(none)) else(none))) else(none)) else(none)) else(some x3)
def bn_.f (k:Nat) (a0:ByteArray):Option (ByteArray):=(bF_.f k a0).bind fun t300=>(bn_.l0 k (⟨#[]⟩:ByteArray) t300 (t300.length:Int) 0)
theorem bn_.calls (k:Nat) (a0:ByteArray) (r:ByteArray) (w:World) (h:bn_.f k a0=some r) :
  Calls Tryz.prog 211 #[.string a0] w fun e w'=>e=.returned (.string r)∧Below w.heap.size w w':=by
 have HB:=AM (Below.refl w.heap.size w);have H:((bF_.f k a0).bind fun c=>(bn_.l0 k (⟨#[]⟩:ByteArray) c (c.length:Int) 0))=some r:=h;clear h;obtain⟨c,A2,H⟩:=bnd H;have H':=AM H;clear H;go_enter Tryz.func211,Tryz.ntmps211;go_wp2_with (first|((with_reducible refine ac_ (f:=128) rfl ?_);refine goesL_ (some 7) rfl rfl Tryz.func128 KR rfl #[.string a0] rfl TA ?_;(with_reducible refine(bF_.calls k a0 c _ A2.out).mono ?_);rintro e w3 ⟨B,rfl,t,hb⟩;refine⟨_,rfl,?_⟩;have o:=RL t;replace HB:=BS hb;clear hb;(try clear t);obtain⟨y,z,eo4⟩:=Kd.an_ o.out;subst eo4));go_loopg [3,9] k (fun kq v3 v9 w'=>∃(i:ByteArray) (g:Int),v3=.string i∧v9=.int .i64 g∧Aside0 (bn_.l0 kq i c (c.length:Int) g=some r)∧Aside0 (kq≤k)∧Aside0 (Kd.R Kd.string 9 w' w.heap.size (fun _=>True) (.slice y c.length z) c)∧Aside0 (Below w.heap.size w w'))
 case atStart=>exact⟨((⟨#[]⟩:ByteArray)),(0),TF,TF,H',⟨Nat.le_refl _⟩,RW o,⟨TB⟩⟩
 case round =>
  clear H';obtain⟨i,g,rfl,rfl,HA,HK1,n,HB⟩:=hrel
  cases gk with
  | zero=>exact absurd HA.out (by simp[bn_.l0])
  | succ k1 =>
   have H:=HA.out;clear HA;simp only[bn_.l0] at H;by_cases c5:g<(c.length:Int)
   ·rw[if_pos c5] at H;have u:=decide_eq_true c5;clear c5;obtain⟨c6,H⟩:=ifn H;have C:=decide_eq_true c6;clear c6;obtain⟨c7,H⟩:=ifn H;have D:=decide_eq_true c7;clear c7;obtain⟨l,j⟩:∃y_:List Int,y_=(([(((rdOf ByteArray.empty c g).size:Int)) % 256]:List Int)):=⟨_,rfl⟩
    replace H:(if (strOfNums l).size+(rdOf ByteArray.empty c g).size≤9223372036854775807 then(if i.size+((strOfNums l)++(rdOf ByteArray.empty c g)).size≤9223372036854775807 then(bn_.l0 k1 (i++((strOfNums l)++(rdOf ByteArray.empty c g))) c (c.length:Int) (wrap64 (g+1))) else(none)) else(none))=some r:=by first|(rw[j];with_reducible exact H)|(have H2_:=(Option.bind_some _ _).symm.trans H;rw[j];with_reducible exact H2_)|(have H2_:=(Option.bind_some _ _).symm.trans H;with_reducible exact H2_)|with_reducible exact H|(rw[j];exact H)|exact H
    have Ny304:=AM j;clear j;obtain⟨c8,H⟩:=ifn H;have E:=eq_true c8;have F:=decide_eq_true c8
    try have G:(9223372036854775807<(strOfNums l).size+(rdOf ByteArray.empty c g).size)=False:=eq_false (Nat.not_lt.2 c8)
    obtain⟨c9,H⟩:=ifn H;have I:=eq_true c9;have J:=decide_eq_true c9
    try have K:(9223372036854775807<i.size+((strOfNums l)++(rdOf ByteArray.empty c g)).size)=False:=eq_false (Nat.not_lt.2 c9)
    have H':=AM H;clear H;have p:0≤(g:Int):=TD;have q:g<(c.length:Int):=TD;obtain⟨A,v,x⟩:=Kd.bp_ (Kd.ae_ n.out).2.2 g p q;cases v;replace p:=eq_true p;replace q:=eq_true q;go_wp2_with (first|((with_reducible refine aj_ (N:=17) rfl ?_);refine Kd.R_lit (Kd.int .u8) _ 5 ?hg (N:=17) ?hd (xs:=([(((rdOf ByteArray.empty c g).size:Int)) % 256]:List Int)) (inner:=[.int .u8 ((((rdOf ByteArray.empty c g).size:Int)) % 256)]) (ok:=fun _=>True) (okp:=fun _=>True) ?hr ?hp (fun _ hk=>hk) trivial (Below.refl _ _) (Nat.le_refl _) (by simp) ?_;(case hd=>rfl);(case hg=>rfl);(case hr=>first|(go_simp;done)|(go_simp;rfl));(case hp=>exact(Reps.one (show Kd.M (Kd.int .u8) _ _ _ ((((rdOf ByteArray.empty c g).size:Int)) % 256) [.int .u8 ((((rdOf ByteArray.empty c g).size:Int)) % 256)] from rfl) (Reps.none _ _)));intro O U m hb hg_ hnew_;clear hg_ hnew_;(first|rw[←Ny304.out] at m|(simp only[Int.reduceToNat] at m;rw[←Ny304.out] at m));replace n:=RB n hb;have s:=RL m;replace HB:=BS hb;clear hb m;have hcv12:=own_string (P:=Tryz.prog) Tryz.underlying162 Tryz.underlying5 Tryz.underlying9 (Kd.own_of_R s.out)));go_roundg k1
    case measure=>have:=HK1.out;omega
    case rel=>exact⟨(i++((strOfNums l)++(rdOf ByteArray.empty c g))),(wrap64 (g+1)),TF,TF,H',⟨TM⟩,RW n,⟨TB⟩⟩
   ·rw[if_neg c5] at H;have u:=decide_eq_false c5;clear c5;obtain rfl:=Option.some.inj H;go_wp2;go_ret;exact⟨TE,TB⟩
end
section
def bI_.f (a0:ByteArray) (a1:ByteArray):Option (Int):=if a1.size=1 then some (Go.Lib.indexByte a0.data.toList (a1.data.toList.headD 0)) else none
theorem bI_.calls (a0:ByteArray) (a1:ByteArray) (r:Int) (w:World) (h:bI_.f a0 a1=some r) :
  Calls Tryz.prog 226 #[.string a0,.string a1] w fun e w'=>e=.returned (.int .i64 r)∧Drawn0 w w':=by
 unfold bI_.f at h;by_cases h1:a1.size=1
 ·rw[if_pos h1] at h;obtain rfl:=Option.some.inj h;obtain⟨⟨l⟩⟩:=a1
  match l,h1 with
  | [c],_=>exact(Go.Proofs.Any.stringslite_Index_one Go.Proofs.Tryz.lays219 a0 c w).mono fun e w' hh=>⟨hh.1,hh.2 ▸ Drawn0.refl _⟩
 ·rw[if_neg h1] at h;cases h
end
section
def stringslite_Cut.f (a0:ByteArray) (a1:ByteArray):Option (ByteArray × ByteArray × Bool):=(bI_.f a0 a1).bind fun c=>(if c≥0 then(if 0≤c then(if c≤(a0.size:Int) then(if 0≤(wrap64 (c+(a1.size:Int))) then(if (wrap64 (c+(a1.size:Int)))≤(a0.size:Int) then(some (a0.extract 0 (c:Int).toNat,a0.extract ((wrap64 (c+(a1.size:Int))):Int).toNat a0.size,true)) else(none)) else(none)) else(none)) else(none)) else(some (a0,(⟨#[]⟩:ByteArray),false)))
theorem stringslite_Cut.calls (a0:ByteArray) (a1:ByteArray) (r1:ByteArray) (r2:ByteArray) (r3:Bool) (w:World) (h:stringslite_Cut.f a0 a1=some (r1,r2,r3)) :
  Calls Tryz.prog 207 #[.string a0,.string a1] w fun e w'=>e=.returned (.tuple #[.string r1,.string r2,.bool r3])∧Drawn0 w w':=by
 have H:((bI_.f a0 a1).bind fun c=>(if c≥0 then(if 0≤c then(if c≤(a0.size:Int) then(if 0≤(wrap64 (c+(a1.size:Int))) then(if (wrap64 (c+(a1.size:Int)))≤(a0.size:Int) then(some (a0.extract 0 (c:Int).toNat,a0.extract ((wrap64 (c+(a1.size:Int))):Int).toNat a0.size,true)) else(none)) else(none)) else(none)) else(none)) else(some (a0,(⟨#[]⟩:ByteArray),false))))=some (r1,r2,r3):=h;clear h;obtain⟨c,A3,H⟩:=bnd H;by_cases c4:c≥0
 ·rw[if_pos c4] at H;have i:=decide_eq_true c4;clear c4;obtain⟨c5,H⟩:=ifn H;have j:=eq_true c5;have l:=decide_eq_true c5;clear c5;obtain⟨c6,H⟩:=ifn H;have m:=eq_true c6;have n:=decide_eq_true c6;clear c6;obtain⟨g,hji7⟩:∃j_:Int,(wrap64 (c+(a1.size:Int)))=j_:=⟨_,rfl⟩
  replace H:(if 0≤(g) then(if (g)≤(a0.size:Int) then(some (a0.extract 0 (c:Int).toNat,a0.extract ((g):Int).toNat a0.size,true)) else(none)) else(none))=some (r1,r2,r3):=by first|(rw[hji7] at H;exact H)|(simp only[hji7] at H ⊢;exact H)
  (try rw[hji7] at A3);have hji7w:(IntKind.i64.wrap (c+(a1.size:Int)))=g:=(bz_ _).trans hji7;obtain⟨c8,H⟩:=ifn H;have o:=eq_true c8;have p:=decide_eq_true c8;clear c8;obtain⟨c9,H⟩:=ifn H;have q:=eq_true c9;have s:=decide_eq_true c9;clear c9;simp only[Option.some.injEq,Prod.mk.injEq] at H;obtain⟨rfl,rfl,rfl⟩:=H;go_enter Tryz.func207,Tryz.ntmps207;go_wp2_with (first|(go_at_call 226;(with_reducible refine(bI_.calls a0 a1 c _ A3.out).mono ?_);rintro e w' ⟨rfl,⟨nd,rfl⟩⟩;(try first|exact⟨rfl,_,World.drewN_drewN _ _ _⟩|exact⟨rfl,_,Eq.trans (World.drewN_drewN _ _ _) (congrArg (World.drewN _) (Nat.add_assoc _ _ _))⟩)))
  repeat (go_quiet (first|(go_at_call 226;(with_reducible refine(bI_.calls a0 a1 c _ A3.out).mono ?_);rintro e w' ⟨rfl,⟨nd,rfl⟩⟩;(try first|exact⟨rfl,_,World.drewN_drewN _ _ _⟩|exact⟨rfl,_,Eq.trans (World.drewN_drewN _ _ _) (congrArg (World.drewN _) (Nat.add_assoc _ _ _))⟩)));try go_wp2_with (first|(go_at_call 226;(with_reducible refine(bI_.calls a0 a1 c _ A3.out).mono ?_);rintro e w' ⟨rfl,⟨nd,rfl⟩⟩;(try first|exact⟨rfl,_,World.drewN_drewN _ _ _⟩|exact⟨rfl,_,Eq.trans (World.drewN_drewN _ _ _) (congrArg (World.drewN _) (Nat.add_assoc _ _ _))⟩))))
  go_ret3;exact⟨by first|rfl|(simp;done)|(simp only[←hji7]<;>(first|rfl|simp))|(simp[*];done),TN⟩
 ·rw[if_neg c4] at H;have i:=decide_eq_false c4;clear c4;simp only[Option.some.injEq,Prod.mk.injEq] at H;obtain⟨rfl,rfl,rfl⟩:=H;go_enter Tryz.func207,Tryz.ntmps207;go_wp2_with (first|(go_at_call 226;(with_reducible refine(bI_.calls a0 a1 c _ A3.out).mono ?_);rintro e w' ⟨rfl,⟨nd,rfl⟩⟩;(try first|exact⟨rfl,_,World.drewN_drewN _ _ _⟩|exact⟨rfl,_,Eq.trans (World.drewN_drewN _ _ _) (congrArg (World.drewN _) (Nat.add_assoc _ _ _))⟩)))
  repeat (go_quiet (first|(go_at_call 226;(with_reducible refine(bI_.calls a0 a1 c _ A3.out).mono ?_);rintro e w' ⟨rfl,⟨nd,rfl⟩⟩;(try first|exact⟨rfl,_,World.drewN_drewN _ _ _⟩|exact⟨rfl,_,Eq.trans (World.drewN_drewN _ _ _) (congrArg (World.drewN _) (Nat.add_assoc _ _ _))⟩)));try go_wp2_with (first|(go_at_call 226;(with_reducible refine(bI_.calls a0 a1 c _ A3.out).mono ?_);rintro e w' ⟨rfl,⟨nd,rfl⟩⟩;(try first|exact⟨rfl,_,World.drewN_drewN _ _ _⟩|exact⟨rfl,_,Eq.trans (World.drewN_drewN _ _ _) (congrArg (World.drewN _) (Nat.add_assoc _ _ _))⟩))))
  go_ret3;exact⟨TF,TN⟩
end
section
def strings_Cut.f (a0:ByteArray) (a1:ByteArray):Option (ByteArray × ByteArray × Bool):=(stringslite_Cut.f a0 a1).bind fun bt308=>(some (bt308.1,bt308.2.1,bt308.2.2))
theorem strings_Cut.calls (a0:ByteArray) (a1:ByteArray) (r1:ByteArray) (r2:ByteArray) (r3:Bool) (w:World) (h:strings_Cut.f a0 a1=some (r1,r2,r3)) :
  Calls Tryz.prog 182 #[.string a0,.string a1] w fun e w'=>e=.returned (.tuple #[.string r1,.string r2,.bool r3])∧Drawn0 w w':=by
 have H:((stringslite_Cut.f a0 a1).bind fun bt308=>(some (bt308.1,bt308.2.1,bt308.2.2)))=some (r1,r2,r3):=h;clear h;obtain⟨⟨c,g,i⟩,A3,H⟩:=bnd H
 try dsimp only at H
 simp only[Option.some.injEq,Prod.mk.injEq] at H;obtain⟨rfl,rfl,rfl⟩:=H;go_enter Tryz.func182,Tryz.ntmps182;go_wp2_with (first|((with_reducible refine ac_ (f:=207) rfl ?_);refine goesL_ (some 9) rfl rfl Tryz.func207 KR rfl #[.string a0,.string a1] rfl TA ?_;(with_reducible refine(stringslite_Cut.calls a0 a1 c g i _ A3.out).mono ?_);rintro e w' ⟨rfl,⟨nd,rfl⟩⟩;refine⟨_,rfl,?_⟩));go_ret3;exact⟨TF,TN⟩
end
section
def cf_.f (a0:Int):Option (Bool):=if a0<32 then(some true) else(some (decide (a0 > 126)))
theorem cf_.calls (a0:Int) (r:Bool) (w:World) (h:cf_.f a0=some r) :
  Calls Tryz.prog 213 #[.int .u8 a0] w fun e w'=>e=.returned (.bool r)∧Drawn0 w w':=by
 have H:(if a0<32 then(some true) else(some (decide (a0 > 126))))=some r:=h;clear h;by_cases c2:a0<32
 ·rw[if_pos c2] at H;have c:=decide_eq_true c2;clear c2;obtain rfl:=Option.some.inj H;go_enter Tryz.func213,Tryz.ntmps213;go_wp2;go_ret;exact⟨TF,TN⟩
 ·rw[if_neg c2] at H;have c:=decide_eq_false c2;clear c2;obtain rfl:=Option.some.inj H;go_enter Tryz.func213,Tryz.ntmps213;go_wp2;go_ret;exact⟨TF,TN⟩
end
section
def au_.l0:Nat→List Int→Int→Int→Option (Int)
 | 0,_,_,_=>none
 | k+1,x0,x7,x8=>if x8<x7 then(if 0≤x8 then(if x8<(x0.length:Int) then((cf_.f (rd x0 x8)).bind fun c=>(if c=true then(some x8) else(au_.l0 k x0 x7 (wrap64 (x8+1))))) else(none)) else(none)) else(some (-1))
def au_.f (k:Nat) (l0:List Int)  : Option (Int):=au_.l0 k l0 (l0.length:Int) 0
theorem au_.calls (k:Nat) (A0:Option Addr) (c0:Nat) (l0:List Int)  (r:Int) (w:World) (n:Kd.C (Kd.int .u8) w A0 l0.length l0) (o:l0.length≤c0) (h:au_.f k l0=some r) :
  Calls Tryz.prog 228 #[.slice A0 l0.length c0,.func (.func 213) #[] #[]] w fun e w'=>e=.returned (.int .i64 r)∧Drawn0 w w':=by
 have p:=AM n;have v:=AM o;clear n o;have H:(au_.l0 k l0 (l0.length:Int) 0)=some r:=h;clear h;have H':=AM H;clear H;go_enter Tryz.func228,Tryz.ntmps228;go_wp2;go_loopg [8] k (fun kq v8 w'=>∃(c:Int),v8=.int .i64 c∧Aside0 (au_.l0 kq l0 (l0.length:Int) c=some r)∧Aside0 (kq≤k)∧Drawn0 w w')
 case atStart=>exact⟨(0),TF,H',⟨Nat.le_refl _⟩,TN⟩
 case round =>
  clear H';obtain⟨c,rfl,HA,HK1,⟨m1,rfl⟩⟩:=hrel
  cases gk with
  | zero=>exact absurd HA.out (by simp[au_.l0])
  | succ k1 =>
   have H:=HA.out;clear HA;simp only[au_.l0] at H;by_cases c3:c<(l0.length:Int)
   ·rw[if_pos c3] at H;have q:=decide_eq_true c3;clear c3;obtain⟨c4,H⟩:=ifn H;have t:=decide_eq_true c4;clear c4;obtain⟨c5,H⟩:=ifn H;have u:=decide_eq_true c5;clear c5;obtain⟨s,A6,H⟩:=bnd H;by_cases c7:s=true
    ·subst c7;replace H:=ift H;obtain rfl:=Option.some.inj H;have g:0≤(c:Int):=TD;have i:c<(l0.length:Int):=TD;obtain⟨m,j,l⟩:=Kd.at_int p.out c g i;cases j;replace g:=eq_true g;replace i:=eq_true i;go_wp2_with (first|(go_at_call 213;(with_reducible refine(cf_.calls (rd l0 c) true _ A6.out).mono ?_);rintro e w' ⟨rfl,⟨nd,rfl⟩⟩));go_ret;exact⟨TF,TN⟩
    ·replace c7:=Bool.eq_false_iff.mpr c7;subst c7;replace H:=iff' H;have H':=AM H;clear H;have g:0≤(c:Int):=TD;have i:c<(l0.length:Int):=TD;obtain⟨m,j,l⟩:=Kd.at_int p.out c g i;cases j;replace g:=eq_true g;replace i:=eq_true i;go_wp2_with (first|(go_at_call 213;(with_reducible refine(cf_.calls (rd l0 c) false _ A6.out).mono ?_);rintro e w' ⟨rfl,⟨nd,rfl⟩⟩));go_roundg k1
     case measure=>have:=HK1.out;omega
     case rel=>exact⟨(wrap64 (c+1)),TF,H',⟨TM⟩,TN⟩
   ·rw[if_neg c3] at H;have q:=decide_eq_false c3;clear c3;obtain rfl:=Option.some.inj H;go_wp2;go_ret;exact⟨TF,TN⟩
end
section
def aS_.f (k:Nat) (l0:List Int)  : Option (Bool):=(au_.f k l0).bind fun t313=>(some (decide (t313≥0)))
theorem aS_.calls (k:Nat) (A0:Option Addr) (c0:Nat) (l0:List Int)  (r:Bool) (w:World) (g:Kd.C (Kd.int .u8) w A0 l0.length l0) (i:l0.length≤c0) (h:aS_.f k l0=some r) :
  Calls Tryz.prog 212 #[.slice A0 l0.length c0,.func (.func 213) #[] #[]] w fun e w'=>e=.returned (.bool r)∧Drawn0 w w':=by
 have j:=AM g;have l:=AM i;clear g i;have H:((au_.f k l0).bind fun c=>(some (decide (c≥0))))=some r:=h;clear h;obtain⟨c,A3,H⟩:=bnd H;obtain rfl:=Option.some.inj H;go_enter Tryz.func212,Tryz.ntmps212;go_wp2_with (first|((with_reducible refine ac_ (f:=228) rfl ?_);refine goesL_ (some 7) rfl rfl Tryz.func228 KR rfl #[.slice A0 l0.length c0,.func (.func 213) #[] #[]] rfl TA ?_;(with_reducible refine(au_.calls k _ _ l0  c _ ?side1 ?side2 A3.out).mono ?_);(case side1=>exact CW (j.out));(case side2=>exact l.out);rintro e w' ⟨rfl,⟨nd,rfl⟩⟩;refine⟨_,rfl,?_⟩));go_ret;exact⟨TF,TN⟩
end
section
mutual
def aw_.l0:Nat→ByteArray→List ByteArray→List ByteArray→Int→Int→Option (ByteArray × Bool)
 | 0,_,_,_,_,_=>none
 | k+1,x6,x7,h,i,c=>if c<i then(if 0≤c then(if c<(h.length:Int) then((bK_.f (rdOf ByteArray.empty h c) 255).bind fun bt318=>(if bt318.2=true then(if (x7.length:Int)=4 then((b_.f k bt318.1 1).bind fun g=>(if x6.size+g.size≤9223372036854775807 then(aw_.l0 k (x6++g) x7 h i (wrap64 (c+1))) else(none))) else(some ((⟨#[]⟩:ByteArray),false))) else(some ((⟨#[]⟩:ByteArray),false)))) else(none)) else(none)) else(some (x6,true))
def aw_.j1:Nat→ByteArray→Int→Bool→Option (ByteArray × Bool)
 | 0,_,_,_=>none
 | k+1,x1,h,n=>if n=true then((cn_.f k x1).bind fun i=>(if i=true then((bn_.f k x1).bind fun c=>(if c.size+1≤9223372036854775807 then(some (c++(⟨#[0]⟩:ByteArray),true)) else(none))) else(some ((⟨#[]⟩:ByteArray),false)))) else(if h=6 then((bK_.f x1 4294967295).bind fun bt323=>(if bt323.2=true then((b_.f k bt323.1 4).bind fun j=>(some (j,true))) else(some ((⟨#[]⟩:ByteArray),false)))) else(if h=15 then((strings_Cut.f x1 (⟨#[32]⟩:ByteArray)).bind fun bt326=>((bK_.f bt326.1 65535).bind fun bt329=>(if bt329.2=true then((cn_.f k bt326.2.1).bind fun l=>(aw_.j2 k bt326.2.1 bt329.1 (!l))) else(aw_.j2 k bt326.2.1 bt329.1 true)))) else(if h=16 then(if (x1.size:Int) > 30 then(some ((⟨#[]⟩:ByteArray),false)) else(if x1.size≤9223372036854775807 then((aS_.f k (bytesOf x1)).bind fun m=>(if m=true then(some ((⟨#[]⟩:ByteArray),false)) else((b_.f k (x1.size:Int) 1).bind fun g=>(if g.size+x1.size≤9223372036854775807 then(some (g++x1,true)) else(none))))) else(none))) else(some ((⟨#[]⟩:ByteArray),false)))))
def aw_.j2:Nat→ByteArray→Int→Bool→Option (ByteArray × Bool)
 | 0,_,_,_=>none
 | k+1,h,i,j=>if j=true then(some ((⟨#[]⟩:ByteArray),false)) else((b_.f k i 2).bind fun c=>((bn_.f k h).bind fun g=>(if c.size+g.size≤9223372036854775807 then(if (c++g).size+1≤9223372036854775807 then(some ((c++g)++(⟨#[0]⟩:ByteArray),true)) else(none)) else(none))))
end
def aw_.f (k:Nat) (a0:Int) (a1:ByteArray):Option (ByteArray × Bool):=if a0=1 then((b2_.f k a1 (⟨#[46]⟩:ByteArray)).bind fun t314=>(aw_.l0 k (⟨#[]⟩:ByteArray) t314 t314 (t314.length:Int) 0)) else(if a0=2 then(aw_.j1 k a1 a0 (a0==2)) else(aw_.j1 k a1 a0 (a0==5)))
theorem aw_.calls (k:Nat) (a0:Int) (a1:ByteArray) (r1:ByteArray) (r2:Bool) (w:World) (hG_:Glob w) (h:aw_.f k a0 a1=some (r1,r2)) :
  Calls Tryz.prog 187 #[.int .i64 a0,.string a1] w fun e w'=>e=.returned (.tuple #[.string r1,.bool r2])∧Below w.heap.size w w':=by
 have HGL:=AM hG_;clear hG_;have HB:=AM (Below.refl w.heap.size w);have H:(if a0=1 then((b2_.f k a1 (⟨#[46]⟩:ByteArray)).bind fun g=>(aw_.l0 k (⟨#[]⟩:ByteArray) g g (g.length:Int) 0)) else(if a0=2 then(aw_.j1 k a1 a0 (a0==2)) else(aw_.j1 k a1 a0 (a0==5))))=some (r1,r2):=h;clear h;by_cases c3:a0=1
 ·rw[if_pos c3] at H;have aI:=beq_iff_eq.mpr c3;have aJ:=bne_eq_false_iff_eq.mpr c3;clear c3;obtain⟨g,A4,H⟩:=bnd H;have H':=AM H;clear H;go_enter Tryz.func187,Tryz.ntmps187;go_wp2_with (first|((with_reducible refine ac_ (f:=166) rfl ?_);refine goesL_ (some 23) rfl rfl Tryz.func166 KR rfl #[.string a1,.string (⟨#[46]⟩:ByteArray)] rfl TA ?_;(with_reducible refine(b2_.calls k a1 (⟨#[46]⟩:ByteArray) g _ A4.out).mono ?_);rintro e w5 ⟨bx,rfl,aK,hb⟩;refine⟨_,rfl,?_⟩;have F:=RL aK;replace HB:=BS hb;clear hb;(try clear aK);obtain⟨aL,aM,eo6⟩:=Kd.an_ F.out;subst eo6));go_loopg [6,26] k (fun kq v6 aX w'=>∃(x:ByteArray) (c:Int),v6=.string x∧aX=.int .i64 c∧Aside0 (aw_.l0 kq x g g (g.length:Int) c=some (r1,r2))∧Aside0 (kq≤k)∧Aside0 (Kd.R Kd.string 9 w' w.heap.size (fun _=>True) (.slice aL g.length aM) g)∧Aside0 (Kd.R Kd.string 9 w' w.heap.size (fun _=>True) (.slice aL g.length aM) g)∧Aside0 (Below w.heap.size w w'))
  case atStart=>exact⟨((⟨#[]⟩:ByteArray)),(0),TF,TF,H',⟨Nat.le_refl _⟩,RW F,RW F,⟨TB⟩⟩
  case round =>
   clear H';obtain⟨x,c,rfl,rfl,HA,HK1,o,i,HB⟩:=hrel
   cases gk with
   | zero=>exact absurd HA.out (by simp[aw_.l0])
   | succ k1 =>
    have H:=HA.out;clear HA;simp only[aw_.l0] at H;by_cases c7:c<(g.length:Int)
    ·rw[if_pos c7] at H;have aN:=decide_eq_true c7;clear c7;obtain⟨c8,H⟩:=ifn H;have bz:=decide_eq_true c8;clear c8;obtain⟨c9,H⟩:=ifn H;have bA:=decide_eq_true c9;clear c9;obtain⟨⟨y,aO⟩,ar,H⟩:=bnd H
     try dsimp only at H
     by_cases af:aO=true
     ·subst af;replace H:=ift H;by_cases G:(g.length:Int)=4
      ·rw[if_pos G] at H;have au:=beq_iff_eq.mpr G;have av:=bne_eq_false_iff_eq.mpr G;clear G;obtain⟨Y,aY,H⟩:=bnd H;obtain⟨aw,H⟩:=ifn H;have aZ:=eq_true aw;have a2:=decide_eq_true aw
       try have a3:(9223372036854775807<x.size+Y.size)=False:=eq_false (Nat.not_lt.2 aw)
       have H':=AM H;clear H;have l:0≤(c:Int):=TD;have m:c<(g.length:Int):=TD;obtain⟨Z,z,A⟩:=Kd.bp_ (Kd.ae_ i.out).2.2 c l m;cases z;replace l:=eq_true l;replace m:=eq_true m;go_wp2_with (first|((with_reducible refine ac_ (f:=208) rfl ?_);refine goesL_ (some 32) rfl rfl Tryz.func208 KR rfl #[.string (rdOf ByteArray.empty g c),.int .i64 255] rfl TA ?_;(with_reducible refine(bK_.calls (rdOf ByteArray.empty g c) 255 y true _ ?side1 ar.out).mono ?_);(case side1=>exact GW HGL);rintro e bH ⟨rfl,hb⟩;refine⟨_,rfl,?_⟩;replace o:=RB o hb;replace i:=RB i hb;replace HB:=BS hb;clear hb)|((with_reducible refine ac_ (f:=209) rfl ?_);refine goesL_ (some 44) rfl rfl Tryz.func209 KR rfl #[.int .i64 y,.int .i64 1] rfl TA ?_;(with_reducible refine(b_.calls k1 y 1 Y _ aY.out).mono ?_);rintro e bI ⟨rfl,hb⟩;refine⟨_,rfl,?_⟩;replace o:=RB o hb;replace i:=RB i hb;replace HB:=BS hb;clear hb));go_roundg k1
       case measure=>have:=HK1.out;omega
       case rel=>exact⟨(x++Y),(wrap64 (c+1)),TF,TF,H',⟨TM⟩,RW o,RW i,⟨TB⟩⟩
      ·rw[if_neg G] at H;have au:=beq_eq_false_iff_ne.mpr G;have av:=bne_iff_ne.mpr G;simp only[Option.some.injEq,Prod.mk.injEq] at H;obtain⟨rfl,rfl⟩:=H;have l:0≤(c:Int):=TD;have m:c<(g.length:Int):=TD;obtain⟨Z,z,A⟩:=Kd.bp_ (Kd.ae_ i.out).2.2 c l m;cases z;replace l:=eq_true l;replace m:=eq_true m;go_wp2_with (first|((with_reducible refine ac_ (f:=208) rfl ?_);refine goesL_ (some 32) rfl rfl Tryz.func208 KR rfl #[.string (rdOf ByteArray.empty g c),.int .i64 255] rfl TA ?_;(with_reducible refine(bK_.calls (rdOf ByteArray.empty g c) 255 y true _ ?side1 ar.out).mono ?_);(case side1=>exact GW HGL);rintro e bJ ⟨rfl,hb⟩;refine⟨_,rfl,?_⟩;replace o:=RB o hb;replace i:=RB i hb;replace HB:=BS hb;clear hb));go_ret2;exact⟨TE,TB⟩
     ·replace af:=Bool.eq_false_iff.mpr af;subst af;replace H:=iff' H;simp only[Option.some.injEq,Prod.mk.injEq] at H;obtain⟨rfl,rfl⟩:=H;have l:0≤(c:Int):=TD;have m:c<(g.length:Int):=TD;obtain⟨Z,z,A⟩:=Kd.bp_ (Kd.ae_ i.out).2.2 c l m;cases z;replace l:=eq_true l;replace m:=eq_true m;go_wp2_with (first|((with_reducible refine ac_ (f:=208) rfl ?_);refine goesL_ (some 32) rfl rfl Tryz.func208 KR rfl #[.string (rdOf ByteArray.empty g c),.int .i64 255] rfl TA ?_;(with_reducible refine(bK_.calls (rdOf ByteArray.empty g c) 255 y false _ ?side1 ar.out).mono ?_);(case side1=>exact GW HGL);rintro e bK ⟨rfl,hb⟩;refine⟨_,rfl,?_⟩;replace o:=RB o hb;replace i:=RB i hb;replace HB:=BS hb;clear hb));go_ret2;exact⟨TE,TB⟩
    ·rw[if_neg c7] at H;have aN:=decide_eq_false c7;clear c7;simp only[Option.some.injEq,Prod.mk.injEq] at H;obtain⟨rfl,rfl⟩:=H;go_wp2;go_ret2;exact⟨TE,TB⟩
 ·rw[if_neg c3] at H;have aI:=beq_eq_false_iff_ne.mpr c3;have aJ:=bne_iff_ne.mpr c3;have aa:=AM H;clear H;go_enter Tryz.func187,Tryz.ntmps187
  go_upto_if 48 with (fail)
  go_cut [48] (fun a4 wc=>∃(kq:Nat) (p:Bool),a4=.bool p∧Aside0 (aw_.j1 kq a1 a0 p=some (r1,r2))∧Aside0 (kq≤k)∧Aside0 (Below w.heap.size w wc))
  case first =>
   have H:=aa.out;clear aa;by_cases I:a0=2
   ·rw[if_pos I] at H;have s:=beq_iff_eq.mpr I;have J:=bne_eq_false_iff_eq.mpr I;clear I;(first|rw[s]|(simp only[bz_,bM_];rw[s])|rw[J]|skip);have H':=AM H;clear H;go_wp2;go_meet
    case rel=>exact⟨_,((a0==2)),TF,H',⟨by first|omega|exact Nat.le_refl _⟩,⟨TB⟩⟩
   ·rw[if_neg I] at H;have s:=beq_eq_false_iff_ne.mpr I;have J:=bne_iff_ne.mpr I;(first|rw[s]|(simp only[bz_,bM_];rw[s])|rw[J]|skip);have H':=AM H;clear H;go_wp2;go_meet
    case rel=>exact⟨_,((a0==5)),TF,H',⟨by first|omega|exact Nat.le_refl _⟩,⟨TB⟩⟩
  case rest =>
   clear aa;obtain⟨kq,p,rfl,HA,HJ18,HB⟩:=hcut
   cases kq with
   | zero=>exact absurd HA.out (by simp[aw_.j1])
   | succ n =>
    have H:=HA.out;clear HA;simp only[aw_.j1] at H;by_cases ag:p=true
    ·subst ag;replace H:=ift H;obtain⟨aP,aQ,H⟩:=bnd H;by_cases ah:aP=true
     ·subst ah;replace H:=ift H;obtain⟨an,a5,H⟩:=bnd H;obtain⟨ax,H⟩:=ifn H;have a6:=eq_true ax;have a7:=decide_eq_true ax
      try have a8:(9223372036854775807<an.size+1)=False:=eq_false (Nat.not_lt.2 ax)
      simp only[Option.some.injEq,Prod.mk.injEq] at H;obtain⟨rfl,rfl⟩:=H;go_wp2_with (first|((with_reducible refine ac_ (f:=210) rfl ?_);refine goesL_ (some 52) rfl rfl Tryz.func210 KR rfl #[.string a1] rfl TA ?_;(with_reducible refine(cn_.calls n a1 true _ aQ.out).mono ?_);rintro e bL ⟨rfl,hb⟩;refine⟨_,rfl,?_⟩;replace HB:=BS hb;clear hb)|((with_reducible refine ac_ (f:=211) rfl ?_);refine goesL_ (some 55) rfl rfl Tryz.func211 KR rfl #[.string a1] rfl TA ?_;(with_reducible refine(bn_.calls n a1 an _ a5.out).mono ?_);rintro e bO ⟨rfl,hb⟩;refine⟨_,rfl,?_⟩;replace HB:=BS hb;clear hb));go_ret2;exact⟨TE,TB⟩
     ·replace ah:=Bool.eq_false_iff.mpr ah;subst ah;replace H:=iff' H;simp only[Option.some.injEq,Prod.mk.injEq] at H;obtain⟨rfl,rfl⟩:=H;go_wp2_with (first|((with_reducible refine ac_ (f:=210) rfl ?_);refine goesL_ (some 52) rfl rfl Tryz.func210 KR rfl #[.string a1] rfl TA ?_;(with_reducible refine(cn_.calls n a1 false _ aQ.out).mono ?_);rintro e bP ⟨rfl,hb⟩;refine⟨_,rfl,?_⟩;replace HB:=BS hb;clear hb));go_ret2;exact⟨TE,TB⟩
    ·replace ag:=Bool.eq_false_iff.mpr ag;subst ag;replace H:=iff' H;by_cases K:a0=6
     ·rw[if_pos K] at H;have ay:=beq_iff_eq.mpr K;have az:=bne_eq_false_iff_eq.mpr K;clear K;obtain⟨⟨U,aR⟩,aS,H⟩:=bnd H
      try dsimp only at H
      by_cases ai:aR=true
      ·subst ai;replace H:=ift H;obtain⟨aT,a9,H⟩:=bnd H;simp only[Option.some.injEq,Prod.mk.injEq] at H;obtain⟨rfl,rfl⟩:=H;go_wp2_with (first|((with_reducible refine ac_ (f:=208) rfl ?_);refine goesL_ (some 61) rfl rfl Tryz.func208 KR rfl #[.string a1,.int .i64 4294967295] rfl TA ?_;(with_reducible refine(bK_.calls a1 4294967295 U true _ ?side1 aS.out).mono ?_);(case side1=>exact GW HGL);rintro e bQ ⟨rfl,hb⟩;refine⟨_,rfl,?_⟩;replace HB:=BS hb;clear hb)|((with_reducible refine ac_ (f:=209) rfl ?_);refine goesL_ (some 67) rfl rfl Tryz.func209 KR rfl #[.int .i64 U,.int .i64 4] rfl TA ?_;(with_reducible refine(b_.calls n U 4 aT _ a9.out).mono ?_);rintro e bR ⟨rfl,hb⟩;refine⟨_,rfl,?_⟩;replace HB:=BS hb;clear hb));go_ret2;exact⟨TE,TB⟩
      ·replace ai:=Bool.eq_false_iff.mpr ai;subst ai;replace H:=iff' H;simp only[Option.some.injEq,Prod.mk.injEq] at H;obtain⟨rfl,rfl⟩:=H;go_wp2_with (first|((with_reducible refine ac_ (f:=208) rfl ?_);refine goesL_ (some 61) rfl rfl Tryz.func208 KR rfl #[.string a1,.int .i64 4294967295] rfl TA ?_;(with_reducible refine(bK_.calls a1 4294967295 U false _ ?side1 aS.out).mono ?_);(case side1=>exact GW HGL);rintro e bS ⟨rfl,hb⟩;refine⟨_,rfl,?_⟩;replace HB:=BS hb;clear hb));go_ret2;exact⟨TE,TB⟩
     ·rw[if_neg K] at H;have ay:=beq_eq_false_iff_ne.mpr K;have az:=bne_iff_ne.mpr K;by_cases M:a0=15
      ·rw[if_pos M] at H;have aA:=beq_iff_eq.mpr M;have aB:=bne_eq_false_iff_eq.mpr M;clear M;obtain⟨⟨ab,B,aU⟩,ba,H⟩:=bnd H
       try dsimp only at H
       obtain⟨⟨V,ao⟩,bb,H⟩:=bnd H
       try dsimp only at H
       have ac:=AM H;clear H
       go_upto_region 27 with (first|((with_reducible refine ac_ (f:=182) rfl ?_);refine goesL_ (some 72) rfl rfl Tryz.func182 KR rfl #[.string a1,.string (⟨#[32]⟩:ByteArray)] rfl TA ?_;(with_reducible refine(strings_Cut.calls a1 (⟨#[32]⟩:ByteArray) ab B aU _ ba.out).mono ?_);rintro e w' ⟨rfl,⟨nd,rfl⟩⟩;refine⟨_,rfl,?_⟩)|((with_reducible refine ac_ (f:=208) rfl ?_);refine goesL_ (some 78) rfl rfl Tryz.func208 KR rfl #[.string ab,.int .i64 65535] rfl TA ?_;(with_reducible refine(bK_.calls ab 65535 V ao _ ?side1 bb.out).mono ?_);(case side1=>exact GW HGL);rintro e bT ⟨rfl,hb⟩;refine⟨_,rfl,?_⟩;replace HB:=BS hb;clear hb))
       (try simp only[Act.put,List.setIfInBounds_toArray,List.set_cons_zero,List.set_cons_succ]);go_cut [87] (fun bd wc=>∃(kq:Nat) (q:Bool),bd=.bool q∧Aside0 (aw_.j2 kq B V q=some (r1,r2))∧Aside0 (kq≤n)∧Aside0 (Below w.heap.size w wc))
       case first =>
        have H:=ac.out;clear ac;by_cases aj:ao=true
        ·subst aj;replace H:=ift H;obtain⟨ap,be,H⟩:=bnd H;have H':=AM H;clear H;go_wp2_with (first|(go_at_call 210;(with_reducible refine(cn_.calls n B ap _ be.out).mono ?_);rintro e bU ⟨rfl,hb⟩;replace HB:=BS hb;clear hb));go_meet
         case rel=>exact⟨_,(!ap),TF,H',⟨by have:=HJ18.out;first|omega|exact Nat.le_refl _⟩,⟨TB⟩⟩
        ·replace aj:=Bool.eq_false_iff.mpr aj;subst aj;replace H:=iff' H;have H':=AM H;clear H;go_wp2;go_meet
         case rel=>exact⟨_,(true),TF,H',⟨by have:=HJ18.out;first|omega|exact Nat.le_refl _⟩,⟨TB⟩⟩
       case rest =>
        clear ac;obtain⟨kq,q,rfl,HA,HJ38,HB⟩:=hcut
        cases kq with
        | zero=>exact absurd HA.out (by simp[aw_.j2])
        | succ aq =>
         have H:=HA.out;clear HA;simp only[aw_.j2] at H;by_cases ak:q=true
         ·subst ak;replace H:=ift H;simp only[Option.some.injEq,Prod.mk.injEq] at H;obtain⟨rfl,rfl⟩:=H;go_wp2;go_ret2;exact⟨TE,TB⟩
         ·replace ak:=Bool.eq_false_iff.mpr ak;subst ak;replace H:=iff' H;obtain⟨u,bf,H⟩:=bnd H;obtain⟨v,bg,H⟩:=bnd H;obtain⟨aC,H⟩:=ifn H;have bh:=eq_true aC;have bi:=decide_eq_true aC
          try have bj:(9223372036854775807<u.size+v.size)=False:=eq_false (Nat.not_lt.2 aC)
          obtain⟨W,H⟩:=ifn H;have bk:=eq_true W;have bl:=decide_eq_true W
          try have bm:(u.size+v.size+1≤9223372036854775807)=True:=eq_true (by have h_:=W;simp only[ByteArray.size_append] at h_;exact h_)
          try have bn:(9223372036854775807<u.size+v.size+1)=False:=eq_false (Nat.not_lt.2 (by have h_:=W;simp only[ByteArray.size_append] at h_;exact h_))
          try have bo:decide (u.size+v.size+1≤9223372036854775807)=true:=decide_eq_true (by have h_:=W;simp only[ByteArray.size_append] at h_;exact h_)
          try have bp:(9223372036854775807<(u++v).size+1)=False:=eq_false (Nat.not_lt.2 W)
          simp only[Option.some.injEq,Prod.mk.injEq] at H;obtain⟨rfl,rfl⟩:=H;go_wp2_with (first|((with_reducible refine ac_ (f:=209) rfl ?_);refine goesL_ (some 89) rfl rfl Tryz.func209 KR rfl #[.int .i64 V,.int .i64 2] rfl TA ?_;(with_reducible refine(b_.calls aq V 2 u _ bf.out).mono ?_);rintro e bV ⟨rfl,hb⟩;refine⟨_,rfl,?_⟩;replace HB:=BS hb;clear hb)|((with_reducible refine ac_ (f:=211) rfl ?_);refine goesL_ (some 91) rfl rfl Tryz.func211 KR rfl #[.string B] rfl TA ?_;(with_reducible refine(bn_.calls aq B v _ bg.out).mono ?_);rintro e bW ⟨rfl,hb⟩;refine⟨_,rfl,?_⟩;replace HB:=BS hb;clear hb));go_ret2;exact⟨TE,TB⟩
      ·rw[if_neg M] at H;have aA:=beq_eq_false_iff_ne.mpr M;have aB:=bne_iff_ne.mpr M;by_cases O:a0=16
       ·rw[if_pos O] at H;have aD:=beq_iff_eq.mpr O;have aE:=bne_eq_false_iff_eq.mpr O;clear O;by_cases X:(a1.size:Int) > 30
        ·rw[if_pos X] at H;have aF:=decide_eq_true X;have aG:decide (30<a1.size)=true:=decide_eq_true (by omega);clear X;simp only[Option.some.injEq,Prod.mk.injEq] at H;obtain⟨rfl,rfl⟩:=H;go_wp2;go_ret2;exact⟨TE,TB⟩
        ·rw[if_neg X] at H;have aF:=decide_eq_false X;have aG:decide (30<a1.size)=false:=decide_eq_false (by omega);clear X;obtain⟨al,H⟩:=ifn H;have bq:=eq_true al;have br:=decide_eq_true al
         try have bs:(9223372036854775807<a1.size)=False:=eq_false (Nat.not_lt.2 al)
         clear al;obtain⟨ad,t⟩:∃y_:List Int,y_=(bytesOf a1):=⟨_,rfl⟩
         replace H:((aS_.f n ad).bind fun ae=>(if ae=true then(some ((⟨#[]⟩:ByteArray),false)) else((b_.f n (a1.size:Int) 1).bind fun C=>(if C.size+a1.size≤9223372036854775807 then(some (C++a1,true)) else(none)))))=some (r1,r2):=by first|(rw[t];with_reducible exact H)|(have H2_:=(Option.bind_some _ _).symm.trans H;rw[t];with_reducible exact H2_)|(have H2_:=(Option.bind_some _ _).symm.trans H;with_reducible exact H2_)|with_reducible exact H|(rw[t];exact H)|exact H
         have Ny334:=AM t;clear t;obtain⟨ae,aV,H⟩:=bnd H;by_cases am:ae=true
         ·subst am;replace H:=ift H;simp only[Option.some.injEq,Prod.mk.injEq] at H;obtain⟨rfl,rfl⟩:=H;go_wp2_with (first|((with_reducible refine aj_ (N:=101) rfl ?_);(try (refine cg_ (by rfl) ?_;dsimp only));refine Kd.V_bytes _ 5 rfl (N:=101) rfl 9 162 _ rfl a1 rfl Tryz.underlying9 Tryz.underlying162 Tryz.underlying5 TD (ok:=fun k_=>wc.heap.size≤k_) (Nat.le_refl _) (Below.refl _ _) (Nat.le_refl _) ?_;intro aW bX D hb hg_ hnew_;clear hg_ hnew_;(first|rw[←Ny334.out] at D|(simp only[Int.reduceToNat] at D;rw[←Ny334.out] at D));have j:=AM (Kd.V_lower (Kd.V_mono (ok':=fun k_=>True) D (fun k_ hk_=>trivial)) (b0_ TB));replace HB:=BS hb;clear hb D;obtain⟨bB,bC,eo58⟩:=Kd.V_slice j.out;subst eo58)|(go_at_call 212;(with_reducible refine(aS_.calls n _ _ ad  true _ ?side1 ?side2 aV.out).mono ?_);(case side1=>exact CW ((Kd.V_reads' j.out).2.2));(case side2=>exact(Kd.V_reads' j.out).2.1);rintro e w' ⟨rfl,⟨nd,rfl⟩⟩));go_ret2;exact⟨TE,TB⟩
         ·replace am:=Bool.eq_false_iff.mpr am;subst am;replace H:=iff' H;obtain⟨C,bt,H⟩:=bnd H;obtain⟨aH,H⟩:=ifn H;have bu:=eq_true aH;have bv:=decide_eq_true aH
          try have bw:(9223372036854775807<C.size+a1.size)=False:=eq_false (Nat.not_lt.2 aH)
          simp only[Option.some.injEq,Prod.mk.injEq] at H;obtain⟨rfl,rfl⟩:=H;go_wp2_with (first|((with_reducible refine aj_ (N:=101) rfl ?_);(try (refine cg_ (by rfl) ?_;dsimp only));refine Kd.V_bytes _ 5 rfl (N:=101) rfl 9 162 _ rfl a1 rfl Tryz.underlying9 Tryz.underlying162 Tryz.underlying5 TD (ok:=fun k_=>wc.heap.size≤k_) (Nat.le_refl _) (Below.refl _ _) (Nat.le_refl _) ?_;intro aW bY E hb hg_ hnew_;clear hg_ hnew_;(first|rw[←Ny334.out] at E|(simp only[Int.reduceToNat] at E;rw[←Ny334.out] at E));have j:=AM (Kd.V_lower (Kd.V_mono (ok':=fun k_=>True) E (fun k_ hk_=>trivial)) (b0_ TB));replace HB:=BS hb;clear hb E;obtain⟨bD,bF,eo63⟩:=Kd.V_slice j.out;subst eo63)|(go_at_call 212;(with_reducible refine(aS_.calls n _ _ ad  false _ ?side1 ?side2 aV.out).mono ?_);(case side1=>exact CW ((Kd.V_reads' j.out).2.2));(case side2=>exact(Kd.V_reads' j.out).2.1);rintro e w' ⟨rfl,⟨nd,rfl⟩⟩)|((with_reducible refine ac_ (f:=209) rfl ?_);refine goesL_ (some 106) rfl rfl Tryz.func209 KR rfl #[.int .i64 (a1.size:Int),.int .i64 1] rfl TA ?_;(with_reducible refine(b_.calls n (a1.size:Int) 1 C _ bt.out).mono ?_);rintro e w64 ⟨rfl,hb⟩;refine⟨_,rfl,?_⟩;replace j:=AM (Kd.V_below (by(with_reducible repeat (first|apply Kd.V_alloc|apply Kd.V_drewN|apply Kd.V_drew));exact j.out) hb);replace HB:=BS hb;clear hb));go_ret2;exact⟨TE,TB⟩
       ·rw[if_neg O] at H;have aD:=beq_eq_false_iff_ne.mpr O;have aE:=bne_iff_ne.mpr O;simp only[Option.some.injEq,Prod.mk.injEq] at H;obtain⟨rfl,rfl⟩:=H;go_wp2;go_ret2;exact⟨TE,TB⟩
end
section
def b8_.f (k:Nat) (g:ByteArray) (h:Int) (i:Int) (c:ByteArray):Option (Bool):=(bL_.f k g).bind fun j=>(if j=true then((bv_.f i 0 100000).bind fun l=>(if l=true then(if (c.size:Int) > 100 then(some false) else((aw_.f k h c).bind fun bt342=>(some bt342.2))) else(some false))) else(some false))
theorem b8_.calls (k:Nat) (g:ByteArray) (l:Int) (j:Int) (i:ByteArray) (r:Bool) (w:World) (hG_:Glob w) (h:b8_.f k g l j i=some r) :
  Calls Tryz.prog 162 #[.agg #[.string g,.int .i64 l,.int .i64 j,.string i]] w fun e w'=>e=.returned (.bool r)∧Below w.heap.size w w':=by
 have hu93:=Tryz.underlying93;have HGL:=AM hG_;clear hG_;have HB:=AM (Below.refl w.heap.size w);have H:((bL_.f k g).bind fun o=>(if o=true then((bv_.f j 0 100000).bind fun p=>(if p=true then(if (i.size:Int) > 100 then(some false) else((aw_.f k l i).bind fun bt342=>(some bt342.2))) else(some false))) else(some false)))=some r:=h;clear h;obtain⟨o,A2,H⟩:=bnd H;by_cases c3:o=true
 ·subst c3;replace H:=ift H;obtain⟨p,A4,H⟩:=bnd H;by_cases c5:p=true
  ·subst c5;replace H:=ift H;by_cases c6:(i.size:Int) > 100
   ·rw[if_pos c6] at H;have q:=decide_eq_true c6;have s:decide (100<i.size)=true:=decide_eq_true (by omega);clear c6;obtain rfl:=Option.some.inj H;go_enter Tryz.func162,Tryz.ntmps162;go_wp2_with (first|((with_reducible refine aj_ (N:=1) rfl ?_);(try (refine cg_ (by rfl) ?_;dsimp only));refine bE 1 #[.string g,.int .i64 l,.int .i64 j,.string i] 93 ?_;intro m hg w7 hbox hb;have c:=AM (hbox);have n:=bG hg;replace HB:=BS hb;clear hb hbox hg;have D:=cz4 c)|((with_reducible refine ac_ (f:=77) rfl ?_);refine goesL_ (some 7) rfl rfl Tryz.func77 KR rfl #[.string g] rfl TA ?_;(with_reducible refine(bL_.calls k g true _ A2.out).mono ?_);rintro e w9 ⟨rfl,hb⟩;refine⟨_,rfl,?_⟩;replace c:=KB c hb;replace HB:=BS hb;clear hb;have v:=cz4 c)|(go_at_call 86;(with_reducible refine(bv_.calls j 0 100000 true _ A4.out).mono ?_);rintro e w' ⟨rfl,⟨nd,rfl⟩⟩));go_ret;exact⟨TE,TB⟩
   ·rw[if_neg c6] at H;have q:=decide_eq_false c6;have s:decide (100<i.size)=false:=decide_eq_false (by omega);clear c6;obtain⟨⟨t,u⟩,x,H⟩:=bnd H
    try dsimp only at H
    obtain rfl:=Option.some.inj H;go_enter Tryz.func162,Tryz.ntmps162;go_wp2_with (first|((with_reducible refine aj_ (N:=1) rfl ?_);(try (refine cg_ (by rfl) ?_;dsimp only));refine bE 1 #[.string g,.int .i64 l,.int .i64 j,.string i] 93 ?_;intro m hg E hbox hb;have c:=AM (hbox);have n:=bG hg;replace HB:=BS hb;clear hb hbox hg;have y:=cz4 c)|((with_reducible refine ac_ (f:=77) rfl ?_);refine goesL_ (some 7) rfl rfl Tryz.func77 KR rfl #[.string g] rfl TA ?_;(with_reducible refine(bL_.calls k g true _ A2.out).mono ?_);rintro e F ⟨rfl,hb⟩;refine⟨_,rfl,?_⟩;replace c:=KB c hb;replace HB:=BS hb;clear hb;have z:=cz4 c)|(go_at_call 86;(with_reducible refine(bv_.calls j 0 100000 true _ A4.out).mono ?_);rintro e w' ⟨rfl,⟨nd,rfl⟩⟩)|((with_reducible refine ac_ (f:=187) rfl ?_);refine goesL_ (some 26) rfl rfl Tryz.func187 KR rfl #[.int .i64 l,.string i] rfl TA ?_;(with_reducible refine(aw_.calls k l i t u _ ?side1 x.out).mono ?_);(case side1=>exact GW HGL);rintro e G ⟨rfl,hb⟩;refine⟨_,rfl,?_⟩;replace c:=KB c hb;replace HB:=BS hb;clear hb));go_ret;exact⟨TE,TB⟩
  ·replace c5:=Bool.eq_false_iff.mpr c5;subst c5;replace H:=iff' H;obtain rfl:=Option.some.inj H;go_enter Tryz.func162,Tryz.ntmps162;go_wp2_with (first|((with_reducible refine aj_ (N:=1) rfl ?_);(try (refine cg_ (by rfl) ?_;dsimp only));refine bE 1 #[.string g,.int .i64 l,.int .i64 j,.string i] 93 ?_;intro m hg I hbox hb;have c:=AM (hbox);have n:=bG hg;replace HB:=BS hb;clear hb hbox hg;have A:=cz4 c)|((with_reducible refine ac_ (f:=77) rfl ?_);refine goesL_ (some 7) rfl rfl Tryz.func77 KR rfl #[.string g] rfl TA ?_;(with_reducible refine(bL_.calls k g true _ A2.out).mono ?_);rintro e J ⟨rfl,hb⟩;refine⟨_,rfl,?_⟩;replace c:=KB c hb;replace HB:=BS hb;clear hb;have B:=cz4 c)|(go_at_call 86;(with_reducible refine(bv_.calls j 0 100000 false _ A4.out).mono ?_);rintro e w' ⟨rfl,⟨nd,rfl⟩⟩));go_ret;exact⟨TE,TB⟩
 ·replace c3:=Bool.eq_false_iff.mpr c3;subst c3;replace H:=iff' H;obtain rfl:=Option.some.inj H;go_enter Tryz.func162,Tryz.ntmps162;go_wp2_with (first|((with_reducible refine aj_ (N:=1) rfl ?_);(try (refine cg_ (by rfl) ?_;dsimp only));refine bE 1 #[.string g,.int .i64 l,.int .i64 j,.string i] 93 ?_;intro m hg K hbox hb;have c:=AM (hbox);have n:=bG hg;replace HB:=BS hb;clear hb hbox hg;have C:=cz4 c)|((with_reducible refine ac_ (f:=77) rfl ?_);refine goesL_ (some 7) rfl rfl Tryz.func77 KR rfl #[.string g] rfl TA ?_;(with_reducible refine(bL_.calls k g false _ A2.out).mono ?_);rintro e M ⟨rfl,hb⟩;refine⟨_,rfl,?_⟩;replace c:=KB c hb;replace HB:=BS hb;clear hb));go_ret;exact⟨TE,TB⟩
end
section
def bu_.f (a0:Int):Option (Bool):=some (a0 != a0)
theorem bu_.calls (a0:Int) (r:Bool) (w:World) (h:bu_.f a0=some r) :
  Calls Tryz.prog 141 #[.int .i64 a0] w fun e w'=>e=.returned (.bool r)∧Drawn0 w w':=by
 have H:(some (a0 != a0))=some r:=h;clear h;obtain rfl:=Option.some.inj H;go_enter Tryz.func141,Tryz.ntmps141;go_wp2;go_ret;exact⟨TF,TN⟩
end
section
def bY_.f (a0:Int) (a1:Int):Option (Int):=(bu_.f a0).bind fun t362=>((bu_.f a1).bind fun t363=>(if t362=true then(if t363=true then(some 0) else(some (-1))) else(if t363=true then(some 1) else(if a0<a1 then(some (-1)) else(if a0 > a1 then(some 1) else(some 0))))))
theorem bY_.calls (a0:Int) (a1:Int) (r:Int) (w:World) (h:bY_.f a0 a1=some r) :
  Calls Tryz.prog 92 #[.int .i64 a0,.int .i64 a1] w fun e w'=>e=.returned (.int .i64 r)∧Drawn0 w w':=by
 have H:((bu_.f a0).bind fun g=>((bu_.f a1).bind fun c=>(if g=true then(if c=true then(some 0) else(some (-1))) else(if c=true then(some 1) else(if a0<a1 then(some (-1)) else(if a0 > a1 then(some 1) else(some 0)))))))=some r:=h;clear h;obtain⟨g,A3,H⟩:=bnd H;obtain⟨c,A4,H⟩:=bnd H;by_cases c5:g=true
 ·subst c5;replace H:=ift H;by_cases c6:c=true
  ·subst c6;replace H:=ift H;obtain rfl:=Option.some.inj H;go_enter Tryz.func92,Tryz.ntmps92;go_wp2_with (first|((with_reducible refine ac_ (f:=141) rfl ?_);refine goesL_ (some 8) rfl rfl Tryz.func141 KR rfl #[.int .i64 a0] rfl TA ?_;(with_reducible refine(bu_.calls a0 true _ A3.out).mono ?_);rintro e w' ⟨rfl,⟨nd,rfl⟩⟩;refine⟨_,rfl,?_⟩)|((with_reducible refine ac_ (f:=141) rfl ?_);refine goesL_ (some 10) rfl rfl Tryz.func141 KR rfl #[.int .i64 a1] rfl TA ?_;(with_reducible refine(bu_.calls a1 true _ A4.out).mono ?_);rintro e w' ⟨rfl,⟨nd,rfl⟩⟩;refine⟨_,rfl,?_⟩));go_ret;exact⟨TF,TN⟩
  ·replace c6:=Bool.eq_false_iff.mpr c6;subst c6;replace H:=iff' H;obtain rfl:=Option.some.inj H;go_enter Tryz.func92,Tryz.ntmps92;go_wp2_with (first|((with_reducible refine ac_ (f:=141) rfl ?_);refine goesL_ (some 8) rfl rfl Tryz.func141 KR rfl #[.int .i64 a0] rfl TA ?_;(with_reducible refine(bu_.calls a0 true _ A3.out).mono ?_);rintro e w' ⟨rfl,⟨nd,rfl⟩⟩;refine⟨_,rfl,?_⟩)|((with_reducible refine ac_ (f:=141) rfl ?_);refine goesL_ (some 10) rfl rfl Tryz.func141 KR rfl #[.int .i64 a1] rfl TA ?_;(with_reducible refine(bu_.calls a1 false _ A4.out).mono ?_);rintro e w' ⟨rfl,⟨nd,rfl⟩⟩;refine⟨_,rfl,?_⟩));go_ret;exact⟨TF,TN⟩
 ·replace c5:=Bool.eq_false_iff.mpr c5;subst c5;replace H:=iff' H;by_cases c7:c=true
  ·subst c7;replace H:=ift H;obtain rfl:=Option.some.inj H;go_enter Tryz.func92,Tryz.ntmps92;go_wp2_with (first|((with_reducible refine ac_ (f:=141) rfl ?_);refine goesL_ (some 8) rfl rfl Tryz.func141 KR rfl #[.int .i64 a0] rfl TA ?_;(with_reducible refine(bu_.calls a0 false _ A3.out).mono ?_);rintro e w' ⟨rfl,⟨nd,rfl⟩⟩;refine⟨_,rfl,?_⟩)|((with_reducible refine ac_ (f:=141) rfl ?_);refine goesL_ (some 10) rfl rfl Tryz.func141 KR rfl #[.int .i64 a1] rfl TA ?_;(with_reducible refine(bu_.calls a1 true _ A4.out).mono ?_);rintro e w' ⟨rfl,⟨nd,rfl⟩⟩;refine⟨_,rfl,?_⟩));go_ret;exact⟨TF,TN⟩
  ·replace c7:=Bool.eq_false_iff.mpr c7;subst c7;replace H:=iff' H;by_cases c8:a0<a1
   ·rw[if_pos c8] at H;have i:=decide_eq_true c8;clear c8;obtain rfl:=Option.some.inj H;go_enter Tryz.func92,Tryz.ntmps92;go_wp2_with (first|((with_reducible refine ac_ (f:=141) rfl ?_);refine goesL_ (some 8) rfl rfl Tryz.func141 KR rfl #[.int .i64 a0] rfl TA ?_;(with_reducible refine(bu_.calls a0 false _ A3.out).mono ?_);rintro e w' ⟨rfl,⟨nd,rfl⟩⟩;refine⟨_,rfl,?_⟩)|((with_reducible refine ac_ (f:=141) rfl ?_);refine goesL_ (some 10) rfl rfl Tryz.func141 KR rfl #[.int .i64 a1] rfl TA ?_;(with_reducible refine(bu_.calls a1 false _ A4.out).mono ?_);rintro e w' ⟨rfl,⟨nd,rfl⟩⟩;refine⟨_,rfl,?_⟩));go_ret;exact⟨TF,TN⟩
   ·rw[if_neg c8] at H;have i:=decide_eq_false c8;clear c8;by_cases c9:a0 > a1
    ·rw[if_pos c9] at H;have j:=decide_eq_true c9;clear c9;obtain rfl:=Option.some.inj H;go_enter Tryz.func92,Tryz.ntmps92;go_wp2_with (first|((with_reducible refine ac_ (f:=141) rfl ?_);refine goesL_ (some 8) rfl rfl Tryz.func141 KR rfl #[.int .i64 a0] rfl TA ?_;(with_reducible refine(bu_.calls a0 false _ A3.out).mono ?_);rintro e w' ⟨rfl,⟨nd,rfl⟩⟩;refine⟨_,rfl,?_⟩)|((with_reducible refine ac_ (f:=141) rfl ?_);refine goesL_ (some 10) rfl rfl Tryz.func141 KR rfl #[.int .i64 a1] rfl TA ?_;(with_reducible refine(bu_.calls a1 false _ A4.out).mono ?_);rintro e w' ⟨rfl,⟨nd,rfl⟩⟩;refine⟨_,rfl,?_⟩));go_ret;exact⟨TF,TN⟩
    ·rw[if_neg c9] at H;have j:=decide_eq_false c9;clear c9;obtain rfl:=Option.some.inj H;go_enter Tryz.func92,Tryz.ntmps92;go_wp2_with (first|((with_reducible refine ac_ (f:=141) rfl ?_);refine goesL_ (some 8) rfl rfl Tryz.func141 KR rfl #[.int .i64 a0] rfl TA ?_;(with_reducible refine(bu_.calls a0 false _ A3.out).mono ?_);rintro e w' ⟨rfl,⟨nd,rfl⟩⟩;refine⟨_,rfl,?_⟩)|((with_reducible refine ac_ (f:=141) rfl ?_);refine goesL_ (some 10) rfl rfl Tryz.func141 KR rfl #[.int .i64 a1] rfl TA ?_;(with_reducible refine(bu_.calls a1 false _ A4.out).mono ?_);rintro e w' ⟨rfl,⟨nd,rfl⟩⟩;refine⟨_,rfl,?_⟩));go_ret;exact⟨TF,TN⟩
end
section
def bH_.l0:Nat→Int→List Int→Int→Int→Option (Int)
 | 0,_,_,_,_=>none
 | k+1,x3,x6,x7,x8=>if x8<x7 then(if 0≤x8 then(if x8<(x6.length:Int) then(if (rd x6 x8)=x3 then(bH_.l0 k x3 x6 x7 (wrap64 (x8+1))) else(some (rd x6 x8))) else(none)) else(none)) else(some x3)
def bH_.f (k:Nat) (l0:List Int):Option (Int):=bH_.l0 k 0 l0 (l0.length:Int) 0
theorem bH_.calls (k:Nat) (A0:Option Addr) (c0:Nat) (l0:List Int) (r:Int) (w:World) (n:Kd.C (Kd.int .i64) w A0 l0.length l0) (o:l0.length≤c0) (h:bH_.f k l0=some r) :
  Calls Tryz.prog 138 #[.slice A0 l0.length c0] w fun e w'=>e=.returned (.int .i64 r)∧Drawn0 w w':=by
 have p:=AM n;have x:=AM o;clear n o;have H:(bH_.l0 k 0 l0 (l0.length:Int) 0)=some r:=h;clear h;have H':=AM H;clear H;go_enter Tryz.func138,Tryz.ntmps138;go_wp2;go_loopg [8] k (fun kq v8 w'=>∃(c:Int),v8=.int .i64 c∧Aside0 (bH_.l0 kq 0 l0 (l0.length:Int) c=some r)∧Aside0 (kq≤k)∧Drawn0 w w')
 case atStart=>exact⟨(0),TF,H',⟨Nat.le_refl _⟩,TN⟩
 case round =>
  clear H';obtain⟨c,rfl,HA,HK1,⟨m1,rfl⟩⟩:=hrel
  cases gk with
  | zero=>exact absurd HA.out (by simp[bH_.l0])
  | succ k1 =>
   have H:=HA.out;clear HA;simp only[bH_.l0] at H;by_cases c2:c<(l0.length:Int)
   ·rw[if_pos c2] at H;have q:=decide_eq_true c2;clear c2;obtain⟨c3,H⟩:=ifn H;have u:=decide_eq_true c3;clear c3;obtain⟨c4,H⟩:=ifn H;have v:=decide_eq_true c4;clear c4;by_cases c5:(rd l0 c)=0
    ·rw[if_pos c5] at H;have s:=beq_iff_eq.mpr c5;have t:=bne_eq_false_iff_eq.mpr c5;clear c5;have H':=AM H;clear H;have g:0≤(c:Int):=TD;have i:c<(l0.length:Int):=TD;obtain⟨m,j,l⟩:=Kd.at_int p.out c g i;cases j;replace g:=eq_true g;replace i:=eq_true i;go_wp2;go_roundg k1
     case measure=>have:=HK1.out;omega
     case rel=>exact⟨(wrap64 (c+1)),TF,H',⟨TM⟩,TN⟩
    ·rw[if_neg c5] at H;have s:=beq_eq_false_iff_ne.mpr c5;have t:=bne_iff_ne.mpr c5;obtain rfl:=Option.some.inj H;have g:0≤(c:Int):=TD;have i:c<(l0.length:Int):=TD;obtain⟨m,j,l⟩:=Kd.at_int p.out c g i;cases j;replace g:=eq_true g;replace i:=eq_true i;go_wp2;go_ret;exact⟨TF,TN⟩
   ·rw[if_neg c2] at H;have q:=decide_eq_false c2;clear c2;obtain rfl:=Option.some.inj H;go_wp2;go_ret;exact⟨TF,TN⟩
end
section
def am_.l0:Nat→List ByteArray→Int→Int→Option (List ByteArray)
 | 0,_,_,_=>none
 | k+1,x0,x2,x3=>if x2<x3 then(if 0≤x3 then(if x3<(x0.length:Int) then(if 0≤x2 then(if x2<(x0.length:Int) then(am_.l0 k ((x0.set (x2:Int).toNat (rdOf ByteArray.empty x0 x3)).set (x3:Int).toNat (rdOf ByteArray.empty x0 x2)) (wrap64 (x2+1)) (wrap64 (x3 - 1))) else(none)) else(none)) else(none)) else(none)) else(some x0)
def am_.f (k:Nat) (l0:List ByteArray):Option (List ByteArray):=am_.l0 k l0 0 (wrap64 ((l0.length:Int) - 1))
def am_.T3:Bool × List (List Nat × List Nat):=(true,[([],[]),([],[]),([],[]),([],[]),([],[]),([],[]),([4,5],[4,5]),([6],[6]),([],[]),([],[]),([8,9],[8,9]),([10],[10]),([0,1,0,1,4,5,6,7,11],[0,1]),([12,7,0,1,4,5,6,7,11],[7,12]),([2,3,0,1,2,3,4,5,6,7,8,9,10,11,12,13],[2,3]),([14,11,13,0,1,2,3,4,5,6,7,8,9,10,11,12,13],[11,14])])
def am_.B3:List Nat:=[0,0,0,0,0,0,48,112,0,0,768,1792,4083,8179,16383,32767]
theorem am_.tab3:rtab .any (opsOf Tryz.f171 3)=am_.T3:=by kernel_rfl
theorem am_.bits3:waitsOk am_.T3.2 am_.B3=true:=by kernel_rfl
theorem am_.calls (k:Nat) (P0_:Nat→Prop) (u9000_:Value) (l0:List ByteArray) (r:List ByteArray) (w0 w:World) (hB:Below w0.heap.size w0 w) (V:Kd.R Kd.string 9 w w0.heap.size P0_ u9000_ l0) (h:am_.f k l0=some r) :
  Calls Tryz.prog 171 #[u9000_] w fun e w'=>e=.returned (.tuple #[])∧Kd.R Kd.string 9 w' w0.heap.size (fun k_=>(P0_ k_∨w.heap.size≤k_)) u9000_ r∧Below w0.heap.size w0 w'∧Kept w w' (fun k_=>P0_ k_):=by
 have G:=AM (show Kd.R Kd.string 9 w w0.heap.size (fun k_=>(P0_ k_∨w.heap.size≤k_)) u9000_ l0 from Kd.ay_ V (fun k_ hk=>(.inl hk)));have HK:=AM (Kept.refl w (fun k_=>P0_ k_));have ac:=AM hB.size;have HB:=AM hB;clear hB;have H:(am_.l0 k l0 0 (wrap64 ((l0.length:Int) - 1)))=some r:=h;clear h;have H':=AM H;clear H;obtain⟨W,X,eo2⟩:=Kd.an_ G.out;subst eo2;go_enter Tryz.func171,Tryz.ntmps171;go_wp2;go_loopg [2,3] k (fun kq v2 v3 w'=>∃(j:List ByteArray) (c:Int) (g:Int),v2=.int .i64 c∧v3=.int .i64 g∧Aside0 (am_.l0 kq j c g=some r)∧Aside0 (kq≤k)∧Aside0 (Kd.R Kd.string 9 w' w0.heap.size (fun k_=>(P0_ k_∨w.heap.size≤k_)) (.slice W l0.length X) j)∧Aside0 (Kept w w' (fun k_=>P0_ k_))∧Aside0 (Below w0.heap.size w0 w'))
 case atStart=>exact⟨(l0),(0),(wrap64 ((l0.length:Int) - 1)),TF,TF,H',⟨Nat.le_refl _⟩,RW G,⟨TK⟩,⟨TB⟩⟩
 case round =>
  clear H';obtain⟨j,c,g,rfl,rfl,HA,HK1,l,HK,HB⟩:=hrel;have m:=(Kd.ae_ l.out).1;rw[m] at l;(try simp only[m])
  cases gk with
  | zero=>exact absurd HA.out (by simp[am_.l0])
  | succ k1 =>
   have H:=HA.out;clear HA;simp only[am_.l0] at H;by_cases c3:c<g
   ·rw[if_pos c3] at H;have I:=decide_eq_true c3;clear c3;obtain⟨c4,H⟩:=ifn H;have Y:=decide_eq_true c4;clear c4;obtain⟨c5,H⟩:=ifn H;have Z:=decide_eq_true c5;clear c5;obtain⟨c6,H⟩:=ifn H;have aa:=decide_eq_true c6;clear c6;obtain⟨c7,H⟩:=ifn H;have ab:=decide_eq_true c7;clear c7;obtain⟨z,o⟩:∃y_:List ByteArray,y_=(j.set (c:Int).toNat (rdOf ByteArray.empty j g)):=⟨_,rfl⟩
    replace H:(am_.l0 k1 (z.set (g:Int).toNat (rdOf ByteArray.empty j c)) (wrap64 (c+1)) (wrap64 (g - 1)))=some r:=by first|(rw[o];with_reducible exact H)|(have H2_:=(Option.bind_some _ _).symm.trans H;rw[o];with_reducible exact H2_)|(have H2_:=(Option.bind_some _ _).symm.trans H;with_reducible exact H2_)|with_reducible exact H|(rw[o];exact H)|exact H
    have Ny346:=AM o;clear o;obtain⟨A,p⟩:∃y_:List ByteArray,y_=(z.set (g:Int).toNat (rdOf ByteArray.empty j c)):=⟨_,rfl⟩
    replace H:(am_.l0 k1 A (wrap64 (c+1)) (wrap64 (g - 1)))=some r:=by first|(rw[p];with_reducible exact H)|(have H2_:=(Option.bind_some _ _).symm.trans H;rw[p];with_reducible exact H2_)|(have H2_:=(Option.bind_some _ _).symm.trans H;with_reducible exact H2_)|with_reducible exact H|(rw[p];exact H)|exact H
    have Ny347:=AM p;clear p;have H':=AM H;clear H
    try go_wp2
    replace l:=AM (Kd.ar_ l.out);replace HK:=AM (Kept.drew HK.out);replace HB:=AM (ao_ HB.out);have t:0≤(g:Int):=TD;have u:g<(j.length:Int):=TD;obtain⟨C,J,q⟩:=Kd.bp_ (Kd.ae_ l.out).2.2 g t u;cases J;replace t:=eq_true t;replace u:=eq_true u;have v:0≤(c:Int):=TD;have x:c<(j.length:Int):=TD;obtain⟨D,M,s⟩:=Kd.bp_ (Kd.ae_ l.out).2.2 c v x;obtain rfl:C=D:=(by injection M);replace v:=eq_true v;replace x:=eq_true x;have p8:0≤(c:Int):=TD;have q8:(c:Int)<((j.length:Int):Int):=TD;obtain⟨go8,ad,eo8,O,gl8,cl8,U⟩:=Kd.R_form l.out (by omega);(first|cases eo8|(injection eo8 with ea_ en_ ec_;(first|subst ea_|(injection ea_ with ea_;subst ea_));subst ec_;clear en_));have ae:=AM O;have GG8:=AM U;clear O gl8 U;have HMgo8:=AM (show(P0_ go8∨w.heap.size≤go8) from(l.out.1 _ rfl));(first|simp only[add_plain] at q|skip);(first|simp only[add_plain] at s|skip);obtain⟨E,hf8_0⟩:=Kd.R_celln (⟨#[]⟩:ByteArray) l.out (c:Int) p8 q8;replace p8:=eq_true p8;replace q8:=eq_true q8;have HP11:=Kd.R_putn l.out (c:Int) (rdOf ByteArray.empty j g);rw[←Ny346.out] at HP11;have y:=AM HP11;clear HP11;have p9:0≤(g:Int):=TD;have q9:(g:Int)<((j.length:Int):Int):=TD;obtain⟨F,hf9_0⟩:=Kd.R_celln (⟨#[]⟩:ByteArray) y.out (g:Int) p9 q9;replace p9:=eq_true p9;replace q9:=eq_true q9;have HP12:=Kd.R_putn y.out (g:Int) (rdOf ByteArray.empty j c);rw[←Ny347.out] at HP12;have B:=AM HP12;clear HP12;refine start_ (n:=16) (S:=fun w'=>w'.cell? ⟨go8,(g).toNat,none⟩=some (.string (rdOf ByteArray.empty j g))∧w'.cell? ⟨go8,(c).toNat,none⟩=some (.string (rdOf ByteArray.empty j c))) (ds:=[13,15]) #[false,false,false,false,false,false,false,false,false,false,false,false,false,false,false,false] KR rfl rfl ⟨q,s⟩ (fun hHeld=>?_);refine a2_ am_.tab3 am_.bits3 (fun HT_ HW_=>?_);generalize wr.drew=af at l HK HB GG8 y B hf8_0 hf9_0 q s E F hHeld ⊢;refine pA 0 14 (mL 16 1) HT_ rfl rfl ?_;refine pA 1 15 (mL 16 3) HT_ rfl rfl ?_;refine pA 2 16 (mL 16 7) HT_ rfl rfl ?_;refine pA 3 17 (mL 16 15) HT_ rfl rfl ?_;refine pA 4 18 (mL 16 31) HT_ rfl rfl ?_;refine pA 5 19 (mL 16 63) HT_ rfl rfl ?_;refine pA 6 20 (mL 16 127) HT_ rfl rfl ?_;refine pA 8 22 (mL 16 383) HT_ rfl rfl ?_;refine pA 9 23 (mL 16 895) HT_ rfl rfl ?_;refine pA 10 24 (mL 16 1919) HT_ rfl rfl ?_;refine tA 7 21 (mL 16 2047) HT_ HW_ hHeld rfl rfl (by rintro w' ⟨s0,s1⟩;go_simp;with_reducible rfl) ?_;refine tA 11 25 (mL 16 4095) HT_ HW_ hHeld rfl rfl (by rintro w' ⟨s0,s1⟩;go_simp;with_reducible rfl) ?_;refine pA 12 26 (mL 16 8191) HT_ rfl rfl ?_;refine last_ (i:=13) (N:=none) (mL 16 16383) rfl rfl (aG_ HT_.out KR) (by decide) (fun K hK=>?_);refine skip_ (w1:=?_) (by rfl) rfl ?_ ?_;rotate_left
    ·go_simp;rfl
    refine hK.out _ _ ?_;clear hK K;refine pA 14 27 (mL 16 32767) HT_ rfl rfl ?_;refine last_ (i:=15) (N:=none) (mL 16 65535) rfl rfl (aG_ HT_.out KR) (by decide) (fun K hK=>?_);refine skip_ (w1:=?_) (by rfl) rfl ?_ ?_;rotate_left
    ·go_simp;rfl
    refine hK.out _ _ ?_;clear hK K;refine done_ (bi_ HT_.out KR) ?_
    try go_wp2
    (try simp only[←m]);go_roundg k1
    case measure=>have:=HK1.out;omega
    case rel=>exact⟨(A),(wrap64 (c+1)),(wrap64 (g - 1)),TF,TF,H',⟨TM⟩,⟨by(try simp only[m]);(with_reducible repeat (first|apply Kd.a6_|apply Kd.a7_|apply Kd.ar_));exact B.out⟩,⟨by repeat (first|(with_reducible first|exact HK.out|apply Kept.alloc|apply Kept.drewN|apply Kept.drew|refine Kept.setCell ?_ HMgo8.out _|refine Kept.setCell ?_ HMgo8.out _)|exact HK.out)⟩,⟨TB⟩⟩
   ·rw[if_neg c3] at H;have I:=decide_eq_false c3;clear c3;obtain rfl:=Option.some.inj H;go_wp2
    first|go_end0|((try simp only[Exit.inBlock,Exit.then]);refine bodyPost_ret (results_none rfl _ _ _) rfl ?_)
    exact⟨TE,(by first|exact(RW l).out|(simp only[m];exact(RW l).out)),TB,TK⟩
end
section
def bg_.f (a0:ByteArray):Option (Bool):=some (a0.toList != a0.toList)
theorem bg_.calls (a0:ByteArray) (r:Bool) (w:World) (h:bg_.f a0=some r) :
  Calls Tryz.prog 222 #[.string a0] w fun e w'=>e=.returned (.bool r)∧Drawn0 w w':=by
 have H:(some (a0.toList != a0.toList))=some r:=h;clear h;obtain rfl:=Option.some.inj H;go_enter Tryz.func222,Tryz.ntmps222;go_wp2;go_ret;exact⟨TF,TN⟩
end
section
def cd_.f (a0:ByteArray) (a1:ByteArray):Option (Int):=(bg_.f a0).bind fun t348=>((bg_.f a1).bind fun t349=>(if t348=true then(if t349=true then(some 0) else(some (-1))) else(if t349=true then(some 1) else(if (Op.bytesLess a0.toList a1.toList)=true then(some (-1)) else(if a0.toList=a1.toList then(some 0) else(some 1))))))
theorem cd_.calls (a0:ByteArray) (a1:ByteArray) (r:Int) (w:World) (h:cd_.f a0 a1=some r) :
  Calls Tryz.prog 200 #[.string a0,.string a1] w fun e w'=>e=.returned (.int .i64 r)∧Drawn0 w w':=by
 have H:((bg_.f a0).bind fun g=>((bg_.f a1).bind fun c=>(if g=true then(if c=true then(some 0) else(some (-1))) else(if c=true then(some 1) else(if (Op.bytesLess a0.toList a1.toList)=true then(some (-1)) else(if a0.toList=a1.toList then(some 0) else(some 1)))))))=some r:=h;clear h;obtain⟨g,A3,H⟩:=bnd H;obtain⟨c,A4,H⟩:=bnd H;by_cases c5:g=true
 ·subst c5;replace H:=ift H;by_cases c6:c=true
  ·subst c6;replace H:=ift H;obtain rfl:=Option.some.inj H;go_enter Tryz.func200,Tryz.ntmps200;go_wp2_with (first|((with_reducible refine ac_ (f:=222) rfl ?_);refine goesL_ (some 8) rfl rfl Tryz.func222 KR rfl #[.string a0] rfl TA ?_;(with_reducible refine(bg_.calls a0 true _ A3.out).mono ?_);rintro e w' ⟨rfl,⟨nd,rfl⟩⟩;refine⟨_,rfl,?_⟩)|((with_reducible refine ac_ (f:=222) rfl ?_);refine goesL_ (some 10) rfl rfl Tryz.func222 KR rfl #[.string a1] rfl TA ?_;(with_reducible refine(bg_.calls a1 true _ A4.out).mono ?_);rintro e w' ⟨rfl,⟨nd,rfl⟩⟩;refine⟨_,rfl,?_⟩));go_ret;exact⟨TF,TN⟩
  ·replace c6:=Bool.eq_false_iff.mpr c6;subst c6;replace H:=iff' H;obtain rfl:=Option.some.inj H;go_enter Tryz.func200,Tryz.ntmps200;go_wp2_with (first|((with_reducible refine ac_ (f:=222) rfl ?_);refine goesL_ (some 8) rfl rfl Tryz.func222 KR rfl #[.string a0] rfl TA ?_;(with_reducible refine(bg_.calls a0 true _ A3.out).mono ?_);rintro e w' ⟨rfl,⟨nd,rfl⟩⟩;refine⟨_,rfl,?_⟩)|((with_reducible refine ac_ (f:=222) rfl ?_);refine goesL_ (some 10) rfl rfl Tryz.func222 KR rfl #[.string a1] rfl TA ?_;(with_reducible refine(bg_.calls a1 false _ A4.out).mono ?_);rintro e w' ⟨rfl,⟨nd,rfl⟩⟩;refine⟨_,rfl,?_⟩));go_ret;exact⟨TF,TN⟩
 ·replace c5:=Bool.eq_false_iff.mpr c5;subst c5;replace H:=iff' H;by_cases c7:c=true
  ·subst c7;replace H:=ift H;obtain rfl:=Option.some.inj H;go_enter Tryz.func200,Tryz.ntmps200;go_wp2_with (first|((with_reducible refine ac_ (f:=222) rfl ?_);refine goesL_ (some 8) rfl rfl Tryz.func222 KR rfl #[.string a0] rfl TA ?_;(with_reducible refine(bg_.calls a0 false _ A3.out).mono ?_);rintro e w' ⟨rfl,⟨nd,rfl⟩⟩;refine⟨_,rfl,?_⟩)|((with_reducible refine ac_ (f:=222) rfl ?_);refine goesL_ (some 10) rfl rfl Tryz.func222 KR rfl #[.string a1] rfl TA ?_;(with_reducible refine(bg_.calls a1 true _ A4.out).mono ?_);rintro e w' ⟨rfl,⟨nd,rfl⟩⟩;refine⟨_,rfl,?_⟩));go_ret;exact⟨TF,TN⟩
  ·replace c7:=Bool.eq_false_iff.mpr c7;subst c7;replace H:=iff' H;by_cases c8:(Op.bytesLess a0.toList a1.toList)=true
   ·rw[if_pos c8] at H;have i:(Op.bytesLess a0.toList a1.toList)=true:=c8;clear c8;obtain rfl:=Option.some.inj H;go_enter Tryz.func200,Tryz.ntmps200;go_wp2_with (first|((with_reducible refine ac_ (f:=222) rfl ?_);refine goesL_ (some 8) rfl rfl Tryz.func222 KR rfl #[.string a0] rfl TA ?_;(with_reducible refine(bg_.calls a0 false _ A3.out).mono ?_);rintro e w' ⟨rfl,⟨nd,rfl⟩⟩;refine⟨_,rfl,?_⟩)|((with_reducible refine ac_ (f:=222) rfl ?_);refine goesL_ (some 10) rfl rfl Tryz.func222 KR rfl #[.string a1] rfl TA ?_;(with_reducible refine(bg_.calls a1 false _ A4.out).mono ?_);rintro e w' ⟨rfl,⟨nd,rfl⟩⟩;refine⟨_,rfl,?_⟩));go_ret;exact⟨TF,TN⟩
   ·rw[if_neg c8] at H
    have i:(Op.bytesLess a0.toList a1.toList)=false:=by simpa using c8
    clear c8;by_cases c9:a0.toList=a1.toList
    ·rw[if_pos c9] at H;have j:=beq_iff_eq.mpr c9;have l:=bne_eq_false_iff_eq.mpr c9;clear c9;obtain rfl:=Option.some.inj H;go_enter Tryz.func200,Tryz.ntmps200;go_wp2_with (first|((with_reducible refine ac_ (f:=222) rfl ?_);refine goesL_ (some 8) rfl rfl Tryz.func222 KR rfl #[.string a0] rfl TA ?_;(with_reducible refine(bg_.calls a0 false _ A3.out).mono ?_);rintro e w' ⟨rfl,⟨nd,rfl⟩⟩;refine⟨_,rfl,?_⟩)|((with_reducible refine ac_ (f:=222) rfl ?_);refine goesL_ (some 10) rfl rfl Tryz.func222 KR rfl #[.string a1] rfl TA ?_;(with_reducible refine(bg_.calls a1 false _ A4.out).mono ?_);rintro e w' ⟨rfl,⟨nd,rfl⟩⟩;refine⟨_,rfl,?_⟩));go_ret;exact⟨TF,TN⟩
    ·rw[if_neg c9] at H;have j:=beq_eq_false_iff_ne.mpr c9;have l:=bne_iff_ne.mpr c9;obtain rfl:=Option.some.inj H;go_enter Tryz.func200,Tryz.ntmps200;go_wp2_with (first|((with_reducible refine ac_ (f:=222) rfl ?_);refine goesL_ (some 8) rfl rfl Tryz.func222 KR rfl #[.string a0] rfl TA ?_;(with_reducible refine(bg_.calls a0 false _ A3.out).mono ?_);rintro e w' ⟨rfl,⟨nd,rfl⟩⟩;refine⟨_,rfl,?_⟩)|((with_reducible refine ac_ (f:=222) rfl ?_);refine goesL_ (some 10) rfl rfl Tryz.func222 KR rfl #[.string a1] rfl TA ?_;(with_reducible refine(bg_.calls a1 false _ A4.out).mono ?_);rintro e w' ⟨rfl,⟨nd,rfl⟩⟩;refine⟨_,rfl,?_⟩));go_ret;exact⟨TF,TN⟩
end
section
def aL_.l0:Nat→List ByteArray→List ByteArray→List ByteArray→Int→Int→Option (Int)
 | 0,_,_,_,_,_=>none
 | k+1,x0,x1,x9,h,c=>if c<h then(if 0≤c then(if c<(x9.length:Int) then(if c≥(x1.length:Int) then(some 1) else(if c<(x1.length:Int) then((cd_.f (rdOf ByteArray.empty x9 c) (rdOf ByteArray.empty x1 c)).bind fun g=>(if g=0 then(aL_.l0 k x0 x1 x9 h (wrap64 (c+1))) else(some g))) else(none))) else(none)) else(none)) else(if (x0.length:Int)<(x1.length:Int) then(some (-1)) else(some 0))
def aL_.f (k:Nat) (l0:List ByteArray) (l1:List ByteArray):Option (Int):=aL_.l0 k l0 l1 l0 (l0.length:Int) 0
theorem aL_.calls (k:Nat) (A0:Option Addr) (c0:Nat) (l0:List ByteArray) (A1:Option Addr) (c1:Nat) (l1:List ByteArray) (r:Int) (w:World) (y:Kd.C Kd.string w A0 l0.length l0) (z:l0.length≤c0) (A:Kd.C Kd.string w A1 l1.length l1) (B:l1.length≤c1) (h:aL_.f k l0 l1=some r) :
  Calls Tryz.prog 172 #[.slice A0 l0.length c0,.slice A1 l1.length c1] w fun e w'=>e=.returned (.int .i64 r)∧Drawn0 w w':=by
 have t:=AM y;have O:=AM z;clear y z;have D:=AM A;have R:=AM B;clear A B;have H:(aL_.l0 k l0 l1 l0 (l0.length:Int) 0)=some r:=h;clear h;have H':=AM H;clear H;go_enter Tryz.func172,Tryz.ntmps172;go_wp2;go_loopg [11] k (fun kq J w'=>∃(c:Int),J=.int .i64 c∧Aside0 (aL_.l0 kq l0 l1 l0 (l0.length:Int) c=some r)∧Aside0 (kq≤k)∧Drawn0 w w')
 case atStart=>exact⟨(0),TF,H',⟨Nat.le_refl _⟩,TN⟩
 case round =>
  clear H';obtain⟨c,rfl,HA,HK1,⟨m1,rfl⟩⟩:=hrel
  cases gk with
  | zero=>exact absurd HA.out (by simp[aL_.l0])
  | succ k1 =>
   have H:=HA.out;clear HA;simp only[aL_.l0] at H;by_cases c3:c<(l0.length:Int)
   ·rw[if_pos c3] at H;have E:=decide_eq_true c3;clear c3;obtain⟨c4,H⟩:=ifn H;have K:=decide_eq_true c4;clear c4;obtain⟨c5,H⟩:=ifn H;have M:=decide_eq_true c5;clear c5;by_cases c6:c≥(l1.length:Int)
    ·rw[if_pos c6] at H;have F:=decide_eq_true c6;clear c6;obtain rfl:=Option.some.inj H;have g:0≤(c:Int):=TD;have i:c<(l0.length:Int):=TD;obtain⟨o,m,n⟩:=Kd.bp_ t.out c g i;cases m;replace g:=eq_true g;replace i:=eq_true i;go_wp2;go_ret;exact⟨TF,TN⟩
    ·rw[if_neg c6] at H;have F:=decide_eq_false c6;clear c6;obtain⟨c7,H⟩:=ifn H;have N:=decide_eq_true c7;clear c7;obtain⟨p,A8,H⟩:=bnd H;by_cases c9:p=0
     ·rw[if_pos c9] at H;have G:=beq_iff_eq.mpr c9;have I:=bne_eq_false_iff_eq.mpr c9;clear c9;have H':=AM H;clear H;have g:0≤(c:Int):=TD;have i:c<(l0.length:Int):=TD;obtain⟨o,m,n⟩:=Kd.bp_ t.out c g i;cases m;replace g:=eq_true g;replace i:=eq_true i;have j:0≤(c:Int):=TD;have l:c<(l1.length:Int):=TD;obtain⟨u,q,s⟩:=Kd.bp_ D.out c j l;cases q;replace j:=eq_true j;replace l:=eq_true l;go_wp2_with (first|((with_reducible refine ac_ (f:=200) rfl ?_);refine goesL_ (some 26) rfl rfl Tryz.func200 KR rfl #[.string (rdOf ByteArray.empty l0 c),.string (rdOf ByteArray.empty l1 c)] rfl TA ?_;(with_reducible refine(cd_.calls (rdOf ByteArray.empty l0 c) (rdOf ByteArray.empty l1 c) p _ A8.out).mono ?_);rintro e w' ⟨rfl,⟨nd,rfl⟩⟩;refine⟨_,rfl,?_⟩));go_roundg k1
      case measure=>have:=HK1.out;omega
      case rel=>exact⟨(wrap64 (c+1)),TF,H',⟨TM⟩,TN⟩
     ·rw[if_neg c9] at H;have G:=beq_eq_false_iff_ne.mpr c9;have I:=bne_iff_ne.mpr c9;obtain rfl:=Option.some.inj H;have g:0≤(c:Int):=TD;have i:c<(l0.length:Int):=TD;obtain⟨o,m,n⟩:=Kd.bp_ t.out c g i;cases m;replace g:=eq_true g;replace i:=eq_true i;have j:0≤(c:Int):=TD;have l:c<(l1.length:Int):=TD;obtain⟨u,q,s⟩:=Kd.bp_ D.out c j l;cases q;replace j:=eq_true j;replace l:=eq_true l;go_wp2_with (first|((with_reducible refine ac_ (f:=200) rfl ?_);refine goesL_ (some 26) rfl rfl Tryz.func200 KR rfl #[.string (rdOf ByteArray.empty l0 c),.string (rdOf ByteArray.empty l1 c)] rfl TA ?_;(with_reducible refine(cd_.calls (rdOf ByteArray.empty l0 c) (rdOf ByteArray.empty l1 c) p _ A8.out).mono ?_);rintro e w' ⟨rfl,⟨nd,rfl⟩⟩;refine⟨_,rfl,?_⟩));go_ret;exact⟨TF,TN⟩
   ·rw[if_neg c3] at H;have E:=decide_eq_false c3;clear c3;by_cases c10:(l0.length:Int)<(l1.length:Int)
    ·rw[if_pos c10] at H;have v:=decide_eq_true c10;have x:decide (l0.length<l1.length)=true:=decide_eq_true (Int.ofNat_lt.mp c10);clear c10;obtain rfl:=Option.some.inj H;go_wp2;go_ret;exact⟨TF,TN⟩
    ·rw[if_neg c10] at H;have v:=decide_eq_false c10;have x:decide (l0.length<l1.length)=false:=decide_eq_false (fun h=>c10 (Int.ofNat_lt.mpr h));clear c10;obtain rfl:=Option.some.inj H;go_wp2;go_ret;exact⟨TF,TN⟩
end
section
def ci_.f (k:Nat) (a0:ByteArray) (a1:ByteArray):Option (Int):=(bF_.f k a0).bind fun t353=>((bF_.f k a1).bind fun t356=>((am_.f k t353).bind fun t359=>((am_.f k t356).bind fun t360=>((aL_.f k t359 t360).bind fun t361=>(some t361)))))
theorem ci_.calls (k:Nat) (a0:ByteArray) (a1:ByteArray) (r:Int) (w:World) (h:ci_.f k a0 a1=some r) :
  Calls Tryz.prog 139 #[.string a0,.string a1] w fun e w'=>e=.returned (.int .i64 r)∧Below w.heap.size w w':=by
 have HB:=AM (Below.refl w.heap.size w);have H:((bF_.f k a0).bind fun i=>((bF_.f k a1).bind fun j=>((am_.f k i).bind fun l=>((am_.f k j).bind fun m=>((aL_.f k l m).bind fun t=>(some t))))))=some r:=h;clear h;obtain⟨i,A3,H⟩:=bnd H;obtain⟨j,A4,H⟩:=bnd H;obtain⟨l,A5,H⟩:=bnd H;obtain⟨m,A6,H⟩:=bnd H;obtain⟨t,A7,H⟩:=bnd H;obtain rfl:=Option.some.inj H;go_enter Tryz.func139,Tryz.ntmps139;go_wp2_with (first|((with_reducible refine ac_ (f:=128) rfl ?_);refine goesL_ (some 8) rfl rfl Tryz.func128 KR rfl #[.string a0] rfl TA ?_;(with_reducible refine(bF_.calls k a0 i _ A3.out).mono ?_);rintro e w8 ⟨v,rfl,s,hb⟩;refine⟨_,rfl,?_⟩;have c:=RL s;replace HB:=BS hb;clear hb;(try clear s))|((with_reducible refine ac_ (f:=128) rfl ?_);refine goesL_ (some 10) rfl rfl Tryz.func128 KR rfl #[.string a1] rfl TA ?_;(with_reducible refine(bF_.calls k a1 j _ A4.out).mono ?_);rintro e w9 ⟨x,rfl,s,hb⟩;refine⟨_,rfl,?_⟩;have g:=RL (NW s c);replace c:=EL c s hb;replace HB:=BS hb;clear hb;(try clear s);obtain⟨n,o,eo10⟩:=Kd.an_ c.out;subst eo10)|((with_reducible refine ac_ (f:=171) rfl ?_);refine goesL_ (some 12) rfl rfl Tryz.func171 KR rfl #[.slice n i.length o] rfl TA ?_;(with_reducible refine(am_.calls k (fun k_=>some k_=(.slice n i.length o:Value).ownBlock) (.slice n i.length o) i l w _ ?side1 ?side2 A5.out).mono ?_);(case side1=>repeat (first|(with_reducible first|exact HB.out|apply aZ_|apply aU_|apply ao_)|exact HB.out));(case side2=>exact Kd.R_tight rfl c.out);rintro e y ⟨rfl,u,hb,hkp⟩;refine⟨_,rfl,?_⟩;replace c:=AM (Kd.R_reok rfl u (fun k_ e_=>c.out.1 k_ e_));replace g:=RK (fun k_=>some k_≠(.slice n i.length o:Value).ownBlock) g hkp;replace HB:=AM (hb);clear hb;(try clear hkp);(try clear u);obtain⟨p,q,eo12⟩:=Kd.an_ g.out;subst eo12)|((with_reducible refine ac_ (f:=171) rfl ?_);refine goesL_ (some 14) rfl rfl Tryz.func171 KR rfl #[.slice p j.length q] rfl TA ?_;(with_reducible refine(am_.calls k (fun k_=>some k_=(.slice p j.length q:Value).ownBlock) (.slice p j.length q) j m w _ ?side1 ?side2 A6.out).mono ?_);(case side1=>repeat (first|(with_reducible first|exact HB.out|apply aZ_|apply aU_|apply ao_)|exact HB.out));(case side2=>exact Kd.R_tight rfl g.out);rintro e z ⟨rfl,u,hb,hkp⟩;refine⟨_,rfl,?_⟩;replace c:=RK (fun k_=>some k_≠(.slice p j.length q:Value).ownBlock) c hkp;replace g:=AM (Kd.R_reok rfl u (fun k_ e_=>g.out.1 k_ e_));replace HB:=AM (hb);clear hb;(try clear hkp);(try clear u))|((with_reducible refine ac_ (f:=172) rfl ?_);refine goesL_ (some 17) rfl rfl Tryz.func172 KR rfl #[.slice n l.length o,.slice p m.length q] rfl (by(try simp only[List.map_toArray,List.map_cons,List.map_nil]);first|done|(rw[show l.length=i.length from(Kd.ae_ c.out).1.symm,show m.length=j.length from(Kd.ae_ g.out).1.symm]<;>rfl)|rfl|(simp only[List.length_drop,List.length_take];rfl)) ?_;(with_reducible refine(aL_.calls k _ _ l _ _ m t _ ?side1 ?side2 ?side3 ?side4 A7.out).mono ?_);(case side1=>exact CW ((Kd.ae_ c.out).2.2));(case side2=>rw[show l.length=i.length from(Kd.ae_ c.out).1.symm];exact RI c);(case side3=>exact CW ((Kd.ae_ g.out).2.2));(case side4=>rw[show m.length=j.length from(Kd.ae_ g.out).1.symm];exact RI g);rintro e w' ⟨rfl,⟨nd,rfl⟩⟩;refine⟨_,rfl,?_⟩));go_ret;exact⟨TE,TB⟩
end
section
def bs_.f (k:Nat) (a0_0:ByteArray) (a0_1:Int) (a0_2:Int) (a0_3:ByteArray) (a1_0:ByteArray) (a1_1:Int) (a1_2:Int) (a1_3:ByteArray):Option (Int):=(ci_.f k a0_0 a1_0).bind fun t367=>((bY_.f a0_1 a1_1).bind fun t368=>((bH_.f k (([t367,t368]:List Int))).bind fun t372=>(some t372)))
def bs_.T1:Bool × List (List Nat × List Nat):=(true,[([],[]),([0],[0]),([],[]),([2],[2]),([1,3],[1,3]),([],[]),([5],[5]),([],[]),([7],[7]),([6,8,4],[6,8]),([4,9],[4,9]),([10,9],[10]),([11,11,0,1,2,3,4,5,6,7,8,9,10,11],[11])])
def bs_.B1:List Nat:=[0,1,0,4,15,0,32,0,128,511,1023,2047,4095]
theorem bs_.tab1:rtab .any (opsOf Tryz.f188 1)=bs_.T1:=by kernel_rfl
theorem bs_.bits1:waitsOk bs_.T1.2 bs_.B1=true:=by kernel_rfl
theorem bs_.calls (k:Nat) (m:ByteArray) (o:Int) (z:Int) (A:ByteArray) (p:ByteArray) (q:Int) (B:Int) (C:ByteArray) (r:Int) (w:World) (h:bs_.f k m o z A p q B C=some r) :
  Calls Tryz.prog 188 #[.agg #[.string m,.int .i64 o,.int .i64 z,.string A],.agg #[.string p,.int .i64 q,.int .i64 B,.string C]] w fun e w'=>e=.returned (.int .i64 r)∧Below w.heap.size w w':=by
 have hu93:=Tryz.underlying93;have HB:=AM (Below.refl w.heap.size w);have H:((ci_.f k m p).bind fun j=>((bY_.f o q).bind fun l=>((bH_.f k (([j,l]:List Int))).bind fun v=>(some v))))=some r:=h;clear h;obtain⟨j,A3,H⟩:=bnd H;obtain⟨l,A4,H⟩:=bnd H;obtain⟨D,s⟩:∃y_:List Int,y_=(([j,l]:List Int)):=⟨_,rfl⟩
 replace H:((bH_.f k D).bind fun v=>(some v))=some r:=by first|(rw[s];with_reducible exact H)|(have H2_:=(Option.bind_some _ _).symm.trans H;rw[s];with_reducible exact H2_)|(have H2_:=(Option.bind_some _ _).symm.trans H;with_reducible exact H2_)|with_reducible exact H|(rw[s];exact H)|exact H
 have Ny369:=AM s;clear s;obtain⟨v,A5,H⟩:=bnd H;obtain rfl:=Option.some.inj H;go_enter Tryz.func188,Tryz.ntmps188
 try go_wp2_with (first|((with_reducible refine aj_ (N:=2) rfl ?_);refine bE 2 #[.string m,.int .i64 o,.int .i64 z,.string A] 93 ?_;intro t hg w6 hbox hb;have c:=AM (hbox);have J:=bG hg;replace HB:=BS hb;clear hb hbox hg)|((with_reducible refine aj_ (N:=3) rfl ?_);refine bE 3 #[.string p,.int .i64 q,.int .i64 B,.string C] 93 ?_;intro u hg w7 hbox hb;have g:=AM (hbox);have O:=bG hg;replace HB:=BS hb;have E:=bN c hg;have F:=bM c hg;replace c:=KB c hb;clear hb hbox hg))
 replace c:=AM (ag_ c.out);replace g:=AM (ag_ g.out);replace HB:=AM (ao_ HB.out);refine start_ (n:=13) (S:=fun w'=>w'.cell? ⟨t,0,none⟩=some (.string m)∧w'.cell? ⟨t,1,none⟩=some (.int .i64 o)∧w'.cell? ⟨t,2,none⟩=some (.int .i64 z)∧w'.cell? ⟨t,3,none⟩=some (.string A)∧w'.cell? ⟨u,0,none⟩=some (.string p)∧w'.cell? ⟨u,1,none⟩=some (.int .i64 q)∧w'.cell? ⟨u,2,none⟩=some (.int .i64 B)∧w'.cell? ⟨u,3,none⟩=some (.string C)) (ds:=[]) #[false,false,false,false,false,false,false,false,false,false,false,false,false] KR rfl rfl ⟨bc 0 c,bc 1 c,bc 2 c,bc 3 c,bc 0 g,bc 1 g,bc 2 g,bc 3 g⟩ (fun hHeld=>?_);refine a2_ bs_.tab1 bs_.bits1 (fun HT_ HW_=>?_);generalize w7.drew=w8 at c g HB hHeld ⊢;refine pA 0 5 (mL 13 1) HT_ rfl rfl ?_;refine pA 2 7 (mL 13 5) HT_ rfl rfl ?_;refine pA 5 10 (mL 13 37) HT_ rfl rfl ?_;refine pA 7 12 (mL 13 165) HT_ rfl rfl ?_;refine tA 1 6 (mL 13 167) HT_ HW_ hHeld rfl rfl (by rintro w' ⟨s0,s1,s2,s3,s4,s5,s6,s7⟩;go_simp;with_reducible rfl) ?_;refine tA 3 8 (mL 13 175) HT_ HW_ hHeld rfl rfl (by rintro w' ⟨s0,s1,s2,s3,s4,s5,s6,s7⟩;go_simp;with_reducible rfl) ?_;refine tA 6 11 (mL 13 239) HT_ HW_ hHeld rfl rfl (by rintro w' ⟨s0,s1,s2,s3,s4,s5,s6,s7⟩;go_simp;with_reducible rfl) ?_;refine tA 8 13 (mL 13 495) HT_ HW_ hHeld rfl rfl (by rintro w' ⟨s0,s1,s2,s3,s4,s5,s6,s7⟩;go_simp;with_reducible rfl) ?_;refine one_ (i:=4) (N:=some 9) (mL 13 511) rfl rfl (aG_ HT_.out KR) (by decide) (fun K hK=>?_);refine goes_ Tryz.func139 KR rfl #[.string m,.string p] (by rfl) rfl rfl TA ?_
 with_reducible refine(ci_.calls k m p j _ A3.out).mono ?_
 rintro e w9 ⟨rfl,hb⟩;refine⟨_,rfl,?_⟩;replace c:=KB c hb;replace g:=KB g hb;replace HB:=BS hb;(try clear hb);refine hK.out _ _ ⟨bc 0 c,bc 1 c,bc 2 c,bc 3 c,bc 0 g,bc 1 g,bc 2 g,bc 3 g⟩ (fun hHeld=>?_);clear hK K;refine nA ?_;refine one_ (i:=9) (N:=some 14) (mL 13 1023) rfl rfl (aG_ HT_.out KR) (by decide) (fun K hK=>?_);refine goes_ Tryz.func92 KR rfl #[.int .i64 o,.int .i64 q] (by rfl) rfl rfl TA ?_
 with_reducible refine(bY_.calls o q l _ A4.out).mono ?_
 rintro e w' ⟨rfl,⟨nd,rfl⟩⟩;refine⟨_,rfl,?_⟩;refine hK.out _ _ ⟨bc 0 c,bc 1 c,bc 2 c,bc 3 c,bc 0 g,bc 1 g,bc 2 g,bc 3 g⟩ (fun hHeld=>?_);clear hK K;refine nA ?_;refine one_ (i:=10) (N:=some 15) (mL 13 2047) rfl rfl (aG_ HT_.out KR) (by decide) (fun K hK=>?_);refine Kd.R_lit_step (Kd.int .i64) _ 3 ?hg (N:=15) ?hd (xs:=([j,l]:List Int)) (inner:=[.int .i64 j,.int .i64 l]) (ok:=fun _=>True) (okp:=fun _=>True) ?hr ?hp (fun _ hk=>hk) trivial (Below.refl _ _) (Nat.le_refl _) (by simp) ?_;(case hd=>rfl);(case hg=>rfl);(case hr=>first|(go_simp;done)|(go_simp;rfl));(case hp=>exact(Reps.one (show Kd.M (Kd.int .i64) _ _ _ j [.int .i64 j] from rfl) (Reps.one (show Kd.M (Kd.int .i64) _ _ _ l [.int .i64 l] from rfl) (Reps.none _ _))));intro R U x hb hg_ hnew_;clear hg_ hnew_;(first|rw[←Ny369.out] at x|(simp only[Int.reduceToNat] at x;rw[←Ny369.out] at x));have y:=RL x;replace c:=KB c hb;replace g:=KB g hb;replace HB:=BS hb;clear hb x;obtain⟨G,I,eo12⟩:=Kd.an_ y.out;(first|subst eo12|(injection eo12 with f1_ f2_ f3_;have f4_:=f1_.symm;have f5_:=f3_.symm;clear f1_ f2_ f3_;subst f4_;subst f5_));refine hK.out _ _ ⟨bc 0 c,bc 1 c,bc 2 c,bc 3 c,bc 0 g,bc 1 g,bc 2 g,bc 3 g⟩ (fun hHeld=>?_);clear hK K;refine nA ?_;refine one_ (i:=11) (N:=some 16) (mL 13 4095) rfl rfl (aG_ HT_.out KR) (by decide) (fun K hK=>?_);refine goes_ Tryz.func138 KR rfl #[.slice G D.length I] (by rfl) rfl rfl TA ?_
 with_reducible refine(bH_.calls k _ _ D v _ ?side1 ?side2 A5.out).mono ?_
 (case side1=>exact CW ((Kd.ae_ y.out).2.2));(case side2=>exact RI y);rintro e w' ⟨rfl,⟨nd,rfl⟩⟩;refine⟨_,rfl,?_⟩;refine hK.out _ _ ⟨bc 0 c,bc 1 c,bc 2 c,bc 3 c,bc 0 g,bc 1 g,bc 2 g,bc 3 g⟩ (fun hHeld=>?_);clear hK K;refine nA ?_;refine pA 12 4 (mL 13 8191) HT_ rfl rfl ?_;refine done_ (bi_ HT_.out KR) ?_
 try go_wp2
 go_ret;exact⟨TE,TB⟩
end
section
def b4_.f (k:Nat) (a0:Int) (a1:ByteArray):Option (ByteArray):=(aw_.f k a0 a1).bind fun bt373=>(if bt373.2=true then(some bt373.1) else(some (⟨#[]⟩:ByteArray)))
theorem b4_.calls (k:Nat) (a0:Int) (a1:ByteArray) (r:ByteArray) (w:World) (hG_:Glob w) (h:b4_.f k a0 a1=some r) :
  Calls Tryz.prog 190 #[.int .i64 a0,.string a1] w fun e w'=>e=.returned (.string r)∧Below w.heap.size w w':=by
 have HGL:=AM hG_;clear hG_;have HB:=AM (Below.refl w.heap.size w);have H:((aw_.f k a0 a1).bind fun bt373=>(if bt373.2=true then(some bt373.1) else(some (⟨#[]⟩:ByteArray))))=some r:=h;clear h;obtain⟨⟨c,g⟩,A3,H⟩:=bnd H
 try dsimp only at H
 by_cases c4:g=true
 ·subst c4;replace H:=ift H;obtain rfl:=Option.some.inj H;go_enter Tryz.func190,Tryz.ntmps190;go_wp2_with (first|((with_reducible refine ac_ (f:=187) rfl ?_);refine goesL_ (some 10) rfl rfl Tryz.func187 KR rfl #[.int .i64 a0,.string a1] rfl TA ?_;(with_reducible refine(aw_.calls k a0 a1 c true _ ?side1 A3.out).mono ?_);(case side1=>exact GW HGL);rintro e w5 ⟨rfl,hb⟩;refine⟨_,rfl,?_⟩;replace HB:=BS hb;clear hb));go_ret;exact⟨TE,TB⟩
 ·replace c4:=Bool.eq_false_iff.mpr c4;subst c4;replace H:=iff' H;obtain rfl:=Option.some.inj H;go_enter Tryz.func190,Tryz.ntmps190;go_wp2_with (first|((with_reducible refine ac_ (f:=187) rfl ?_);refine goesL_ (some 10) rfl rfl Tryz.func187 KR rfl #[.int .i64 a0,.string a1] rfl TA ?_;(with_reducible refine(aw_.calls k a0 a1 c false _ ?side1 A3.out).mono ?_);(case side1=>exact GW HGL);rintro e w6 ⟨rfl,hb⟩;refine⟨_,rfl,?_⟩;replace HB:=BS hb;clear hb));go_ret;exact⟨TE,TB⟩
end
section
def strings_Compare.f (a0:ByteArray) (a1:ByteArray):Option (Int):=some (Go.Lib.compareBytes a0.data.toList a1.data.toList)
theorem strings_Compare.calls (a0:ByteArray) (a1:ByteArray) (r:Int) (w:World) (h:strings_Compare.f a0 a1=some r) :
  Calls Tryz.prog 189 #[.string a0,.string a1] w fun e w'=>e=.returned (.int .i64 r)∧Drawn0 w w':=by
 unfold strings_Compare.f at h;obtain rfl:=Option.some.inj h
 exact(Go.Proofs.Any.strings_Compare Go.Proofs.Tryz.lays106 a0 a1 w).mono fun e w' hh=>⟨hh.1,hh.2 ▸ Drawn0.refl _⟩
end
section
def aR_.f (k:Nat) (m:ByteArray) (c:Int) (g:Int) (h:ByteArray) (n:ByteArray) (i:Int) (j:Int) (l:ByteArray):Option (Int):=(bs_.f k m c g h n i j l).bind fun o=>((b4_.f k c h).bind fun p=>((b4_.f k i l).bind fun q=>((strings_Compare.f p q).bind fun s=>((bY_.f g j).bind fun t=>((bH_.f k (([o,s,t]:List Int))).bind fun u=>(some u))))))
def aR_.T1:Bool × List (List Nat × List Nat):=(true,[([],[]),([],[]),([0,1],[0,1]),([],[]),([3],[3]),([],[]),([5],[5]),([4,6,2],[4,6]),([],[]),([8],[8]),([],[]),([10],[10]),([9,11,7],[9,11]),([7,12,12],[7,12]),([],[]),([14],[14]),([],[]),([16],[16]),([15,17,13],[15,17]),([2,13,18],[2,13,18]),([19,18],[19]),([20,20,0,1,2,3,4,5,6,7,8,9,10,11,12,13,14,15,16,17,18,19,20],[20])])
def aR_.B1:List Nat:=[0,0,3,0,8,0,32,127,0,256,0,1024,4095,8191,0,16384,0,65536,262143,524287,1048575,2097151]
theorem aR_.tab1:rtab .any (opsOf Tryz.f163 1)=aR_.T1:=by kernel_rfl
theorem aR_.bits1:waitsOk aR_.T1.2 aR_.B1=true:=by kernel_rfl
theorem aR_.calls (k:Nat) (v:ByteArray) (j:Int) (l:Int) (m:ByteArray) (x:ByteArray) (o:Int) (p:Int) (q:ByteArray) (r:Int) (w:World) (hG_:Glob w) (h:aR_.f k v j l m x o p q=some r) :
  Calls Tryz.prog 163 #[.agg #[.string v,.int .i64 j,.int .i64 l,.string m],.agg #[.string x,.int .i64 o,.int .i64 p,.string q]] w fun e w'=>e=.returned (.int .i64 r)∧Below w.heap.size w w':=by
 have hu93:=Tryz.underlying93;have HGL:=AM hG_;clear hG_;have HB:=AM (Below.refl w.heap.size w);have H:((bs_.f k v j l m x o p q).bind fun s=>((b4_.f k j m).bind fun B=>((b4_.f k o q).bind fun C=>((strings_Compare.f B C).bind fun t=>((bY_.f l p).bind fun u=>((bH_.f k (([s,t,u]:List Int))).bind fun D=>(some D)))))))=some r:=h;clear h;obtain⟨s,A3,H⟩:=bnd H;obtain⟨B,A4,H⟩:=bnd H;obtain⟨C,A5,H⟩:=bnd H;obtain⟨t,A6,H⟩:=bnd H;obtain⟨u,A7,H⟩:=bnd H;obtain⟨G,y⟩:∃y_:List Int,y_=(([s,t,u]:List Int)):=⟨_,rfl⟩
 replace H:((bH_.f k G).bind fun D=>(some D))=some r:=by first|(rw[y];with_reducible exact H)|(have H2_:=(Option.bind_some _ _).symm.trans H;rw[y];with_reducible exact H2_)|(have H2_:=(Option.bind_some _ _).symm.trans H;with_reducible exact H2_)|with_reducible exact H|(rw[y];exact H)|exact H
 have Ny382:=AM y;clear y;obtain⟨D,A8,H⟩:=bnd H;obtain rfl:=Option.some.inj H;go_enter Tryz.func163,Tryz.ntmps163
 try go_wp2_with (first|((with_reducible refine aj_ (N:=2) rfl ?_);refine bE 2 #[.string v,.int .i64 j,.int .i64 l,.string m] 93 ?_;intro z hg w9 hbox hb;have c:=AM (hbox);have U:=bG hg;replace HB:=BS hb;clear hb hbox hg)|((with_reducible refine aj_ (N:=3) rfl ?_);refine bE 3 #[.string x,.int .i64 o,.int .i64 p,.string q] 93 ?_;intro A hg V hbox hb;have g:=AM (hbox);have W:=bG hg;replace HB:=BS hb;have I:=bN c hg;have J:=bM c hg;replace c:=KB c hb;clear hb hbox hg))
 replace c:=AM (ag_ c.out);replace g:=AM (ag_ g.out);replace HB:=AM (ao_ HB.out);refine start_ (n:=22) (S:=fun w'=>w'.cell? ⟨z,0,none⟩=some (.string v)∧w'.cell? ⟨z,1,none⟩=some (.int .i64 j)∧w'.cell? ⟨z,2,none⟩=some (.int .i64 l)∧w'.cell? ⟨z,3,none⟩=some (.string m)∧w'.cell? ⟨A,0,none⟩=some (.string x)∧w'.cell? ⟨A,1,none⟩=some (.int .i64 o)∧w'.cell? ⟨A,2,none⟩=some (.int .i64 p)∧w'.cell? ⟨A,3,none⟩=some (.string q)) (ds:=[]) #[false,false,false,false,false,false,false,false,false,false,false,false,false,false,false,false,false,false,false,false,false,false] KR rfl rfl ⟨bc 0 c,bc 1 c,bc 2 c,bc 3 c,bc 0 g,bc 1 g,bc 2 g,bc 3 g⟩ (fun hHeld=>?_);refine a2_ aR_.tab1 aR_.bits1 (fun HT_ HW_=>?_);generalize V.drew=Y at c g HB hHeld ⊢;refine pA 3 8 (mL 22 8) HT_ rfl rfl ?_;refine pA 5 10 (mL 22 40) HT_ rfl rfl ?_;refine pA 8 13 (mL 22 296) HT_ rfl rfl ?_;refine pA 10 15 (mL 22 1320) HT_ rfl rfl ?_;refine pA 14 19 (mL 22 17704) HT_ rfl rfl ?_;refine pA 16 21 (mL 22 83240) HT_ rfl rfl ?_;refine tA 0 5 (mL 22 83241) HT_ HW_ hHeld rfl rfl (by rintro w' ⟨s0,s1,s2,s3,s4,s5,s6,s7⟩;go_simp;with_reducible rfl) ?_;refine tA 1 6 (mL 22 83243) HT_ HW_ hHeld rfl rfl (by rintro w' ⟨s0,s1,s2,s3,s4,s5,s6,s7⟩;go_simp;with_reducible rfl) ?_;refine tA 4 9 (mL 22 83259) HT_ HW_ hHeld rfl rfl (by rintro w' ⟨s0,s1,s2,s3,s4,s5,s6,s7⟩;go_simp;with_reducible rfl) ?_;refine tA 6 11 (mL 22 83323) HT_ HW_ hHeld rfl rfl (by rintro w' ⟨s0,s1,s2,s3,s4,s5,s6,s7⟩;go_simp;with_reducible rfl) ?_;refine tA 9 14 (mL 22 83835) HT_ HW_ hHeld rfl rfl (by rintro w' ⟨s0,s1,s2,s3,s4,s5,s6,s7⟩;go_simp;with_reducible rfl) ?_;refine tA 11 16 (mL 22 85883) HT_ HW_ hHeld rfl rfl (by rintro w' ⟨s0,s1,s2,s3,s4,s5,s6,s7⟩;go_simp;with_reducible rfl) ?_;refine tA 15 20 (mL 22 118651) HT_ HW_ hHeld rfl rfl (by rintro w' ⟨s0,s1,s2,s3,s4,s5,s6,s7⟩;go_simp;with_reducible rfl) ?_;refine tA 17 22 (mL 22 249723) HT_ HW_ hHeld rfl rfl (by rintro w' ⟨s0,s1,s2,s3,s4,s5,s6,s7⟩;go_simp;with_reducible rfl) ?_;refine one_ (i:=2) (N:=some 7) (mL 22 249727) rfl rfl (aG_ HT_.out KR) (by decide) (fun K hK=>?_);refine goes_ Tryz.func188 KR rfl #[.agg #[.string v,.int .i64 j,.int .i64 l,.string m],.agg #[.string x,.int .i64 o,.int .i64 p,.string q]] (by rfl) rfl rfl TA ?_
 with_reducible refine(bs_.calls k v j l m x o p q s _ A3.out).mono ?_
 rintro e Z ⟨rfl,hb⟩;refine⟨_,rfl,?_⟩;replace c:=KB c hb;replace g:=KB g hb;replace HB:=BS hb;(try clear hb);refine hK.out _ _ ⟨bc 0 c,bc 1 c,bc 2 c,bc 3 c,bc 0 g,bc 1 g,bc 2 g,bc 3 g⟩ (fun hHeld=>?_);clear hK K;refine nA ?_;refine one_ (i:=7) (N:=some 12) (mL 22 249855) rfl rfl (aG_ HT_.out KR) (by decide) (fun K hK=>?_);refine goes_ Tryz.func190 KR rfl #[.int .i64 j,.string m] (by rfl) rfl rfl TA ?_
 with_reducible refine(b4_.calls k j m B _ ?side1 A4.out).mono ?_
 (case side1=>exact GW HGL);rintro e aa ⟨rfl,hb⟩;refine⟨_,rfl,?_⟩;replace c:=KB c hb;replace g:=KB g hb;replace HB:=BS hb;(try clear hb);refine hK.out _ _ ⟨bc 0 c,bc 1 c,bc 2 c,bc 3 c,bc 0 g,bc 1 g,bc 2 g,bc 3 g⟩ (fun hHeld=>?_);clear hK K;refine nA ?_;refine one_ (i:=12) (N:=some 17) (mL 22 253951) rfl rfl (aG_ HT_.out KR) (by decide) (fun K hK=>?_);refine goes_ Tryz.func190 KR rfl #[.int .i64 o,.string q] (by rfl) rfl rfl TA ?_
 with_reducible refine(b4_.calls k o q C _ ?side1 A5.out).mono ?_
 (case side1=>exact GW HGL);rintro e ab ⟨rfl,hb⟩;refine⟨_,rfl,?_⟩;replace c:=KB c hb;replace g:=KB g hb;replace HB:=BS hb;(try clear hb);refine hK.out _ _ ⟨bc 0 c,bc 1 c,bc 2 c,bc 3 c,bc 0 g,bc 1 g,bc 2 g,bc 3 g⟩ (fun hHeld=>?_);clear hK K;refine nA ?_;refine one_ (i:=13) (N:=some 18) (mL 22 262143) rfl rfl (aG_ HT_.out KR) (by decide) (fun K hK=>?_);refine goes_ Tryz.func189 KR rfl #[.string B,.string C] (by rfl) rfl rfl TA ?_
 with_reducible refine(strings_Compare.calls B C t _ A6.out).mono ?_
 rintro e w' ⟨rfl,⟨nd,rfl⟩⟩;refine⟨_,rfl,?_⟩;refine hK.out _ _ ⟨bc 0 c,bc 1 c,bc 2 c,bc 3 c,bc 0 g,bc 1 g,bc 2 g,bc 3 g⟩ (fun hHeld=>?_);clear hK K;refine nA ?_;refine one_ (i:=18) (N:=some 23) (mL 22 524287) rfl rfl (aG_ HT_.out KR) (by decide) (fun K hK=>?_);refine goes_ Tryz.func92 KR rfl #[.int .i64 l,.int .i64 p] (by rfl) rfl rfl TA ?_
 with_reducible refine(bY_.calls l p u _ A7.out).mono ?_
 rintro e w' ⟨rfl,⟨nd,rfl⟩⟩;refine⟨_,rfl,?_⟩;refine hK.out _ _ ⟨bc 0 c,bc 1 c,bc 2 c,bc 3 c,bc 0 g,bc 1 g,bc 2 g,bc 3 g⟩ (fun hHeld=>?_);clear hK K;refine nA ?_;refine one_ (i:=19) (N:=some 24) (mL 22 1048575) rfl rfl (aG_ HT_.out KR) (by decide) (fun K hK=>?_);refine Kd.R_lit_step (Kd.int .i64) _ 3 ?hg (N:=24) ?hd (xs:=([s,t,u]:List Int)) (inner:=[.int .i64 s,.int .i64 t,.int .i64 u]) (ok:=fun _=>True) (okp:=fun _=>True) ?hr ?hp (fun _ hk=>hk) trivial (Below.refl _ _) (Nat.le_refl _) (by simp) ?_;(case hd=>rfl);(case hg=>rfl);(case hr=>first|(go_simp;done)|(go_simp;rfl));(case hp=>exact(Reps.one (show Kd.M (Kd.int .i64) _ _ _ s [.int .i64 s] from rfl) (Reps.one (show Kd.M (Kd.int .i64) _ _ _ t [.int .i64 t] from rfl) (Reps.one (show Kd.M (Kd.int .i64) _ _ _ u [.int .i64 u] from rfl) (Reps.none _ _)))));intro X ac E hb hg_ hnew_;clear hg_ hnew_;(first|rw[←Ny382.out] at E|(simp only[Int.reduceToNat] at E;rw[←Ny382.out] at E));have F:=RL E;replace c:=KB c hb;replace g:=KB g hb;replace HB:=BS hb;clear hb E;obtain⟨O,R,eo17⟩:=Kd.an_ F.out;(first|subst eo17|(injection eo17 with f1_ f2_ f3_;have f4_:=f1_.symm;have f5_:=f3_.symm;clear f1_ f2_ f3_;subst f4_;subst f5_));refine hK.out _ _ ⟨bc 0 c,bc 1 c,bc 2 c,bc 3 c,bc 0 g,bc 1 g,bc 2 g,bc 3 g⟩ (fun hHeld=>?_);clear hK K;refine nA ?_;refine one_ (i:=20) (N:=some 25) (mL 22 2097151) rfl rfl (aG_ HT_.out KR) (by decide) (fun K hK=>?_);refine goes_ Tryz.func138 KR rfl #[.slice O G.length R] (by rfl) rfl rfl TA ?_
 with_reducible refine(bH_.calls k _ _ G D _ ?side1 ?side2 A8.out).mono ?_
 (case side1=>exact CW ((Kd.ae_ F.out).2.2));(case side2=>exact RI F);rintro e w' ⟨rfl,⟨nd,rfl⟩⟩;refine⟨_,rfl,?_⟩;refine hK.out _ _ ⟨bc 0 c,bc 1 c,bc 2 c,bc 3 c,bc 0 g,bc 1 g,bc 2 g,bc 3 g⟩ (fun hHeld=>?_);clear hK K;refine nA ?_;refine pA 21 4 (mL 22 4194303) HT_ rfl rfl ?_;refine done_ (bi_ HT_.out KR) ?_
 try go_wp2
 go_ret;exact⟨TE,TB⟩
end
section
def aH_.l0:Nat→List (aa_)→List (aa_)→Int→Int→Option (Bool)
 | 0,_,_,_,_=>none
 | k+1,x0,x5,x6,x7=>if x7<x6 then(if 0≤x7 then(if x7<(x5.length:Int) then((b8_.f k ((a_ x5 x7).f0) ((a_ x5 x7).f1) ((a_ x5 x7).f2) ((a_ x5 x7).f3)).bind fun c=>(if c=true then(if x7 > 0 then(if 0≤(wrap64 (x7 - 1)) then(if (wrap64 (x7 - 1))<(x0.length:Int) then((aR_.f k ((a_ x0 (wrap64 (x7 - 1))).f0) ((a_ x0 (wrap64 (x7 - 1))).f1) ((a_ x0 (wrap64 (x7 - 1))).f2) ((a_ x0 (wrap64 (x7 - 1))).f3) ((a_ x5 x7).f0) ((a_ x5 x7).f1) ((a_ x5 x7).f2) ((a_ x5 x7).f3)).bind fun g=>(if g≥0 then(some false) else(aH_.l0 k x0 x5 x6 (wrap64 (x7+1))))) else(none)) else(none)) else(aH_.l0 k x0 x5 x6 (wrap64 (x7+1)))) else(some false))) else(none)) else(none)) else(some true)
def aH_.f (k:Nat) (l0:List (aa_)):Option (Bool):=aH_.l0 k l0 l0 (l0.length:Int) 0
def aH_.T4:Bool × List (List Nat × List Nat):=(true,[([],[]),([0],[0]),([1],[1]),([2,1],[2]),([3],[3]),([4,3],[3,4]),([5,3,3],[3,5]),([6],[6]),([6],[6]),([8,6],[6,8]),([7,9,6],[6,7,9]),([10,6],[6,10]),([6],[6]),([11,12,6,6],[6,11,12]),([13,6],[6,13]),([6,14,3],[3,6,14]),([3,15],[3,15])])
def aH_.B4:List Nat:=[0,1,3,7,15,31,63,127,127,383,1023,2047,127,8191,16383,32767,65535]
theorem aH_.tab4:rtab .any (opsOf Tryz.f121 4)=aH_.T4:=by kernel_rfl
theorem aH_.bits4:waitsOk aH_.T4.2 aH_.B4=true:=by kernel_rfl
theorem aH_.calls (k:Nat) (A0:Option Addr) (c0:Nat) (l0:List (aa_)) (r:Bool) (w:World) (ab:Kd.C ad_ w A0 l0.length l0) (ac:l0.length≤c0) (hG_:Glob w) (h:aH_.f k l0=some r) :
  Calls Tryz.prog 121 #[.slice A0 l0.length c0] w fun e w'=>e=.returned (.bool r)∧Below w.heap.size w w':=by
 have hu93:=Tryz.underlying93;have R:=AM ab;have av:=AM ac;clear ab ac;have HGL:=AM hG_;clear hG_;have HB:=AM (Below.refl w.heap.size w);have H:(aH_.l0 k l0 l0 (l0.length:Int) 0)=some r:=h;clear h;have H':=AM H;clear H;go_enter Tryz.func121,Tryz.ntmps121;go_wp2;go_loopg [7] k (fun kq v7 w'=>∃(c:Int),v7=.int .i64 c∧Aside0 (aH_.l0 kq l0 l0 (l0.length:Int) c=some r)∧Aside0 (kq≤k)∧Aside0 (Below w.heap.size w w'))
 case atStart=>exact⟨(0),TF,H',⟨Nat.le_refl _⟩,⟨TB⟩⟩
 case round =>
  clear H';obtain⟨c,rfl,HA,HK1,HB⟩:=hrel
  cases gk with
  | zero=>exact absurd HA.out (by simp[aH_.l0])
  | succ k1 =>
   have H:=HA.out;clear HA;simp only[aH_.l0] at H;by_cases c2:c<(l0.length:Int)
   ·rw[if_pos c2] at H;have ad:=decide_eq_true c2;clear c2;obtain⟨c3,H⟩:=ifn H;have aq:=decide_eq_true c3;clear c3;obtain⟨c4,H⟩:=ifn H;have ar:=decide_eq_true c4;clear c4;obtain⟨ae,A5,H⟩:=bnd H;by_cases c6:ae=true
    ·subst c6;replace H:=ift H;by_cases c7:c > 0
     ·rw[if_pos c7] at H;have af:=decide_eq_true c7;clear c7;obtain⟨l,hji8⟩:∃j_:Int,(wrap64 (c - 1))=j_:=⟨_,rfl⟩
      replace H:(if 0≤(l) then(if (l)<(l0.length:Int) then((aR_.f k1 ((a_ l0 (l)).f0) ((a_ l0 (l)).f1) ((a_ l0 (l)).f2) ((a_ l0 (l)).f3) ((a_ l0 c).f0) ((a_ l0 c).f1) ((a_ l0 c).f2) ((a_ l0 c).f3)).bind fun J=>(if J≥0 then(some false) else(aH_.l0 k1 l0 l0 (l0.length:Int) (wrap64 (c+1))))) else(none)) else(none))=some r:=by first|(rw[hji8] at H;exact H)|(simp only[hji8] at H ⊢;exact H)
      (try rw[hji8] at A5);have hji8w:(IntKind.i64.wrap (c - 1))=l:=(bz_ _).trans hji8;obtain⟨c9,H⟩:=ifn H;have au:=decide_eq_true c9;clear c9;obtain⟨c10,H⟩:=ifn H;have ah:=decide_eq_true c10;clear c10;obtain⟨J,ag,H⟩:=bnd H;by_cases U:J≥0
      ·rw[if_pos U] at H;have W:=decide_eq_true U;clear U;obtain rfl:=Option.some.inj H;have y:0≤(c:Int):=TD;have z:c<(l0.length:Int):=TD;obtain⟨s,A,B,D,E,F⟩:=aK_ (Kd.af_ R.out HB.out) c y z;cases A;replace y:=eq_true y;replace z:=eq_true z
       try go_wp2_with (first|((with_reducible refine aj_ (N:=4) rfl ?_);refine bE 4 #[.string (⟨#[]⟩:ByteArray),.int .i64 0,.int .i64 0,.string (⟨#[]⟩:ByteArray)] 93 ?_;intro j hg X hbox hb;have g:=AM (hbox);have M:=bG hg;replace HB:=BS hb;clear hb hbox hg;have ai:=cz4 g))
       have n0_:Aside0 (((((X.setCell ⟨j,0,none⟩ (.string ((a_ l0 c).f0))).setCell ⟨j,1,none⟩ (.int .i64 ((a_ l0 c).f1))).setCell ⟨j,2,none⟩ (.int .i64 ((a_ l0 c).f2))).setCell ⟨j,3,none⟩ (.string ((a_ l0 c).f3))).heap[j]? = some (.cells #[.string ((a_ l0 c).f0),.int .i64 ((a_ l0 c).f1),.int .i64 ((a_ l0 c).f2),.string ((a_ l0 c).f3)] 93 (0,0))):=⟨TS⟩;have n1_:Aside0 (Below w.heap.size w ((((X.setCell ⟨j,0,none⟩ (.string ((a_ l0 c).f0))).setCell ⟨j,1,none⟩ (.int .i64 ((a_ l0 c).f1))).setCell ⟨j,2,none⟩ (.int .i64 ((a_ l0 c).f2))).setCell ⟨j,3,none⟩ (.string ((a_ l0 c).f3)))):=⟨TB⟩;(try clear g);(try clear HB);generalize ((((X.setCell ⟨j,0,none⟩ (.string ((a_ l0 c).f0))).setCell ⟨j,1,none⟩ (.int .i64 ((a_ l0 c).f1))).setCell ⟨j,2,none⟩ (.int .i64 ((a_ l0 c).f2))).setCell ⟨j,3,none⟩ (.string ((a_ l0 c).f3)))=aj at n0_ n1_ ⊢;have g:=n0_;have HB:=n1_;clear n0_ n1_;replace g:=AM (ag_ g.out);replace HB:=AM (ao_ HB.out);have G:0≤((l):Int):=TD;have I:(l)<(l0.length:Int):=TD;obtain⟨O,V,t,u,v,x⟩:=aK_ R.out (l) G I;have m:=x;have o:=v;have p:=u;have q:=t;obtain rfl:s=O:=(by injection V);replace t:=hBc HB t;replace u:=hBc HB u;replace v:=hBc HB v;replace x:=hBc HB x;replace G:=eq_true G;replace I:=eq_true I;refine start_ (n:=17) (S:=fun w'=>w'.cell? ⟨j,0,none⟩=some (.string ((a_ l0 c).f0))∧w'.cell? ⟨j,1,none⟩=some (.int .i64 ((a_ l0 c).f1))∧w'.cell? ⟨j,2,none⟩=some (.int .i64 ((a_ l0 c).f2))∧w'.cell? ⟨j,3,none⟩=some (.string ((a_ l0 c).f3))∧w'.cell? (s.add (((l)).toNat * 4))=some (.string ((a_ l0 (l)).f0))∧w'.cell? ⟨(s.add (((l)).toNat * 4)).block,(s.add (((l)).toNat * 4)).off+1,none⟩=some (.int .i64 ((a_ l0 (l)).f1))∧w'.cell? ⟨(s.add (((l)).toNat * 4)).block,(s.add (((l)).toNat * 4)).off+2,none⟩=some (.int .i64 ((a_ l0 (l)).f2))∧w'.cell? ⟨(s.add (((l)).toNat * 4)).block,(s.add (((l)).toNat * 4)).off+3,none⟩=some (.string ((a_ l0 (l)).f3))) (ds:=[]) #[false,false,false,false,false,false,false,false,false,false,false,false,false,false,false,false,false] KR rfl rfl ⟨bc 0 g,bc 1 g,bc 2 g,bc 3 g,((HB.out.cell (World.block_lt_of_cell? w _ q)).trans q),((HB.out.cell (World.block_lt_of_cell? w _ p)).trans p),((HB.out.cell (World.block_lt_of_cell? w _ o)).trans o),((HB.out.cell (World.block_lt_of_cell? w _ m)).trans m)⟩ (fun hHeld=>?_);refine a2_ aH_.tab4 aH_.bits4 (fun HT_ HW_=>?_);generalize aj.drew=aw at g HB t u v x hHeld ⊢;refine tA 0 12 (mL 17 1) HT_ HW_ hHeld rfl rfl (by rintro w' ⟨s0,s1,s2,s3,s4,s5,s6,s7⟩;go_simp;with_reducible rfl) ?_;refine one_ (i:=1) (N:=some 13) (mL 17 3) rfl rfl (aG_ HT_.out KR) (by decide) (fun K hK=>?_);refine goes_ Tryz.func162 KR rfl #[.agg #[.string ((a_ l0 c).f0),.int .i64 ((a_ l0 c).f1),.int .i64 ((a_ l0 c).f2),.string ((a_ l0 c).f3)]] (by rfl) rfl rfl TA ?_
       with_reducible refine(b8_.calls k1 ((a_ l0 c).f0) ((a_ l0 c).f1) ((a_ l0 c).f2) ((a_ l0 c).f3) true _ ?side1 A5.out).mono ?_
       (case side1=>exact GW HGL);rintro e ax ⟨rfl,hb⟩;refine⟨_,rfl,?_⟩;replace g:=KB g hb;replace HB:=BS hb;(try clear hb);refine hK.out _ _ ⟨bc 0 g,bc 1 g,bc 2 g,bc 3 g,((HB.out.cell (World.block_lt_of_cell? w _ q)).trans q),((HB.out.cell (World.block_lt_of_cell? w _ p)).trans p),((HB.out.cell (World.block_lt_of_cell? w _ o)).trans o),((HB.out.cell (World.block_lt_of_cell? w _ m)).trans m)⟩ (fun hHeld=>?_);clear hK K;refine nA ?_;refine pA 2 14 (mL 17 7) HT_ rfl rfl ?_;refine pA 3 15 (mL 17 15) HT_ rfl rfl ?_;refine pA 4 16 (mL 17 31) HT_ rfl rfl ?_;refine pA 5 17 (mL 17 63) HT_ rfl rfl ?_;refine pA 6 18 (mL 17 127) HT_ rfl rfl ?_;refine pA 7 19 (mL 17 255) HT_ rfl rfl ?_;refine pA 8 20 (mL 17 511) HT_ rfl rfl ?_;refine pA 9 21 (mL 17 1023) HT_ rfl rfl ?_;refine pA 10 22 (mL 17 2047) HT_ rfl rfl ?_;refine tA 11 23 (mL 17 4095) HT_ HW_ hHeld rfl rfl (by rintro w' ⟨s0,s1,s2,s3,s4,s5,s6,s7⟩;go_simp;with_reducible rfl) ?_;refine tA 12 24 (mL 17 8191) HT_ HW_ hHeld rfl rfl (by rintro w' ⟨s0,s1,s2,s3,s4,s5,s6,s7⟩;go_simp;with_reducible rfl) ?_;refine one_ (i:=13) (N:=some 25) (mL 17 16383) rfl rfl (aG_ HT_.out KR) (by decide) (fun K hK=>?_);refine goes_ Tryz.func163 KR rfl #[.agg #[.string ((a_ l0 (l)).f0),.int .i64 ((a_ l0 (l)).f1),.int .i64 ((a_ l0 (l)).f2),.string ((a_ l0 (l)).f3)],.agg #[.string ((a_ l0 c).f0),.int .i64 ((a_ l0 c).f1),.int .i64 ((a_ l0 c).f2),.string ((a_ l0 c).f3)]] (by rfl) rfl rfl (by(try simp only[List.map_toArray,List.map_cons,List.map_nil]);first|done|(simp only[hji8];rfl)|rfl|(simp only[List.length_drop,List.length_take];rfl)) ?_
       with_reducible refine(aR_.calls k1 ((a_ l0 (l)).f0) ((a_ l0 (l)).f1) ((a_ l0 (l)).f2) ((a_ l0 (l)).f3) ((a_ l0 c).f0) ((a_ l0 c).f1) ((a_ l0 c).f2) ((a_ l0 c).f3) J _ ?side1 ag.out).mono ?_
       (case side1=>exact GW HGL);rintro e ay ⟨rfl,hb⟩;refine⟨_,rfl,?_⟩;replace g:=KB g hb;replace HB:=BS hb;(try clear hb);refine hK.out _ _ ⟨bc 0 g,bc 1 g,bc 2 g,bc 3 g,((HB.out.cell (World.block_lt_of_cell? w _ q)).trans q),((HB.out.cell (World.block_lt_of_cell? w _ p)).trans p),((HB.out.cell (World.block_lt_of_cell? w _ o)).trans o),((HB.out.cell (World.block_lt_of_cell? w _ m)).trans m)⟩ (fun hHeld=>?_);clear hK K;refine nA ?_;refine pA 14 26 (mL 17 32767) HT_ rfl rfl ?_;refine pA 15 27 (mL 17 65535) HT_ rfl rfl ?_;refine pA 16 28 (mL 17 131071) HT_ rfl rfl ?_;refine done_ (bi_ HT_.out KR) ?_
       try go_wp2
       go_ret;exact⟨by first|rfl|(simp[aD_,aC_]<;>rfl)|(simp only[←hji8];first|rfl|(simp[aD_,aC_]<;>rfl))|(simp[*,aD_,aC_]<;>rfl),TB⟩
      ·rw[if_neg U] at H;have W:=decide_eq_false U;clear U;have H':=AM H;clear H;have y:0≤(c:Int):=TD;have z:c<(l0.length:Int):=TD;obtain⟨s,A,B,D,E,F⟩:=aK_ (Kd.af_ R.out HB.out) c y z;cases A;replace y:=eq_true y;replace z:=eq_true z
       try go_wp2_with (first|((with_reducible refine aj_ (N:=4) rfl ?_);refine bE 4 #[.string (⟨#[]⟩:ByteArray),.int .i64 0,.int .i64 0,.string (⟨#[]⟩:ByteArray)] 93 ?_;intro j hg Y hbox hb;have g:=AM (hbox);have M:=bG hg;replace HB:=BS hb;clear hb hbox hg;have ak:=cz4 g))
       have n0_:Aside0 (((((Y.setCell ⟨j,0,none⟩ (.string ((a_ l0 c).f0))).setCell ⟨j,1,none⟩ (.int .i64 ((a_ l0 c).f1))).setCell ⟨j,2,none⟩ (.int .i64 ((a_ l0 c).f2))).setCell ⟨j,3,none⟩ (.string ((a_ l0 c).f3))).heap[j]? = some (.cells #[.string ((a_ l0 c).f0),.int .i64 ((a_ l0 c).f1),.int .i64 ((a_ l0 c).f2),.string ((a_ l0 c).f3)] 93 (0,0))):=⟨TS⟩;have n1_:Aside0 (Below w.heap.size w ((((Y.setCell ⟨j,0,none⟩ (.string ((a_ l0 c).f0))).setCell ⟨j,1,none⟩ (.int .i64 ((a_ l0 c).f1))).setCell ⟨j,2,none⟩ (.int .i64 ((a_ l0 c).f2))).setCell ⟨j,3,none⟩ (.string ((a_ l0 c).f3)))):=⟨TB⟩;(try clear g);(try clear HB);generalize ((((Y.setCell ⟨j,0,none⟩ (.string ((a_ l0 c).f0))).setCell ⟨j,1,none⟩ (.int .i64 ((a_ l0 c).f1))).setCell ⟨j,2,none⟩ (.int .i64 ((a_ l0 c).f2))).setCell ⟨j,3,none⟩ (.string ((a_ l0 c).f3)))=al at n0_ n1_ ⊢;have g:=n0_;have HB:=n1_;clear n0_ n1_;replace g:=AM (ag_ g.out);replace HB:=AM (ao_ HB.out);have G:0≤((l):Int):=TD;have I:(l)<(l0.length:Int):=TD;obtain⟨O,V,t,u,v,x⟩:=aK_ R.out (l) G I;have m:=x;have o:=v;have p:=u;have q:=t;obtain rfl:s=O:=(by injection V);replace t:=hBc HB t;replace u:=hBc HB u;replace v:=hBc HB v;replace x:=hBc HB x;replace G:=eq_true G;replace I:=eq_true I;refine start_ (n:=17) (S:=fun w'=>w'.cell? ⟨j,0,none⟩=some (.string ((a_ l0 c).f0))∧w'.cell? ⟨j,1,none⟩=some (.int .i64 ((a_ l0 c).f1))∧w'.cell? ⟨j,2,none⟩=some (.int .i64 ((a_ l0 c).f2))∧w'.cell? ⟨j,3,none⟩=some (.string ((a_ l0 c).f3))∧w'.cell? (s.add (((l)).toNat * 4))=some (.string ((a_ l0 (l)).f0))∧w'.cell? ⟨(s.add (((l)).toNat * 4)).block,(s.add (((l)).toNat * 4)).off+1,none⟩=some (.int .i64 ((a_ l0 (l)).f1))∧w'.cell? ⟨(s.add (((l)).toNat * 4)).block,(s.add (((l)).toNat * 4)).off+2,none⟩=some (.int .i64 ((a_ l0 (l)).f2))∧w'.cell? ⟨(s.add (((l)).toNat * 4)).block,(s.add (((l)).toNat * 4)).off+3,none⟩=some (.string ((a_ l0 (l)).f3))) (ds:=[]) #[false,false,false,false,false,false,false,false,false,false,false,false,false,false,false,false,false] KR rfl rfl ⟨bc 0 g,bc 1 g,bc 2 g,bc 3 g,((HB.out.cell (World.block_lt_of_cell? w _ q)).trans q),((HB.out.cell (World.block_lt_of_cell? w _ p)).trans p),((HB.out.cell (World.block_lt_of_cell? w _ o)).trans o),((HB.out.cell (World.block_lt_of_cell? w _ m)).trans m)⟩ (fun hHeld=>?_);refine a2_ aH_.tab4 aH_.bits4 (fun HT_ HW_=>?_);generalize al.drew=az at g HB t u v x hHeld ⊢;refine tA 0 12 (mL 17 1) HT_ HW_ hHeld rfl rfl (by rintro w' ⟨s0,s1,s2,s3,s4,s5,s6,s7⟩;go_simp;with_reducible rfl) ?_;refine one_ (i:=1) (N:=some 13) (mL 17 3) rfl rfl (aG_ HT_.out KR) (by decide) (fun K hK=>?_);refine goes_ Tryz.func162 KR rfl #[.agg #[.string ((a_ l0 c).f0),.int .i64 ((a_ l0 c).f1),.int .i64 ((a_ l0 c).f2),.string ((a_ l0 c).f3)]] (by rfl) rfl rfl TA ?_
       with_reducible refine(b8_.calls k1 ((a_ l0 c).f0) ((a_ l0 c).f1) ((a_ l0 c).f2) ((a_ l0 c).f3) true _ ?side1 A5.out).mono ?_
       (case side1=>exact GW HGL);rintro e aA ⟨rfl,hb⟩;refine⟨_,rfl,?_⟩;replace g:=KB g hb;replace HB:=BS hb;(try clear hb);refine hK.out _ _ ⟨bc 0 g,bc 1 g,bc 2 g,bc 3 g,((HB.out.cell (World.block_lt_of_cell? w _ q)).trans q),((HB.out.cell (World.block_lt_of_cell? w _ p)).trans p),((HB.out.cell (World.block_lt_of_cell? w _ o)).trans o),((HB.out.cell (World.block_lt_of_cell? w _ m)).trans m)⟩ (fun hHeld=>?_);clear hK K;refine nA ?_;refine pA 2 14 (mL 17 7) HT_ rfl rfl ?_;refine pA 3 15 (mL 17 15) HT_ rfl rfl ?_;refine pA 4 16 (mL 17 31) HT_ rfl rfl ?_;refine pA 5 17 (mL 17 63) HT_ rfl rfl ?_;refine pA 6 18 (mL 17 127) HT_ rfl rfl ?_;refine pA 7 19 (mL 17 255) HT_ rfl rfl ?_;refine pA 8 20 (mL 17 511) HT_ rfl rfl ?_;refine pA 9 21 (mL 17 1023) HT_ rfl rfl ?_;refine pA 10 22 (mL 17 2047) HT_ rfl rfl ?_;refine tA 11 23 (mL 17 4095) HT_ HW_ hHeld rfl rfl (by rintro w' ⟨s0,s1,s2,s3,s4,s5,s6,s7⟩;go_simp;with_reducible rfl) ?_;refine tA 12 24 (mL 17 8191) HT_ HW_ hHeld rfl rfl (by rintro w' ⟨s0,s1,s2,s3,s4,s5,s6,s7⟩;go_simp;with_reducible rfl) ?_;refine one_ (i:=13) (N:=some 25) (mL 17 16383) rfl rfl (aG_ HT_.out KR) (by decide) (fun K hK=>?_);refine goes_ Tryz.func163 KR rfl #[.agg #[.string ((a_ l0 (l)).f0),.int .i64 ((a_ l0 (l)).f1),.int .i64 ((a_ l0 (l)).f2),.string ((a_ l0 (l)).f3)],.agg #[.string ((a_ l0 c).f0),.int .i64 ((a_ l0 c).f1),.int .i64 ((a_ l0 c).f2),.string ((a_ l0 c).f3)]] (by rfl) rfl rfl (by(try simp only[List.map_toArray,List.map_cons,List.map_nil]);first|done|(simp only[hji8];rfl)|rfl|(simp only[List.length_drop,List.length_take];rfl)) ?_
       with_reducible refine(aR_.calls k1 ((a_ l0 (l)).f0) ((a_ l0 (l)).f1) ((a_ l0 (l)).f2) ((a_ l0 (l)).f3) ((a_ l0 c).f0) ((a_ l0 c).f1) ((a_ l0 c).f2) ((a_ l0 c).f3) J _ ?side1 ag.out).mono ?_
       (case side1=>exact GW HGL);rintro e aB ⟨rfl,hb⟩;refine⟨_,rfl,?_⟩;replace g:=KB g hb;replace HB:=BS hb;(try clear hb);refine hK.out _ _ ⟨bc 0 g,bc 1 g,bc 2 g,bc 3 g,((HB.out.cell (World.block_lt_of_cell? w _ q)).trans q),((HB.out.cell (World.block_lt_of_cell? w _ p)).trans p),((HB.out.cell (World.block_lt_of_cell? w _ o)).trans o),((HB.out.cell (World.block_lt_of_cell? w _ m)).trans m)⟩ (fun hHeld=>?_);clear hK K;refine nA ?_;refine pA 14 26 (mL 17 32767) HT_ rfl rfl ?_;refine pA 15 27 (mL 17 65535) HT_ rfl rfl ?_;refine pA 16 28 (mL 17 131071) HT_ rfl rfl ?_;refine done_ (bi_ HT_.out KR) ?_
       try go_wp2
       go_roundg k1
       case measure=>have:=HK1.out;omega
       case rel=>exact⟨(wrap64 (c+1)),TF,H',⟨TM⟩,⟨TB⟩⟩
     ·rw[if_neg c7] at H;have af:=decide_eq_false c7;clear c7;have H':=AM H;clear H;have y:0≤(c:Int):=TD;have z:c<(l0.length:Int):=TD;obtain⟨s,A,B,D,E,F⟩:=aK_ (Kd.af_ R.out HB.out) c y z;cases A;replace y:=eq_true y;replace z:=eq_true z
      try go_wp2_with (first|((with_reducible refine aj_ (N:=4) rfl ?_);refine bE 4 #[.string (⟨#[]⟩:ByteArray),.int .i64 0,.int .i64 0,.string (⟨#[]⟩:ByteArray)] 93 ?_;intro j hg Z hbox hb;have g:=AM (hbox);have M:=bG hg;replace HB:=BS hb;clear hb hbox hg;have am:=cz4 g))
      have n0_:Aside0 (((((Z.setCell ⟨j,0,none⟩ (.string ((a_ l0 c).f0))).setCell ⟨j,1,none⟩ (.int .i64 ((a_ l0 c).f1))).setCell ⟨j,2,none⟩ (.int .i64 ((a_ l0 c).f2))).setCell ⟨j,3,none⟩ (.string ((a_ l0 c).f3))).heap[j]? = some (.cells #[.string ((a_ l0 c).f0),.int .i64 ((a_ l0 c).f1),.int .i64 ((a_ l0 c).f2),.string ((a_ l0 c).f3)] 93 (0,0))):=⟨TS⟩;have n1_:Aside0 (Below w.heap.size w ((((Z.setCell ⟨j,0,none⟩ (.string ((a_ l0 c).f0))).setCell ⟨j,1,none⟩ (.int .i64 ((a_ l0 c).f1))).setCell ⟨j,2,none⟩ (.int .i64 ((a_ l0 c).f2))).setCell ⟨j,3,none⟩ (.string ((a_ l0 c).f3)))):=⟨TB⟩;(try clear g);(try clear HB);generalize ((((Z.setCell ⟨j,0,none⟩ (.string ((a_ l0 c).f0))).setCell ⟨j,1,none⟩ (.int .i64 ((a_ l0 c).f1))).setCell ⟨j,2,none⟩ (.int .i64 ((a_ l0 c).f2))).setCell ⟨j,3,none⟩ (.string ((a_ l0 c).f3)))=an at n0_ n1_ ⊢;have g:=n0_;have HB:=n1_;clear n0_ n1_;replace g:=AM (ag_ g.out);replace HB:=AM (ao_ HB.out);refine start_ (n:=17) (S:=fun w'=>w'.cell? ⟨j,0,none⟩=some (.string ((a_ l0 c).f0))∧w'.cell? ⟨j,1,none⟩=some (.int .i64 ((a_ l0 c).f1))∧w'.cell? ⟨j,2,none⟩=some (.int .i64 ((a_ l0 c).f2))∧w'.cell? ⟨j,3,none⟩=some (.string ((a_ l0 c).f3))) (ds:=[]) #[false,false,false,false,false,false,false,false,false,false,false,false,false,false,false,false,false] KR rfl rfl ⟨bc 0 g,bc 1 g,bc 2 g,bc 3 g⟩ (fun hHeld=>?_);refine a2_ aH_.tab4 aH_.bits4 (fun HT_ HW_=>?_);generalize an.drew=aC at g HB hHeld ⊢;refine tA 0 12 (mL 17 1) HT_ HW_ hHeld rfl rfl (by rintro w' ⟨s0,s1,s2,s3⟩;go_simp;with_reducible rfl) ?_;refine one_ (i:=1) (N:=some 13) (mL 17 3) rfl rfl (aG_ HT_.out KR) (by decide) (fun K hK=>?_);refine goes_ Tryz.func162 KR rfl #[.agg #[.string ((a_ l0 c).f0),.int .i64 ((a_ l0 c).f1),.int .i64 ((a_ l0 c).f2),.string ((a_ l0 c).f3)]] (by rfl) rfl rfl TA ?_
      with_reducible refine(b8_.calls k1 ((a_ l0 c).f0) ((a_ l0 c).f1) ((a_ l0 c).f2) ((a_ l0 c).f3) true _ ?side1 A5.out).mono ?_
      (case side1=>exact GW HGL);rintro e aD ⟨rfl,hb⟩;refine⟨_,rfl,?_⟩;replace g:=KB g hb;replace HB:=BS hb;(try clear hb);refine hK.out _ _ ⟨bc 0 g,bc 1 g,bc 2 g,bc 3 g⟩ (fun hHeld=>?_);clear hK K;refine nA ?_;refine pA 2 14 (mL 17 7) HT_ rfl rfl ?_;refine pA 3 15 (mL 17 15) HT_ rfl rfl ?_;refine pA 4 16 (mL 17 31) HT_ rfl rfl ?_;refine pA 5 17 (mL 17 63) HT_ rfl rfl ?_;refine pA 6 18 (mL 17 127) HT_ rfl rfl ?_;refine pU 7 19 (mL 17 255) HT_ rfl rfl ?_;refine pU 8 20 (mL 17 511) HT_ rfl rfl ?_;refine pU 9 21 (mL 17 1023) HT_ rfl rfl ?_;refine pU 10 22 (mL 17 2047) HT_ rfl rfl ?_;refine pU 11 23 (mL 17 4095) HT_ rfl rfl ?_;refine pU 12 24 (mL 17 8191) HT_ rfl rfl ?_;refine pU 13 25 (mL 17 16383) HT_ rfl rfl ?_;refine pU 14 26 (mL 17 32767) HT_ rfl rfl ?_;refine pA 15 27 (mL 17 65535) HT_ rfl rfl ?_;refine pA 16 28 (mL 17 131071) HT_ rfl rfl ?_;refine done_ (bi_ HT_.out KR) ?_
      try go_wp2
      go_roundg k1
      case measure=>have:=HK1.out;omega
      case rel=>exact⟨(wrap64 (c+1)),TF,H',⟨TM⟩,⟨TB⟩⟩
    ·replace c6:=Bool.eq_false_iff.mpr c6;subst c6;replace H:=iff' H;obtain rfl:=Option.some.inj H;have y:0≤(c:Int):=TD;have z:c<(l0.length:Int):=TD;obtain⟨s,A,B,D,E,F⟩:=aK_ (Kd.af_ R.out HB.out) c y z;cases A;replace y:=eq_true y;replace z:=eq_true z
     try go_wp2_with (first|((with_reducible refine aj_ (N:=4) rfl ?_);refine bE 4 #[.string (⟨#[]⟩:ByteArray),.int .i64 0,.int .i64 0,.string (⟨#[]⟩:ByteArray)] 93 ?_;intro j hg aa hbox hb;have g:=AM (hbox);have M:=bG hg;replace HB:=BS hb;clear hb hbox hg;have ao:=cz4 g))
     have n0_:Aside0 (((((aa.setCell ⟨j,0,none⟩ (.string ((a_ l0 c).f0))).setCell ⟨j,1,none⟩ (.int .i64 ((a_ l0 c).f1))).setCell ⟨j,2,none⟩ (.int .i64 ((a_ l0 c).f2))).setCell ⟨j,3,none⟩ (.string ((a_ l0 c).f3))).heap[j]? = some (.cells #[.string ((a_ l0 c).f0),.int .i64 ((a_ l0 c).f1),.int .i64 ((a_ l0 c).f2),.string ((a_ l0 c).f3)] 93 (0,0))):=⟨TS⟩;have n1_:Aside0 (Below w.heap.size w ((((aa.setCell ⟨j,0,none⟩ (.string ((a_ l0 c).f0))).setCell ⟨j,1,none⟩ (.int .i64 ((a_ l0 c).f1))).setCell ⟨j,2,none⟩ (.int .i64 ((a_ l0 c).f2))).setCell ⟨j,3,none⟩ (.string ((a_ l0 c).f3)))):=⟨TB⟩;(try clear g);(try clear HB);generalize ((((aa.setCell ⟨j,0,none⟩ (.string ((a_ l0 c).f0))).setCell ⟨j,1,none⟩ (.int .i64 ((a_ l0 c).f1))).setCell ⟨j,2,none⟩ (.int .i64 ((a_ l0 c).f2))).setCell ⟨j,3,none⟩ (.string ((a_ l0 c).f3)))=ap at n0_ n1_ ⊢;have g:=n0_;have HB:=n1_;clear n0_ n1_;replace g:=AM (ag_ g.out);replace HB:=AM (ao_ HB.out);refine start_ (n:=17) (S:=fun w'=>w'.cell? ⟨j,0,none⟩=some (.string ((a_ l0 c).f0))∧w'.cell? ⟨j,1,none⟩=some (.int .i64 ((a_ l0 c).f1))∧w'.cell? ⟨j,2,none⟩=some (.int .i64 ((a_ l0 c).f2))∧w'.cell? ⟨j,3,none⟩=some (.string ((a_ l0 c).f3))) (ds:=[]) #[false,false,false,false,false,false,false,false,false,false,false,false,false,false,false,false,false] KR rfl rfl ⟨bc 0 g,bc 1 g,bc 2 g,bc 3 g⟩ (fun hHeld=>?_);refine a2_ aH_.tab4 aH_.bits4 (fun HT_ HW_=>?_);generalize ap.drew=aE at g HB hHeld ⊢;refine tA 0 12 (mL 17 1) HT_ HW_ hHeld rfl rfl (by rintro w' ⟨s0,s1,s2,s3⟩;go_simp;with_reducible rfl) ?_;refine one_ (i:=1) (N:=some 13) (mL 17 3) rfl rfl (aG_ HT_.out KR) (by decide) (fun K hK=>?_);refine goes_ Tryz.func162 KR rfl #[.agg #[.string ((a_ l0 c).f0),.int .i64 ((a_ l0 c).f1),.int .i64 ((a_ l0 c).f2),.string ((a_ l0 c).f3)]] (by rfl) rfl rfl TA ?_
     with_reducible refine(b8_.calls k1 ((a_ l0 c).f0) ((a_ l0 c).f1) ((a_ l0 c).f2) ((a_ l0 c).f3) false _ ?side1 A5.out).mono ?_
     (case side1=>exact GW HGL);rintro e aF ⟨rfl,hb⟩;refine⟨_,rfl,?_⟩;replace g:=KB g hb;replace HB:=BS hb;(try clear hb);refine hK.out _ _ ⟨bc 0 g,bc 1 g,bc 2 g,bc 3 g⟩ (fun hHeld=>?_);clear hK K;refine nA ?_;refine pA 2 14 (mL 17 7) HT_ rfl rfl ?_;refine pA 3 15 (mL 17 15) HT_ rfl rfl ?_;refine pU 4 16 (mL 17 31) HT_ rfl rfl ?_;refine pU 5 17 (mL 17 63) HT_ rfl rfl ?_;refine pU 6 18 (mL 17 127) HT_ rfl rfl ?_;refine pU 7 19 (mL 17 255) HT_ rfl rfl ?_;refine pU 8 20 (mL 17 511) HT_ rfl rfl ?_;refine pU 9 21 (mL 17 1023) HT_ rfl rfl ?_;refine pU 10 22 (mL 17 2047) HT_ rfl rfl ?_;refine pU 11 23 (mL 17 4095) HT_ rfl rfl ?_;refine pU 12 24 (mL 17 8191) HT_ rfl rfl ?_;refine pU 13 25 (mL 17 16383) HT_ rfl rfl ?_;refine pU 14 26 (mL 17 32767) HT_ rfl rfl ?_;refine pU 15 27 (mL 17 65535) HT_ rfl rfl ?_;refine pA 16 28 (mL 17 131071) HT_ rfl rfl ?_;refine done_ (bi_ HT_.out KR) ?_
     try go_wp2
     go_ret;exact⟨TE,TB⟩
   ·rw[if_neg c2] at H;have ad:=decide_eq_false c2;clear c2;obtain rfl:=Option.some.inj H;go_wp2;go_ret;exact⟨TE,TB⟩
end
section
def impl_isDiff.f (k:Nat) (c:Int) (g:Int) (h:List (aa_)) (i:List (aa_)):Option (Bool):=(bk_.f c).bind fun j=>(if j=true then((bk_.f g).bind fun l=>(if l=true then(if c=g then(some false) else(if (h.length:Int)≤40 then(if (i.length:Int)≤40 then((aH_.f k h).bind fun m=>(if m=true then((aH_.f k i).bind fun n=>(some n)) else(some false))) else(some false)) else(some false))) else(some false))) else(some false))
theorem impl_isDiff.calls (k:Nat) (g:Int) (j:Int) (m:Option Addr) (n:Nat) (i:List (aa_)) (o:Option Addr) (p:Nat) (l:List (aa_)) (r:Bool) (w:World) (t:Kd.C ad_ w m i.length i) (u:i.length≤n) (v:Kd.C ad_ w o l.length l) (x:l.length≤p) (hG_:Glob w) (h:impl_isDiff.f k g j i l=some r) :
  Calls Tryz.prog 65 #[.agg #[.int .i64 g,.int .i64 j,.slice m i.length n,.slice o l.length p]] w fun e w'=>e=.returned (.bool r)∧Below w.heap.size w w':=by
 have hu29:=Tryz.underlying29;have y:=AM t;have z:=AM u;clear t u;have G:=AM v;have I:=AM x;clear v x;have HGL:=AM hG_;clear hG_;have HB:=AM (Below.refl w.heap.size w);have H:((bk_.f g).bind fun A=>(if A=true then((bk_.f j).bind fun B=>(if B=true then(if g=j then(some false) else(if (i.length:Int)≤40 then(if (l.length:Int)≤40 then((aH_.f k i).bind fun D=>(if D=true then((aH_.f k l).bind fun E=>(some E)) else(some false))) else(some false)) else(some false))) else(some false))) else(some false)))=some r:=h;clear h;obtain⟨A,A2,H⟩:=bnd H;by_cases c3:A=true
 ·subst c3;replace H:=ift H;obtain⟨B,A4,H⟩:=bnd H;by_cases c5:B=true
  ·subst c5;replace H:=ift H;by_cases c6:g=j
   ·rw[if_pos c6] at H;have M:=beq_iff_eq.mpr c6;have O:=bne_eq_false_iff_eq.mpr c6;clear c6;obtain rfl:=Option.some.inj H;go_enter Tryz.func65,Tryz.ntmps65;go_wp2_with (first|((with_reducible refine aj_ (N:=1) rfl ?_);(try (refine cg_ (by rfl) ?_;dsimp only));refine bE 1 #[.int .i64 g,.int .i64 j,.slice m i.length n,.slice o l.length p] 29 ?_;intro q hg w7 hbox hb;have c:=AM (hbox);have s:=bG hg;replace HB:=BS hb;clear hb hbox hg;have ae:=cz4 c)|((with_reducible refine ac_ (f:=78) rfl ?_);refine goesL_ (some 5) rfl rfl Tryz.func78 KR rfl #[.int .i64 g] rfl TA ?_;(with_reducible refine(bk_.calls g true _ A2.out).mono ?_);rintro e w' ⟨rfl,⟨nd,rfl⟩⟩;refine⟨_,rfl,?_⟩)|(go_at_call 78;(with_reducible refine(bk_.calls j true _ A4.out).mono ?_);rintro e w' ⟨rfl,⟨nd,rfl⟩⟩));go_ret;exact⟨TE,TB⟩
   ·rw[if_neg c6] at H;have M:=beq_eq_false_iff_ne.mpr c6;have O:=bne_iff_ne.mpr c6;by_cases c9:(i.length:Int)≤40
    ·rw[if_pos c9] at H;have R:=decide_eq_true c9;have U:decide (i.length≤40)=true:=decide_eq_true (by omega);clear c9;by_cases c10:(l.length:Int)≤40
     ·rw[if_pos c10] at H;have J:=decide_eq_true c10;have K:decide (l.length≤40)=true:=decide_eq_true (by omega);clear c10;obtain⟨D,V,H⟩:=bnd H;by_cases F:D=true
      ·subst F;replace H:=ift H;obtain⟨E,W,H⟩:=bnd H;obtain rfl:=Option.some.inj H;go_enter Tryz.func65,Tryz.ntmps65;go_wp2_with (first|((with_reducible refine aj_ (N:=1) rfl ?_);(try (refine cg_ (by rfl) ?_;dsimp only));refine bE 1 #[.int .i64 g,.int .i64 j,.slice m i.length n,.slice o l.length p] 29 ?_;intro q hg af hbox hb;have c:=AM (hbox);have s:=bG hg;replace HB:=BS hb;clear hb hbox hg;have X:=cz4 c)|((with_reducible refine ac_ (f:=78) rfl ?_);refine goesL_ (some 5) rfl rfl Tryz.func78 KR rfl #[.int .i64 g] rfl TA ?_;(with_reducible refine(bk_.calls g true _ A2.out).mono ?_);rintro e w' ⟨rfl,⟨nd,rfl⟩⟩;refine⟨_,rfl,?_⟩)|(go_at_call 78;(with_reducible refine(bk_.calls j true _ A4.out).mono ?_);rintro e w' ⟨rfl,⟨nd,rfl⟩⟩)|(go_at_call 121;(with_reducible refine(aH_.calls k _ _ i true _ ?side1 ?side2 ?side3 V.out).mono ?_);(case side1=>exact CW ((Kd.af_ y.out TB)));(case side2=>exact z.out);(case side3=>exact GW HGL);rintro e ag ⟨rfl,hb⟩;replace c:=KB c hb;replace HB:=BS hb;clear hb;have Y:=cz4 c)|(go_at_call 121;(with_reducible refine(aH_.calls k _ _ l E _ ?side1 ?side2 ?side3 W.out).mono ?_);(case side1=>exact CW ((Kd.af_ G.out HB.out)));(case side2=>exact I.out);(case side3=>exact GW HGL);rintro e ah ⟨rfl,hb⟩;replace c:=KB c hb;replace HB:=BS hb;clear hb));go_ret;exact⟨TE,TB⟩
      ·replace F:=Bool.eq_false_iff.mpr F;subst F;replace H:=iff' H;obtain rfl:=Option.some.inj H;go_enter Tryz.func65,Tryz.ntmps65;go_wp2_with (first|((with_reducible refine aj_ (N:=1) rfl ?_);(try (refine cg_ (by rfl) ?_;dsimp only));refine bE 1 #[.int .i64 g,.int .i64 j,.slice m i.length n,.slice o l.length p] 29 ?_;intro q hg ai hbox hb;have c:=AM (hbox);have s:=bG hg;replace HB:=BS hb;clear hb hbox hg;have Z:=cz4 c)|((with_reducible refine ac_ (f:=78) rfl ?_);refine goesL_ (some 5) rfl rfl Tryz.func78 KR rfl #[.int .i64 g] rfl TA ?_;(with_reducible refine(bk_.calls g true _ A2.out).mono ?_);rintro e w' ⟨rfl,⟨nd,rfl⟩⟩;refine⟨_,rfl,?_⟩)|(go_at_call 78;(with_reducible refine(bk_.calls j true _ A4.out).mono ?_);rintro e w' ⟨rfl,⟨nd,rfl⟩⟩)|(go_at_call 121;(with_reducible refine(aH_.calls k _ _ i false _ ?side1 ?side2 ?side3 V.out).mono ?_);(case side1=>exact CW ((Kd.af_ y.out TB)));(case side2=>exact z.out);(case side3=>exact GW HGL);rintro e aj ⟨rfl,hb⟩;replace c:=KB c hb;replace HB:=BS hb;clear hb));go_ret;exact⟨TE,TB⟩
     ·rw[if_neg c10] at H;have J:=decide_eq_false c10;have K:decide (l.length≤40)=false:=decide_eq_false (by omega);clear c10;obtain rfl:=Option.some.inj H;go_enter Tryz.func65,Tryz.ntmps65;go_wp2_with (first|((with_reducible refine aj_ (N:=1) rfl ?_);(try (refine cg_ (by rfl) ?_;dsimp only));refine bE 1 #[.int .i64 g,.int .i64 j,.slice m i.length n,.slice o l.length p] 29 ?_;intro q hg ak hbox hb;have c:=AM (hbox);have s:=bG hg;replace HB:=BS hb;clear hb hbox hg;have aa:=cz4 c)|((with_reducible refine ac_ (f:=78) rfl ?_);refine goesL_ (some 5) rfl rfl Tryz.func78 KR rfl #[.int .i64 g] rfl TA ?_;(with_reducible refine(bk_.calls g true _ A2.out).mono ?_);rintro e w' ⟨rfl,⟨nd,rfl⟩⟩;refine⟨_,rfl,?_⟩)|(go_at_call 78;(with_reducible refine(bk_.calls j true _ A4.out).mono ?_);rintro e w' ⟨rfl,⟨nd,rfl⟩⟩));go_ret;exact⟨TE,TB⟩
    ·rw[if_neg c9] at H;have R:=decide_eq_false c9;have U:decide (i.length≤40)=false:=decide_eq_false (by omega);clear c9;obtain rfl:=Option.some.inj H;go_enter Tryz.func65,Tryz.ntmps65;go_wp2_with (first|((with_reducible refine aj_ (N:=1) rfl ?_);(try (refine cg_ (by rfl) ?_;dsimp only));refine bE 1 #[.int .i64 g,.int .i64 j,.slice m i.length n,.slice o l.length p] 29 ?_;intro q hg al hbox hb;have c:=AM (hbox);have s:=bG hg;replace HB:=BS hb;clear hb hbox hg;have ab:=cz4 c)|((with_reducible refine ac_ (f:=78) rfl ?_);refine goesL_ (some 5) rfl rfl Tryz.func78 KR rfl #[.int .i64 g] rfl TA ?_;(with_reducible refine(bk_.calls g true _ A2.out).mono ?_);rintro e w' ⟨rfl,⟨nd,rfl⟩⟩;refine⟨_,rfl,?_⟩)|(go_at_call 78;(with_reducible refine(bk_.calls j true _ A4.out).mono ?_);rintro e w' ⟨rfl,⟨nd,rfl⟩⟩));go_ret;exact⟨TE,TB⟩
  ·replace c5:=Bool.eq_false_iff.mpr c5;subst c5;replace H:=iff' H;obtain rfl:=Option.some.inj H;go_enter Tryz.func65,Tryz.ntmps65;go_wp2_with (first|((with_reducible refine aj_ (N:=1) rfl ?_);(try (refine cg_ (by rfl) ?_;dsimp only));refine bE 1 #[.int .i64 g,.int .i64 j,.slice m i.length n,.slice o l.length p] 29 ?_;intro q hg am hbox hb;have c:=AM (hbox);have s:=bG hg;replace HB:=BS hb;clear hb hbox hg;have ac:=cz4 c)|((with_reducible refine ac_ (f:=78) rfl ?_);refine goesL_ (some 5) rfl rfl Tryz.func78 KR rfl #[.int .i64 g] rfl TA ?_;(with_reducible refine(bk_.calls g true _ A2.out).mono ?_);rintro e w' ⟨rfl,⟨nd,rfl⟩⟩;refine⟨_,rfl,?_⟩)|(go_at_call 78;(with_reducible refine(bk_.calls j false _ A4.out).mono ?_);rintro e w' ⟨rfl,⟨nd,rfl⟩⟩));go_ret;exact⟨TE,TB⟩
 ·replace c3:=Bool.eq_false_iff.mpr c3;subst c3;replace H:=iff' H;obtain rfl:=Option.some.inj H;go_enter Tryz.func65,Tryz.ntmps65;go_wp2_with (first|((with_reducible refine aj_ (N:=1) rfl ?_);(try (refine cg_ (by rfl) ?_;dsimp only));refine bE 1 #[.int .i64 g,.int .i64 j,.slice m i.length n,.slice o l.length p] 29 ?_;intro q hg an hbox hb;have c:=AM (hbox);have s:=bG hg;replace HB:=BS hb;clear hb hbox hg;have ad:=cz4 c)|((with_reducible refine ac_ (f:=78) rfl ?_);refine goesL_ (some 5) rfl rfl Tryz.func78 KR rfl #[.int .i64 g] rfl TA ?_;(with_reducible refine(bk_.calls g false _ A2.out).mono ?_);rintro e w' ⟨rfl,⟨nd,rfl⟩⟩;refine⟨_,rfl,?_⟩));go_ret;exact⟨TE,TB⟩
end
section
attribute [local go_sem high] eqARecord
def aB_.l0:Nat→List (aa_)→Int→Int→ByteArray→Int→Int→ByteArray→Option (Int)
 | 0,_,_,_,_,_,_,_=>none
 | k+1,x0,x7,x8,c,f,g,h=>if x8<x7 then(if 0≤x8 then(if x8<(x0.length:Int) then(if (c.toList==(((a_ x0 x8).f0).toList)&&(f==((a_ x0 x8).f1)&&(g==((a_ x0 x8).f2)&&(h.toList==(((a_ x0 x8).f3).toList)))))=true then(some x8) else(aB_.l0 k x0 x7 (wrap64 (x8+1)) c f g h)) else(none)) else(none)) else(some (-1))
def aB_.f (k:Nat) (l0:List (aa_)) (a1_0:ByteArray) (a1_1:Int) (a1_2:Int) (a1_3:ByteArray):Option (Int):=aB_.l0 k l0 (l0.length:Int) 0 a1_0 a1_1 a1_2 a1_3
theorem aB_.calls (k:Nat) (A0:Option Addr) (c0:Nat) (l0:List (aa_)) (g:ByteArray) (i:Int) (j:Int) (l:ByteArray) (r:Int) (w:World) (z:Kd.C ad_ w A0 l0.length l0) (A:l0.length≤c0) (h:aB_.f k l0 g i j l=some r) :
  Calls Tryz.prog 123 #[.slice A0 l0.length c0,.agg #[.string g,.int .i64 i,.int .i64 j,.string l]] w fun e w'=>e=.returned (.int .i64 r)∧Below w.heap.size w w':=by
 have hu93:=Tryz.underlying93;have B:=AM z;have R:=AM A;clear z A;have HB:=AM (Below.refl w.heap.size w);have H:(aB_.l0 k l0 (l0.length:Int) 0 g i j l)=some r:=h;clear h;have H':=AM H;clear H;go_enter Tryz.func123,Tryz.ntmps123;go_wp2_with (first|((with_reducible refine aj_ (N:=3) rfl ?_);refine bE 3 #[.string g,.int .i64 i,.int .i64 j,.string l] 93 ?_;intro p hg w3 hbox hb;have m:=AM (hbox);have q:=bG hg;replace HB:=BS hb;clear hb hbox hg))
 repeat (go_quiet (first|((with_reducible refine aj_ (N:=3) rfl ?_);refine bE 3 #[.string g,.int .i64 i,.int .i64 j,.string l] 93 ?_;intro p hg w3 hbox hb;have m:=AM (hbox);have q:=bG hg;replace HB:=BS hb;clear hb hbox hg));try go_wp2_with (first|((with_reducible refine aj_ (N:=3) rfl ?_);refine bE 3 #[.string g,.int .i64 i,.int .i64 j,.string l] 93 ?_;intro p hg w3 hbox hb;have m:=AM (hbox);have q:=bG hg;replace HB:=BS hb;clear hb hbox hg)))
 go_loopg [8] k (fun kq v8 w'=>∃(c:Int),v8=.int .i64 c∧Aside0 (aB_.l0 kq l0 (l0.length:Int) c g i j l=some r)∧Aside0 (kq≤k)∧Aside0 (w'.heap[p]? = some (.cells #[.string g,.int .i64 i,.int .i64 j,.string l] 93 (0,0)))∧Aside0 (Below w.heap.size w w'))
 case atStart=>exact⟨(0),TF,H',⟨Nat.le_refl _⟩,KW m,⟨TB⟩⟩
 case round =>
  clear H';obtain⟨c,rfl,HA,HK1,m,HB⟩:=hrel
  cases gk with
  | zero=>exact absurd HA.out (by simp[aB_.l0])
  | succ k1 =>
   have H:=HA.out;clear HA;simp only[aB_.l0] at H;by_cases c4:c<(l0.length:Int)
   ·rw[if_pos c4] at H;have D:=decide_eq_true c4;clear c4;obtain⟨c5,H⟩:=ifn H;have I:=decide_eq_true c5;clear c5;obtain⟨c6,H⟩:=ifn H;have J:=decide_eq_true c6;clear c6;by_cases c7:(g.toList==(((a_ l0 c).f0).toList)&&(i==((a_ l0 c).f1)&&(j==((a_ l0 c).f2)&&(l.toList==(((a_ l0 c).f3).toList)))))=true
    ·rw[if_pos c7] at H;have E:(g.toList==(((a_ l0 c).f0).toList)&&(i==((a_ l0 c).f1)&&(j==((a_ l0 c).f2)&&(l.toList==(((a_ l0 c).f3).toList)))))=true:=c7;(try (have F:decide (g.toList=(((a_ l0 c).f0).toList)&&(i==((a_ l0 c).f1)&&(j==((a_ l0 c).f2)&&(l.toList==(((a_ l0 c).f3).toList)))))=true:=by simpa using c7));(try (have G:(g.toList==(((a_ l0 c).f0).toList)&&(i==((a_ l0 c).f1)&&(j==((a_ l0 c).f2)&&(l.toList==(((a_ l0 c).f3).toList)))))=true:=by simpa using c7));clear c7;obtain rfl:=Option.some.inj H;have K:=cz4 m;have n:0≤(c:Int):=TD;have o:c<(l0.length:Int):=TD;obtain⟨y,s,t,u,v,x⟩:=aK_ (Kd.af_ B.out HB.out) c n o;cases s;replace n:=eq_true n;replace o:=eq_true o;go_wp2
     repeat (go_quiet (fail);try go_wp2)
     go_ret;exact⟨TE,TB⟩
    ·rw[if_neg c7] at H
     have E:(g.toList==(((a_ l0 c).f0).toList)&&(i==((a_ l0 c).f1)&&(j==((a_ l0 c).f2)&&(l.toList==(((a_ l0 c).f3).toList)))))=false:=by simpa using c7
     (try (have F:decide (g.toList=(((a_ l0 c).f0).toList)&&(i==((a_ l0 c).f1)&&(j==((a_ l0 c).f2)&&(l.toList==(((a_ l0 c).f3).toList)))))=false:=by simpa using c7));(try (have G:(g.toList==(((a_ l0 c).f0).toList)&&(i==((a_ l0 c).f1)&&(j==((a_ l0 c).f2)&&(l.toList==(((a_ l0 c).f3).toList)))))=false:=by simpa using c7));(try (have M:¬(g.toList=(((a_ l0 c).f0).toList)&&(i==((a_ l0 c).f1)&&(j==((a_ l0 c).f2)&&(l.toList==(((a_ l0 c).f3).toList))))):=by simpa using c7));clear c7;have H':=AM H;clear H;have O:=cz4 m;have n:0≤(c:Int):=TD;have o:c<(l0.length:Int):=TD;obtain⟨y,s,t,u,v,x⟩:=aK_ (Kd.af_ B.out HB.out) c n o;cases s;replace n:=eq_true n;replace o:=eq_true o;go_wp2
     repeat (go_quiet (fail);try go_wp2)
     go_roundg k1
     case measure=>have:=HK1.out;omega
     case rel=>exact⟨(wrap64 (c+1)),TF,H',⟨TM⟩,KW m,⟨TB⟩⟩
   ·rw[if_neg c4] at H;have D:=decide_eq_false c4;clear c4;obtain rfl:=Option.some.inj H;go_wp2
    repeat (go_quiet (fail);try go_wp2)
    go_ret;exact⟨TE,TB⟩
end
section
def a0_.f (k:Nat) (l0:List (aa_)) (a1_0:ByteArray) (a1_1:Int) (a1_2:Int) (a1_3:ByteArray):Option (Bool):=(aB_.f k l0 a1_0 a1_1 a1_2 a1_3).bind fun t399=>(some (decide (t399≥0)))
theorem a0_.calls (k:Nat) (A0:Option Addr) (c0:Nat) (l0:List (aa_)) (c:ByteArray) (g:Int) (i:Int) (j:ByteArray) (r:Bool) (w:World) (n:Kd.C ad_ w A0 l0.length l0) (o:l0.length≤c0) (h:a0_.f k l0 c g i j=some r) :
  Calls Tryz.prog 68 #[.slice A0 l0.length c0,.agg #[.string c,.int .i64 g,.int .i64 i,.string j]] w fun e w'=>e=.returned (.bool r)∧Below w.heap.size w w':=by
 have hu93:=Tryz.underlying93;have p:=AM n;have q:=AM o;clear n o;have HB:=AM (Below.refl w.heap.size w);have H:((aB_.f k l0 c g i j).bind fun m=>(some (decide (m≥0))))=some r:=h;clear h;obtain⟨m,A3,H⟩:=bnd H;obtain rfl:=Option.some.inj H;go_enter Tryz.func68,Tryz.ntmps68;go_wp2_with (first|((with_reducible refine aj_ (N:=3) rfl ?_);refine bE 3 #[.string c,.int .i64 g,.int .i64 i,.string j] 93 ?_;intro s hg w4 hbox hb;have l:=AM (hbox);have t:=bG hg;replace HB:=BS hb;clear hb hbox hg;have u:=cz4 l)|((with_reducible refine ac_ (f:=123) rfl ?_);refine goesL_ (some 7) rfl rfl Tryz.func123 KR rfl #[.slice A0 l0.length c0,.agg #[.string c,.int .i64 g,.int .i64 i,.string j]] rfl TA ?_;(with_reducible refine(aB_.calls k _ _ l0 c g i j m _ ?side1 ?side2 A3.out).mono ?_);(case side1=>exact CW ((Kd.af_ p.out HB.out)));(case side2=>exact q.out);rintro e w6 ⟨rfl,hb⟩;refine⟨_,rfl,?_⟩;replace l:=KB l hb;replace HB:=BS hb;clear hb));go_ret;exact⟨TE,TB⟩
end
section
def ck_.f (k:Nat) (a0_0:ByteArray) (a0_1:Int) (a0_2:Int) (a0_3:ByteArray) (a1_0:Int) (a1_1:Int) (l1_2:List (aa_)) (l1_3:List (aa_)):Option (Bool):=(a0_.f k l1_3 a0_0 a0_1 a0_2 a0_3).bind fun t401=>(some t401)
theorem ck_.calls (k:Nat) (g:ByteArray) (i:Int) (j:Int) (l:ByteArray) (g1_:Nat) (y:Int) (z:Int) (A:Option Addr) (B:Nat) (m:List (aa_)) (o:Option Addr) (p:Nat) (c:List (aa_)) (r:Bool) (w:World) (q:Kd.C ad_ w A m.length m) (s:m.length≤B) (t:Kd.C ad_ w o c.length c) (u:c.length≤p) (hkg1_:w.heap[g1_]? = some (.cells #[.int .i64 y,.int .i64 z,.slice A m.length B,.slice o c.length p] 29 (0,0))) (h:ck_.f k g i j l y z m c=some r) :
  Calls Tryz.prog 67 #[.agg #[.string g,.int .i64 i,.int .i64 j,.string l],.pointer (some ⟨g1_,0,none⟩)] w fun e w'=>e=.returned (.bool r)∧Below w.heap.size w w':=by
 have hu93:=Tryz.underlying93;have G:=AM q;have I:=AM s;clear q s;have D:=AM t;have E:=AM u;clear t u;have BKrg1_:=AM hkg1_;clear hkg1_;have HB:=AM (Below.refl w.heap.size w);have H:((a0_.f k c g i j l).bind fun v=>(some v))=some r:=h;clear h;obtain⟨v,A3,H⟩:=bnd H;obtain rfl:=Option.some.inj H;go_enter Tryz.func67,Tryz.ntmps67;go_wp2_with (first|((with_reducible refine aj_ (N:=2) rfl ?_);refine bE 2 #[.string g,.int .i64 i,.int .i64 j,.string l] 93 ?_;intro J hg w4 hbox hb;have n:=AM (hbox);have K:=bG hg;replace HB:=BS hb;have x:=bN BKrg1_ hg;have F:=bM BKrg1_ hg;replace BKrg1_:=KB BKrg1_ hb;clear hb hbox hg;obtain⟨M,O⟩:=nn x;have R:=cz4 BKrg1_;have U:=cz4 n)|((with_reducible refine ac_ (f:=68) rfl ?_);refine goesL_ (some 7) rfl rfl Tryz.func68 KR rfl #[.slice o c.length p,.agg #[.string g,.int .i64 i,.int .i64 j,.string l]] rfl TA ?_;(with_reducible refine(a0_.calls k _ _ c g i j l v _ ?side1 ?side2 A3.out).mono ?_);(case side1=>exact CW ((Kd.af_ D.out HB.out)));(case side2=>exact E.out);rintro e w8 ⟨rfl,hb⟩;refine⟨_,rfl,?_⟩;replace BKrg1_:=KB BKrg1_ hb;replace n:=KB n hb;replace HB:=BS hb;clear hb));go_ret;exact⟨TE,TB⟩
end
section
def al_.l0:Nat→List (aa_)→Int→Int→Int→Int→List (aa_)→List (aa_)→Option (Int)
 | 0,_,_,_,_,_,_,_=>none
 | k+1,x0,x7,x8,c,g,h,i=>if x8<x7 then(if 0≤x8 then(if x8<(x0.length:Int) then((ck_.f k ((a_ x0 x8).f0) ((a_ x0 x8).f1) ((a_ x0 x8).f2) ((a_ x0 x8).f3) c g h i).bind fun j=>(if j=true then(some x8) else(al_.l0 k x0 x7 (wrap64 (x8+1)) c g h i))) else(none)) else(none)) else(some (-1))
def al_.f (k:Nat) (l0:List (aa_)) (a1_0:Int) (a1_1:Int) (l1_2:List (aa_)) (l1_3:List (aa_)):Option (Int):=al_.l0 k l0 (l0.length:Int) 0 a1_0 a1_1 l1_2 l1_3
theorem al_.calls (k:Nat) (A0:Option Addr) (c0:Nat) (l0:List (aa_)) (g1_0_:Nat) (j:Int) (l:Int) (o:Option Addr) (p:Nat) (g:List (aa_)) (q:Option Addr) (s:Nat) (i:List (aa_)) (r:Int) (w:World) (K:Kd.C ad_ w A0 l0.length l0) (M:l0.length≤c0) (t:Kd.C ad_ w o g.length g) (u:g.length≤p) (v:Kd.C ad_ w q i.length i) (x:i.length≤s) (hkg1_0_:w.heap[g1_0_]? = some (.cells #[.int .i64 j,.int .i64 l,.slice o g.length p,.slice q i.length s] 29 (0,0))) (h:al_.f k l0 j l g i=some r) :
  Calls Tryz.prog 122 #[.slice A0 l0.length c0,.func (.func 67) #[] #[.pointer (some ⟨g1_0_,0,none⟩)]] w fun e w'=>e=.returned (.int .i64 r)∧Below w.heap.size w w':=by
 have hu93:=Tryz.underlying93;have N:=AM K;have W:=AM M;clear K M;have y:=AM t;have z:=AM u;clear t u;have A:=AM v;have B:=AM x;clear v x;have BKrg1_0_:=AM hkg1_0_;clear hkg1_0_;have HB:=AM (Below.refl w.heap.size w);have H:(al_.l0 k l0 (l0.length:Int) 0 j l g i)=some r:=h;clear h;have H':=AM H;clear H;go_enter Tryz.func122,Tryz.ntmps122;go_wp2;go_loopg [8] k (fun kq v8 w'=>∃(c:Int),v8=.int .i64 c∧Aside0 (al_.l0 kq l0 (l0.length:Int) c j l g i=some r)∧Aside0 (kq≤k)∧Aside0 (w'.heap[g1_0_]? = some (.cells #[.int .i64 j,.int .i64 l,(.slice o g.length p),(.slice q i.length s)] 29 (0,0)))∧Aside0 (Below w.heap.size w w'))
 case atStart=>exact⟨(0),TF,H',⟨Nat.le_refl _⟩,KW BKrg1_0_,⟨TB⟩⟩
 case round =>
  clear H';obtain⟨c,rfl,HA,HK1,BKrg1_0_,HB⟩:=hrel
  cases gk with
  | zero=>exact absurd HA.out (by simp[al_.l0])
  | succ k1 =>
   have H:=HA.out;clear HA;simp only[al_.l0] at H;by_cases c3:c<(l0.length:Int)
   ·rw[if_pos c3] at H;have O:=decide_eq_true c3;clear c3;obtain⟨c4,H⟩:=ifn H;have U:=decide_eq_true c4;clear c4;obtain⟨c5,H⟩:=ifn H;have V:=decide_eq_true c5;clear c5;obtain⟨R,A6,H⟩:=bnd H;by_cases c7:R=true
    ·subst c7;replace H:=ift H;obtain rfl:=Option.some.inj H;have m:0≤(c:Int):=TD;have n:c<(l0.length:Int):=TD;obtain⟨J,D,E,F,G,I⟩:=aK_ (Kd.af_ N.out HB.out) c m n;cases D;replace m:=eq_true m;replace n:=eq_true n;go_wp2_with (first|(go_at_call 67;(with_reducible refine(ck_.calls k1 ((a_ l0 c).f0) ((a_ l0 c).f1) ((a_ l0 c).f2) ((a_ l0 c).f3) g1_0_ j l o p g q s i true _ ?side1 ?side2 ?side3 ?side4 ?side5 A6.out).mono ?_);(case side1=>exact CW ((Kd.af_ y.out HB.out)));(case side2=>exact z.out);(case side3=>exact CW ((Kd.af_ A.out HB.out)));(case side4=>exact B.out);(case side5=>exact(KW BKrg1_0_).out);rintro e w8 ⟨rfl,hb⟩;replace BKrg1_0_:=KB BKrg1_0_ hb;replace HB:=BS hb;clear hb));go_ret;exact⟨TE,TB⟩
    ·replace c7:=Bool.eq_false_iff.mpr c7;subst c7;replace H:=iff' H;have H':=AM H;clear H;have m:0≤(c:Int):=TD;have n:c<(l0.length:Int):=TD;obtain⟨J,D,E,F,G,I⟩:=aK_ (Kd.af_ N.out HB.out) c m n;cases D;replace m:=eq_true m;replace n:=eq_true n;go_wp2_with (first|(go_at_call 67;(with_reducible refine(ck_.calls k1 ((a_ l0 c).f0) ((a_ l0 c).f1) ((a_ l0 c).f2) ((a_ l0 c).f3) g1_0_ j l o p g q s i false _ ?side1 ?side2 ?side3 ?side4 ?side5 A6.out).mono ?_);(case side1=>exact CW ((Kd.af_ y.out HB.out)));(case side2=>exact z.out);(case side3=>exact CW ((Kd.af_ A.out HB.out)));(case side4=>exact B.out);(case side5=>exact(KW BKrg1_0_).out);rintro e w9 ⟨rfl,hb⟩;replace BKrg1_0_:=KB BKrg1_0_ hb;replace HB:=BS hb;clear hb));go_roundg k1
     case measure=>have:=HK1.out;omega
     case rel=>exact⟨(wrap64 (c+1)),TF,H',⟨TM⟩,KW BKrg1_0_,⟨TB⟩⟩
   ·rw[if_neg c3] at H;have O:=decide_eq_false c3;clear c3;obtain rfl:=Option.some.inj H;go_wp2;go_ret;exact⟨TE,TB⟩
end
section
def aI_.f (k:Nat) (l0:List (aa_)) (a1_0:Int) (a1_1:Int) (l1_2:List (aa_)) (l1_3:List (aa_)):Option (Bool):=(al_.f k l0 a1_0 a1_1 l1_2 l1_3).bind fun t404=>(some (decide (t404≥0)))
theorem aI_.calls (k:Nat) (A0:Option Addr) (c0:Nat) (l0:List (aa_)) (g1_0_:Nat) (i:Int) (j:Int) (l:Option Addr) (m:Nat) (c:List (aa_)) (n:Option Addr) (o:Nat) (g:List (aa_)) (r:Bool) (w:World) (A:Kd.C ad_ w A0 l0.length l0) (B:l0.length≤c0) (p:Kd.C ad_ w l c.length c) (q:c.length≤m) (s:Kd.C ad_ w n g.length g) (t:g.length≤o) (hkg1_0_:w.heap[g1_0_]? = some (.cells #[.int .i64 i,.int .i64 j,.slice l c.length m,.slice n g.length o] 29 (0,0))) (h:aI_.f k l0 i j c g=some r) :
  Calls Tryz.prog 66 #[.slice A0 l0.length c0,.func (.func 67) #[] #[.pointer (some ⟨g1_0_,0,none⟩)]] w fun e w'=>e=.returned (.bool r)∧Below w.heap.size w w':=by
 have D:=AM A;have E:=AM B;clear A B;have v:=AM p;have x:=AM q;clear p q;have y:=AM s;have z:=AM t;clear s t;have BKrg1_0_:=AM hkg1_0_;clear hkg1_0_;have HB:=AM (Below.refl w.heap.size w);have H:((al_.f k l0 i j c g).bind fun u=>(some (decide (u≥0))))=some r:=h;clear h;obtain⟨u,A3,H⟩:=bnd H;obtain rfl:=Option.some.inj H;go_enter Tryz.func66,Tryz.ntmps66;go_wp2_with (first|((with_reducible refine ac_ (f:=122) rfl ?_);refine goesL_ (some 7) rfl rfl Tryz.func122 KR rfl #[.slice A0 l0.length c0,.func (.func 67) #[] #[.pointer (some ⟨g1_0_,0,none⟩)]] rfl TA ?_;(with_reducible refine(al_.calls k _ _ l0 g1_0_ i j l m c n o g u _ ?side1 ?side2 ?side3 ?side4 ?side5 ?side6 ?side7 A3.out).mono ?_);(case side1=>exact CW (D.out));(case side2=>exact E.out);(case side3=>exact CW (v.out));(case side4=>exact x.out);(case side5=>exact CW (y.out));(case side6=>exact z.out);(case side7=>exact(KW BKrg1_0_).out);rintro e w4 ⟨rfl,hb⟩;refine⟨_,rfl,?_⟩;replace BKrg1_0_:=KB BKrg1_0_ hb;replace HB:=BS hb;clear hb));go_ret;exact⟨TE,TB⟩
end
section
def bA_.f (k:Nat) (a0_0:Int) (a0_1:Int) (l0_2:List (aa_)) (l0_3:List (aa_)):Option (Bool):=(impl_isDiff.f k a0_0 a0_1 l0_2 l0_3).bind fun t406=>(if t406=true then((aI_.f k l0_2 a0_0 a0_1 l0_2 l0_3).bind fun t407=>(some (!t407))) else(some false))
theorem bA_.calls (k:Nat) (j:Int) (l:Int) (m:Option Addr) (n:Nat) (c:List (aa_)) (o:Option Addr) (p:Nat) (i:List (aa_)) (r:Bool) (w:World) (v:Kd.C ad_ w m c.length c) (x:c.length≤n) (y:Kd.C ad_ w o i.length i) (z:i.length≤p) (hG_:Glob w) (h:bA_.f k j l c i=some r) :
  Calls Tryz.prog 18 #[.agg #[.int .i64 j,.int .i64 l,.slice m c.length n,.slice o i.length p]] w fun e w'=>e=.returned (.bool r)∧Below w.heap.size w w':=by
 have hu29:=Tryz.underlying29;have q:=AM v;have s:=AM x;clear v x;have t:=AM y;have u:=AM z;clear y z;have HGL:=AM hG_;clear hG_;have HB:=AM (Below.refl w.heap.size w);have H:((impl_isDiff.f k j l c i).bind fun A=>(if A=true then((aI_.f k c j l c i).bind fun B=>(some (!B))) else(some false)))=some r:=h;clear h;obtain⟨A,A2,H⟩:=bnd H;by_cases c3:A=true
 ·subst c3;replace H:=ift H;obtain⟨B,A4,H⟩:=bnd H;obtain rfl:=Option.some.inj H;go_enter Tryz.func18,Tryz.ntmps18;go_wp2_with (first|((with_reducible refine aj_ (N:=1) rfl ?_);refine bE 1 #[.int .i64 j,.int .i64 l,.slice m c.length n,.slice o i.length p] 29 ?_;intro D hg w5 hbox hb;have g:=AM (hbox);have E:=bG hg;replace HB:=BS hb;clear hb hbox hg;have G:=cz4 g)|((with_reducible refine ac_ (f:=65) rfl ?_);refine goesL_ (some 4) rfl rfl Tryz.func65 KR rfl #[.agg #[.int .i64 j,.int .i64 l,.slice m c.length n,.slice o i.length p]] rfl TA ?_;(with_reducible refine(impl_isDiff.calls k j l _ _ c _ _ i true _ ?side1 ?side2 ?side3 ?side4 ?side5 A2.out).mono ?_);(case side1=>exact CW ((Kd.af_ q.out HB.out)));(case side2=>exact s.out);(case side3=>exact CW ((Kd.af_ t.out HB.out)));(case side4=>exact u.out);(case side5=>exact GW HGL);rintro e w7 ⟨rfl,hb⟩;refine⟨_,rfl,?_⟩;replace g:=KB g hb;replace HB:=BS hb;clear hb;have I:=cz4 g)|(go_at_call 66;(with_reducible refine(aI_.calls k _ _ c D j l m n c o p i B _ ?side1 ?side2 ?side3 ?side4 ?side5 ?side6 ?side7 A4.out).mono ?_);(case side1=>exact CW ((Kd.af_ q.out HB.out)));(case side2=>exact s.out);(case side3=>exact CW ((Kd.af_ q.out HB.out)));(case side4=>exact s.out);(case side5=>exact CW ((Kd.af_ t.out HB.out)));(case side6=>exact u.out);(case side7=>exact(KW g).out);rintro e w9 ⟨rfl,hb⟩;replace g:=KB g hb;replace HB:=BS hb;clear hb));go_ret;exact⟨TE,TB⟩
 ·replace c3:=Bool.eq_false_iff.mpr c3;subst c3;replace H:=iff' H;obtain rfl:=Option.some.inj H;go_enter Tryz.func18,Tryz.ntmps18;go_wp2_with (first|((with_reducible refine aj_ (N:=1) rfl ?_);refine bE 1 #[.int .i64 j,.int .i64 l,.slice m c.length n,.slice o i.length p] 29 ?_;intro D hg J hbox hb;have g:=AM (hbox);have E:=bG hg;replace HB:=BS hb;clear hb hbox hg;have F:=cz4 g)|((with_reducible refine ac_ (f:=65) rfl ?_);refine goesL_ (some 4) rfl rfl Tryz.func65 KR rfl #[.agg #[.int .i64 j,.int .i64 l,.slice m c.length n,.slice o i.length p]] rfl TA ?_;(with_reducible refine(impl_isDiff.calls k j l _ _ c _ _ i false _ ?side1 ?side2 ?side3 ?side4 ?side5 A2.out).mono ?_);(case side1=>exact CW ((Kd.af_ q.out HB.out)));(case side2=>exact s.out);(case side3=>exact CW ((Kd.af_ t.out HB.out)));(case side4=>exact u.out);(case side5=>exact GW HGL);rintro e K ⟨rfl,hb⟩;refine⟨_,rfl,?_⟩;replace g:=KB g hb;replace HB:=BS hb;clear hb));go_ret;exact⟨TE,TB⟩
end
section
def bb_.l0:Nat→List (aa_)→List (aa_)→List (aa_)→Int→Int→Option ((List (aa_)))
 | 0,_,_,_,_,_=>none
 | k+1,x1,x5,x9,g,c=>if c<g then(if 0≤c then(if c<(x9.length:Int) then((a0_.f k x1 ((a_ x9 c).f0) ((a_ x9 c).f1) ((a_ x9 c).f2) ((a_ x9 c).f3)).bind fun h=>(if h=true then(bb_.l0 k x1 x5 x9 g (wrap64 (c+1))) else(if x5.length<2932031007402 then(bb_.l0 k x1 (x5++[(⟨(a_ x9 c).f0,(a_ x9 c).f1,(a_ x9 c).f2,(a_ x9 c).f3⟩:aa_)]) x9 g (wrap64 (c+1))) else(none)))) else(none)) else(none)) else(some x5)
def bb_.f (k:Nat) (l0:List (aa_)) (l1:List (aa_)):Option ((List (aa_))):=bb_.l0 k l1 (([]:List (aa_))) l0 (l0.length:Int) 0
theorem bb_.calls (k:Nat) (A0:Option Addr) (c0:Nat) (l0:List (aa_)) (A1:Option Addr) (c1:Nat) (l1:List (aa_)) (r:List (aa_)) (w:World) (K:Kd.C ad_ w A0 l0.length l0) (M:l0.length≤c0) (O:Kd.C ad_ w A1 l1.length l1) (U:l1.length≤c1) (h:bb_.f k l0 l1=some r) :
  Calls Tryz.prog 101 #[.slice A0 l0.length c0,.slice A1 l1.length c1] w fun e w'=>∃v0_:Value,e=.returned (v0_)∧Kd.R ad_ 93 w' w.heap.size (fun _=>True) v0_ r∧Below w.heap.size w w':=by
 have hu93:=Tryz.underlying93;have V:=AM K;have ai:=AM M;clear K M;have W:=AM O;have X:=AM U;clear O U;have HB:=AM (Below.refl w.heap.size w);have H:(bb_.l0 k l1 (([]:List (aa_))) l0 (l0.length:Int) 0)=some r:=h;clear h;obtain⟨A,q⟩:∃y_:List (aa_),y_=(([]:List (aa_))):=⟨_,rfl⟩
 replace H:(bb_.l0 k l1 A l0 (l0.length:Int) 0)=some r:=by first|(rw[q];with_reducible exact H)|(have H2_:=(Option.bind_some _ _).symm.trans H;rw[q];with_reducible exact H2_)|(have H2_:=(Option.bind_some _ _).symm.trans H;with_reducible exact H2_)|with_reducible exact H|(rw[q];exact H)|exact H
 have Ny1256:=AM q;clear q;have H':=AM H;clear H;go_enter Tryz.func101,Tryz.ntmps101;go_wp2_with (first|((with_reducible refine aj_ (N:=8) rfl ?_);refine Kd.R_lit ad_ _ 93 ?hg (N:=8) ?hd (xs:=([]:List (aa_))) (inner:=[]) (ok:=fun _=>True) (okp:=fun _=>True) ?hr ?hp (fun _ hk=>hk) trivial (Below.refl _ _) (Nat.le_refl _) (by simp) ?_;(case hd=>rfl);(case hg=>rfl);(case hr=>first|(go_simp;done)|(go_simp;rfl));(case hp=>exact(Reps.none _ _));intro aa w3 B hb hg_ hnew_;clear hg_ hnew_;(first|rw[←Ny1256.out] at B|(simp only[Int.reduceToNat] at B;rw[←Ny1256.out] at B));have E:=RL B;replace HB:=BS hb;clear hb B));go_loopg [5,11] k (fun kq v5 ab w'=>∃(t:List (aa_)) (c:Int),ab=.int .i64 c∧Aside0 (bb_.l0 kq l1 t l0 (l0.length:Int) c=some r)∧Aside0 (kq≤k)∧Aside0 (Kd.R ad_ 93 w' w.heap.size (fun _=>True) v5 t)∧Aside0 (Below w.heap.size w w'))
 case atStart=>exact⟨(A),(0),TF,H',⟨Nat.le_refl _⟩,RW E,⟨TB⟩⟩
 case round =>
  clear H';obtain⟨t,c,rfl,HA,HK1,l,HB⟩:=hrel
  cases gk with
  | zero=>exact absurd HA.out (by simp[bb_.l0])
  | succ k1 =>
   have H:=HA.out;clear HA;simp only[bb_.l0] at H;by_cases c5:c<(l0.length:Int)
   ·rw[if_pos c5] at H;have Y:=decide_eq_true c5;clear c5;obtain⟨c6,H⟩:=ifn H;have ag:=decide_eq_true c6;clear c6;obtain⟨c7,H⟩:=ifn H;have ah:=decide_eq_true c7;clear c7;obtain⟨J,A8,H⟩:=bnd H;by_cases c9:J=true
    ·subst c9;replace H:=ift H;have H':=AM H;clear H;have m:0≤(c:Int):=TD;have n:c<(l0.length:Int):=TD;obtain⟨F,u,v,x,y,z⟩:=aK_ (Kd.af_ V.out HB.out) c m n;cases u;replace m:=eq_true m;replace n:=eq_true n;go_wp2_with (first|((with_reducible refine aj_ (N:=7) rfl ?_);refine bE 7 #[.string (⟨#[]⟩:ByteArray),.int .i64 0,.int .i64 0,.string (⟨#[]⟩:ByteArray)] 93 ?_;intro i hg aj hbox hb;replace l:=AM (Kd.bR_ (Kd.R_elderB (RW l).out i (Nat.le_of_eq hg.symm)) hb);have j:=AM (hbox);have G:=bG hg;replace HB:=BS hb;clear hb hbox hg;have ac:=cz4 j)|((with_reducible refine ac_ (f:=68) rfl ?_);refine goesL_ (some 17) rfl rfl Tryz.func68 KR rfl #[.slice A1 l1.length c1,.agg #[.string ((a_ l0 c).f0),.int .i64 ((a_ l0 c).f1),.int .i64 ((a_ l0 c).f2),.string ((a_ l0 c).f3)]] rfl TA ?_;(with_reducible refine(a0_.calls k1 _ _ l1 ((a_ l0 c).f0) ((a_ l0 c).f1) ((a_ l0 c).f2) ((a_ l0 c).f3) true _ ?side1 ?side2 A8.out).mono ?_);(case side1=>exact Kd.af_ W.out TB);(case side2=>exact X.out);rintro e ak ⟨rfl,hb⟩;refine⟨_,rfl,?_⟩;replace l:=AM (Kd.bR_ (by(with_reducible repeat (first|apply Kd.a6_|apply Kd.a7_|apply Kd.ar_));exact(Kd.ay_ (Kd.bj_ (p:=⟨i,3,none⟩) (Kd.bj_ (p:=⟨i,2,none⟩) (Kd.bj_ (p:=⟨i,1,none⟩) (Kd.bj_ (p:=⟨i,0,none⟩) (Kd.ay_ l.out (fun k_ hk=>(⟨hk,hk.2⟩:_∧k_≠i))) (fun _ hk=>hk.2) (.string ((a_ l0 c).f0))) (fun _ hk=>hk.2) (.int .i64 ((a_ l0 c).f1))) (fun _ hk=>hk.2) (.int .i64 ((a_ l0 c).f2))) (fun _ hk=>hk.2) (.string ((a_ l0 c).f3))) (fun _ h_=>h_.1))) hb);replace j:=KP j #[.string ((a_ l0 c).f0),.int .i64 ((a_ l0 c).f1),.int .i64 ((a_ l0 c).f2),.string ((a_ l0 c).f3)] hb;replace HB:=BS hb;clear hb));go_roundg k1
     case measure=>have:=HK1.out;omega
     case rel=>exact⟨(t),(wrap64 (c+1)),TF,H',⟨TM⟩,⟨by(with_reducible repeat (first|apply Kd.a6_|apply Kd.a7_|apply Kd.ar_));exact Kd.ay_ l.out (fun _ hk=>trivial)⟩,⟨TB⟩⟩
    ·replace c9:=Bool.eq_false_iff.mpr c9;subst c9;replace H:=iff' H;obtain⟨Z,H⟩:=ifn H;have LMc13:=AM Z;clear Z;obtain⟨D,s⟩:∃y_:List (aa_),y_=(t++[(⟨(a_ l0 c).f0,(a_ l0 c).f1,(a_ l0 c).f2,(a_ l0 c).f3⟩:aa_)]):=⟨_,rfl⟩
     replace H:(bb_.l0 k1 l1 D l0 (l0.length:Int) (wrap64 (c+1)))=some r:=by first|(rw[s];with_reducible exact H)|(have H2_:=(Option.bind_some _ _).symm.trans H;rw[s];with_reducible exact H2_)|(have H2_:=(Option.bind_some _ _).symm.trans H;with_reducible exact H2_)|with_reducible exact H|(rw[s];exact H)|exact H
     have Ny1262:=AM s;clear s;have H':=AM H;clear H;have m:0≤(c:Int):=TD;have n:c<(l0.length:Int):=TD;obtain⟨F,u,v,x,y,z⟩:=aK_ (Kd.af_ V.out HB.out) c m n;cases u;replace m:=eq_true m;replace n:=eq_true n;go_wp2_with (first|((with_reducible refine aj_ (N:=7) rfl ?_);refine bE 7 #[.string (⟨#[]⟩:ByteArray),.int .i64 0,.int .i64 0,.string (⟨#[]⟩:ByteArray)] 93 ?_;intro i hg al hbox hb;replace l:=AM (Kd.bR_ (Kd.R_elderB (RW l).out i (Nat.le_of_eq hg.symm)) hb);have j:=AM (hbox);have G:=bG hg;replace HB:=BS hb;clear hb hbox hg;have ad:=cz4 j)|((with_reducible refine ac_ (f:=68) rfl ?_);refine goesL_ (some 17) rfl rfl Tryz.func68 KR rfl #[.slice A1 l1.length c1,.agg #[.string ((a_ l0 c).f0),.int .i64 ((a_ l0 c).f1),.int .i64 ((a_ l0 c).f2),.string ((a_ l0 c).f3)]] rfl TA ?_;(with_reducible refine(a0_.calls k1 _ _ l1 ((a_ l0 c).f0) ((a_ l0 c).f1) ((a_ l0 c).f2) ((a_ l0 c).f3) false _ ?side1 ?side2 A8.out).mono ?_);(case side1=>exact Kd.af_ W.out TB);(case side2=>exact X.out);rintro e am ⟨rfl,hb⟩;refine⟨_,rfl,?_⟩;replace l:=AM (Kd.bR_ (by(with_reducible repeat (first|apply Kd.a6_|apply Kd.a7_|apply Kd.ar_));exact(Kd.ay_ (Kd.bj_ (p:=⟨i,3,none⟩) (Kd.bj_ (p:=⟨i,2,none⟩) (Kd.bj_ (p:=⟨i,1,none⟩) (Kd.bj_ (p:=⟨i,0,none⟩) (Kd.ay_ l.out (fun k_ hk=>(⟨hk,hk.2⟩:_∧k_≠i))) (fun _ hk=>hk.2) (.string ((a_ l0 c).f0))) (fun _ hk=>hk.2) (.int .i64 ((a_ l0 c).f1))) (fun _ hk=>hk.2) (.int .i64 ((a_ l0 c).f2))) (fun _ hk=>hk.2) (.string ((a_ l0 c).f3))) (fun _ h_=>h_.1))) hb);replace j:=KP j #[.string ((a_ l0 c).f0),.int .i64 ((a_ l0 c).f1),.int .i64 ((a_ l0 c).f2),.string ((a_ l0 c).f3)] hb;replace HB:=BS hb;clear hb;have ae:=cz4 j)|((with_reducible refine bN_ (b:=.append) (xs:=#[.tmp 19,.tmp 21]) rfl ?_);at_builtin;refine Kd.R_append ad_ (w0:=w) w.heap.size rfl (.tmp 19) (.tmp 21) 27 93 (.agg #[(.string ⟨#[]⟩),(.int .i64 0),(.int .i64 0),(.string ⟨#[]⟩)]) 48 rfl Tryz.underlying27 info93 rfl (by decide) (by omega) u5 t (⟨(a_ l0 c).f0,(a_ l0 c).f1,(a_ l0 c).f2,(a_ l0 c).f3⟩:aa_) [.string ((a_ l0 c).f0),.int .i64 ((a_ l0 c).f1),.int .i64 ((a_ l0 c).f2),.string ((a_ l0 c).f3)] (fun k_=>k_≠i) (fun _=>False) rfl rfl ?aP (fun _ hk=>hk.elim) ?aF ?aO ?aB ?aS ?aL ?_;(case aP=>exact bW_ _ _ _ (⟨(a_ l0 c).f0,(a_ l0 c).f1,(a_ l0 c).f2,(a_ l0 c).f3⟩:aa_));(case aB=>exact TB);(case aF=>exact(fun k_ hk=>Kd.freshB (g:=i) (o:=.cells #[.string ((a_ l0 c).f0),.int .i64 ((a_ l0 c).f1),.int .i64 ((a_ l0 c).f2),.string ((a_ l0 c).f3)] 93 (0,0)) (KW j).out k_ hk));(case aO=>exact(MO l).out);(case aS=>exact(b0_ TB));(case aL=>have:=LMc13.out;omega);intro af an ho hb hg hat;rw[←Ny1262.out] at ho;have n0_:=AM (blk_grown (g:=i) (o:=.cells #[.string ((a_ l0 c).f0),.int .i64 ((a_ l0 c).f1),.int .i64 ((a_ l0 c).f2),.string ((a_ l0 c).f3)] 93 (0,0)) (KW j).out hg (Kd.R_away l.out (fun _ hk=>hk.2)));have n1_:=AM (hb);have n2_:=AM (ho);clear j HB l;have j:=n0_;have HB:=n1_;have I:=n2_;clear n0_ n1_ n2_ ho hb hg hat));go_roundg k1
     case measure=>have:=HK1.out;omega
     case rel=>exact⟨(D),(wrap64 (c+1)),TF,H',⟨TM⟩,⟨by(with_reducible repeat (first|apply Kd.a6_|apply Kd.a7_|apply Kd.ar_));exact Kd.ay_ I.out (fun _ hk=>trivial)⟩,⟨TB⟩⟩
   ·rw[if_neg c5] at H;have Y:=decide_eq_false c5;clear c5;obtain rfl:=Option.some.inj H;go_wp2;go_ret;exact⟨_,TE,(RW l).out,TB⟩
end
section
def bq_.f (l0:List (aa_)):Option ((List (aa_))):=(some (([]:List (aa_)):List (aa_))).bind fun y408=>(if y408.length+l0.length<2932031007402 then(some (y408++l0)) else(none))
theorem bq_.calls (A0:Option Addr) (c0:Nat) (l0:List (aa_)) (r:List (aa_)) (w:World) (n:Kd.C ad_ w A0 l0.length l0) (o:l0.length≤c0) (h:bq_.f l0=some r) :
  Calls Tryz.prog 125 #[.slice A0 l0.length c0] w fun e w'=>∃v0_:Value,e=.returned (v0_)∧Kd.R ad_ 93 w' w.heap.size (fun _=>True) v0_ r∧Below w.heap.size w w':=by
 have p:=AM n;have u:=AM o;clear n o;have HB:=AM (Below.refl w.heap.size w);have H:((some (([]:List (aa_)):List (aa_))).bind fun c=>(if c.length+l0.length<2932031007402 then(some (c++l0)) else(none)))=some r:=h;clear h
 cases A0 with
 | none =>
  have hz_:l0=[]:=Kd.C_none_nil p.out;subst hz_
  have hnq_:∀W,(Go.binOp .eql 27 (.slice none 0 c0) (.slice none 0 0)).run Tryz.prog W=.ok (.bool true) W:=fun W=>Go.Lib.run_eql_slice_nil W 27 93 none 0 c0 0 0 Tryz.underlying27
  replace H:(some ([]:List (aa_)))=some r:=by simpa using H
  obtain rfl:=Option.some.inj H;go_enter Tryz.func125,Tryz.ntmps125;go_wp2;go_ret;exact⟨_,TE,TZ,TB⟩
 | some adq_ =>
  have hnq_:∀W,(Go.binOp .eql 27 (.slice (some adq_) l0.length c0) (.slice none 0 0)).run Tryz.prog W=.ok (.bool false) W:=fun W=>Go.Lib.run_eql_slice_nil W 27 93 (some adq_) l0.length c0 0 0 Tryz.underlying27
  obtain⟨c,g⟩:∃y_:List (aa_),y_=(([]:List (aa_))):=⟨_,rfl⟩
  replace H:(if c.length+l0.length<2932031007402 then(some (c++l0)) else(none))=some r:=by first|(rw[g];with_reducible exact H)|(have H2_:=(Option.bind_some _ _).symm.trans H;rw[g];with_reducible exact H2_)|(have H2_:=(Option.bind_some _ _).symm.trans H;with_reducible exact H2_)|with_reducible exact H|(rw[g];exact H)|exact H
  have Ny408:=AM g;clear g;obtain⟨c2,H⟩:=ifn H;have LMc2:=AM c2;clear c2;obtain⟨q,i⟩:∃y_:List (aa_),y_=(c++l0):=⟨_,rfl⟩
  replace H:(some q)=some r:=by first|(rw[i];with_reducible exact H)|(have H2_:=(Option.bind_some _ _).symm.trans H;rw[i];with_reducible exact H2_)|(have H2_:=(Option.bind_some _ _).symm.trans H;with_reducible exact H2_)|with_reducible exact H|(rw[i];exact H)|exact H
  have Ny411:=AM i;clear i;obtain rfl:=Option.some.inj H;go_enter Tryz.func125,Tryz.ntmps125;go_wp2_with (first|((with_reducible refine aj_ (N:=5) rfl ?_);refine Kd.R_lit ad_ _ 93 ?hg (N:=5) ?hd (xs:=([]:List (aa_))) (inner:=[]) (ok:=fun _=>True) (okp:=fun _=>True) ?hr ?hp (fun _ hk=>hk) trivial (Below.refl _ _) (Nat.le_refl _) (by simp) ?_;(case hd=>rfl);(case hg=>rfl);(case hr=>first|(go_simp;done)|(go_simp;rfl));(case hp=>exact(Reps.none _ _));intro s w3 j hb hg_ hnew_;clear hg_ hnew_;(first|rw[←Ny408.out] at j|(simp only[Int.reduceToNat] at j;rw[←Ny408.out] at j));have l:=RL j;replace HB:=BS hb;clear hb j)|((with_reducible refine bN_ (b:=.append) (xs:=#[.tmp 5,.tmp 6]) rfl ?_);at_builtin;refine Kd.R_append_rows ad_ (w0:=w) w.heap.size rfl (.tmp 5) (.tmp 6) 27 93 (.agg #[(.string ⟨#[]⟩),(.int .i64 0),(.int .i64 0),(.string ⟨#[]⟩)]) 48 rfl Tryz.underlying27 info93 rfl (by decide) (by omega) s c l0 _ _ _ (fun _=>True) (fun _=>False) rfl rfl ?aO ?aR (fun _ _ h=>h) (fun _ h=>h.elim) ?aF ?aB ?aS ?aL ?_;(case aR=>repeat (first|exact(Kd.af_ p.out HB.out)|(with_reducible refine Kd.C_alloc ?_ _)|(with_reducible refine Kd.C_drewN ?_ _)|(with_reducible refine Kd.C_drew ?_)));(case aB=>exact TB);(case aF=>exact(fun _ _=>trivial));(case aO=>exact(RW l).out);(case aS=>exact(b0_ TB));(case aL=>have:=LMc2.out;omega);intro t w5 ho hb hg hat;rw[←Ny411.out] at ho;have n0_:=AM (hb);have n1_:=AM (ho);clear HB l;have HB:=n0_;have m:=n1_;clear n0_ n1_ ho hb hg hat));go_ret;exact⟨_,TE,(RW m).out,TB⟩
end
section
def ab_.l0:Nat→List (aa_)→Int→Int→Int→ByteArray→Int→Int→ByteArray→Option (Int × Bool)
 | 0,_,_,_,_,_,_,_,_=>none
 | k+1,x0,x8,x9,j,c,g,h,i=>if x9<j then(if 0≤(wrap64 ((IntKind.u64.wrap (wrap64 (x9+j))) / 2)) then(if (wrap64 ((IntKind.u64.wrap (wrap64 (x9+j))) / 2))<(x0.length:Int) then((aR_.f k ((a_ x0 (wrap64 ((IntKind.u64.wrap (wrap64 (x9+j))) / 2))).f0) ((a_ x0 (wrap64 ((IntKind.u64.wrap (wrap64 (x9+j))) / 2))).f1) ((a_ x0 (wrap64 ((IntKind.u64.wrap (wrap64 (x9+j))) / 2))).f2) ((a_ x0 (wrap64 ((IntKind.u64.wrap (wrap64 (x9+j))) / 2))).f3) c g h i).bind fun l=>(if l<0 then(ab_.l0 k x0 x8 (wrap64 ((wrap64 ((IntKind.u64.wrap (wrap64 (x9+j))) / 2))+1)) j c g h i) else(ab_.l0 k x0 x8 x9 (wrap64 ((IntKind.u64.wrap (wrap64 (x9+j))) / 2)) c g h i))) else(none)) else(none)) else(if x9<x8 then(if 0≤x9 then(if x9<(x0.length:Int) then((aR_.f k ((a_ x0 x9).f0) ((a_ x0 x9).f1) ((a_ x0 x9).f2) ((a_ x0 x9).f3) c g h i).bind fun m=>(some (x9,(m==0)))) else(none)) else(none)) else(some (x9,false)))
def ab_.f (k:Nat) (l0:List (aa_)) (a1_0:ByteArray) (a1_1:Int) (a1_2:Int) (a1_3:ByteArray)  : Option (Int × Bool):=ab_.l0 k l0 (l0.length:Int) 0 (l0.length:Int) a1_0 a1_1 a1_2 a1_3
def ab_.T5:Bool × List (List Nat × List Nat):=(true,[([],[]),([],[]),([],[]),([1,2],[1,2]),([3],[3]),([],[]),([0,4,5],[0,4,5]),([6],[6])])
def ab_.B5:List Nat:=[0,0,0,6,14,0,63,127]
theorem ab_.tab5:rtab .any (opsOf Tryz.f173 5)=ab_.T5:=by kernel_rfl
theorem ab_.bits5:waitsOk ab_.T5.2 ab_.B5=true:=by kernel_rfl
def ab_.T8:Bool × List (List Nat × List Nat):=(true,[([],[]),([],[]),([],[]),([1,2],[1,2]),([3],[3]),([4],[4]),([4],[4]),([4],[4]),([6,7,4],[4,6,7]),([8,4],[4,8]),([4],[4]),([5,9,10,4,4],[4,5,9,10]),([11,4],[4,11]),([4,12],[4,12]),([0,11,0],[0]),([13,14,0,1,2,3,4,5,6,7,8,9,10,11,12,13,14],[13])])
def ab_.B8:List Nat:=[0,0,0,6,14,30,30,30,222,478,30,2046,4094,8190,4095,32767]
theorem ab_.tab8:rtab .any (opsOf Tryz.f173 8)=ab_.T8:=by kernel_rfl
theorem ab_.bits8:waitsOk ab_.T8.2 ab_.B8=true:=by kernel_rfl
theorem ab_.calls (k:Nat) (A0:Option Addr) (c0:Nat) (l0:List (aa_)) (y:ByteArray) (z:Int) (A:Int) (B:ByteArray)  (r1:Int) (r2:Bool) (w:World) (ah:Kd.C ad_ w A0 l0.length l0) (ai:l0.length≤c0) (hG_:Glob w) (h:ab_.f k l0 y z A B=some (r1,r2)) :
  Calls Tryz.prog 173 #[.slice A0 l0.length c0,.agg #[.string y,.int .i64 z,.int .i64 A,.string B],.func (.func 163) #[] #[]] w fun e w'=>e=.returned (.tuple #[.int .i64 r1,.bool r2])∧Below w.heap.size w w':=by
 have hu93:=Tryz.underlying93;have ac:=AM ah;have av:=AM ai;clear ah ai;have HGL:=AM hG_;clear hG_;have HB:=AM (Below.refl w.heap.size w);have H:(ab_.l0 k l0 (l0.length:Int) 0 (l0.length:Int) y z A B)=some (r1,r2):=h;clear h;have H':=AM H;clear H;go_enter Tryz.func173,Tryz.ntmps173;go_wp2_with (first|((with_reducible refine aj_ (N:=4) rfl ?_);refine bE 4 #[.string y,.int .i64 z,.int .i64 A,.string B] 93 ?_;intro m hg w4 hbox hb;have c:=AM (hbox);have am:=bG hg;replace HB:=BS hb;clear hb hbox hg));go_loopg [9,10] k (fun kq v9 an w'=>∃(j:Int) (E:Int),v9=.int .i64 j∧an=.int .i64 E∧Aside0 (ab_.l0 kq l0 (l0.length:Int) j E y z A B=some (r1,r2))∧Aside0 (kq≤k)∧Aside0 (w'.heap[m]? = some (.cells #[.string y,.int .i64 z,.int .i64 A,.string B] 93 (0,0)))∧Aside0 (Below w.heap.size w w'))
 case atStart=>exact⟨(0),((l0.length:Int)),TF,TF,H',⟨Nat.le_refl _⟩,KW c,⟨TB⟩⟩
 case round =>
  clear H';obtain⟨j,E,rfl,rfl,HA,HK1,c,HB⟩:=hrel
  cases gk with
  | zero=>exact absurd HA.out (by simp[ab_.l0])
  | succ k1 =>
   have H:=HA.out;clear HA;simp only[ab_.l0] at H;by_cases c5:j<E
   ·rw[if_pos c5] at H;have aj:=decide_eq_true c5;clear c5;obtain⟨g,hji6⟩:∃j_:Int,(wrap64 ((IntKind.u64.wrap (wrap64 (j+E))) / 2))=j_:=⟨_,rfl⟩
    replace H:(if 0≤(g) then(if (g)<(l0.length:Int) then((aR_.f k1 ((a_ l0 (g)).f0) ((a_ l0 (g)).f1) ((a_ l0 (g)).f2) ((a_ l0 (g)).f3) y z A B).bind fun X=>(if X<0 then(ab_.l0 k1 l0 (l0.length:Int) (wrap64 ((g)+1)) E y z A B) else(ab_.l0 k1 l0 (l0.length:Int) j g y z A B))) else(none)) else(none))=some (r1,r2):=by first|(rw[hji6] at H;exact H)|(simp only[hji6] at H ⊢;exact H)
    have hji6w:(IntKind.i64.wrap ((IntKind.u64.wrap (wrap64 (j+E))) / 2))=g:=(bz_ _).trans hji6;obtain⟨c7,H⟩:=ifn H;have ar:=decide_eq_true c7;clear c7;obtain⟨c8,H⟩:=ifn H;have au:=decide_eq_true c8;clear c8;obtain⟨X,A9,H⟩:=bnd H;by_cases c10:X<0
    ·rw[if_pos c10] at H;have ad:=decide_eq_true c10;clear c10;have H':=AM H;clear H
     try go_wp2
     replace c:=AM (ag_ c.out);replace HB:=AM (ao_ HB.out);have V:0≤((g):Int):=TD;have W:(g)<(l0.length:Int):=TD;obtain⟨l,Y,o,p,q,s⟩:=aK_ ac.out (g) V W;have t:=s;have u:=q;have v:=p;have x:=o;cases Y;replace o:=hBc HB o;replace p:=hBc HB p;replace q:=hBc HB q;replace s:=hBc HB s;replace V:=eq_true V;replace W:=eq_true W;refine start_ (n:=8) (S:=fun w'=>w'.cell? ⟨m,0,none⟩=some (.string y)∧w'.cell? ⟨m,1,none⟩=some (.int .i64 z)∧w'.cell? ⟨m,2,none⟩=some (.int .i64 A)∧w'.cell? ⟨m,3,none⟩=some (.string B)∧w'.cell? (l.add (((g)).toNat * 4))=some (.string ((a_ l0 (g)).f0))∧w'.cell? ⟨(l.add (((g)).toNat * 4)).block,(l.add (((g)).toNat * 4)).off+1,none⟩=some (.int .i64 ((a_ l0 (g)).f1))∧w'.cell? ⟨(l.add (((g)).toNat * 4)).block,(l.add (((g)).toNat * 4)).off+2,none⟩=some (.int .i64 ((a_ l0 (g)).f2))∧w'.cell? ⟨(l.add (((g)).toNat * 4)).block,(l.add (((g)).toNat * 4)).off+3,none⟩=some (.string ((a_ l0 (g)).f3))) (ds:=[]) #[false,false,false,false,false,false,false,false] KR rfl rfl ⟨bc 0 c,bc 1 c,bc 2 c,bc 3 c,((HB.out.cell (World.block_lt_of_cell? w _ x)).trans x),((HB.out.cell (World.block_lt_of_cell? w _ v)).trans v),((HB.out.cell (World.block_lt_of_cell? w _ u)).trans u),((HB.out.cell (World.block_lt_of_cell? w _ t)).trans t)⟩ (fun hHeld=>?_);refine a2_ ab_.tab5 ab_.bits5 (fun HT_ HW_=>?_);generalize wr.drew=aw at c HB o p q s hHeld ⊢;refine pA 0 24 (mL 8 1) HT_ rfl rfl ?_;refine pA 1 25 (mL 8 3) HT_ rfl rfl ?_;refine pA 2 26 (mL 8 7) HT_ rfl rfl ?_;refine pA 3 27 (mL 8 15) HT_ rfl rfl ?_;refine tA 4 28 (mL 8 31) HT_ HW_ hHeld rfl rfl (by rintro w' ⟨s0,s1,s2,s3,s4,s5,s6,s7⟩;go_simp;with_reducible rfl) ?_;refine tA 5 29 (mL 8 63) HT_ HW_ hHeld rfl rfl (by rintro w' ⟨s0,s1,s2,s3,s4,s5,s6,s7⟩;go_simp;with_reducible rfl) ?_;refine one_ (i:=6) (N:=some 30) (mL 8 127) rfl rfl (aG_ HT_.out KR) (by decide) (fun K hK=>?_);refine goesF_ ?hv Tryz.func163 KR rfl #[.agg #[.string ((a_ l0 (g)).f0),.int .i64 ((a_ l0 (g)).f1),.int .i64 ((a_ l0 (g)).f2),.string ((a_ l0 (g)).f3)],.agg #[.string y,.int .i64 z,.int .i64 A,.string B]] (by rfl) rfl rfl (by(try simp only[List.map_toArray,List.map_cons,List.map_nil]);first|done|(simp only[hji6];rfl)|rfl|(simp only[List.length_drop,List.length_take];rfl)) ?_
     case hv=>rfl
     with_reducible refine(aR_.calls k1 ((a_ l0 (g)).f0) ((a_ l0 (g)).f1) ((a_ l0 (g)).f2) ((a_ l0 (g)).f3) y z A B X _ ?side1 A9.out).mono ?_
     (case side1=>exact GW HGL);rintro e ax ⟨rfl,hb⟩;refine⟨_,rfl,?_⟩;replace c:=KB c hb;replace HB:=BS hb;(try clear hb);refine hK.out _ _ ⟨bc 0 c,bc 1 c,bc 2 c,bc 3 c,((HB.out.cell (World.block_lt_of_cell? w _ x)).trans x),((HB.out.cell (World.block_lt_of_cell? w _ v)).trans v),((HB.out.cell (World.block_lt_of_cell? w _ u)).trans u),((HB.out.cell (World.block_lt_of_cell? w _ t)).trans t)⟩ (fun hHeld=>?_);clear hK K;refine nA ?_;refine pA 7 31 (mL 8 255) HT_ rfl rfl ?_;refine done_ (bi_ HT_.out KR) ?_
     try go_wp2
     go_roundg k1
     case measure=>have:=HK1.out;omega
     case rel=>exact⟨(wrap64 ((g)+1)),(E),(by first|rfl|(simp;done)|(simp only[←hji6]<;>(first|rfl|simp))|(simp[*];done)),TF,H',⟨TM⟩,KW c,⟨TB⟩⟩
    ·rw[if_neg c10] at H;have ad:=decide_eq_false c10;clear c10;have H':=AM H;clear H
     try go_wp2
     replace c:=AM (ag_ c.out);replace HB:=AM (ao_ HB.out);have V:0≤((g):Int):=TD;have W:(g)<(l0.length:Int):=TD;obtain⟨l,Y,o,p,q,s⟩:=aK_ ac.out (g) V W;have t:=s;have u:=q;have v:=p;have x:=o;cases Y;replace o:=hBc HB o;replace p:=hBc HB p;replace q:=hBc HB q;replace s:=hBc HB s;replace V:=eq_true V;replace W:=eq_true W;refine start_ (n:=8) (S:=fun w'=>w'.cell? ⟨m,0,none⟩=some (.string y)∧w'.cell? ⟨m,1,none⟩=some (.int .i64 z)∧w'.cell? ⟨m,2,none⟩=some (.int .i64 A)∧w'.cell? ⟨m,3,none⟩=some (.string B)∧w'.cell? (l.add (((g)).toNat * 4))=some (.string ((a_ l0 (g)).f0))∧w'.cell? ⟨(l.add (((g)).toNat * 4)).block,(l.add (((g)).toNat * 4)).off+1,none⟩=some (.int .i64 ((a_ l0 (g)).f1))∧w'.cell? ⟨(l.add (((g)).toNat * 4)).block,(l.add (((g)).toNat * 4)).off+2,none⟩=some (.int .i64 ((a_ l0 (g)).f2))∧w'.cell? ⟨(l.add (((g)).toNat * 4)).block,(l.add (((g)).toNat * 4)).off+3,none⟩=some (.string ((a_ l0 (g)).f3))) (ds:=[]) #[false,false,false,false,false,false,false,false] KR rfl rfl ⟨bc 0 c,bc 1 c,bc 2 c,bc 3 c,((HB.out.cell (World.block_lt_of_cell? w _ x)).trans x),((HB.out.cell (World.block_lt_of_cell? w _ v)).trans v),((HB.out.cell (World.block_lt_of_cell? w _ u)).trans u),((HB.out.cell (World.block_lt_of_cell? w _ t)).trans t)⟩ (fun hHeld=>?_);refine a2_ ab_.tab5 ab_.bits5 (fun HT_ HW_=>?_);generalize wr.drew=ay at c HB o p q s hHeld ⊢;refine pA 0 24 (mL 8 1) HT_ rfl rfl ?_;refine pA 1 25 (mL 8 3) HT_ rfl rfl ?_;refine pA 2 26 (mL 8 7) HT_ rfl rfl ?_;refine pA 3 27 (mL 8 15) HT_ rfl rfl ?_;refine tA 4 28 (mL 8 31) HT_ HW_ hHeld rfl rfl (by rintro w' ⟨s0,s1,s2,s3,s4,s5,s6,s7⟩;go_simp;with_reducible rfl) ?_;refine tA 5 29 (mL 8 63) HT_ HW_ hHeld rfl rfl (by rintro w' ⟨s0,s1,s2,s3,s4,s5,s6,s7⟩;go_simp;with_reducible rfl) ?_;refine one_ (i:=6) (N:=some 30) (mL 8 127) rfl rfl (aG_ HT_.out KR) (by decide) (fun K hK=>?_);refine goesF_ ?hv Tryz.func163 KR rfl #[.agg #[.string ((a_ l0 (g)).f0),.int .i64 ((a_ l0 (g)).f1),.int .i64 ((a_ l0 (g)).f2),.string ((a_ l0 (g)).f3)],.agg #[.string y,.int .i64 z,.int .i64 A,.string B]] (by rfl) rfl rfl (by(try simp only[List.map_toArray,List.map_cons,List.map_nil]);first|done|(simp only[hji6];rfl)|rfl|(simp only[List.length_drop,List.length_take];rfl)) ?_
     case hv=>rfl
     with_reducible refine(aR_.calls k1 ((a_ l0 (g)).f0) ((a_ l0 (g)).f1) ((a_ l0 (g)).f2) ((a_ l0 (g)).f3) y z A B X _ ?side1 A9.out).mono ?_
     (case side1=>exact GW HGL);rintro e az ⟨rfl,hb⟩;refine⟨_,rfl,?_⟩;replace c:=KB c hb;replace HB:=BS hb;(try clear hb);refine hK.out _ _ ⟨bc 0 c,bc 1 c,bc 2 c,bc 3 c,((HB.out.cell (World.block_lt_of_cell? w _ x)).trans x),((HB.out.cell (World.block_lt_of_cell? w _ v)).trans v),((HB.out.cell (World.block_lt_of_cell? w _ u)).trans u),((HB.out.cell (World.block_lt_of_cell? w _ t)).trans t)⟩ (fun hHeld=>?_);clear hK K;refine nA ?_;refine pA 7 31 (mL 8 255) HT_ rfl rfl ?_;refine done_ (bi_ HT_.out KR) ?_
     try go_wp2
     go_roundg k1
     case measure=>have:=HK1.out;omega
     case rel=>exact⟨(j),(g),TF,(by first|rfl|(simp;done)|(simp only[←hji6]<;>(first|rfl|simp))|(simp[*];done)),H',⟨TM⟩,KW c,⟨TB⟩⟩
   ·rw[if_neg c5] at H;have aj:=decide_eq_false c5;clear c5;by_cases ab:j<(l0.length:Int)
    ·rw[if_pos ab] at H;have ae:=decide_eq_true ab;clear ab;obtain⟨ak,H⟩:=ifn H;have ao:=decide_eq_true ak;clear ak;obtain⟨al,H⟩:=ifn H;have ap:=decide_eq_true al;clear al;obtain⟨af,aq,H⟩:=bnd H;simp only[Option.some.injEq,Prod.mk.injEq] at H;obtain⟨rfl,rfl⟩:=H
     try go_wp2
     replace c:=AM (ag_ c.out);replace HB:=AM (ao_ HB.out);have Z:0≤(j:Int):=TD;have aa:j<(l0.length:Int):=TD;obtain⟨D,ag,F,G,I,J⟩:=aK_ ac.out j Z aa;have M:=J;have O:=I;have R:=G;have U:=F;cases ag;replace F:=hBc HB F;replace G:=hBc HB G;replace I:=hBc HB I;replace J:=hBc HB J;replace Z:=eq_true Z;replace aa:=eq_true aa;refine start_ (n:=16) (S:=fun w'=>w'.cell? ⟨m,0,none⟩=some (.string y)∧w'.cell? ⟨m,1,none⟩=some (.int .i64 z)∧w'.cell? ⟨m,2,none⟩=some (.int .i64 A)∧w'.cell? ⟨m,3,none⟩=some (.string B)∧w'.cell? (D.add ((j).toNat * 4))=some (.string ((a_ l0 j).f0))∧w'.cell? ⟨(D.add ((j).toNat * 4)).block,(D.add ((j).toNat * 4)).off+1,none⟩=some (.int .i64 ((a_ l0 j).f1))∧w'.cell? ⟨(D.add ((j).toNat * 4)).block,(D.add ((j).toNat * 4)).off+2,none⟩=some (.int .i64 ((a_ l0 j).f2))∧w'.cell? ⟨(D.add ((j).toNat * 4)).block,(D.add ((j).toNat * 4)).off+3,none⟩=some (.string ((a_ l0 j).f3))) (ds:=[]) #[false,false,false,false,false,false,false,false,false,false,false,false,false,false,false,false] KR rfl rfl ⟨bc 0 c,bc 1 c,bc 2 c,bc 3 c,((HB.out.cell (World.block_lt_of_cell? w _ U)).trans U),((HB.out.cell (World.block_lt_of_cell? w _ R)).trans R),((HB.out.cell (World.block_lt_of_cell? w _ O)).trans O),((HB.out.cell (World.block_lt_of_cell? w _ M)).trans M)⟩ (fun hHeld=>?_);refine a2_ ab_.tab8 ab_.bits8 (fun HT_ HW_=>?_);generalize wr.drew=aA at c HB F G I J hHeld ⊢;refine pA 0 35 (mL 16 1) HT_ rfl rfl ?_;refine pA 1 36 (mL 16 3) HT_ rfl rfl ?_;refine pA 2 37 (mL 16 7) HT_ rfl rfl ?_;refine pA 3 38 (mL 16 15) HT_ rfl rfl ?_;refine pA 4 39 (mL 16 31) HT_ rfl rfl ?_;refine pA 5 40 (mL 16 63) HT_ rfl rfl ?_;refine pA 6 41 (mL 16 127) HT_ rfl rfl ?_;refine pA 7 42 (mL 16 255) HT_ rfl rfl ?_;refine pA 8 43 (mL 16 511) HT_ rfl rfl ?_;refine tA 9 44 (mL 16 1023) HT_ HW_ hHeld rfl rfl (by rintro w' ⟨s0,s1,s2,s3,s4,s5,s6,s7⟩;go_simp;with_reducible rfl) ?_;refine tA 10 45 (mL 16 2047) HT_ HW_ hHeld rfl rfl (by rintro w' ⟨s0,s1,s2,s3,s4,s5,s6,s7⟩;go_simp;with_reducible rfl) ?_;refine one_ (i:=11) (N:=some 46) (mL 16 4095) rfl rfl (aG_ HT_.out KR) (by decide) (fun K hK=>?_);refine goesF_ ?hv Tryz.func163 KR rfl #[.agg #[.string ((a_ l0 j).f0),.int .i64 ((a_ l0 j).f1),.int .i64 ((a_ l0 j).f2),.string ((a_ l0 j).f3)],.agg #[.string y,.int .i64 z,.int .i64 A,.string B]] (by rfl) rfl rfl TA ?_
     case hv=>rfl
     with_reducible refine(aR_.calls k1 ((a_ l0 j).f0) ((a_ l0 j).f1) ((a_ l0 j).f2) ((a_ l0 j).f3) y z A B af _ ?side1 aq.out).mono ?_
     (case side1=>exact GW HGL);rintro e aB ⟨rfl,hb⟩;refine⟨_,rfl,?_⟩;replace c:=KB c hb;replace HB:=BS hb;(try clear hb);refine hK.out _ _ ⟨bc 0 c,bc 1 c,bc 2 c,bc 3 c,((HB.out.cell (World.block_lt_of_cell? w _ U)).trans U),((HB.out.cell (World.block_lt_of_cell? w _ R)).trans R),((HB.out.cell (World.block_lt_of_cell? w _ O)).trans O),((HB.out.cell (World.block_lt_of_cell? w _ M)).trans M)⟩ (fun hHeld=>?_);clear hK K;refine nA ?_;refine pA 12 47 (mL 16 8191) HT_ rfl rfl ?_;refine pA 13 48 (mL 16 16383) HT_ rfl rfl ?_;refine pA 14 6 (mL 16 32767) HT_ rfl rfl ?_;refine pA 15 7 (mL 16 65535) HT_ rfl rfl ?_;refine done_ (bi_ HT_.out KR) ?_
     try go_wp2
     go_ret2;exact⟨TE,TB⟩
    ·rw[if_neg ab] at H;have ae:=decide_eq_false ab;clear ab;simp only[Option.some.injEq,Prod.mk.injEq] at H;obtain⟨rfl,rfl⟩:=H
     try go_wp2
     replace c:=AM (ag_ c.out);replace HB:=AM (ao_ HB.out);refine start_ (n:=16) (S:=fun w'=>True) (ds:=[]) #[false,false,false,false,false,false,false,false,false,false,false,false,false,false,false,false] KR rfl rfl trivial (fun hHeld=>?_);refine a2_ ab_.tab8 ab_.bits8 (fun HT_ HW_=>?_);generalize wr.drew=aC at c HB hHeld ⊢;refine pA 0 35 (mL 16 1) HT_ rfl rfl ?_;refine pA 1 36 (mL 16 3) HT_ rfl rfl ?_;refine pA 2 37 (mL 16 7) HT_ rfl rfl ?_;refine pA 3 38 (mL 16 15) HT_ rfl rfl ?_;refine pA 4 39 (mL 16 31) HT_ rfl rfl ?_;refine pU 5 40 (mL 16 63) HT_ rfl rfl ?_;refine pU 6 41 (mL 16 127) HT_ rfl rfl ?_;refine pU 7 42 (mL 16 255) HT_ rfl rfl ?_;refine pU 8 43 (mL 16 511) HT_ rfl rfl ?_;refine pU 9 44 (mL 16 1023) HT_ rfl rfl ?_;refine pU 10 45 (mL 16 2047) HT_ rfl rfl ?_;refine pU 11 46 (mL 16 4095) HT_ rfl rfl ?_;refine pU 12 47 (mL 16 8191) HT_ rfl rfl ?_;refine pA 13 48 (mL 16 16383) HT_ rfl rfl ?_;refine pA 14 6 (mL 16 32767) HT_ rfl rfl ?_;refine pA 15 7 (mL 16 65535) HT_ rfl rfl ?_;refine done_ (bi_ HT_.out KR) ?_
     try go_wp2
     go_ret2;exact⟨TE,TB⟩
end
section
theorem run_copy_rowK {P:Program} (w:World) (dT sT ty elem:TypeId) (k g o dLen dCap:Nat) (a:Addr) (sLen sCap:Nat) (cur:Array Value) (t:TypeId) (cs:List Value)
  (hu:P.underlying dT=some (.slice elem)) (hs:(P.info? elem).map (·.size)=some k)
  (hg:w.heap[g]? = some (.cells cur t (0,0))) (hn:cs.length=Nat.min sLen dLen * k)
  (hsrc:∀j v,cs[j]? = some v→w.cell? (a.add j)=some v) (hfit:o+cs.length≤cur.size) (h1:∀v∈cs,v.oneCell'=true) :
  (Builtin.copy_ #[dT,sT] ty #[.slice (some ⟨g,o,none⟩) dLen dCap,.slice (some a) sLen sCap]).run P w =
   .ok (goInt (Nat.min sLen dLen)) (w.setRow g (cur.toList.take o++cs++cur.toList.drop (o+cs.length)).toArray):=by
 have hl:=run_loadCells_list (P:=P) w a cs hsrc;have hst:=run_storeCells_at P g o t cs 0 cur w hg (by simpa using hfit) h1
 cases hq:P.info? elem with
 | none=>simp[hq] at hs
 | some i =>
  have hi:i.size=k:=by simpa[hq] using hs
  simp[Builtin.copy_,run_underlying hu,Builtin.lenOf,Builtin.firstCells,sizeOf,typeInfo,hq,hi,←hn,hl,hst]
def ins_T15:Bool × List (List Nat × List Nat):=(true,[([],[]),([],[]),([],[]),([1,2],[1,2]),([0,3],[0,3]),([],[]),([],[]),([5,6],[5,6]),([4,7],[4,7])])
def ins_B15:List Nat:=[0,0,0,6,15,0,0,96,255]
theorem ins_tab15:rtab .any (opsOf Tryz.f174 15)=ins_T15:=by kernel_rfl
theorem ins_bits15:waitsOk ins_T15.2 ins_B15=true:=by kernel_rfl
theorem setRow_heap' {w:World} {g:Nat} {cur cs:Array Value} {t:TypeId} (h:w.heap[g]? = some (.cells cur t (0,0))):(w.setRow g cs).heap[g]? = some (.cells cs t (0,0)):=setRow_heap w g cur cs t (0,0) h
theorem ins_list (n c i:Nat) (cur:Array Value) (xs vs:List Value) (A1 A2:Array Value) (hcur:cur.size=c * 4) (hx:cur.toList.take (n * 4)=xs) (hxl:xs.length=n * 4) (hi:i<n) (hroom:n+1≤c) (hvl:vs.length=4)
  (hA1:A1=(cur.toList.take ((i+1) * 4)++xs.drop (i * 4)++cur.toList.drop ((i+1) * 4+(xs.drop (i * 4)).length)).toArray) (hA2:A2=(A1.toList.take (i * 4)++vs++A1.toList.drop (i * 4+vs.length)).toArray) :
  A2.toList.take ((n+1) * 4)=xs.take (i * 4)++vs++xs.drop (i * 4):=by
 have hl:(cur.toList.take ((i+1) * 4)).length=(i+1) * 4:=by rw[List.length_take,Array.length_toList];omega
 have hd:(xs.drop (i * 4)).length=(n - i) * 4:=by rw[List.length_drop,hxl];omega
 have e0:A1.toList=cur.toList.take ((i+1) * 4)++(xs.drop (i * 4)++cur.toList.drop ((i+1) * 4+(xs.drop (i * 4)).length)):=by rw[hA1,List.append_assoc]
 have e1:A1.toList.take (i * 4)=xs.take (i * 4):=by
  rw[e0,List.take_append_of_le_length (by omega),List.take_take,←hx,List.take_take];congr 1;omega
 have e2:A1.toList.drop (i * 4+vs.length)=xs.drop (i * 4)++cur.toList.drop ((i+1) * 4+(xs.drop (i * 4)).length):=by
  rw[e0];exact List.drop_left' (by rw[hl,hvl];omega)
 have h3:(xs.take (i * 4)).length=i * 4:=by rw[List.length_take,hxl];omega
 rw[hA2,e1,e2];show((xs.take (i * 4)++vs)++(xs.drop (i * 4)++_)).take ((n+1) * 4)=_;rw[←List.append_assoc];exact List.take_left' (by simp only[List.length_append,h3,hvl,hd];omega)
theorem ins_shift (g n c i:Nat) (cur:Array Value) (xs vs:List Value) (w:World) (ad:Addr) (c2:Nat)
  (hg:w.heap[g]? = some (.cells cur 93 (0,0))) (hcur:cur.size=c * 4) (hx:cur.toList.take (n * 4)=xs) (hxl:xs.length=n * 4) (hi:i<n) (hroom:n+1≤c) (hc:c≤maxLen)
  (hvl:vs.length=4) (hvs:∀j v,vs[j]? = some v→w.cell? (ad.add j)=some v) (hne:ad.block≠g) (h1x:∀v∈xs,v.oneCell'=true) (h1v:∀v∈vs,v.oneCell'=true)
  (hov:∀(a':Addr) lb cb,a'.block=g→(callFunc 201 #[.slice (some ad) 1 c2,.slice (some a') lb cb]).run Tryz.prog w=.ok (.value (.bool false)) w) :
  Calls Tryz.prog 174 #[.slice (some ⟨g,0,none⟩) n c,.int .i64 i,.slice (some ad) 1 c2] w fun e w'=>e=.returned (.slice (some ⟨g,0,none⟩) (n+1) c) ∧
   ∃cur':Array Value,w'=(w.drew.setRow g cur')∧cur'.size=cur.size∧cur'.toList.take ((n+1) * 4)=xs.take (i * 4)++vs++xs.drop (i * 4):=by
 have hu27:=Tryz.underlying27
 have hz1:¬((1:Int)=0):=by omega
 have hz2:¬((i:Int)=(n:Int)):=by omega
 have hm:maxLen=9223372036854775807:=rfl
 have l:IntKind.i64.wrap ((i:Int)+(1:Int))=(i:Int)+(1:Int):=by rw[IntKind.wrap_i64];omega
 have m:IntKind.i64.wrap ((n:Int)+(1:Int))=(n:Int)+(1:Int):=by rw[IntKind.wrap_i64];omega
 have hb1:(0:Int)≤(i:Int)+(1:Int):=by omega
 have hin:i≤n:=by omega
 have hb2:¬(c=i+1):=by omega
 have hb3:(i:Int)≤(n:Int)+1:=by omega
 have hb4:¬(c=i):=by omega
 have hov':=fun o lb cb=>hov ⟨g,o,none⟩ lb cb rfl
 obtain⟨A1,hA1⟩:∃A1:Array Value,A1=(cur.toList.take ((i+1) * 4)++xs.drop (i * 4)++cur.toList.drop ((i+1) * 4+(xs.drop (i * 4)).length)).toArray:=⟨_,rfl⟩;obtain⟨A2,hA2⟩:∃A2:Array Value,A2=(A1.toList.take (i * 4)++vs++A1.toList.drop (i * 4+vs.length)).toArray:=⟨_,rfl⟩
 have hd1:(xs.drop (i * 4)).length=(n - i) * 4:=by rw[List.length_drop,hxl];omega
 have f:A1.size=cur.size:=by
  rw[hA1,List.size_toArray];simp only[List.length_append,List.length_take,List.length_drop,Array.length_toList];omega
 have hcp1:∀ty dc sc,(Builtin.copy_ #[27,27] ty #[.slice (some ⟨g,(i+1) * 4,none⟩) (n+1 - (i+1)) dc,.slice (some ⟨g,i * 4,none⟩) (n+1 - i) sc]).run Tryz.prog w.drew=.ok (goInt (Nat.min (n+1 - i) (n+1 - (i+1)))) (w.drew.setRow g A1):=fun ty dc sc=>by
  rw[hA1];refine run_copy_rowK w.drew 27 27 ty 93 4 g ((i+1) * 4) (n+1 - (i+1)) dc ⟨g,i * 4,none⟩ (n+1 - i) sc cur 93 (xs.drop (i * 4)) hu27 KR hg ?_ ?_ ?_ (fun v hv=>h1x v (List.mem_of_mem_drop hv))
  ·rw[hd1]
   have:Nat.min (n+1 - i) (n+1 - (i+1))=n - i:=by simp only[Nat.min_def];split<;>omega
   rw[this]
  ·intro j v hj
   have h2:cur[i * 4+j]? = some v:=by
    rw[List.getElem?_drop,←hx,List.getElem?_take] at hj;split at hj
    ·simpa using hj
    ·cases hj
   rw[Addr.add_lit];exact(blk_cell (w:=w) hg (i * 4+j)).trans h2
  ·rw[hd1];omega
 have hcp2:∀ty dc sc,(Builtin.copy_ #[27,27] ty #[.slice (some ⟨g,i * 4,none⟩) (n+1 - i) dc,.slice (some ad) 1 sc]).run Tryz.prog (w.drew.setRow g A1)=.ok (goInt (Nat.min 1 (n+1 - i))) ((w.drew.setRow g A1).setRow g A2):=fun ty dc sc=>by
  rw[hA2];refine run_copy_rowK (w.drew.setRow g A1) 27 27 ty 93 4 g (i * 4) (n+1 - i) dc ad 1 sc A1 93 vs hu27 KR (setRow_heap w.drew g cur A1 93 (0,0) hg) ?_ ?_ ?_ h1v
  ·have:Nat.min 1 (n+1 - i)=1:=by simp only[Nat.min_def];split<;>omega
   rw[this,hvl]
  ·intro j v hj
   have hb:(ad.add j).block≠g:=by rw[add_block];exact hne
   have h2:=hvs j v hj
   have hk:(w.drew.setRow g A1).heap[(ad.add j).block]? = w.heap[(ad.add j).block]?:=by
    simp only[World.setRow,World.drew,Array.getElem?_modify];rw[if_neg (fun h=>hb h.symm)]
   exact(World.cell?_of_block hk).trans h2
  ·rw[f];omega
 have HA1:=AM hA1;have HA2:=AM hA2;have HL1:=AM f;have HX:=AM hx;have HXL:=AM hxl;have HVL:=AM hvl;have HCUR:=AM hcur;clear hA1 hA2 f hd1 hx hxl hvl hcur;go_enter Tryz.func174,Tryz.ntmps174;go_wp2_with (simp only[hov']);refine start_ (n:=9) (S:=fun _=>True) (ds:=[]) #[false,false,false,false,false,false,false,false,false] KR rfl rfl trivial (fun hHeld=>?_);refine a2_ ins_tab15 ins_bits15 (fun HT_ HW_=>?_);refine pA 0 69 (mL 9 1) HT_ rfl rfl ?_;refine pA 1 70 (mL 9 3) HT_ rfl rfl ?_;refine pA 2 71 (mL 9 7) HT_ rfl rfl ?_;refine pA 3 72 (mL 9 15) HT_ rfl rfl ?_;refine pA 4 73 (mL 9 31) HT_ rfl rfl ?_;refine pA 5 74 (mL 9 63) HT_ rfl rfl ?_;refine pA 6 75 (mL 9 127) HT_ rfl rfl ?_;refine pA 7 76 (mL 9 255) HT_ rfl rfl ?_;refine one_ (i:=8) (N:=some 77) (mL 9 511) rfl rfl (aG_ HT_.out KR) (by decide) (fun K hK=>?_);refine step_copy_runI rfl _ _ 27 27 rfl (.slice (some ⟨g,(i+1) * 4,none⟩) (n+1 - (i+1)) (c - (i+1))) (.slice (some ⟨g,i * 4,none⟩) (n+1 - i) (c - i)) ?hd ?hx (hcp1 _ _ _) ?_
 case hd=>go_simp
 case hx=>go_simp
 refine hK.out _ _ trivial (fun hHeld=>?_);clear hK K;refine nA ?_;refine done_ (bi_ HT_.out KR) ?_;go_wp2_with (at_builtin;refine wpList_copy_runI _ rfl _ _ 27 27 rfl (.slice (some ⟨g,i * 4,none⟩) (n+1 - i) (c - i)) (.slice (some ad) 1 c2) ?hd ?hs (hcp2 _ _ _) ?_;(case hd=>go_simp);(case hs=>go_simp));go_ret;refine⟨by go_simp,A2,setRow_setRow _ _ _ _,?_,?_⟩
 ·rw[HA2.out,List.size_toArray];have:=HL1.out;simp only[List.length_append,List.length_take,List.length_drop,Array.length_toList,HVL.out];have:=HCUR.out;omega
 ·exact ins_list n c i cur xs vs A1 A2 HCUR.out HX.out HXL.out hi hroom HVL.out HA1.out HA2.out
def ins_T11:Bool × List (List Nat × List Nat):=(true,[([],[]),([],[]),([],[]),([1,2],[1,2]),([0,3],[0,3]),([],[]),([],[]),([5,6],[5,6]),([4,7],[4,7])])
theorem ins_tab11:rtab .any (opsOf Tryz.f174 11)=ins_T11:=by kernel_rfl
theorem ins_bits11:waitsOk ins_T11.2 ins_B15=true:=by kernel_rfl
theorem ins_glist (n i:Nat) (ROW:Array Value) (xs vs:List Value) (A1 A2:Array Value) (hx:ROW.toList.take (i * 4)=xs.take (i * 4)) (hR:(n+1) * 4≤ROW.size) (hxl:xs.length=n * 4) (hi:i<n) (hvl:vs.length=4)
  (hA1:A1=(ROW.toList.take (i * 4)++vs++ROW.toList.drop (i * 4+vs.length)).toArray) (hA2:A2=(A1.toList.take ((i+1) * 4)++xs.drop (i * 4)++A1.toList.drop ((i+1) * 4+(xs.drop (i * 4)).length)).toArray) :
  A2.toList.take ((n+1) * 4)=xs.take (i * 4)++vs++xs.drop (i * 4):=by
 have hd:(xs.drop (i * 4)).length=(n - i) * 4:=by rw[List.length_drop,hxl];omega
 have h3:(xs.take (i * 4)).length=i * 4:=by rw[List.length_take,hxl];omega
 have e0:A1.toList=(xs.take (i * 4)++vs)++ROW.toList.drop (i * 4+vs.length):=by rw[hA1,hx]
 have e1:A1.toList.take ((i+1) * 4)=xs.take (i * 4)++vs:=by
  rw[e0];exact List.take_left' (by simp only[List.length_append,h3,hvl];omega)
 rw[hA2,e1];exact List.take_left' (by simp only[List.length_append,h3,hvl,hd];omega)
theorem below_setRow {w W:World} {N:Nat} {cs:Array Value} (h:Below N w W):Below N w (W.setRow N cs) :=
 ⟨h.os,h.tape,h.output,by simpa[World.setRow] using h.size,fun k hk=>by
  have h0:=h.block k hk
  rw[←h0]
  simp only[World.setRow,Array.getElem?_modify]
  rw[if_neg (by omega)]⟩
theorem ins_grow (g n c i:Nat) (cur:Array Value) (xs vs:List Value) (w:World) (ad:Addr) (c2:Nat)
  (hg:w.heap[g]? = some (.cells cur 93 (0,0))) (hcur:cur.size=c * 4) (hx:cur.toList.take (n * 4)=xs) (hxl:xs.length=n * 4) (hi:i<n) (hnc:n≤c) (hroom:c<n+1) (hbig:(n+1) * 48≤140737488355328)
  (hvl:vs.length=4) (hvs:∀j v,vs[j]? = some v→w.cell? (ad.add j)=some v) (h1x:∀v∈xs,v.oneCell'=true) (h1v:∀v∈vs,v.oneCell'=true) :
  Calls Tryz.prog 174 #[.slice (some ⟨g,0,none⟩) n c,.int .i64 i,.slice (some ad) 1 c2] w fun e w'=>e=.returned (.slice (some ⟨w.heap.size,0,none⟩) (n+1) (grownCap w (n+1) c 93)) ∧
   Below w.heap.size w w'∧∃cur':Array Value,w'.heap[w.heap.size]? = some (.cells cur' 93 (0,0))∧cur'.size=grownCap w (n+1) c 93 * 4∧cur'.toList.take ((n+1) * 4)=xs.take (i * 4)++vs++xs.drop (i * 4):=by
 have hu27:=Tryz.underlying27;have hu3:=Tryz.underlying3;obtain⟨i0,m,hz0,hzs,hzb⟩:=info_parts info93
 have hz1:¬((1:Int)=0):=by omega
 have hz2:¬((i:Int)=(n:Int)):=by omega
 have hz3:(c:Int)<(n:Int)+(1:Int):=by omega
 have hm:maxLen=9223372036854775807:=rfl
 have p:IntKind.i64.wrap ((i:Int)+(1:Int))=(i:Int)+(1:Int):=by rw[IntKind.wrap_i64];omega
 have q:IntKind.i64.wrap ((n:Int)+(1:Int))=(n:Int)+(1:Int):=by rw[IntKind.wrap_i64];omega
 have s:IntKind.i64.wrap ((n:Int)+(1:Int) - (i:Int))=(n:Int)+(1:Int) - (i:Int):=by rw[IntKind.wrap_i64];omega
 have hb1:(0:Int)≤(i:Int)+(1:Int):=by omega
 have hin:i≤n:=by omega
 have hb3:(i:Int)≤(n:Int):=by omega
 have hkk:(n:Int)+1 - (i:Int)=((n+1 - i:Nat):Int):=by omega
 have hik:i+(n+1 - i)=n+1:=by omega
 have hgl:g<w.heap.size:=blk_lt hg
 have hcell:∀j v,xs[j]? = some v→w.cell? ⟨g,j,none⟩=some v:=fun j v hj=>by
  have h2:cur[j]? = some v:=by
   rw[←hx,List.getElem?_take] at hj;split at hj
   ·simpa using hj
   ·cases hj
  exact(blk_cell (w:=w) hg j).trans h2
 have hold:(Builtin.firstCells i0.size i (.slice (some ⟨g,0,none⟩) i c)).run Tryz.prog w.drew=.ok (xs.take (i * 4)).toArray w.drew:=by
  rw[hzs]
  exact run_firstCells_some w.drew 4 i ⟨g,0,none⟩ i c (xs.take (i * 4)) (by rw[List.length_take];omega) (fun j v hj=>by
   rw[Addr.add_lit,Nat.zero_add];rw[List.getElem?_take] at hj;split at hj
   ·exact hcell j v hj
   ·cases hj)
 obtain⟨G,hG⟩:∃G,G=grownCap w (n+1) c 93:=⟨_,rfl⟩;obtain⟨ROW,hROW⟩:∃ROW:Array Value,ROW=(xs.take (i * 4)).toArray++Builtin.zeroCells (Value.agg #[(.string ⟨#[]⟩),(.int .i64 0),(.int .i64 0),(.string ⟨#[]⟩)]).cells (n+1 - i)++Builtin.zeroCells (Value.agg #[(.string ⟨#[]⟩),(.int .i64 0),(.int .i64 0),(.string ⟨#[]⟩)]).cells (G - (n+1)):=⟨_,rfl⟩
 have hGn:n+1≤G:=by rw[hG];exact grownCap_ge w _ _ _
 have hG63:G≤9223372036854775807:=by
  have:=grownCap_le_maxLen w (n+1) c 93 (by unfold maxLen;omega);rw[←hG] at this;unfold maxLen at this;omega
 have hzc:(Value.agg #[(.string ⟨#[]⟩),(.int .i64 0),(.int .i64 0),(.string ⟨#[]⟩)]).cells.size=4:=rfl
 have hRl:ROW.size=G * 4:=by
  rw[hROW];simp only[Array.size_append,List.size_toArray,size_zeroCells,hzc,List.length_take];omega
 have hRt:ROW.toList.take (i * 4)=xs.take (i * 4):=by
  rw[hROW];simp only[Array.toList_append,List.append_assoc];exact List.take_left' (by rw[List.length_take];omega)
 have hrz:∀ty,(Builtin.append_ #[27,3] ty #[.slice (some ⟨g,0,none⟩) i c,.int .i64 ((n:Int)+(1:Int) - (i:Int))]).run Tryz.prog w=.ok (.slice (some ⟨w.heap.size,0,none⟩) (n+1) G) (w.drew.alloc (.cells ROW 93)):=fun ty=>by
  have h:=Go.Lib.run_append_grow_zeros w 27 3 ty 93 i0 _ .i64 .i64 hu27 hu3 m hz0 (some ⟨g,0,none⟩) i c (xs.take (i * 4)) hold (n+1 - i) (by omega) (by rw[hzs];omega) (by omega) (by omega) (by rw[hzb];omega) (by rw[hzb,hik];exact growslice_fits hroom hbig);rw[hik] at h;rw[hkk,hROW,hG];exact h
 obtain⟨N,hN⟩:∃N,N=w.heap.size:=⟨_,rfl⟩;obtain⟨W0,hW0⟩:∃W0,W0=w.drew.alloc (.cells ROW 93):=⟨_,rfl⟩;rw[←hW0,←hN] at hrz
 have hB0:Below w.heap.size w W0:=by rw[hW0];exact aZ_ (below_drew (Below.refl _ _)) _
 have hN0:W0.heap[N]? = some (.cells ROW 93 (0,0)):=by rw[hW0,hN];exact heap_alloc_new w.drew _
 obtain⟨A1,hA1⟩:∃A1:Array Value,A1=(ROW.toList.take (i * 4)++vs++ROW.toList.drop (i * 4+vs.length)).toArray:=⟨_,rfl⟩;obtain⟨A2,hA2⟩:∃A2:Array Value,A2=(A1.toList.take ((i+1) * 4)++xs.drop (i * 4)++A1.toList.drop ((i+1) * 4+(xs.drop (i * 4)).length)).toArray:=⟨_,rfl⟩
 have hd1:(xs.drop (i * 4)).length=(n - i) * 4:=by rw[List.length_drop,hxl];omega
 have f:A1.size=G * 4:=by
  rw[hA1,List.size_toArray];simp only[List.length_append,List.length_take,List.length_drop,Array.length_toList];omega
 have l:A2.size=G * 4:=by
  rw[hA2,List.size_toArray];simp only[List.length_append,List.length_take,List.length_drop,Array.length_toList];omega
 have hN1:(W0.setRow N A1).heap[N]? = some (.cells A1 93 (0,0)):=setRow_heap W0 N ROW A1 93 (0,0) hN0
 have hfar:∀(cs:Array Value) (a:Addr) (u:Value),w.cell? a=some u→(W0.setRow N cs).cell? a=some u:=fun cs a u h=>by
  have hlt:=World.block_lt_of_cell? w a h
  have hk:(W0.setRow N cs).heap[a.block]? = w.heap[a.block]?:=by
   have h0:=hB0.block a.block hlt;rw[←h0];simp only[World.setRow,Array.getElem?_modify];rw[if_neg (by omega)]
  exact(World.cell?_of_block hk).trans h
 have hfar0:∀(a:Addr) (u:Value),w.cell? a=some u→W0.cell? a=some u:=fun a u h=>(hB0.cell (World.block_lt_of_cell? w a h)).trans h
 have hcpA:∀ty dc sc,(Builtin.copy_ #[27,27] ty #[.slice (some ⟨N,i * 4,none⟩) (n+1 - i) dc,.slice (some ad) 1 sc]).run Tryz.prog W0=.ok (goInt (Nat.min 1 (n+1 - i))) (W0.setRow N A1):=fun ty dc sc=>by
  rw[hA1];refine run_copy_rowK W0 27 27 ty 93 4 N (i * 4) (n+1 - i) dc ad 1 sc ROW 93 vs hu27 KR hN0 ?_ (fun j v hj=>hfar0 _ _ (hvs j v hj)) ?_ h1v
  ·have:Nat.min 1 (n+1 - i)=1:=by simp only[Nat.min_def];split<;>omega
   rw[this,hvl]
  ·rw[hRl];omega
 have hcpB:∀ty dc sc,(Builtin.copy_ #[27,27] ty #[.slice (some ⟨N,(i+1) * 4,none⟩) (n+1 - (i+1)) dc,.slice (some ⟨g,i * 4,none⟩) (n - i) sc]).run Tryz.prog (W0.setRow N A1).drew=.ok (goInt (Nat.min (n - i) (n+1 - (i+1)))) ((W0.setRow N A1).drew.setRow N A2):=fun ty dc sc=>by
  rw[hA2];refine run_copy_rowK (W0.setRow N A1).drew 27 27 ty 93 4 N ((i+1) * 4) (n+1 - (i+1)) dc ⟨g,i * 4,none⟩ (n - i) sc A1 93 (xs.drop (i * 4)) hu27 KR hN1 ?_ ?_ ?_ (fun v hv=>h1x v (List.mem_of_mem_drop hv))
  ·rw[hd1]
   have:Nat.min (n - i) (n+1 - (i+1))=n - i:=by simp only[Nat.min_def];split<;>omega
   rw[this]
  ·intro j v hj;rw[List.getElem?_drop] at hj;rw[Addr.add_lit];exact hfar A1 ⟨g,i * 4+j,none⟩ v (hcell _ v hj)
  ·rw[hd1,f];omega
 have hGi:¬(G=i):=by omega
 have hGim:¬(G=i+1):=by omega
 have hci:¬(c=i):=by omega
 have hres:A2.toList.take ((n+1) * 4)=xs.take (i * 4)++vs++xs.drop (i * 4):=ins_glist n i ROW xs vs A1 A2 hRt (by omega) hxl hi hvl hA1 hA2;have HRES:=AM hres;have HB0:=AM hB0;have t:=AM hN0;have HN:=AM hN;have HL2:=AM l;have x:=AM hW0;have HGG:=AM hG;have o:=AM hN1;clear hres hB0 hN0 hN f l hA1 hA2 hd1 hRt hRl hzc hROW hold hfar hfar0 hW0 hG hx hxl hvl hcur hcell hgl hkk hik hN1 hbig hG63;go_enter Tryz.func174,Tryz.ntmps174
 go_wp2_with (first
  | (at_builtin;refine Go.Lib.wpList_append_run _ rfl _ _ _ _ rfl (.slice (some ⟨g,0,none⟩) i c) (.int .i64 ((n:Int)+(1:Int) - (i:Int))) ?hd ?hs _ _ (hrz _) ?_;(case hd=>go_simp);(case hs=>go_simp))
  | (at_builtin;refine wpList_copy_runI _ rfl _ _ 27 27 rfl (.slice (some ⟨N,i * 4,none⟩) (n+1 - i) (G - i)) (.slice (some ad) 1 c2) ?hd ?hs (hcpA _ _ _) ?_;(case hd=>go_simp);(case hs=>go_simp)))
 refine start_ (n:=9) (S:=fun _=>True) (ds:=[]) #[false,false,false,false,false,false,false,false,false] KR rfl rfl trivial (fun hHeld=>?_);refine a2_ ins_tab11 ins_bits11 (fun HT_ HW_=>?_);refine pA 0 46 (mL 9 1) HT_ rfl rfl ?_;refine pA 1 47 (mL 9 3) HT_ rfl rfl ?_;refine pA 2 48 (mL 9 7) HT_ rfl rfl ?_;refine pA 3 49 (mL 9 15) HT_ rfl rfl ?_;refine pA 4 50 (mL 9 31) HT_ rfl rfl ?_;refine pA 5 51 (mL 9 63) HT_ rfl rfl ?_;refine pA 6 52 (mL 9 127) HT_ rfl rfl ?_;refine pA 7 53 (mL 9 255) HT_ rfl rfl ?_;refine one_ (i:=8) (N:=some 54) (mL 9 511) rfl rfl (aG_ HT_.out KR) (by decide) (fun K hK=>?_);refine step_copy_runI rfl _ _ 27 27 rfl (.slice (some ⟨N,(i+1) * 4,none⟩) (n+1 - (i+1)) (G - (i+1))) (.slice (some ⟨g,i * 4,none⟩) (n - i) (c - i)) ?hd ?hx (hcpB _ _ _) ?_
 case hd=>go_simp
 case hx=>go_simp
 refine hK.out _ _ trivial (fun hHeld=>?_);clear hK K;refine nA ?_;refine done_ (bi_ HT_.out KR) ?_;go_wp2;go_ret;refine⟨by rw[←HGG.out,←HN.out];go_simp,?_,A2,?_,by rw[HL2.out,HGG.out],HRES.out⟩
 ·have hs:=HB0.out;rw[←HN.out] at hs ⊢;exact below_setRow (ao_ (below_setRow hs))
 ·rw[←HN.out];exact setRow_heap (W0.setRow N A1).drew N A1 A2 93 (0,0) o.out
theorem ins_hov (vb g c2:Nat) (vcur cur:Array Value) (w:World) (hv:w.heap[vb]? = some (.cells vcur 93 (0,0))) (hg:w.heap[g]? = some (.cells cur 93 (0,0))) (hcs:cur.size≠0) (hne:vb≠g) :
  ∀(a':Addr) (lb cb:Nat),a'.block=g→(callFunc 201 #[.slice (some ⟨vb,0,none⟩) 1 c2,.slice (some a') lb cb]).run Tryz.prog w=.ok (.value (.bool false)) w:=by
 intro a' lb cb ha;obtain⟨i0,c,hz0,hzs,hzb⟩:=info_parts info93
 have hz:∀w,(Go.sizeOf 93).run Tryz.prog w=.ok 4 w:=fun w=>by simp[sizeOf,typeInfo,c,hzs]
 rw[run_callFunc_extern Tryz.func201 KR KR KR (e:=Extern.SlicesOverlaps.overlaps #[27,27] #[4]) KR,
  Go.Lib.run_overlaps_apart w 27 4 93 Tryz.underlying27 4 hz ⟨vb,0,none⟩ a' 1 c2 lb cb (by rw[ha];exact hne) 93 93 vcur.size cur.size (by simp[World.shape?,hv]) (by rw[ha];simp[World.shape?,hg]) hcs (by simp[World.frozen?,hv]) (by simp[World.frozen?,hv])]
 rfl
def encRec (r:aa_):List Value:=[.string r.f0,.int .i64 r.f1,.int .i64 r.f2,.string r.f3]
theorem ins_reads (w:World) (vb:Nat) (r:aa_) (hv:w.heap[vb]? = some (.cells (encRec r).toArray 93 (0,0))):Kd.C ad_ w (some ⟨vb,0,none⟩) 1 [r]:=by
 refine⟨rfl,by omega,fun _=>⟨⟨vb,0,none⟩,rfl,fun j p hj=>⟨encRec r,rfl,?_,fun i u hu=>?_⟩⟩⟩
 ·have:p=r:=by
   cases j with
   | zero=>simpa using hj.symm
   | succ j=>simp at hj
  subst this;exact k_Record_mk w p
 ·have c:j=0:=by
   cases j with
   | zero=>rfl
   | succ j=>simp at hj
  subst c;rw[Addr.add_lit];have h2:=blk_cell (w:=w) hv (0+(0 * ad_.sz+i));rw[h2];simpa using hu
theorem ins_end (l0:List aa_) (r:aa_) (u:Value) (w:World) (base:Nat) (ok:Nat→Prop) (vb:Nat)
  (HO:ad_.R 93 w base ok u l0) (hv:w.heap[vb]? = some (.cells (encRec r).toArray 93 (0,0))) (hfresh:∀k,w.heap.size≤k→ok k) (hbase:base≤w.heap.size) (hbig:(l0.length+1) * 48≤140737488355328) :
  Calls Tryz.prog 174 #[u,.int .i64 (l0.length:Int),.slice (some ⟨vb,0,none⟩) 1 1] w fun e w'=>∃v',e=.returned v'∧ad_.R 93 w' base ok v' (l0++[r])∧w.grownBy w' u.ownBlock:=by
 have hu27:=Tryz.underlying27;have hC:=ins_reads w vb r hv
 have hz1:¬((1:Int)=0):=by omega
 have hform:(u=.slice none 0 0∧l0.length=0)∨∃g c,u=.slice (some ⟨g,0,none⟩) l0.length c∧l0.length≤c:=by
  obtain⟨_,inner,ho,_⟩:=HO
  rcases ho.2 with ⟨h1,h2⟩|⟨g,cap,cur,h1,_,_,h4,_⟩
  ·exact Or.inl ⟨h1,h2⟩
  ·exact Or.inr ⟨g,cap,h1,h4⟩
 have HO':=AM HO;have HC:=AM hC;have HF:=AM hfresh;have HBG:=AM hbig;have HBS:=AM hbase;clear HO hC hfresh hbig hbase hv
 rcases hform with ⟨rfl,h0⟩|⟨g,c,rfl,hc⟩
 ·obtain rfl:l0=[]:=List.eq_nil_of_length_eq_zero h0;clear h0;go_enter Tryz.func174,Tryz.ntmps174;go_wp2_with ((with_reducible refine bN_ (b:=.append) (xs:=#[.tmp 23,.tmp 24]) rfl ?_);at_builtin;refine Kd.R_append_rows ad_ (w0:=w) base rfl (.tmp 23) (.tmp 24) 27 93 (.agg #[(.string ⟨#[]⟩),(.int .i64 0),(.int .i64 0),(.string ⟨#[]⟩)]) 48 rfl Tryz.underlying27 info93 rfl (by decide) (by omega) (.slice none 0 0) ([]:List aa_) [r] _ _ _ ok (fun _=>False) rfl rfl HO'.out HC.out (fun x cs h=>by rw[k_Record_open h];exact bW_ _ _ _ x) (fun _ h=>h.elim) HF.out (Below.refl _ _) HBS.out HBG.out ?_;intro v1 w1 ho hb hg hat);go_ret;exact⟨_,rfl,ho,hg⟩
 ·have hN:((l0.length:Int))≤(c:Int):=by omega
  obtain⟨n,hn⟩:∃n,n=l0.length:=⟨_,rfl⟩;rw[←hn] at hc hN HO' ⊢;have HN:=AM hn;clear hn;go_enter Tryz.func174,Tryz.ntmps174;go_wp2_with ((with_reducible refine bN_ (b:=.append) (xs:=#[.tmp 23,.tmp 24]) rfl ?_);at_builtin;refine Kd.R_append_rows ad_ (w0:=w) base rfl (.tmp 23) (.tmp 24) 27 93 (.agg #[(.string ⟨#[]⟩),(.int .i64 0),(.int .i64 0),(.string ⟨#[]⟩)]) 48 rfl Tryz.underlying27 info93 rfl (by decide) (by omega) (.slice (some ⟨g,0,none⟩) n c) l0 [r] _ _ _ ok (fun _=>False) rfl rfl HO'.out HC.out (fun x cs h=>by rw[k_Record_open h];exact bW_ _ _ _ x) (fun _ h=>h.elim) HF.out (Below.refl _ _) HBS.out HBG.out ?_;intro v1 w1 ho hb hg hat)
  all_goals (go_ret;exact⟨_,rfl,ho,hg⟩)
theorem rec_one (r:aa_):∀v∈encRec r,v.oneCell'=true:=by
 intro v hv;simp only[encRec,List.mem_cons,List.not_mem_nil,or_false] at hv
 rcases hv with rfl|rfl|rfl|rfl<;>rfl
theorem reps_one {w:World} {base:Nat} {ok:Nat→Prop}:∀{xs:List aa_} {cs:List Value},Reps (ad_.M w base ok) 4 xs cs→cs=xs.flatMap encRec
 | [],cs,h=>List.eq_nil_of_length_eq_zero (by rw[h.1];rfl)
 | x::t,cs,h=>by
  have h1:=bX_ (h.2 0 x rfl)
  have h2:=reps_one (Kd.reps_drop (m:=1) h)
  rw[Nat.zero_mul,List.drop_zero] at h1
  have h3:cs=cs.take 4++cs.drop 4:=(List.take_append_drop 4 cs).symm
  rw[h3,h1]
  have h4:cs.drop (1 * 4)=cs.drop 4:=rfl
  rw[h4] at h2
  rw[h2]
  rfl
theorem one_reps (w:World) (base:Nat) (ok:Nat→Prop) (xs:List aa_):Reps (ad_.M w base ok) 4 xs (xs.flatMap encRec):=by
 induction xs with
 | nil=>exact Reps.none _ _
 | cons x t ih =>
  have h1:Reps (ad_.M w base ok) 4 [x] (encRec x):=Reps.snoc (Reps.none _ _) (bW_ w base ok x) rfl;exact Kd.reps_append h1 ih
theorem flat_one (xs:List aa_):∀v∈xs.flatMap encRec,v.oneCell'=true:=by
 intro v hv;obtain⟨x,_,hx⟩:=List.mem_flatMap.mp hv;exact rec_one x v hx
theorem flat_len (xs:List aa_):(xs.flatMap encRec).length=xs.length * 4:=by
 induction xs with
 | nil=>rfl
 | cons x t ih =>
  rw[List.flatMap_cons,List.length_append,ih,List.length_cons];have:(encRec x).length=4:=rfl;omega
theorem flat_take (xs:List aa_):∀i:Nat,(xs.flatMap encRec).take (i * 4)=(xs.take i).flatMap encRec:=by
 induction xs with
 | nil=>intro i;simp
 | cons x t ih =>
  intro i
  cases i with
  | zero=>simp
  | succ i =>
   have e:(i+1) * 4=(encRec x).length+i * 4:=by
    have:(encRec x).length=4:=rfl;omega
   rw[List.flatMap_cons,List.take_succ_cons,List.flatMap_cons,e,List.take_append,Nat.add_sub_cancel_left,ih,List.take_of_length_le (by omega)]
theorem flat_drop (xs:List aa_):∀i:Nat,(xs.flatMap encRec).drop (i * 4)=(xs.drop i).flatMap encRec:=by
 induction xs with
 | nil=>intro i;simp
 | cons x t ih =>
  intro i
  cases i with
  | zero=>simp
  | succ i =>
   have e:(i+1) * 4=(encRec x).length+i * 4:=by
    have:(encRec x).length=4:=rfl;omega
   rw[List.flatMap_cons,List.drop_succ_cons,e,List.drop_append,Nat.add_sub_cancel_left,ih,List.drop_eq_nil_of_le (by omega),List.nil_append]
theorem ins_R (l0:List aa_) (r:aa_) (u:Value) (i:Nat) (w:World) (base:Nat) (ok:Nat→Prop) (vb:Nat)
  (HO:ad_.R 93 w base ok u l0) (hv:w.heap[vb]? = some (.cells (encRec r).toArray 93 (0,0))) (hne:some vb≠u.ownBlock) (hfresh:∀k,w.heap.size≤k→ok k) (hbase:base≤w.heap.size) (hbig:(l0.length+1) * 48≤140737488355328) (hi:i≤l0.length) :
  Calls Tryz.prog 174 #[u,.int .i64 (i:Int),.slice (some ⟨vb,0,none⟩) 1 1] w fun e w'=>∃v',e=.returned v'∧ad_.R 93 w' base ok v' (l0.take i++r::l0.drop i)∧w.grownBy w' u.ownBlock:=by
 by_cases he:i=l0.length
 ·subst he;rw[List.take_length,List.drop_length];exact ins_end l0 r u w base ok vb HO hv hfresh hbase hbig
 ·have hlt:i<l0.length:=by omega
  obtain⟨hok,inner,ho,hr⟩:=HO;have hin:=reps_one hr
  rcases ho.2 with ⟨rfl,h0⟩|⟨g,c,cur,rfl,hb,hg,hnc,hcm,hcs,htk⟩
  ·omega
  ·have hgv:vb≠g:=fun e=>hne (by rw[e];rfl)
   have hcs':cur.size=c * 4:=hcs
   have htk':cur.toList.take (l0.length * 4)=l0.flatMap encRec:=by rw[←hin];exact htk
   have hvs:∀j v,(encRec r)[j]? = some v→w.cell? ((⟨vb,0,none⟩:Addr).add j)=some v:=fun j v hj=>by
    rw[Addr.add_lit,Nat.zero_add];exact(blk_cell (w:=w) hv j).trans (by simpa using hj)
   have hlist:(l0.flatMap encRec).take (i * 4)++encRec r++(l0.flatMap encRec).drop (i * 4)=(l0.take i++r::l0.drop i).flatMap encRec:=by
    rw[flat_take,flat_drop,List.flatMap_append,List.flatMap_cons,List.append_assoc]
   have hlen:(l0.take i++r::l0.drop i).length=l0.length+1:=by
    simp only[List.length_append,List.length_cons,List.length_take,List.length_drop];omega
   by_cases hroom:l0.length+1≤c
   ·refine(ins_shift g l0.length c i cur (l0.flatMap encRec) (encRec r) w ⟨vb,0,none⟩ 1 hg hcs' htk' (flat_len l0) hlt hroom hcm rfl hvs hgv (flat_one l0) (rec_one r) (ins_hov vb g 1 _ cur w hv hg (by omega) hgv)).mono ?_;rintro e w' ⟨rfl,cur',rfl,hs,ht⟩
    have hgrow:w.grownBy (w.drew.setRow g cur') (some g):=⟨rfl,rfl,rfl,by simp[World.setRow],fun k hk hkne=>by
     simp only[World.setRow,Array.getElem?_modify];rw[if_neg (fun h=>hkne (by rw[h]))]
     rfl⟩
    refine⟨_,rfl,⟨hok,(l0.take i++r::l0.drop i).flatMap encRec,⟨(flat_len _),Or.inr ⟨g,c,cur',by rw[hlen],hb,setRow_heap w.drew g cur cur' 93 (0,0) hg,by omega,hcm,by rw[hs];exact hcs,?_⟩⟩,one_reps _ _ _ _⟩,hgrow⟩;rw[hlen,←hlist,←ht];rfl
   ·refine(ins_grow g l0.length c i cur (l0.flatMap encRec) (encRec r) w ⟨vb,0,none⟩ 1 hg hcs' htk' (flat_len l0) hlt hnc (by omega) hbig rfl hvs (flat_one l0) (rec_one r)).mono ?_;rintro e w' ⟨rfl,hbel,cur',hg',hs,ht⟩;refine⟨_,rfl,⟨fun k hk=>hfresh k (by simp only[Value.ownBlock,Option.some.injEq] at hk;omega),(l0.take i++r::l0.drop i).flatMap encRec,⟨(flat_len _),Or.inr ⟨w.heap.size,grownCap w (l0.length+1) c 93,cur',by rw[hlen],hbase,hg',by rw[hlen];exact grownCap_ge w _ _ _,grownCap_le_maxLen w _ _ _ (by unfold maxLen;omega),hs,?_⟩⟩,one_reps _ _ _ _⟩,grown_of_below hbel _⟩;rw[hlen,←hlist,←ht];rfl
theorem sE {P:Program} {ops:Array Oper} {rest:List Oper} {o:Oper} {a:Act} {Q:Exit→Act→World→Prop} {W:World} (N:Tmp) (cs:Array Value) (t:TypeId) (n:Nat) (h:∀g,g=W.heap.size→∀w1,w1.heap[g]? = some (.cells cs t (0,0))→Below W.heap.size W w1→wpList P ops Q rest (a.put o.dst (.slice (some ⟨g,0,none⟩) n n)) w1) (hd:o.dst=some N:=by rfl) (hg:o.guard=none:=by rfl)
  (hr:(execOp a.eval o).run P W=.ok (.value (.slice (some ⟨W.heap.size,0,none⟩) n n)) (W.alloc (.cells cs t (0,0))):=by first|(go_simp;done)|(go_simp;rfl)):wpList P ops Q (o::rest) a W :=
 Kd.event_run hg hr (h _ rfl _ (heap_alloc_new W _) (aZ_ (Below.refl _ _) _))
def impl_put.f (k:Nat) (l0:List (aa_)) (c:ByteArray) (g:Int) (h:Int) (i:ByteArray):Option (List (aa_)):=(ab_.f k l0 c g h i).bind fun t=>if t.2=true then some l0 else if 0≤t.1∧t.1≤(l0.length:Int)∧(l0.length+1) * 48≤140737488355328 then some (l0.take t.1.toNat++(⟨c,g,h,i⟩:aa_)::l0.drop t.1.toNat) else none
theorem impl_put.calls (k:Nat) (P0_:Nat→Prop) (u9000_:Value) (l0:List (aa_)) (g:ByteArray) (j:Int) (l:Int) (m:ByteArray) (r:List (aa_)) (w0 w:World) (hB:Below w0.heap.size w0 w) (o:Kd.R ad_ 93 w w0.heap.size P0_ u9000_ l0) (hG_:Glob w) (h:impl_put.f k l0 g j l m=some r) :
 Calls Tryz.prog 146 #[u9000_,.agg #[.string g,.int .i64 j,.int .i64 l,.string m]] w fun e w'=>∃v0_:Value,e=.returned (v0_)∧Kd.R ad_ 93 w' w0.heap.size (fun k_=>(P0_ k_∨w.heap.size≤k_)) v0_ r∧Below w0.heap.size w0 w'∧Kept w w' (fun k_=>P0_ k_):=by
 have hu93:=Tryz.underlying93;have hu27:=Tryz.underlying27;obtain⟨A,c,eo⟩:=Kd.an_ o;subst eo;have hC:=Kd.ae_ o;have HC:=AM hC.2.2;have HL:=AM hC.2.1;have HO:=AM o;have HGL:=AM hG_;have HB0:=AM hB;have HB:=AM (Below.refl w.heap.size w);clear hC o hB hG_;unfold impl_put.f at h;obtain⟨⟨t1,t2⟩,A1,H⟩:=bnd h;clear h;simp only at H
 cases t2 with
 | true =>
  replace H:=ift H;obtain rfl:=Option.some.inj H;go_enter Tryz.func146,Tryz.ntmps146;go_wp2_with (first|((with_reducible refine aj_ (N:=3) rfl ?_);refine bE 3 #[.string g,.int .i64 j,.int .i64 l,.string m] 93 ?_;intro s hg w3 hbox hb;have n:=AM (hbox);have t:=bG hg;replace HB:=BS hb;clear hb hbox hg;have p:=cz4 n)|((with_reducible refine ac_ (f:=173) rfl ?_);refine goesL_ (some 10) rfl rfl Tryz.func173 KR rfl #[.slice A l0.length c,.agg #[.string g,.int .i64 j,.int .i64 l,.string m],.func (.func 163) #[] #[]] rfl TA ?_;(refine(ab_.calls k _ _ l0 g j l m t1 true _ ?side1 ?side2 ?side3 A1.out).mono ?_);(case side1=>exact CW (Kd.af_ HC.out HB.out));(case side2=>exact HL.out);(case side3=>exact GW HGL);rintro e w4 ⟨rfl,hb⟩;refine⟨_,rfl,?_⟩;replace n:=KB n hb;replace HB:=BS hb;clear hb));go_ret;exact⟨_,rfl,Kd.ay_ (Kd.bR_ HO.out HB.out) (fun k h=>Or.inl h),below_then HB0.out HB0.out.size HB.out,Kept.of_below HB.out _⟩
 | false =>
  replace H:=iff' H;obtain⟨⟨h1,h2,h3⟩,H⟩:=ifn H;obtain rfl:=Option.some.inj H;obtain⟨i,rfl⟩:∃i:Nat,t1=(i:Int):=⟨t1.toNat,by omega⟩;have HI:=AM (show i≤l0.length by omega);have HBG:=AM h3
  have hne_:∀{W:World} {gb:Nat},gb=W.heap.size→Below w.heap.size w W→some gb≠(.slice A l0.length c:Value).ownBlock:=fun hg hb he=>by
   have h5:=Kd.R_lt HO.out _ he.symm;have h6:=hb.size;omega
  rw[Int.toNat_natCast];clear h1 h2 h3;go_enter Tryz.func146,Tryz.ntmps146;go_wp2_with (first|((with_reducible refine aj_ (N:=3) rfl ?_);refine bE 3 #[.string g,.int .i64 j,.int .i64 l,.string m] 93 ?_;intro s hg w3 hbox hb;have n:=AM (hbox);have t:=bG hg;replace HB:=BS hb;clear hb hbox hg;have p:=cz4 n)|((with_reducible refine ac_ (f:=173) rfl ?_);refine goesL_ (some 10) rfl rfl Tryz.func173 KR rfl #[.slice A l0.length c,.agg #[.string g,.int .i64 j,.int .i64 l,.string m],.func (.func 163) #[] #[]] rfl TA ?_;(refine(ab_.calls k _ _ l0 g j l m (i:Int) false _ ?side1 ?side2 ?side3 A1.out).mono ?_);(case side1=>exact CW (Kd.af_ HC.out HB.out));(case side2=>exact HL.out);(case side3=>exact GW HGL);rintro e w4 ⟨rfl,hb⟩;refine⟨_,rfl,?_⟩;replace n:=KB n hb;replace HB:=BS hb;clear hb;have y:=cz4 n)|((with_reducible refine aj_ (N:=18) rfl ?_);refine sE 18 (encRec ⟨g,j,l,m⟩).toArray 93 1 ?_;intro q hg w5 hbox hb;have u:=AM (hbox);have v:=AM hg;have HBp:=AM HB.out;replace HB:=BS hb;have HBS:=AM hb;clear hb hbox hg)|((with_reducible refine ac_ (f:=174) rfl ?_);refine goesL_ (some 19) rfl rfl Tryz.func174 KR rfl #[.slice A l0.length c,.int .i64 (i:Int),.slice (some ⟨q,0,none⟩) 1 1] rfl TA ?_;(refine(ins_R l0 ⟨g,j,l,m⟩ (.slice A l0.length c) i _ w0.heap.size (fun k_=>(P0_ k_∨w.heap.size≤k_)) q ?side1 ?side2 ?side3 ?side4 ?side5 ?side6 ?side7).mono ?_);(case side1=>exact Kd.ay_ (Kd.bR_ HO.out HB.out) (fun k h=>Or.inl h));(case side2=>exact u.out);(case side3=>exact hne_ v.out HBp.out);(case side4=>exact fun k hk=>Or.inr (Nat.le_trans HB.out.size hk));(case side5=>exact Nat.le_trans HB0.out.size HB.out.size);(case side6=>exact HBG.out);(case side7=>exact HI.out);rintro e w6 ⟨v6,rfl,x,hg6⟩;refine⟨_,rfl,?_⟩));go_ret;exact⟨_,rfl,x,pw_below_grown (below_then HB0.out HB0.out.size HB.out) _ (Nat.le_trans HB0.out.size HB.out.size) hg6 (Kd.be_ HO.out),Kept.of_grown hg6 (Kept.of_below HB.out _) (fun k hk=>Or.inl (HO.out.1 k hk))⟩
end
end Go.Proofs.YthohohfmdieohaaGreatDoor.Pp
